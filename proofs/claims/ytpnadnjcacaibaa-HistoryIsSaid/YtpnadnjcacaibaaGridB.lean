/- Rows of the call's own that are stored into; grid.rows, usable, moves, lay. -/
import Derived.Test.YtpnadnjcacaibaaGridA
namespace Go.Proofs.Ytpnadnjcacaibaa.Row
open Go.RowKit
def Rw.val (r : Rw) : Nat → Value
  | 0 => .slice r.A r.n r.cap
  | 1 => .bool r.wb
  | 2 => .int .i64 r.dir
  | _ => .bool r.ex
def rwF (F : Nat → Rw) (j : Nat) : Value := (F (j / 4)).val (j % 4)
/-- n rows by a function, as a list -/
def listG (n : Nat) (F : Nat → Rw) : List Rw := (List.range n).map F
theorem listG_len (n : Nat) (F : Nat → Rw) : (listG n F).length = n := by simp [listG]
theorem listG_get {n : Nat} {F : Nat → Rw} {i : Nat} (hi : i < n) : (listG n F)[i]? = some (F i) := by simp [listG, List.getElem?_range hi]
theorem listG_at {n : Nat} {F : Nat → Rw} {i : Nat} (hi : i < (listG n F).length) : (listG n F)[i] = F i := by
  have h := List.getElem?_eq_getElem hi
  rw [listG_get (by rwa [listG_len] at hi)] at h
  exact (Option.some.inj h).symm
theorem listG_mem {n : Nat} {F : Nat → Rw} {r : Rw} : r ∈ listG n F ↔ ∃ i, i < n ∧ F i = r := by simp [listG]
theorem listG_congr {n : Nat} {F G : Nat → Rw} (h : ∀ i, i < n → F i = G i) : listG n F = listG n G := by
  unfold listG
  exact List.map_congr_left fun i hi => h i (List.mem_range.1 hi)
theorem listG_of (L : List Rw) (d : Rw) : L = listG L.length (fun i => L.getD i d) := by
  apply List.ext_getElem?
  intro i
  by_cases h : i < L.length
  · rw [listG_get h, List.getElem?_eq_getElem h]
    simp [List.getD, h]
  · rw [List.getElem?_eq_none (by omega), List.getElem?_eq_none (by rw [listG_len]; omega)]
/-- block b begins with n rows that read as F, and all of it is known -/
def OwnG (w : World) (b n : Nat) (F : Nat → Rw) : Prop := ∃ (N : Nat) (tail : Nat → Value), n * 4 ≤ N ∧ w.rowIs b 24 N (fun j => if j < n * 4 then rwF F j else tail j)
section
variable {w w' : World} {b n : Nat} {F G : Nat → Rw}
theorem OwnG.lt (h : OwnG w b n F) : b < w.heap.size := by
  obtain ⟨N, tail, _, h⟩ := h
  exact World.rowIs.lt h
theorem rwF_at (F : Nat → Rw) (i j : Nat) (hj : j < 4) : rwF F (i * 4 + j) = (F i).val j := by
  unfold rwF
  have e1 : (i * 4 + j) / 4 = i := by omega
  have e2 : (i * 4 + j) % 4 = j := by omega
  rw [e1, e2]
theorem OwnG.at_ (h : OwnG w b n F) {i : Nat} (hi : i < n) : RowAt w b (i * 4) (F i) := by
  obtain ⟨N, tail, hN, h⟩ := h
  have hc : ∀ j, j < 4 → w.cell? ⟨b, i * 4 + j, none⟩ = some ((F i).val j) := fun j hj => (World.rowIs.cell h (by omega)).trans (by rw [if_pos (by omega), rwF_at F i j hj])
  exact ⟨hc 0 (by omega), hc 1 (by omega), hc 2 (by omega), hc 3 (by omega)⟩
theorem OwnG.frozen (h : OwnG w b n F) (i : Nat) : w.frozen? ⟨b, i, none⟩ = false := by
  obtain ⟨N, tail, _, h⟩ := h
  exact World.rowIs.frozen h i
theorem OwnG.congr (h : OwnG w b n F) (e : ∀ i, i < n → F i = G i) : OwnG w b n G := by
  obtain ⟨N, tail, hN, h⟩ := h
  refine ⟨N, tail, hN, World.rowIs.congr h fun i hi => ?_⟩
  by_cases hi' : i < n * 4
  · rw [if_pos hi', if_pos hi']
    unfold rwF
    rw [e (i / 4) (by omega)]
  · rw [if_neg hi', if_neg hi']
theorem OwnG.gb {row : Option Nat} (h : OwnG w b n F) (hg : w.grownBy w' row) (hne : some b ≠ row) : OwnG w' b n F := by
  obtain ⟨N, tail, hN, h⟩ := h
  exact ⟨N, tail, hN, rowIs_gb h hg hne⟩
theorem OwnG.below {B : Nat} (h : OwnG w b n F) (hg : Below B w w') (hb : b < B) : OwnG w' b n F := by
  obtain ⟨N, tail, hN, h⟩ := h
  exact ⟨N, tail, hN, rowIs_below h hg hb⟩
theorem OwnG.grow (h : OwnG w b n F) (X : Array Obj) (d : Nat) : OwnG (w.grow X d) b n F := by
  obtain ⟨N, tail, hN, h⟩ := h
  exact ⟨N, tail, hN, rowIs_grow h X d⟩
def updG (F : Nat → Rw) (k : Nat) (r : Rw) (i : Nat) : Rw := if i = k then r else F i
theorem OwnG.store (h : OwnG w b n F) (k : Nat) (hk : k < n) (r : Rw) {p : Nat} (hp : p = k * 4) :
    OwnG ((((w.setCell ⟨b, p, none⟩ (.slice r.A r.n r.cap)).setCell ⟨b, p + 1, none⟩ (.bool r.wb)).setCell ⟨b, p + 2, none⟩ (.int .i64 r.dir)).setCell ⟨b, p + 3, none⟩ (.bool r.ex)) b n (updG F k r) := by
  subst hp
  obtain ⟨N, tail, hN, h⟩ := h
  refine ⟨N, tail, hN, World.rowIs.congr ((((World.rowIs.set h _ _).set _ _).set _ _).set _ _) fun i _ => ?_⟩
  by_cases hi : i < n * 4
  · rw [if_pos hi, if_pos hi]
    unfold rwF updG
    by_cases hk : i / 4 = k
    · subst hk
      rw [if_pos rfl]
      have hj : i % 4 < 4 := Nat.mod_lt _ (by omega)
      generalize hm : i % 4 = j at hj
      have hi : i = i / 4 * 4 + j := by omega
      match j, hj with
      | 0, _ => rw [if_neg (by omega), if_neg (by omega), if_neg (by omega), if_pos (by omega)]; rfl
      | 1, _ => rw [if_neg (by omega), if_neg (by omega), if_pos (by omega)]; rfl
      | 2, _ => rw [if_neg (by omega), if_pos (by omega)]; rfl
      | 3, _ => rw [if_pos (by omega)]; rfl
    · rw [if_neg hk, if_neg (by omega), if_neg (by omega), if_neg (by omega), if_neg (by omega)]
  · rw [if_neg hi, if_neg hi, if_neg (by omega), if_neg (by omega), if_neg (by omega), if_neg (by omega)]
theorem OwnG.rdX (h : OwnG w b n F) {c : Nat} (hc : n ≤ c) : RdX encR w (.slice (some ⟨b, 0, none⟩) n c) (listG n F) := by
  refine ⟨_, c, by rw [listG_len], by rw [listG_len]; exact hc, fun _ => ⟨b, 0, rfl, h.lt, fun j a ha => ?_⟩⟩
  have hj : j < n := by have := (List.getElem?_eq_some_iff.1 ha).1; rwa [listG_len] at this
  rw [listG_get hj] at ha
  obtain rfl := Option.some.inj ha
  rw [Nat.zero_add]
  exact rowAt_to (h.at_ hj)
end
theorem ownG_of {w : World} {base g n c : Nat} {F : Nat → Rw} (h : OwnX encR w base 24 (.slice (some ⟨g, 0, none⟩) n c) (listG n F)) : OwnG w g n F := by
  have h' := h
  unfold OwnX World.ownsRow at h'
  obtain ⟨_, ⟨e, _⟩ | ⟨g', cap, cur, e, _, hg, r1, _, r3, _⟩⟩ := h'
  · cases e
  · injection e with e1 _ e3
    injection e1 with e1
    injection e1 with e1
    subst e1
    rw [listG_len] at r1
    have hcs : cur.size = cap * 4 := r3
    refine ⟨cap * 4, fun j => cur.getD j undef, by omega, cur, hg, hcs, fun i hi => ?_⟩
    dsimp only
    by_cases hi' : i < n * 4
    · rw [if_pos hi']
      have hat := rowAt_of (h.rd.at' (listG_get (n := n) (F := F) (i := i / 4) (by omega)))
      have h1 : w.cell? ⟨g, 0 + i / 4 * encR.size + i % 4, none⟩ = some ((F (i / 4)).val (i % 4)) := by
        obtain ⟨h0, h1, h2, h3⟩ := hat
        have hj : i % 4 < 4 := Nat.mod_lt _ (by omega)
        generalize i % 4 = j at hj
        match j, hj with
        | 0, _ => exact h0
        | 1, _ => exact h1
        | 2, _ => exact h2
        | 3, _ => exact h3
      have e : 0 + i / 4 * encR.size + i % 4 = i := by show 0 + i / 4 * 4 + i % 4 = i; omega
      rw [e] at h1
      unfold World.cell? at h1
      rw [hg] at h1
      exact h1
    · rw [if_neg hi']
      simp [Array.getD, show i < cur.size by omega]

set_option maxRecDepth 100000 in
set_option maxHeartbeats 2000000 in
theorem rows_c (x : Value) (n : Nat) (F : Nat → Rw) (w : World) (hx : RdR w x (listG n F)) (h1 : 1 ≤ n) (hn : n ≤ 5000) :
    Calls Try.prog 71 #[.agg #[x]] w fun e w' => ∃ g c, e = .returned (.slice (some ⟨g, 0, none⟩) n c) ∧ n ≤ c ∧ w.heap.size ≤ g ∧ Below w.heap.size w w' ∧ OwnG w' g n F := by
  obtain ⟨A, cap, rfl, hc⟩ := hx.1.len
  rw [listG_len] at hc hx ⊢
  obtain ⟨i3, hi3, hz3, hs3, hb3⟩ := row_parts
  have HI3 := Lib.hid hi3
  have HZ3 := Lib.hid hz3
  have HS3 := Lib.hid hs3
  have HB3 := Lib.hid hb3
  have HX := Lib.hid (hx.1.below ((Below.refl w.heap.size w).alloc (Nat.le_refl _) (.cells #[.slice A n cap] 60)))
  clear hi3 hz3 hs3 hb3 hx
  go_enter Try.func71, Try.ntmps71
  go_wp2_with (at_builtin; refine wpList_append_X encR rfl _ _ _ rfl (w.heap.size + 1) 24 48 i3 _ rfl HI3.out HZ3.out HS3.out HB3.out rfl _ _ [] (listG n F) rfl rfl (OwnX.nil _ _ _) HX.out (by unfold maxLen; rw [listG_len, List.length_nil]; omega) (by rw [listG_len, List.length_nil]; omega) (by simp) ?_; intro v1 w2 hv hgb hor)
  rw [List.nil_append] at hv
  go_ret
  obtain ⟨g, c5, rfl, hc5⟩ : ∃ g c5, v1 = .slice (some ⟨g, 0, none⟩) n c5 ∧ n ≤ c5 := by
    have hv' := hv
    unfold OwnX World.ownsRow at hv'
    obtain ⟨_, ⟨e, h0⟩ | ⟨g', cap', cur, e, _, _, hh, _⟩⟩ := hv'
    · rw [listG_len] at h0
      omega
    · rw [listG_len] at e hh
      exact ⟨g', cap', e, hh⟩
  have hgl := (hv.lt (g := g) rfl).1
  exact ⟨g, c5, rfl, hc5, by omega, below_ownx ((Below.refl _ _).alloc (Nat.le_refl _) _) hgb (fun g hg => by cases hg) (by simp), ownG_of hv⟩
end Go.Proofs.Ytpnadnjcacaibaa.Row
