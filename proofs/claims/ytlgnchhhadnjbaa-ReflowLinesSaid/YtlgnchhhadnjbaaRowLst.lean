/- Rows as elements of lists: what they hold, which are the same, how they lie in memory. -/
import Derived.Test.YtlgnchhhadnjbaaLists
import Derived.Test.YtlgnchhhadnjbaaRowE
import Derived.Test.YtlgnchhhadnjbaaRowL1
namespace Go.Proofs.Ytlgnchhhadnjbaa.Row
open Go.RowKit
/-- a row: where its cells lie, and what they are -/
structure Rw where
  A : Option Addr
  n : Nat
  cap : Nat
  f : Nat → Cl
  wb : Bool
  dir : Int
  ex : Bool
def Rw.cells (r : Rw) : List Value := [.slice r.A r.n r.cap, .bool r.wb, .int .i64 r.dir, .bool r.ex]
def encR : Enc Rw := ⟨4, Rw.cells, fun _ => rfl, by decide, fun a u hu => by
  simp [Rw.cells] at hu
  rcases hu with rfl | rfl | rfl | rfl <;> rfl⟩
def Rw.ok0 (w : World) (r : Rw) : Prop := Rd w r.A r.n r.f ∧ r.n ≤ r.cap ∧ r.cap ≤ maxLen
/-- .. of no more than 5000 cells -/
def Rw.ok (w : World) (r : Rw) : Prop := Rd w r.A r.n r.f ∧ r.n ≤ r.cap ∧ r.n ≤ 5000
def saneRw (r : Rw) : Bool := saneB r.n r.f r.dir
def sameRw (r s : Rw) : Bool := sameRowB r.n r.f r.wb r.dir r.ex s.n s.f s.wb s.dir s.ex
theorem Rw.ok.below {w w' : World} {r : Rw} (h : r.ok w) (hb : Below w.heap.size w w') : r.ok w' := ⟨h.1.below hb, h.2⟩
/-- x reads as rows -/
def RdR (w : World) (x : Value) (L : List Rw) : Prop := RdX encR w x L ∧ ∀ r ∈ L, r.ok w
/-- .. whose number of cells is not looked at yet -/
def RdR0 (w : World) (x : Value) (L : List Rw) : Prop := RdX encR w x L ∧ ∀ r ∈ L, r.ok0 w
theorem RdR0.below {w w' : World} {x : Value} {L : List Rw} (h : RdR0 w x L) (hb : Below w.heap.size w w') : RdR0 w' x L := ⟨h.1.below hb, fun r hr => ⟨(h.2 r hr).1.below hb, (h.2 r hr).2⟩⟩
theorem RdR.below {w w' : World} {x : Value} {L : List Rw} (h : RdR w x L) (hb : Below w.heap.size w w') : RdR w' x L := ⟨h.1.below hb, fun r hr => (h.2 r hr).below hb⟩
theorem RdR.nil (w : World) (A : Option Addr) (c : Nat) : RdR w (.slice A 0 c) [] := ⟨RdX.nil w A c, fun r hr => by cases hr⟩
/-- the four cells of a row -/
def RowAt (w : World) (b o : Nat) (r : Rw) : Prop :=
  w.cell? ⟨b, o, none⟩ = some (.slice r.A r.n r.cap) ∧ w.cell? ⟨b, o + 1, none⟩ = some (.bool r.wb) ∧ w.cell? ⟨b, o + 2, none⟩ = some (.int .i64 r.dir) ∧ w.cell? ⟨b, o + 3, none⟩ = some (.bool r.ex)
theorem rowAt_of {w : World} {b o : Nat} {r : Rw} (h : AtX encR w b o r) : RowAt w b o r := ⟨h 0 _ rfl, h 1 _ rfl, h 2 _ rfl, h 3 _ rfl⟩
theorem rowAt_to {w : World} {b o : Nat} {r : Rw} (h : RowAt w b o r) : AtX encR w b o r := by
  obtain ⟨h0, h1, h2, h3⟩ := h
  intro i u hi
  match i, hi with
  | 0, hi => obtain rfl := Option.some.inj hi; exact h0
  | 1, hi => obtain rfl := Option.some.inj hi; exact h1
  | 2, hi => obtain rfl := Option.some.inj hi; exact h2
  | 3, hi => obtain rfl := Option.some.inj hi; exact h3
theorem RdR.at_ {w : World} {A : Option Addr} {n c : Nat} {L : List Rw} (h : RdR w (.slice A n c) L) {k : Nat} (hk : k < L.length) : ∃ b o, A = some ⟨b, o, none⟩ ∧ b < w.heap.size ∧ RowAt w b (o + k * 4) L[k] ∧ L[k].ok w := by
  obtain ⟨b, o, e, hb, hc⟩ := h.1.at_ (List.getElem?_eq_getElem hk)
  exact ⟨b, o, e, hb, rowAt_of hc, h.2 _ (List.getElem_mem hk)⟩
theorem RdR0.at_ {w : World} {A : Option Addr} {n c : Nat} {L : List Rw} (h : RdR0 w (.slice A n c) L) {k : Nat} (hk : k < L.length) : ∃ b o, A = some ⟨b, o, none⟩ ∧ b < w.heap.size ∧ RowAt w b (o + k * 4) L[k] ∧ L[k].ok0 w := by
  obtain ⟨b, o, e, hb, hc⟩ := h.1.at_ (List.getElem?_eq_getElem hk)
  exact ⟨b, o, e, hb, rowAt_of hc, h.2 _ (List.getElem_mem hk)⟩
theorem RdR.part {w : World} {b o c n : Nat} {L : List Rw} (h : RdR w (.slice (some ⟨b, o, none⟩) n c) L) (hn : n = L.length) {k m : Nat} (hkm : k + m ≤ L.length) {o' c' : Nat} (ho : o' = o + k * 4) (hc : m ≤ c') : RdR w (.slice (some ⟨b, o', none⟩) m c') ((L.drop k).take m) := by
  subst hn
  exact ⟨h.1.part hkm ho hc, fun r hr => h.2 r (List.mem_of_mem_drop (List.mem_of_mem_take hr))⟩
/-- in which blocks rows lie: the list's own, and their cells' -/
def Ft (F : Nat → Prop) (x : Value) (L : List Rw) : Prop :=
  (0 < L.length → ∀ b o c n, x = .slice (some ⟨b, o, none⟩) n c → F b) ∧ ∀ r ∈ L, 0 < r.n → ∀ b o, r.A = some ⟨b, o, none⟩ → F b
theorem Ft.mono {F G : Nat → Prop} {x : Value} {L : List Rw} (h : Ft F x L) (hFG : ∀ b, F b → G b) : Ft G x L :=
  ⟨fun h0 b o c n e => hFG b (h.1 h0 b o c n e), fun r hr h0 b o e => hFG b (h.2 r hr h0 b o e)⟩
/-- of what is there, each block is -/
theorem RdR.ft {w : World} {x : Value} {L : List Rw} (h : RdR w x L) : Ft (· < w.heap.size) x L := by
  refine ⟨fun h0 b o c n e => ?_, fun r hr h0 b o e => ?_⟩
  · obtain ⟨A, c', e', _, hh⟩ := h.1
    rw [e] at e'
    injection e' with e1 _ _
    obtain ⟨b', o', e2, hb, _⟩ := hh h0
    rw [← e1] at e2
    injection e2 with e2
    injection e2 with e2 _
    rw [e2]
    exact hb
  · obtain ⟨b', o', e1, hb, _⟩ := (h.2 r hr).1 h0
    rw [e] at e1
    injection e1 with e1
    injection e1 with e1 _
    rw [e1]
    exact hb
/-- nothing of theirs has turned -/
theorem RdR.of_ft {w w' : World} {F : Nat → Prop} {x : Value} {L : List Rw} (h : RdR w x L) (hf : Ft F x L) (hs : w.heap.size ≤ w'.heap.size) (he : ∀ b, F b → b < w.heap.size → w'.heap[b]? = w.heap[b]?) : RdR w' x L := by
  have hcell : ∀ b i, F b → b < w.heap.size → w'.cell? ⟨b, i, none⟩ = w.cell? ⟨b, i, none⟩ := fun b i hb hlt => by
    unfold World.cell?
    rw [he b hb hlt]
  refine ⟨?_, fun r hr => ⟨fun hn => ?_, (h.2 r hr).2⟩⟩
  · obtain ⟨A, c, rfl, hc, hh⟩ := h.1
    refine ⟨A, c, rfl, hc, fun h0 => ?_⟩
    obtain ⟨b, o, rfl, hb, hat⟩ := hh h0
    have hFb := hf.1 h0 b o c _ rfl
    exact ⟨b, o, rfl, Nat.lt_of_lt_of_le hb hs, fun j a ha i u hi => (hcell b _ hFb hb).trans (hat j a ha i u hi)⟩
  · obtain ⟨b, o, e, hb, hat⟩ := (h.2 r hr).1 hn
    have hFb := hf.2 r hr hn b o e
    refine ⟨b, o, e, Nat.lt_of_lt_of_le hb hs, fun i hi => ?_⟩
    obtain ⟨h0, h1, h2, h3, h4, h5, h6⟩ := hat i hi
    exact ⟨(hcell b _ hFb hb).trans h0, (hcell b _ hFb hb).trans h1, (hcell b _ hFb hb).trans h2, (hcell b _ hFb hb).trans h3, (hcell b _ hFb hb).trans h4, (hcell b _ hFb hb).trans h5, (hcell b _ hFb hb).trans h6⟩
theorem Ft.part {F : Nat → Prop} {x y : Value} {L M : List Rw} (h : Ft F x L) (hy : 0 < M.length → ∀ b o c n, y = .slice (some ⟨b, o, none⟩) n c → F b) (hm : ∀ r ∈ M, r ∈ L) : Ft F y M := ⟨hy, fun r hr => h.2 r (hm r hr)⟩
theorem rowInfo : (Try.prog.info? 48).map (fun i => (i.zero, i.size, i.bytes)) = some (some (.agg #[.slice none 0 0, .bool false, .int .i64 0, .bool false]), 4, 48) := by kernel_rfl
theorem row_parts : ∃ i, Try.prog.info? 48 = some i ∧ i.zero = some (.agg #[.slice none 0 0, .bool false, .int .i64 0, .bool false]) ∧ i.size = 4 ∧ i.bytes = 48 := by
  obtain ⟨i, hi, hzz⟩ := Option.map_eq_some_iff.1 rowInfo
  simp only [Prod.mk.injEq] at hzz
  exact ⟨i, hi, hzz⟩

/-- lists of rows that are the same -/
def sameL : List Rw → List Rw → Bool
  | [], [] => true
  | a :: l, b :: m => sameRw a b && sameL l m
  | _, _ => false
theorem sameL_iff {L M : List Rw} : sameL L M = true ↔ L.length = M.length ∧ ∀ i (h : i < L.length) (h' : i < M.length), sameRw L[i] M[i] = true := by
  induction L generalizing M with
  | nil => cases M with
    | nil => simp [sameL]
    | cons b m => simp [sameL]
  | cons a l ih => cases M with
    | nil => simp [sameL]
    | cons b m =>
      simp only [sameL, Bool.and_eq_true, ih, List.length_cons]
      constructor
      · rintro ⟨h1, h2, h3⟩
        refine ⟨by omega, fun k h h' => ?_⟩
        cases k with
        | zero => exact h1
        | succ k => exact h3 k (by omega) (by omega)
      · rintro ⟨h1, h2⟩
        exact ⟨h2 0 (by omega) (by omega), by omega, fun k h h' => h2 (k + 1) (by omega) (by omega)⟩
theorem sameL_not {L M : List Rw} {k : Nat} (h : k < L.length) (h' : k < M.length) (hs : sameRw L[k] M[k] = false) : sameL L M = false := by
  cases e : sameL L M
  · rfl
  · have := (sameL_iff.1 e).2 k h h'
    rw [hs] at this
    cases this
theorem sameRow_refl (r : Rw) : sameRw r r = true := by
  unfold sameRw sameRowB sameB
  simp
theorem sameL_refl (L : List Rw) : sameL L L = true := sameL_iff.2 ⟨rfl, fun _ _ _ => sameRow_refl _⟩
theorem sameRw_iff {r s : Rw} : sameRw r s = true ↔ r.n = s.n ∧ (∀ i, i < r.n → r.f i = s.f i) ∧ r.wb = s.wb ∧ r.dir = s.dir ∧ r.ex = s.ex := by
  unfold sameRw sameRowB sameB
  simp [and_assoc]
theorem saneRw_same {r s : Rw} (h : sameRw r s = true) : saneRw r = saneRw s := by
  obtain ⟨h1, h2, _, h4, _⟩ := sameRw_iff.1 h
  unfold saneRw
  rw [← h1, ← h4]
  exact sane_congr h2
def fewB (L : List Rw) : Bool := decide (L.length ≤ 60 ∧ ∀ r ∈ L, r.n ≤ 100)
theorem few_iff {L : List Rw} : fewB L = true ↔ L.length ≤ 60 ∧ ∀ r ∈ L, r.n ≤ 100 := by unfold fewB; simp only [decide_eq_true_eq]
theorem RdR0.few {w : World} {x : Value} {L : List Rw} (h : RdR0 w x L) (hf : fewB L = true) : RdR w x L :=
  ⟨h.1, fun r hr => ⟨(h.2 r hr).1, (h.2 r hr).2.1, Nat.le_trans ((few_iff.1 hf).2 r hr) (by decide)⟩⟩

set_option maxRecDepth 100000 in
set_option maxHeartbeats 1000000 in
theorem few_c (x : Value) (L : List Rw) (w : World) (hr : RdR0 w x L) (hlen : L.length ≤ maxLen) :
    Calls Try.prog 26 #[x] w fun e w' => e = .returned (.bool (fewB L)) ∧ w = w' := by
  obtain ⟨A, c, rfl, hc⟩ := hr.1.len
  have HS : Hid (fewB L = decide (L.length ≤ 60 ∧ ∀ r ∈ L, r.n ≤ 100)) := rfl
  generalize fewB L = S at *
  unfold maxLen at hlen
  by_cases h60 : L.length ≤ 60
  · generalize hn : L.length = n at *
    have HN := Lib.hid hn
    have h60I : (n : Int) ≤ 60 := by omega
    clear hc hlen hn
    go_enter Try.func26, Try.ntmps26
    go_wp2
    go_loop [3] (fun i => ∃ k : Nat, k ≤ n ∧ i = .int .i64 k ∧ Hid (∀ j (h : j < L.length), j < k → L[j].n ≤ 100)) (fun i => n - (intOf i).toNat)
    case atStart => exact ⟨0, Nat.zero_le _, rfl, fun j _ hj => absurd hj (by omega)⟩
    case round =>
      obtain ⟨k, hk, rfl, HALL⟩ := hrel
      by_cases hlt : k < n
      · have hkl : k < L.length := by rw [HN.out]; exact hlt
        obtain ⟨b, o, rfl, hb, ⟨c0, c1, c2, c3⟩, hok⟩ := hr.at_ hkl
        clear hok
        have HE : Hid (∀ j (h : j < L.length), j < k + 1 → L[j].n ≤ 100 ∨ j = k) := fun j h hj => by
          by_cases e : j = k
          · exact .inr e
          · exact .inl (HALL.out j h (by omega))
        have HR : Hid (L[k] ∈ L) := List.getElem_mem hkl
        obtain ⟨r, er⟩ : ∃ r, r = L[k] := ⟨_, rfl⟩
        have HER := Lib.hid er
        rw [← er] at c0 c1 c2 c3
        clear er
        obtain ⟨A', n', cap', f', wb', dir', ex'⟩ := r
        simp only at c0 c1 c2 c3
        have hltI : (k : Int) < n := by omega
        by_cases h100 : n' ≤ 100
        · have h100I : (n' : Int) ≤ 100 := by omega
          go_wp2
          go_round
          case rel => exact ⟨k + 1, by omega, by go_num, fun j h hj => by
            rcases HE.out j h hj with h' | rfl
            · exact h'
            · rw [← HER.out]; exact h100⟩
          case measure => simp [intOf]; omega
        · have h100I : (100 : Int) < n' := by omega
          go_wp2
          go_ret
          refine ⟨ebool ?_, rfl⟩
          rw [HS.out]
          symm
          exact decide_eq_false fun h => by
            have := h.2 _ HR.out
            rw [← HER.out] at this
            exact h100 this
      · obtain rfl : k = n := by omega
        go_wp2
        go_ret
        refine ⟨ebool ?_, rfl⟩
        rw [HS.out]
        symm
        refine decide_eq_true ⟨h60, fun r hr => ?_⟩
        obtain ⟨j, hj, rfl⟩ := List.getElem_of_mem hr
        exact HALL.out j hj (by rw [← HN.out]; exact hj)
  · have h60I : (60 : Int) < L.length := by omega
    go_enter Try.func26, Try.ntmps26
    go_wp2
    go_ret
    refine ⟨ebool ?_, rfl⟩
    rw [HS.out]
    symm
    exact decide_eq_false fun h => h60 h.1
end Go.Proofs.Ytlgnchhhadnjbaa.Row
