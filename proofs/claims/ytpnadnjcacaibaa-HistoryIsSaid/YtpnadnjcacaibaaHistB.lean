/- Walks: history's small functions, history.Sane, lapwingref10.Same. -/
import Derived.Test.YtpnadnjcacaibaaHistA
namespace Go.Proofs.Ytpnadnjcacaibaa.Row
open Go.RowKit
theorem lt_add_r' (a b x : Nat) (h : a < b) : (a < b + x) = True := by simp; omega
theorem le_add_r' (a b x : Nat) (h : a ≤ b) : (a ≤ b + x) = True := by simp; omega
attribute [local go_sem] Nat.add_pos_iff_pos_or_pos lt_add_r' le_add_r'

theorem bounded_c (n m : Int) (w : World) : Calls Try.prog 61 #[.int .i64 n, .int .i64 m] w fun e w' => e = .returned (.int .i64 (max 0 (min n m))) ∧ w = w' := by
  go_enter Try.func61, Try.ntmps61
  go_wp2
  all_goals (go_ret; refine ⟨eint ?_, rfl⟩)
  all_goals omega
theorem ours_c (A : Option Addr) (n cap : Nat) (c : Int) (w : World) : Calls Try.prog 22 #[.agg #[.slice A n cap, .int .i64 c]] w fun e w' => e = .returned (.agg #[.slice A n cap, .int .i64 c]) ∧ Grew w w' := by
  go_enter Try.func22, Try.ntmps22
  go_wp2
  (refine bodyPost_ret (v := _) (by (simp [results, Try.results22, go_sem]; exact rfl)) rfl ⟨?_, (Below.toGrow (by repeat (first | (with_reducible exact Below.refl _ _) | (with_reducible assumption) | (with_reducible refine Below.grow ?_ ?_ _ _) | (with_reducible refine Below.drewN' ?_ _) | (with_reducible refine Below.drew ?_) | (with_reducible refine Below.alloc ?_ ?_ _) | (with_reducible refine Below.setCell ?_ ?_ _) | omega | (focus (simp; done)) | (focus (simp; omega)))))⟩; exact rfl)
theorem theirs_c (A : Option Addr) (n cap : Nat) (c : Int) (w : World) : Calls Try.prog 26 #[.agg #[.slice A n cap, .int .i64 c]] w fun e w' => e = .returned (.agg #[.slice A n cap, .int .i64 c]) ∧ Grew w w' := by
  go_enter Try.func26, Try.ntmps26
  go_wp2
  (refine bodyPost_ret (v := _) (by (simp [results, Try.results26, go_sem]; exact rfl)) rfl ⟨?_, (Below.toGrow (by repeat (first | (with_reducible exact Below.refl _ _) | (with_reducible assumption) | (with_reducible refine Below.grow ?_ ?_ _ _) | (with_reducible refine Below.drewN' ?_ _) | (with_reducible refine Below.drew ?_) | (with_reducible refine Below.alloc ?_ ?_ _) | (with_reducible refine Below.setCell ?_ ?_ _) | omega | (focus (simp; done)) | (focus (simp; omega)))))⟩; exact rfl)
theorem hnew_c (c : Int) (w : World) : Calls Try.prog 24 #[.int .i64 c] w fun e w' => e = .returned (.agg #[.slice none 0 0, .int .i64 (max 0 (min c 200))]) ∧ Grew w w' := by
  go_enter Try.func24, Try.ntmps24
  go_wp2_with (first | (go_at_call 61; refine (bounded_c _ _ _).mono ?_; rintro e w1 ⟨rfl, rfl⟩))
  (refine bodyPost_ret (v := _) (by (simp [results, Try.results24, go_sem]; exact rfl)) rfl ⟨?_, (Below.toGrow (by repeat (first | (with_reducible exact Below.refl _ _) | (with_reducible assumption) | (with_reducible refine Below.grow ?_ ?_ _ _) | (with_reducible refine Below.drewN' ?_ _) | (with_reducible refine Below.drew ?_) | (with_reducible refine Below.alloc ?_ ?_ _) | (with_reducible refine Below.setCell ?_ ?_ _) | omega | (focus (simp; done)) | (focus (simp; omega)))))⟩; exact rfl)

def hsaneB (L : List Rw) (c : Int) : Bool := decide (0 ≤ c ∧ c ≤ 200 ∧ (L.length : Int) ≤ c ∧ ∀ r ∈ L, saneRw r = true)
theorem hsane_iff {L : List Rw} {c : Int} : hsaneB L c = true ↔ 0 ≤ c ∧ c ≤ 200 ∧ (L.length : Int) ≤ c ∧ ∀ r ∈ L, saneRw r = true := by unfold hsaneB; simp only [decide_eq_true_eq]
set_option maxRecDepth 100000 in
set_option maxHeartbeats 2000000 in
theorem hsane_c (x : Value) (c : Int) (L : List Rw) (w : World) (hx : RdR w x L) (hl : L.length ≤ 5000) :
    Calls Try.prog 21 #[.agg #[x, .int .i64 c]] w fun e w' => e = .returned (.bool (hsaneB L c)) ∧ Grew w w' := by
  obtain ⟨A, cap, rfl, hc⟩ := hx.1.len
  have HI := Lib.hid (@hsane_iff L c)
  have HN : Hid (¬ hsaneB L c = true → hsaneB L c = false) := fun h => by simpa using h
  generalize hsaneB L c = S at *
  by_cases h0 : 0 ≤ c ∧ c ≤ 200 ∧ (L.length : Int) ≤ c
  · obtain ⟨h1, h2, h3⟩ := h0
    generalize hn : L.length = n at hl h3 hc hx ⊢
    have HL := Lib.hid hn
    clear hn
    go_enter Try.func21, Try.ntmps21
    go_wp2
    go_loopw [24] (fun i wz => ∃ k : Nat, k ≤ n ∧ i = .int .i64 k ∧ Hid (∀ j (h : j < L.length), j < k → saneRw L[j] = true) ∧ Below w.heap.size w wz) (fun i _ => n - (intOf i).toNat)
    case atStart => exact ⟨0, Nat.zero_le _, rfl, fun j _ hj => absurd hj (by omega), by (repeat (first | (with_reducible exact Below.refl _ _) | (with_reducible assumption) | (with_reducible refine Below.grow ?_ ?_ _ _) | (with_reducible refine Below.drewN' ?_ _) | (with_reducible refine Below.drew ?_) | (with_reducible refine Below.alloc ?_ ?_ _) | (with_reducible refine Below.setCell ?_ ?_ _) | omega | (focus (simp; done)) | (focus (simp; omega))))⟩
    case round =>
      obtain ⟨k, hk, rfl, HALL, hbw⟩ := hrel
      have hws := hbw.size
      by_cases hlt : k < n
      · have hkl : k < L.length := by rw [HL.out]; exact hlt
        obtain ⟨b, o, rfl, hb, hat, hok⟩ := (hx.below hbw).at_ hkl
        have HE : Hid (saneRw L[k] = true → ∀ j (h : j < L.length), j < k + 1 → saneRw L[j] = true) := fun hs j h hj => by
          by_cases e : j = k
          · subst e; exact hs
          · exact HALL.out j h (by omega)
        have HM : Hid (L[k] ∈ L) := List.getElem_mem hkl
        generalize L[k] = r at *
        obtain ⟨p0, p1, p2, p3⟩ := hat
        have hltI : (k : Int) < n := by omega
        cases hs : saneRw r
        · go_wp2_with (first | (go_at_call 15; refine (saner_c r _ (hok.below (by (repeat (first | (with_reducible exact Below.refl _ _) | (with_reducible assumption) | (with_reducible refine Below.grow ?_ ?_ _ _) | (with_reducible refine Below.drewN' ?_ _) | (with_reducible refine Below.drew ?_) | (with_reducible refine Below.alloc ?_ ?_ _) | (with_reducible refine Below.setCell ?_ ?_ _) | omega | (focus (simp; done)) | (focus (simp; omega))))))).mono ?_; rintro e w2 ⟨rfl, X2, d2, rfl⟩))
          go_ret
          refine ⟨ebool (HN.out fun h => ?_).symm, (Below.toGrow (by repeat (first | (with_reducible exact Below.refl _ _) | (with_reducible assumption) | (with_reducible refine Below.grow ?_ ?_ _ _) | (with_reducible refine Below.drewN' ?_ _) | (with_reducible refine Below.drew ?_) | (with_reducible refine Below.alloc ?_ ?_ _) | (with_reducible refine Below.setCell ?_ ?_ _) | omega | (focus (simp; done)) | (focus (simp; omega)))))⟩
          have := (HI.out.1 h).2.2.2 r HM.out
          rw [hs] at this
          cases this
        · go_wp2_with (first | (go_at_call 15; refine (saner_c r _ (hok.below (by (repeat (first | (with_reducible exact Below.refl _ _) | (with_reducible assumption) | (with_reducible refine Below.grow ?_ ?_ _ _) | (with_reducible refine Below.drewN' ?_ _) | (with_reducible refine Below.drew ?_) | (with_reducible refine Below.alloc ?_ ?_ _) | (with_reducible refine Below.setCell ?_ ?_ _) | omega | (focus (simp; done)) | (focus (simp; omega))))))).mono ?_; rintro e w2 ⟨rfl, X2, d2, rfl⟩))
          go_roundw
          case rel => exact ⟨k + 1, by omega, by go_num, HE.out hs, by (repeat (first | (with_reducible exact Below.refl _ _) | (with_reducible assumption) | (with_reducible refine Below.grow ?_ ?_ _ _) | (with_reducible refine Below.drewN' ?_ _) | (with_reducible refine Below.drew ?_) | (with_reducible refine Below.alloc ?_ ?_ _) | (with_reducible refine Below.setCell ?_ ?_ _) | omega | (focus (simp; done)) | (focus (simp; omega))))⟩
          case measure => simp [intOf]; omega
      · obtain rfl : k = n := by omega
        go_wp2
        go_ret
        refine ⟨ebool (HI.out.2 ⟨h1, h2, by rw [HL.out]; exact h3, fun r hr => ?_⟩).symm, (Below.toGrow (by repeat (first | (with_reducible exact Below.refl _ _) | (with_reducible assumption) | (with_reducible refine Below.grow ?_ ?_ _ _) | (with_reducible refine Below.drewN' ?_ _) | (with_reducible refine Below.drew ?_) | (with_reducible refine Below.alloc ?_ ?_ _) | (with_reducible refine Below.setCell ?_ ?_ _) | omega | (focus (simp; done)) | (focus (simp; omega)))))⟩
        obtain ⟨j, hj, rfl⟩ := List.getElem_of_mem hr
        exact HALL.out j hj (by rw [← HL.out]; exact hj)
  · have HF : Hid (S = false) := HN.out fun h => h0 ⟨(HI.out.1 h).1, (HI.out.1 h).2.1, (HI.out.1 h).2.2.1⟩
    go_enter Try.func21, Try.ntmps21
    go_wp2
    all_goals first | (exfalso; omega) | (go_ret; exact ⟨ebool HF.out.symm, (Below.toGrow (by repeat (first | (with_reducible exact Below.refl _ _) | (with_reducible assumption) | (with_reducible refine Below.grow ?_ ?_ _ _) | (with_reducible refine Below.drewN' ?_ _) | (with_reducible refine Below.drew ?_) | (with_reducible refine Below.alloc ?_ ?_ _) | (with_reducible refine Below.setCell ?_ ?_ _) | omega | (focus (simp; done)) | (focus (simp; omega)))))⟩)

def cellsL : List Rw → Int
  | [] => 0
  | r :: l => r.n + cellsL l
theorem cellsL_snoc (L : List Rw) (k : Nat) (h : k < L.length) : cellsL (L.take (k + 1)) = cellsL (L.take k) + L[k].n := by
  induction L generalizing k with
  | nil => simp at h
  | cons a l ih => cases k with
    | zero => simp [cellsL]
    | succ k =>
      have := ih k (by simpa using h)
      simp only [List.take_succ_cons, cellsL, List.getElem_cons_succ]
      omega
theorem cellsL_nn (L : List Rw) (h : ∀ r ∈ L, r.n ≤ 5000) : 0 ≤ cellsL L ∧ cellsL L ≤ 5000 * L.length := by
  induction L with
  | nil => simp [cellsL]
  | cons a l ih =>
    have h1 := ih fun r hr => h r (List.mem_cons_of_mem _ hr)
    have h2 := h a (List.mem_cons_self)
    simp only [cellsL, List.length_cons]
    omega
/-- as many cells as rows, at the least, if each has one -/
theorem cellsL_ge (L : List Rw) (h : ∀ r ∈ L, 1 ≤ r.n) : (L.length : Int) ≤ cellsL L := by
  induction L with
  | nil => simp [cellsL]
  | cons a l ih =>
    have h1 := ih fun r hr => h r (List.mem_cons_of_mem _ hr)
    have h2 := h a (List.mem_cons_self)
    simp only [cellsL, List.length_cons]
    omega
set_option maxRecDepth 100000 in
set_option maxHeartbeats 2000000 in
theorem hcells_c (x : Value) (c : Int) (L : List Rw) (w : World) (hx : RdR w x L) (hl : L.length ≤ 5000) (hs : hsaneB L c = true) :
    Calls Try.prog 27 #[.agg #[x, .int .i64 c]] w fun e w' => e = .returned (.int .i64 (cellsL L)) ∧ Grew w w' := by
  obtain ⟨A, cap, rfl, hc⟩ := hx.1.len
  have HLL := Lib.hid hl
  have HCL : Hid (cellsL L = cellsL (L.take L.length)) := by rw [List.take_length]; exact rfl
  generalize hn : L.length = n at hl hc hx HCL ⊢
  have HL := Lib.hid hn
  clear hn
  go_enter Try.func27, Try.ntmps27
  go_wp2_with (first | (go_at_call 21; refine (hsane_c (.slice A n cap) c L _ (hx.below (by (repeat (first | (with_reducible exact Below.refl _ _) | (with_reducible assumption) | (with_reducible refine Below.grow ?_ ?_ _ _) | (with_reducible refine Below.drewN' ?_ _) | (with_reducible refine Below.drew ?_) | (with_reducible refine Below.alloc ?_ ?_ _) | (with_reducible refine Below.setCell ?_ ?_ _) | omega | (focus (simp; done)) | (focus (simp; omega)))))) HLL.out).mono ?_; rintro e w1 ⟨rfl, X1, d1, rfl⟩))
  go_loopw [3, 12] (fun v i wz => ∃ k : Nat, k ≤ n ∧ i = .int .i64 k ∧ v = .int .i64 (cellsL (L.take k)) ∧ Below w.heap.size w wz) (fun _ i _ => n - (intOf i).toNat)
  case atStart => exact ⟨0, Nat.zero_le _, rfl, rfl, by (repeat (first | (with_reducible exact Below.refl _ _) | (with_reducible assumption) | (with_reducible refine Below.grow ?_ ?_ _ _) | (with_reducible refine Below.drewN' ?_ _) | (with_reducible refine Below.drew ?_) | (with_reducible refine Below.alloc ?_ ?_ _) | (with_reducible refine Below.setCell ?_ ?_ _) | omega | (focus (simp; done)) | (focus (simp; omega))))⟩
  case round =>
    obtain ⟨k, hk, rfl, rfl, hbw⟩ := hrel
    have hws := hbw.size
    by_cases hlt : k < n
    · have hkl : k < L.length := by rw [HL.out]; exact hlt
      obtain ⟨b, o, rfl, hb, hat, hok⟩ := (hx.below hbw).at_ hkl
      have HE := Lib.hid (cellsL_snoc L k hkl)
      obtain ⟨g1, g2⟩ := cellsL_nn (L.take k) fun r hr => (hx.2 r (List.mem_of_mem_take hr)).2.2
      have g3 : (L.take k).length ≤ k := List.length_take_le _ _
      generalize cellsL (L.take k) = C at *
      generalize L[k] = r at *
      obtain ⟨p0, p1, p2, p3⟩ := hat
      have hrn := hok.2.2
      clear hok
      have hltI : (k : Int) < n := by omega
      go_wp2
      go_roundw
      case rel => exact ⟨k + 1, by omega, by go_num, by rw [HE.out], by (repeat (first | (with_reducible exact Below.refl _ _) | (with_reducible assumption) | (with_reducible refine Below.grow ?_ ?_ _ _) | (with_reducible refine Below.drewN' ?_ _) | (with_reducible refine Below.drew ?_) | (with_reducible refine Below.alloc ?_ ?_ _) | (with_reducible refine Below.setCell ?_ ?_ _) | omega | (focus (simp; done)) | (focus (simp; omega))))⟩
      case measure => simp [intOf]; omega
    · obtain rfl : k = n := by omega
      go_wp2
      go_ret
      exact ⟨eint HCL.out.symm, (Below.toGrow (by repeat (first | (with_reducible exact Below.refl _ _) | (with_reducible assumption) | (with_reducible refine Below.grow ?_ ?_ _ _) | (with_reducible refine Below.drewN' ?_ _) | (with_reducible refine Below.drew ?_) | (with_reducible refine Below.alloc ?_ ?_ _) | (with_reducible refine Below.setCell ?_ ?_ _) | omega | (focus (simp; done)) | (focus (simp; omega)))))⟩

set_option maxRecDepth 100000 in
set_option maxHeartbeats 2000000 in
theorem sameK_c (x y : Value) (c d : Int) (L M : List Rw) (w : World) (hx : RdR w x L) (hy : RdR w y M) (hl : L.length ≤ maxLen) (hm : M.length ≤ maxLen) :
    Calls Try.prog 25 #[.agg #[x, .int .i64 c], .agg #[y, .int .i64 d]] w fun e w' => e = .returned (.bool (c == d && sameL L M)) ∧ Grew w w' := by
  have HL := Lib.hid hl
  have HM := Lib.hid hm
  obtain ⟨A, cap, ex, hc⟩ := hx.1.len
  obtain ⟨A', cap', ey, hc'⟩ := hy.1.len
  have HX := Lib.hid ex
  have HY := Lib.hid ey
  have h1 : x.cells = #[x] := by rw [ex]; rfl
  have h2 : y.cells = #[y] := by rw [ey]; rfl
  clear ex ey hc hc' hl hm
  cases hcd : (c == d)
  · go_enter Try.func25, Try.ntmps25
    go_wp2_with (first | (go_at_call 30; refine (sameL_c x y L M _ (hx.below (by (repeat (first | (with_reducible exact Below.refl _ _) | (with_reducible assumption) | (with_reducible refine Below.grow ?_ ?_ _ _) | (with_reducible refine Below.drewN' ?_ _) | (with_reducible refine Below.drew ?_) | (with_reducible refine Below.alloc ?_ ?_ _) | (with_reducible refine Below.setCell ?_ ?_ _) | omega | (focus (simp; done)) | (focus (simp; omega)))))) (hy.below (by (repeat (first | (with_reducible exact Below.refl _ _) | (with_reducible assumption) | (with_reducible refine Below.grow ?_ ?_ _ _) | (with_reducible refine Below.drewN' ?_ _) | (with_reducible refine Below.drew ?_) | (with_reducible refine Below.alloc ?_ ?_ _) | (with_reducible refine Below.setCell ?_ ?_ _) | omega | (focus (simp; done)) | (focus (simp; omega)))))) HL.out HM.out).mono ?_; rintro e w1 ⟨rfl, X1, d1, rfl⟩))
    go_ret
    exact ⟨rfl, (Below.toGrow (by repeat (first | (with_reducible exact Below.refl _ _) | (with_reducible assumption) | (with_reducible refine Below.grow ?_ ?_ _ _) | (with_reducible refine Below.drewN' ?_ _) | (with_reducible refine Below.drew ?_) | (with_reducible refine Below.alloc ?_ ?_ _) | (with_reducible refine Below.setCell ?_ ?_ _) | omega | (focus (simp; done)) | (focus (simp; omega)))))⟩
  · go_enter Try.func25, Try.ntmps25
    go_wp2_with (first | (go_at_call 30; refine (sameL_c x y L M _ (hx.below (by (repeat (first | (with_reducible exact Below.refl _ _) | (with_reducible assumption) | (with_reducible refine Below.grow ?_ ?_ _ _) | (with_reducible refine Below.drewN' ?_ _) | (with_reducible refine Below.drew ?_) | (with_reducible refine Below.alloc ?_ ?_ _) | (with_reducible refine Below.setCell ?_ ?_ _) | omega | (focus (simp; done)) | (focus (simp; omega)))))) (hy.below (by (repeat (first | (with_reducible exact Below.refl _ _) | (with_reducible assumption) | (with_reducible refine Below.grow ?_ ?_ _ _) | (with_reducible refine Below.drewN' ?_ _) | (with_reducible refine Below.drew ?_) | (with_reducible refine Below.alloc ?_ ?_ _) | (with_reducible refine Below.setCell ?_ ?_ _) | omega | (focus (simp; done)) | (focus (simp; omega)))))) HL.out HM.out).mono ?_; rintro e w1 ⟨rfl, X1, d1, rfl⟩))
    go_ret
    exact ⟨rfl, (Below.toGrow (by repeat (first | (with_reducible exact Below.refl _ _) | (with_reducible assumption) | (with_reducible refine Below.grow ?_ ?_ _ _) | (with_reducible refine Below.drewN' ?_ _) | (with_reducible refine Below.drew ?_) | (with_reducible refine Below.alloc ?_ ?_ _) | (with_reducible refine Below.setCell ?_ ?_ _) | omega | (focus (simp; done)) | (focus (simp; omega)))))⟩
end Go.Proofs.Ytpnadnjcacaibaa.Row
