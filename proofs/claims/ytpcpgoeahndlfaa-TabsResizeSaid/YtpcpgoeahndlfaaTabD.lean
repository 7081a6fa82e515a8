/- The plain laws of Resize; walk of lapwinglaw12.TabsResize. -/
import Derived.Test.YtpcpgoeahndlfaaTabC
namespace Go.Proofs.Ytpcpgoeahndlfaa.Tab
open Go.RowKit
theorem okL_iff {p W : Int} {zs : List Int} : okL p W zs = true ↔ (∀ z ∈ zs, p < z ∧ z < W) ∧ zs.Pairwise (· < ·) := by
  induction zs generalizing p with
  | nil => simp [okL]
  | cons z l ih =>
    unfold okL
    rw [Bool.and_eq_true, decide_eq_true_eq, ih]
    simp only [List.mem_cons, forall_eq_or_imp, List.pairwise_cons]
    constructor
    · rintro ⟨h1, h2, h3⟩
      exact ⟨⟨h1, fun y hy => ⟨by have := (h2 y hy).1; omega, (h2 y hy).2⟩⟩, fun y hy => (h2 y hy).1, h3⟩
    · rintro ⟨⟨h1, h2⟩, h3, h4⟩
      exact ⟨h1, fun y hy => ⟨h3 y hy, (h2 y hy).2⟩, h4⟩
theorem mem_eights {a z : Int} {k : Nat} : z ∈ eights a k ↔ ∃ i : Nat, i < k ∧ z = a + 8 * (i : Int) := by
  unfold eights
  simp only [List.mem_map, List.mem_range]
  constructor
  · rintro ⟨i, hi, rfl⟩
    exact ⟨i, hi, rfl⟩
  · rintro ⟨i, hi, rfl⟩
    exact ⟨i, hi, rfl⟩
theorem eights_sorted (a : Int) (k : Nat) : (eights a k).Pairwise (· < ·) := by
  induction k with
  | zero => simp [eights]
  | succ k ih =>
    rw [eights_succ, List.pairwise_append]
    refine ⟨ih, by simp, fun x hx y hy => ?_⟩
    obtain ⟨i, hi, rfl⟩ := mem_eights.1 hx
    rw [List.mem_singleton.1 hy]
    omega
/-- what Resize makes of sane stops is sane -/
theorem resize_sane {n W c : Int} {k : Nat} {zs : List Int} (hs : tsaneB W zs = true) (hn : 1 ≤ n ∧ n ≤ 4096) (hc : c = (W + 7) / 8 * 8) (hk : k = 0 ∨ c + 8 * (k : Int) < n + 8) :
    tsaneB n (zs.filter (fun z => decide (z < n)) ++ eights c k) = true := by
  obtain ⟨h1, h2⟩ := tsane_iff.1 hs
  obtain ⟨h3, h4⟩ := okL_iff.1 h2
  refine tsane_iff.2 ⟨hn, okL_iff.2 ⟨fun z hz => ?_, ?_⟩⟩
  · rcases List.mem_append.1 hz with h | h
    · obtain ⟨m1, m2⟩ := List.mem_filter.1 h
      exact ⟨(h3 z m1).1, by simpa using m2⟩
    · obtain ⟨i, hi, rfl⟩ := mem_eights.1 h
      omega
  · rw [List.pairwise_append]
    refine ⟨h4.filter _, eights_sorted _ _, fun x hx y hy => ?_⟩
    obtain ⟨m1, _⟩ := List.mem_filter.1 hx
    obtain ⟨i, hi, rfl⟩ := mem_eights.1 hy
    have := (h3 x m1).2
    omega
/-- made wider and as wide as it was again, all is as it was -/
theorem resize_wider {n W c c2 : Int} {k k2 : Nat} {zs : List Int} (hs : tsaneB W zs = true) (hn : W ≤ n) (hc : c = (W + 7) / 8 * 8) (hc2 : c2 = (n + 7) / 8 * 8) (hk2 : k2 = 0 ∨ c2 + 8 * (k2 : Int) < W + 8) :
    (zs.filter (fun z => decide (z < n)) ++ eights c k).filter (fun z => decide (z < W)) ++ eights c2 k2 = zs := by
  obtain ⟨h1, h2⟩ := tsane_iff.1 hs
  obtain ⟨h3, h4⟩ := okL_iff.1 h2
  have e1 : zs.filter (fun z => decide (z < n)) = zs := List.filter_eq_self.2 fun z hz => by have := (h3 z hz).2; simp; omega
  have e2 : zs.filter (fun z => decide (z < W)) = zs := List.filter_eq_self.2 fun z hz => by have := (h3 z hz).2; simp; omega
  have e3 : (eights c k).filter (fun z => decide (z < W)) = [] := List.filter_eq_nil_iff.2 fun z hz => by
    obtain ⟨i, hi, rfl⟩ := mem_eights.1 hz
    simp
    omega
  have e4 : k2 = 0 := by omega
  subst e4
  rw [e1, List.filter_append, e2, e3]
  simp [eights]
theorem filter_prefix {n : Int} {zs : List Int} (h : zs.Pairwise (· < ·)) (i : Nat) (z : Int) (hz : zs[i]? = some z) (hzn : z < n) : (zs.filter (fun z => decide (z < n)))[i]? = some z := by
  induction zs generalizing i with
  | nil => simp at hz
  | cons a l ih =>
    rw [List.pairwise_cons] at h
    cases i with
    | zero =>
      simp at hz
      subst hz
      simp [hzn]
    | succ i =>
      have hz' : l[i]? = some z := by simpa using hz
      have ha : a < n := by
        have := h.1 z (List.mem_of_getElem? hz')
        omega
      rw [List.filter_cons, if_pos (by simpa using ha)]
      simpa using ih h.2 i hz'
/-- made narrower and as wide as it was again: what stands below the lesser width stays -/
theorem resize_narrower {n W c2 : Int} {k2 : Nat} {zs : List Int} (hs : tsaneB W zs = true) (_ : n < W) (L : List Int)
    (hL : L = (zs.filter (fun z => decide (z < n)) ++ eights ((W + 7) / 8 * 8) 0).filter (fun z => decide (z < W)) ++ eights c2 k2) (hc2 : c2 = (n + 7) / 8 * 8) :
    (∀ (i : Nat) (z : Int), L[i]? = some z → n ≤ z → z % 8 = 0) ∧ ∀ (i : Nat) (z : Int), zs[i]? = some z → z < n → L[i]? = some z := by
  obtain ⟨h1, h2⟩ := tsane_iff.1 hs
  obtain ⟨h3, h4⟩ := okL_iff.1 h2
  have e : (zs.filter (fun z => decide (z < n)) ++ eights ((W + 7) / 8 * 8) 0).filter (fun z => decide (z < W)) = zs.filter (fun z => decide (z < n)) := by
    rw [show eights ((W + 7) / 8 * 8) 0 = [] from rfl, List.append_nil]
    refine List.filter_eq_self.2 fun z hz => ?_
    have := (h3 z (List.mem_filter.1 hz).1).2
    simp
    omega
  rw [e] at hL
  subst hL
  refine ⟨fun i z hz hnz => ?_, fun i z hz hzn => ?_⟩
  · rcases List.mem_append.1 (List.mem_of_getElem? hz) with h | h
    · have := (List.mem_filter.1 h).2
      simp at this
      omega
    · obtain ⟨j, _, rfl⟩ := mem_eights.1 h
      omega
  · have h5 := filter_prefix h4 i z hz hzn
    rw [List.getElem?_append_left (List.getElem?_eq_some_iff.1 h5).1]
    exact h5
end Go.Proofs.Ytpcpgoeahndlfaa.Tab
