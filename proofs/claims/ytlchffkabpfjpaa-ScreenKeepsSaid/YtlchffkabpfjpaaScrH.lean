/- What scrolls out at the top is kept (plain). -/
import Derived.Test.YtlchffkabpfjpaaDocOpen
namespace Go.Proofs.Ytlchffkabpfjpaa.Scr
open Go.RowKit Go.Proofs.Ytlchffkabpfjpaa.Row
theorem sameRw_of {r s : Rw} (h : ct r = ct s) : sameRw r s = true := by
  obtain ⟨A, n, c, f, wb, dir, ex⟩ := r
  obtain ⟨A', n', c', f', wb', dir', ex'⟩ := s
  unfold ct at h
  injection h with h1 h2 h3 h4 h5
  dsimp only at h1 h2 h3 h4 h5
  subst h1 h2 h3 h4 h5
  unfold sameRw sameRowB sameB
  simp
section
variable {K M : List Ct} {c : Nat} (hM : ∀ x ∈ M, x.sane = true)
include hM
theorem pushC_all : pushC K c M = (K ++ M).drop ((K ++ M).length - c) := by
  unfold pushC
  rw [List.filter_eq_self.2 hM]
theorem pushC_count : (pushC K c M).length = min (K.length + M.length) c := by
  rw [pushC_all hM, List.length_drop, List.length_append]
  omega
theorem pushC_at {i : Nat} (hi : i < M.length) (hc : i < c) : (pushC K c M)[(pushC K c M).length - 1 - i]? = M[M.length - 1 - i]? := by
  rw [pushC_count hM, pushC_all hM, List.getElem?_drop, List.length_append, List.getElem?_append_right (by omega)]
  congr 1
  omega
end
theorem rowsC_at (n : Nat) (G : Nat → Ct) {i : Nat} (hi : i < n) : (rowsC n G)[i]? = some (G i) := by
  unfold rowsC
  rw [List.getElem?_map, List.getElem?_range hi]
  rfl
theorem Md.Ok.rows {m : Md} (h : m.Ok) {i : Nat} (hi : i < m.n) : (m.G i).sane = true := by
  have := h.gs
  unfold gsC at this
  exact ((of_decide_eq_true this).2.2 i hi).2
/-- what is kept when k rows leave at the top -/
theorem kept_len {m : Md} (h : m.Ok) (hT : m.T = 0) {k : Nat} (hk : (k : Int) ≤ m.B) : ((m.up k).K.length : Int) = min ((m.K.length : Int) + k) m.kp := by
  obtain ⟨f1, f2, w1, w2, t0, tb, bh, x0, x1, y0, y1, -, -⟩ := h.cf
  have hn := h.nH
  have hs := h.hs
  unfold hsC at hs
  obtain ⟨k1, k2, -, -⟩ := of_decide_eq_true hs
  have hM : ∀ x ∈ rowsC k (fun i => m.G (m.T.toNat + i)), x.sane = true := fun x hx => by
    unfold rowsC at hx
    obtain ⟨i, hi, rfl⟩ := List.mem_map.1 hx
    have := List.mem_range.1 hi
    exact h.rows (by omega)
  have e : (m.up k).K = pushC m.K m.kp.toNat (rowsC k fun i => m.G (m.T.toNat + i)) := by
    unfold Md.up
    exact if_pos hT
  rw [e, pushC_count hM]
  have : (rowsC k fun i => m.G (m.T.toNat + i)).length = k := by unfold rowsC; simp
  omega
theorem kept_at {m : Md} (h : m.Ok) (hT : m.T = 0) {k i : Nat} (hk : (k : Int) ≤ m.B) (hi : i < k) (hc : (i : Int) < m.kp) : (m.up k).K[(m.up k).K.length - 1 - i]? = some (m.G (k - 1 - i)) := by
  obtain ⟨f1, f2, w1, w2, t0, tb, bh, x0, x1, y0, y1, -, -⟩ := h.cf
  have hn := h.nH
  have hM : ∀ x ∈ rowsC k (fun i => m.G (m.T.toNat + i)), x.sane = true := fun x hx => by
    unfold rowsC at hx
    obtain ⟨i, hi, rfl⟩ := List.mem_map.1 hx
    have := List.mem_range.1 hi
    exact h.rows (by omega)
  have e : (m.up k).K = pushC m.K m.kp.toNat (rowsC k fun i => m.G (m.T.toNat + i)) := by
    unfold Md.up
    exact if_pos hT
  have hl : (rowsC k fun i => m.G (m.T.toNat + i)).length = k := by unfold rowsC; simp
  rw [e, pushC_at hM (by omega) (by omega), hl, rowsC_at k _ (by omega), hT]
  simp
/-- the row that stands at y when k rows have left at the top -/
def wantC (m : Md) (k y : Nat) : Ct := if m.B ≤ (y : Int) then m.G y else if ((y : Int) + k) < m.B then m.G (y + k) else newC (m.G 0).n 0 m.bg 0
theorem up_at {m : Md} (hT : m.T = 0) {k : Nat} (hk : (k : Int) ≤ m.B) (y : Nat) : (m.up k).G y = wantC m k y := by
  show layC (mvC m.G m.T.toNat k (m.B.toNat - m.T.toNat - k)) (m.B.toNat - k) k (m.G 0).n 0 m.bg 0 y = _
  unfold layC mvC wantC
  rw [hT]
  simp only [Int.toNat_zero, Nat.sub_zero, Nat.zero_add, Nat.zero_le, true_and]
  by_cases h1 : m.B ≤ (y : Int)
  · rw [if_neg (by omega), if_neg (by omega), if_pos h1]
  · rw [if_neg h1]
    by_cases h2 : ((y : Int) + k) < m.B
    · rw [if_neg (by omega), if_pos (by omega), if_pos h2]
    · rw [if_pos (by omega), if_neg h2]
/-- elsewhere nothing is kept -/
theorem kept_no {m : Md} (hT : m.T ≠ 0) (k : Nat) : (m.up k).K = m.K := by
  unfold Md.up
  exact if_neg hT
/-- a list as a function -/
def nilRw : Rw := ⟨none, 0, 0, fun _ => Row.blank 0 0 0, false, 0, false⟩
theorem listG_getD (L : List Rw) : listG L.length (fun i => L.getD i nilRw) = L := by
  unfold listG
  apply List.ext_getElem?
  intro i
  rw [List.getElem?_map]
  by_cases hi : i < L.length
  · rw [List.getElem?_range hi]
    simp [hi]
  · rw [List.getElem?_eq_none (by simp; omega), List.getElem?_eq_none (by omega)]
    rfl
end Go.Proofs.Ytlchffkabpfjpaa.Scr
