/- Walk of row.Put. -/
import Derived.Test.YtlgnchhhadnjbaaRowC
import Derived.Test.YtlgnchhhadnjbaaRowL1
namespace Go.Proofs.Ytlgnchhhadnjbaa.Row
open Go.RowKit

theorem sane_len {n : Nat} {f : Nat → Cl} {dir : Int} (h : saneB n f dir = true) : 1 ≤ n ∧ n ≤ 4096 := by
  unfold saneB at h
  have := of_decide_eq_true h
  exact ⟨this.1, this.2.1⟩
theorem fits_w {c : Cl} (h : fitsB c = true) : c.w = 0 ∨ c.w = 1 ∨ c.w = 2 := by
  unfold fitsB at h
  have := (of_decide_eq_true h).2.2.2.2.2.2.2.2.2.2
  omega
end Go.Proofs.Ytlgnchhhadnjbaa.Row
