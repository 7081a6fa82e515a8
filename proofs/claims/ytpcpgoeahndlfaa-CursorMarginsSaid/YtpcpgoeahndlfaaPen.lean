/- Walks of pen.isColour and pen.Sane. -/
import Derived.Test.YtpcpgoeahndlfaaBase
namespace Go.Proofs.Ytpcpgoeahndlfaa.Pen
open Go.RowKit

def isColourB (c : Int) : Bool := (decide (0 ≤ c) && decide (c ≤ 256)) || (decide (16777216 ≤ c) && decide (c < 33554432))
def saneB (fg bg fl : Int) : Bool := isColourB fg && (isColourB bg && (decide (0 ≤ fl) && decide (fl ≤ 511)))

theorem isColour_c (c : Int) (w : World) : Calls Try.prog 43 #[.int .i64 c] w fun e w' => e = .returned (.bool (isColourB c)) ∧ w = w' := by
  unfold isColourB
  go_enter Try.func43, Try.ntmps43
  go_wp2
  all_goals (go_ret; refine ⟨?_, rfl⟩)
  all_goals (congr 2 <;> first | (simp [*]; done) | (simp [*]; omega))

theorem sane_c (fg bg fl : Int) (w : World) : Calls Try.prog 35 #[.agg #[.int .i64 fg, .int .i64 bg, .int .i64 fl]] w fun e w' => e = .returned (.bool (saneB fg bg fl)) ∧ Grew w w' := by
  go_enter Try.func35, Try.ntmps35
  go_wp2_with (first | (go_at_call 43; refine (isColour_c _ _).mono ?_; rintro e w' ⟨rfl, rfl⟩))
  all_goals (go_ret; refine ⟨?_, (Below.toGrow (by repeat (first | (with_reducible exact Below.refl _ _) | (with_reducible assumption) | (with_reducible refine Below.grow ?_ ?_ _ _) | (with_reducible refine Below.drewN' ?_ _) | (with_reducible refine Below.drew ?_) | (with_reducible refine Below.alloc ?_ ?_ _) | (with_reducible refine Below.setCell ?_ ?_ _) | omega | (focus (simp; done)) | (focus (simp; omega)))))⟩)
  all_goals (congr 2 <;> first | (simp [saneB, *]; done) | (simp [saneB, *]; omega))
end Go.Proofs.Ytpcpgoeahndlfaa.Pen
