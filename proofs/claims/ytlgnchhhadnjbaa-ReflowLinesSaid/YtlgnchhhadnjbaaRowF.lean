/- Walks of row.between and row.Erase. -/
import Derived.Test.YtlgnchhhadnjbaaRowN
import Derived.Test.YtlgnchhhadnjbaaHand
import Derived.Test.YtlgnchhhadnjbaaRowL2
namespace Go.Proofs.Ytlgnchhhadnjbaa.Row
open Go.RowKit

theorem own_drew {w : World} {b n : Nat} {f : Nat → Cl} (h : Own w b n f) : Own w.drew b n f := h
theorem e2int {a b a' b' : Int} (h : a = a') (h' : b = b') : Ending.returned (.tuple #[.int .i64 a, .int .i64 b]) = .returned (.tuple #[.int .i64 a', .int .i64 b']) := by rw [h, h']
set_option maxRecDepth 100000 in
set_option maxHeartbeats 1000000 in
theorem lay0_c (A : Option Addr) (cap : Nat) (fg bg fl : Int) (w : World) :
    Calls Try.prog 49 #[.slice A 0 cap, .agg #[.int .i64 fg, .int .i64 bg, .int .i64 fl]] w fun e w' => e = .returned (.tuple #[]) ∧ Grew w w' := by
  go_enter Try.func49, Try.ntmps49
  go_wp2
  refine wp_loop_rounds 1 ?_
  rw [rounds_succ]
  go_wp2
  go_end0
  exact ⟨rfl, (Below.toGrow (by repeat (first | (with_reducible exact Below.refl _ _) | (with_reducible assumption) | (with_reducible refine Below.grow ?_ ?_ _ _) | (with_reducible refine Below.drewN' ?_ _) | (with_reducible refine Below.drew ?_) | (with_reducible refine Below.alloc ?_ ?_ _) | (with_reducible refine Below.setCell ?_ ?_ _) | omega | (focus (simp; done)) | (focus (simp; omega)))))⟩

end Go.Proofs.Ytlgnchhhadnjbaa.Row
