/- The walk of cursor.Resize, of a cursor that may be. -/
import Derived.Test.YtpcpgoeahndlfaaCurT
import Derived.Deep.RegionWith
namespace Go.Proofs.Ytpcpgoeahndlfaa.Cur
open Go.RowKit
attribute [local go_sem] Nat.add_assoc Nat.add_pos_iff_pos_or_pos lt_add_r

set_option maxHeartbeats 2000000 in
theorem resize_c (h v : Int) (x y : Int) (wr og : Bool) (fg bg fl g0 g1 g2 g3 gl gr on : Int) (rH rW rT rB : Int) (w : World) (hs : csaneB x y wr og fg bg fl g0 g1 g2 g3 gl gr on rH rW rT rB = true) : Calls Try.prog 24 #[.agg #[.int .i64 x, .int .i64 y, .bool wr, .bool og, .int .i64 fg, .int .i64 bg, .int .i64 fl, .int .u8 g0, .int .u8 g1, .int .u8 g2, .int .u8 g3, .int .i64 gl, .int .i64 gr, .int .i64 on], .agg #[.int .i64 rH, .int .i64 rW, .int .i64 rT, .int .i64 rB], .int .i64 h, .int .i64 v] w fun e w' => e = .returned (.tuple #[.agg #[.int .i64 (btw x 0 (btw v 1 4096 - 1)), .int .i64 (btw y 0 (btw h 1 1000 - 1)), .bool false, .bool false, .int .i64 fg, .int .i64 bg, .int .i64 fl, .int .u8 g0, .int .u8 g1, .int .u8 g2, .int .u8 g3, .int .i64 gl, .int .i64 gr, .int .i64 on], .agg #[.int .i64 (btw h 1 1000), .int .i64 (btw v 1 4096), .int .i64 0, .int .i64 (btw h 1 1000)]]) ∧ Grew w w' := by
  obtain ⟨a1, a2, a3, a4, a5, a6, a7, _, _, _, _, _, _⟩ := facts hs
  have HB1 := Lib.hid (show rW ≤ 9223372036854775807 by omega)
  have HB2 := Lib.hid (show -9223372036854775808 ≤ rW by omega)
  have b1 := btw_in (v := h) (show (1 : Int) ≤ 1000 by omega)
  have b2 := btw_in (v := v) (show (1 : Int) ≤ 4096 by omega)
  obtain ⟨b1a, b1b⟩ := b1
  obtain ⟨b2a, b2b⟩ := b2
  go_enter Try.func24, Try.ntmps24
  go_wp2_with (first | (go_at_call 17; refine (csane_c _ _ _ _ _ _ _ _ _ _ _ _ _ _ _ _ _ _ _ HB1.out HB2.out).mono ?_; rintro e w1 ⟨rfl, X1, d1, rfl⟩) | (go_at_call 31; refine (new_c _ _ _).mono ?_; rintro e w1 ⟨rfl, X2, d2, rfl⟩) | (go_at_call 39; refine (between_c _ _ _ _).mono ?_; rintro e w1 ⟨rfl, rfl⟩))
  go_region_with (fail)
  all_goals go_wp2
  all_goals (refine bodyPost_ret (v := _) (by (simp [results, Try.results24, go_sem]; exact rfl)) rfl ⟨?_, (Below.toGrow (by repeat (first | exact Below.refl _ _ | refine Below.grow ?_ (by (try simp); (try omega)) _ _ | refine Below.drewN' ?_ _ | refine Below.drew ?_ | refine Below.alloc ?_ (by (try simp); (try omega)) _ | refine Below.setCell ?_ (by (try simp); (try omega)) _)))⟩; exact rfl)
end Go.Proofs.Ytpcpgoeahndlfaa.Cur
