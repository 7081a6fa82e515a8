/- Walks of cursor.New, Margins, Resize; the law's converters; its example. -/
import Derived.Test.YtpcpgoeahndlfaaCurM
import Derived.Deep.RegionWith
namespace Go.Proofs.Ytpcpgoeahndlfaa.Cur
open Go.RowKit
theorem lt_add_r (a b x : Nat) (h : a < b) : (a < b + x) = True := by simp; omega
attribute [local go_sem] Nat.add_assoc Nat.add_pos_iff_pos_or_pos lt_add_r


theorem cur_c (x y : Int) (wr og : Bool) (fg bg fl g0 g1 g2 g3 gl gr on : Int) (w : World) : Calls Try.prog 15 #[.agg #[.int .i64 x, .int .i64 y, .bool wr, .bool og, .int .i64 fg, .int .i64 bg, .int .i64 fl, .int .u8 g0, .int .u8 g1, .int .u8 g2, .int .u8 g3, .int .i64 gl, .int .i64 gr, .int .i64 on]] w fun e w' => e = .returned (.agg #[.int .i64 x, .int .i64 y, .bool wr, .bool og, .int .i64 fg, .int .i64 bg, .int .i64 fl, .int .u8 g0, .int .u8 g1, .int .u8 g2, .int .u8 g3, .int .i64 gl, .int .i64 gr, .int .i64 on]) ∧ Grew w w' := by
  go_enter Try.func15, Try.ntmps15
  go_wp2
  (refine bodyPost_ret (v := _) (by (simp [results, Try.results15, go_sem]; exact rfl)) rfl ⟨?_, (Below.toGrow (by repeat (first | (with_reducible exact Below.refl _ _) | (with_reducible assumption) | (with_reducible refine Below.grow ?_ ?_ _ _) | (with_reducible refine Below.drewN' ?_ _) | (with_reducible refine Below.drew ?_) | (with_reducible refine Below.alloc ?_ ?_ _) | (with_reducible refine Below.setCell ?_ ?_ _) | omega | (focus (simp; done)) | (focus (simp; omega)))))⟩; exact rfl)
theorem plain_c (x y : Int) (wr og : Bool) (fg bg fl g0 g1 g2 g3 gl gr on : Int) (w : World) : Calls Try.prog 22 #[.agg #[.int .i64 x, .int .i64 y, .bool wr, .bool og, .int .i64 fg, .int .i64 bg, .int .i64 fl, .int .u8 g0, .int .u8 g1, .int .u8 g2, .int .u8 g3, .int .i64 gl, .int .i64 gr, .int .i64 on]] w fun e w' => e = .returned (.agg #[.int .i64 x, .int .i64 y, .bool wr, .bool og, .int .i64 fg, .int .i64 bg, .int .i64 fl, .int .u8 g0, .int .u8 g1, .int .u8 g2, .int .u8 g3, .int .i64 gl, .int .i64 gr, .int .i64 on]) ∧ Grew w w' := by
  go_enter Try.func22, Try.ntmps22
  go_wp2
  (refine bodyPost_ret (v := _) (by (simp [results, Try.results22, go_sem]; exact rfl)) rfl ⟨?_, (Below.toGrow (by repeat (first | (with_reducible exact Below.refl _ _) | (with_reducible assumption) | (with_reducible refine Below.grow ?_ ?_ _ _) | (with_reducible refine Below.drewN' ?_ _) | (with_reducible refine Below.drew ?_) | (with_reducible refine Below.alloc ?_ ?_ _) | (with_reducible refine Below.setCell ?_ ?_ _) | omega | (focus (simp; done)) | (focus (simp; omega)))))⟩; exact rfl)
theorem place_c (rH rW rT rB : Int) (w : World) : Calls Try.prog 16 #[.agg #[.int .i64 rH, .int .i64 rW, .int .i64 rT, .int .i64 rB]] w fun e w' => e = .returned (.agg #[.int .i64 rH, .int .i64 rW, .int .i64 rT, .int .i64 rB]) ∧ Grew w w' := by
  go_enter Try.func16, Try.ntmps16
  go_wp2
  (refine bodyPost_ret (v := _) (by (simp [results, Try.results16, go_sem]; exact rfl)) rfl ⟨?_, (Below.toGrow (by repeat (first | (with_reducible exact Below.refl _ _) | (with_reducible assumption) | (with_reducible refine Below.grow ?_ ?_ _ _) | (with_reducible refine Below.drewN' ?_ _) | (with_reducible refine Below.drew ?_) | (with_reducible refine Below.alloc ?_ ?_ _) | (with_reducible refine Below.setCell ?_ ?_ _) | omega | (focus (simp; done)) | (focus (simp; omega)))))⟩; exact rfl)

theorem new_c (h v : Int) (w : World) : Calls Try.prog 31 #[.int .i64 h, .int .i64 v] w fun e w' => e = .returned (.tuple #[.agg #[.int .i64 0, .int .i64 0, .bool false, .bool false, .int .i64 0, .int .i64 0, .int .i64 0, .int .u8 66, .int .u8 66, .int .u8 66, .int .u8 66, .int .i64 0, .int .i64 2, .int .i64 0], .agg #[.int .i64 (btw h 1 1000), .int .i64 (btw v 1 4096), .int .i64 0, .int .i64 (btw h 1 1000)]]) ∧ Grew w w' := by
  go_enter Try.func31, Try.ntmps31
  go_wp2_with (first | (go_at_call 39; refine (between_c _ _ _ _).mono ?_; rintro e w1 ⟨rfl, rfl⟩) | (go_at_call 37; refine (full_c _ _ _).mono ?_; rintro e w1 ⟨rfl, X5, d5, rfl⟩))
  go_region_with (go_at_call 42; refine (Char.new_c _).mono ?_; rintro e w1 ⟨rfl, X6, d6, rfl⟩)
  all_goals go_wp2
  all_goals (refine bodyPost_ret (v := _) (by (simp [results, Try.results31, go_sem]; exact rfl)) rfl ⟨?_, (Below.toGrow (by repeat (first | (with_reducible exact Below.refl _ _) | (with_reducible assumption) | (with_reducible refine Below.grow ?_ ?_ _ _) | (with_reducible refine Below.drewN' ?_ _) | (with_reducible refine Below.drew ?_) | (with_reducible refine Below.alloc ?_ ?_ _) | (with_reducible refine Below.setCell ?_ ?_ _) | omega | (focus (simp; done)) | (focus (simp; omega)))))⟩; exact rfl)

theorem margins_aw (w : World) : Calls Try.prog 32 #[.agg #[.int .i64 5, .int .i64 8, .int .i64 0, .int .i64 5], .int .i64 1, .int .i64 4] w fun e w' => e = .returned (.agg #[.int .i64 5, .int .i64 8, .int .i64 1, .int .i64 4]) ∧ Grew w w' := by
  go_enter Try.func32, Try.ntmps32
  go_wp2
  (refine bodyPost_ret (v := _) (by (simp [results, Try.results32, go_sem]; exact rfl)) rfl ⟨?_, (Below.toGrow (by repeat (first | (with_reducible exact Below.refl _ _) | (with_reducible assumption) | (with_reducible refine Below.grow ?_ ?_ _ _) | (with_reducible refine Below.drewN' ?_ _) | (with_reducible refine Below.drew ?_) | (with_reducible refine Below.alloc ?_ ?_ _) | (with_reducible refine Below.setCell ?_ ?_ _) | omega | (focus (simp; done)) | (focus (simp; omega)))))⟩; exact rfl)

theorem sane0 (x y : Int) (h1 : 0 ≤ x) (h2 : x < 8) (h3 : 0 ≤ y) (h4 : y < 5) : csaneB x y false false 0 0 0 66 66 66 66 0 2 0 5 8 1 4 = true := by
  have e : (Pen.saneB 0 0 0 && Char.saneB 66 66 66 66 0 2 0) = true := by decide
  unfold csaneB
  rw [e]
  unfold regionB restB
  simp [h1, h2, h3, h4]
theorem new_aw (w : World) : Calls Try.prog 31 #[.int .i64 5, .int .i64 8] w fun e w' => e = .returned (.tuple #[.agg #[.int .i64 0, .int .i64 0, .bool false, .bool false, .int .i64 0, .int .i64 0, .int .i64 0, .int .u8 66, .int .u8 66, .int .u8 66, .int .u8 66, .int .i64 0, .int .i64 2, .int .i64 0], .agg #[.int .i64 5, .int .i64 8, .int .i64 0, .int .i64 5]]) ∧ Grew w w' := new_c 5 8 w
theorem to_aw (w : World) : Calls Try.prog 20 #[.agg #[.int .i64 0, .int .i64 0, .bool false, .bool false, .int .i64 0, .int .i64 0, .int .i64 0, .int .u8 66, .int .u8 66, .int .u8 66, .int .u8 66, .int .i64 0, .int .i64 2, .int .i64 0], .agg #[.int .i64 5, .int .i64 8, .int .i64 1, .int .i64 4], .int .i64 2, .int .i64 3] w fun e w' => e = .returned (.agg #[.int .i64 3, .int .i64 2, .bool false, .bool false, .int .i64 0, .int .i64 0, .int .i64 0, .int .u8 66, .int .u8 66, .int .u8 66, .int .u8 66, .int .i64 0, .int .i64 2, .int .i64 0]) ∧ Grew w w' :=
  to_c 2 3 0 0 false false 0 0 0 66 66 66 66 0 2 0 5 8 1 4 w (sane0 0 0 (by omega) (by omega) (by omega) (by omega))
theorem move_aw (w : World) : Calls Try.prog 19 #[.agg #[.int .i64 3, .int .i64 2, .bool false, .bool false, .int .i64 0, .int .i64 0, .int .i64 0, .int .u8 66, .int .u8 66, .int .u8 66, .int .u8 66, .int .i64 0, .int .i64 2, .int .i64 0], .agg #[.int .i64 5, .int .i64 8, .int .i64 1, .int .i64 4], .int .i64 (-9), .int .i64 99] w fun e w' => e = .returned (.agg #[.int .i64 7, .int .i64 1, .bool false, .bool false, .int .i64 0, .int .i64 0, .int .i64 0, .int .u8 66, .int .u8 66, .int .u8 66, .int .u8 66, .int .i64 0, .int .i64 2, .int .i64 0]) ∧ Grew w w' :=
  move_c (-9) 99 3 2 false false 0 0 0 66 66 66 66 0 2 0 5 8 1 4 w (sane0 3 2 (by omega) (by omega) (by omega) (by omega))
theorem sane_aw (w : World) : Calls Try.prog 17 #[.agg #[.int .i64 7, .int .i64 1, .bool false, .bool false, .int .i64 0, .int .i64 0, .int .i64 0, .int .u8 66, .int .u8 66, .int .u8 66, .int .u8 66, .int .i64 0, .int .i64 2, .int .i64 0], .agg #[.int .i64 5, .int .i64 8, .int .i64 1, .int .i64 4]] w fun e w' => e = .returned (.bool true) ∧ Grew w w' := by
  have h := csane_c 7 1 false false 0 0 0 66 66 66 66 0 2 0 5 8 1 4 w (by omega) (by omega)
  rw [sane0 7 1 (by omega) (by omega) (by omega) (by omega)] at h
  exact h

set_option maxHeartbeats 1000000 in
theorem awake_c (w : World) : Calls Try.prog 14 #[] w fun e w' => e = .returned (.bool true) ∧ Grew w w' := by
  go_enter Try.func14, Try.ntmps14
  go_wp2_with (first
    | (go_at_call 31; refine (new_aw _).mono ?_; rintro e w1 ⟨rfl, X1, d1, rfl⟩)
    | (go_at_call 32; refine (margins_aw _).mono ?_; rintro e w1 ⟨rfl, X2, d2, rfl⟩)
    | (go_at_call 20; refine (to_aw _).mono ?_; rintro e w1 ⟨rfl, X3, d3, rfl⟩)
    | (go_at_call 19; refine (move_aw _).mono ?_; rintro e w1 ⟨rfl, X4, d4, rfl⟩)
    | (go_at_call 17; refine (sane_aw _).mono ?_; rintro e w1 ⟨rfl, X5, d5, rfl⟩))
  go_ret
  exact ⟨rfl, (Below.toGrow (by repeat (first | (with_reducible exact Below.refl _ _) | (with_reducible assumption) | (with_reducible refine Below.grow ?_ ?_ _ _) | (with_reducible refine Below.drewN' ?_ _) | (with_reducible refine Below.drew ?_) | (with_reducible refine Below.alloc ?_ ?_ _) | (with_reducible refine Below.setCell ?_ ?_ _) | omega | (focus (simp; done)) | (focus (simp; omega)))))⟩
end Go.Proofs.Ytpcpgoeahndlfaa.Cur
