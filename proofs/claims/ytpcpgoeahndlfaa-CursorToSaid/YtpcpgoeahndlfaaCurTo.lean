/- The law's walk: CursorTo. -/
import Derived.Test.YtpcpgoeahndlfaaCurT
namespace Go.Proofs.Ytpcpgoeahndlfaa.Cur
open Go.RowKit
attribute [local go_sem] Nat.add_assoc Nat.add_pos_iff_pos_or_pos lt_add_r

/-- a cursor against itself -/
theorem eq_cur (x y : Int) (wr og : Bool) (fg bg fl g0 g1 g2 g3 gl gr on : Int) (w : World) : (binOp .eql 39 (.agg #[.int .i64 x, .int .i64 y, .bool wr, .bool og, .int .i64 fg, .int .i64 bg, .int .i64 fl, .int .u8 g0, .int .u8 g1, .int .u8 g2, .int .u8 g3, .int .i64 gl, .int .i64 gr, .int .i64 on]) (.agg #[.int .i64 x, .int .i64 y, .bool wr, .bool og, .int .i64 fg, .int .i64 bg, .int .i64 fl, .int .u8 g0, .int .u8 g1, .int .u8 g2, .int .u8 g3, .int .i64 gl, .int .i64 gr, .int .i64 on])).run Try.prog w = .ok (.bool true) w := by
  obtain ⟨i, hi⟩ := info_ok (P := Try.prog) (e := 5) (by kernel_rfl)
  have hc : Try.prog.cellsOf 5 = 1 := by kernel_rfl
  have h := fun (d : Nat) (w : World) => run_equalIn_array (P := Try.prog) (w := w) (d + 1) #[.int .u8 g0, .int .u8 g1, .int .u8 g2, .int .u8 g3] #[.int .u8 g0, .int .u8 g1, .int .u8 g2, .int .u8 g3] Try.underlying35 hi
  rw [hc] at h
  have h' : ∀ (d : Nat) (w : World), (Op.equalIn (d + 2) 35 (.agg #[.int .u8 g0, .int .u8 g1, .int .u8 g2, .int .u8 g3]) (.agg #[.int .u8 g0, .int .u8 g1, .int .u8 g2, .int .u8 g3])).run Try.prog w = .ok true w := fun d w => by
    rw [h d w]
    simp [go_sem, List.range, List.range.loop]
  simp [go_sem, h']
theorem to_exact (q p X Y : Int) (x y : Int) (wr og : Bool) (fg bg fl g0 g1 g2 g3 gl gr on : Int) (rH rW rT rB : Int) (w : World) (hs : csaneB x y wr og fg bg fl g0 g1 g2 g3 gl gr on rH rW rT rB = true) (hX : btw p 0 (rW - 1) = X) (hY : toY og q rH rT rB = Y) :
    Calls Try.prog 20 #[.agg #[.int .i64 x, .int .i64 y, .bool wr, .bool og, .int .i64 fg, .int .i64 bg, .int .i64 fl, .int .u8 g0, .int .u8 g1, .int .u8 g2, .int .u8 g3, .int .i64 gl, .int .i64 gr, .int .i64 on], .agg #[.int .i64 rH, .int .i64 rW, .int .i64 rT, .int .i64 rB], .int .i64 q, .int .i64 p] w fun e w' => e = .returned (.agg #[.int .i64 X, .int .i64 Y, .bool false, .bool og, .int .i64 fg, .int .i64 bg, .int .i64 fl, .int .u8 g0, .int .u8 g1, .int .u8 g2, .int .u8 g3, .int .i64 gl, .int .i64 gr, .int .i64 on]) ∧ Grew w w' := by
  subst hX hY
  exact to_c q p x y wr og fg bg fl g0 g1 g2 g3 gl gr on rH rW rT rB w hs
theorem column_exact (p X : Int) (x y : Int) (wr og : Bool) (fg bg fl g0 g1 g2 g3 gl gr on : Int) (rH rW rT rB : Int) (w : World) (hs : csaneB x y wr og fg bg fl g0 g1 g2 g3 gl gr on rH rW rT rB = true) (hX : btw p 0 (rW - 1) = X) :
    Calls Try.prog 21 #[.agg #[.int .i64 x, .int .i64 y, .bool wr, .bool og, .int .i64 fg, .int .i64 bg, .int .i64 fl, .int .u8 g0, .int .u8 g1, .int .u8 g2, .int .u8 g3, .int .i64 gl, .int .i64 gr, .int .i64 on], .agg #[.int .i64 rH, .int .i64 rW, .int .i64 rT, .int .i64 rB], .int .i64 p] w fun e w' => e = .returned (.agg #[.int .i64 X, .int .i64 y, .bool false, .bool og, .int .i64 fg, .int .i64 bg, .int .i64 fl, .int .u8 g0, .int .u8 g1, .int .u8 g2, .int .u8 g3, .int .i64 gl, .int .i64 gr, .int .i64 on]) ∧ Grew w w' := by
  subst hX
  exact column_c p x y wr og fg bg fl g0 g1 g2 g3 gl gr on rH rW rT rB w hs
set_option maxHeartbeats 1000000 in
theorem to_insane (a b : Int) (x y : Int) (wr og : Bool) (fg bg fl g0 g1 g2 g3 gl gr on : Int) (rH rW rT rB : Int) (w : World) (hb1 : rW ≤ 9223372036854775807) (hb2 : -9223372036854775808 ≤ rW) (hs : csaneB x y wr og fg bg fl g0 g1 g2 g3 gl gr on rH rW rT rB = false) : Calls Try.prog 5 #[.agg #[.int .i64 x, .int .i64 y, .bool wr, .bool og, .int .i64 fg, .int .i64 bg, .int .i64 fl, .int .u8 g0, .int .u8 g1, .int .u8 g2, .int .u8 g3, .int .i64 gl, .int .i64 gr, .int .i64 on], .agg #[.int .i64 rH, .int .i64 rW, .int .i64 rT, .int .i64 rB], .int .i64 a, .int .i64 b] w fun e w' => e = .returned (.bool true) ∧ Grew w w' := by
  have HB1 := Lib.hid hb1; have HB2 := Lib.hid hb2; clear hb1 hb2
  go_enter Try.func5, Try.ntmps5
  go_wp2_with (first | (go_at_call 14; refine (awake_c _).mono ?_; rintro e w1 ⟨rfl, XA, dA, rfl⟩) | (go_at_call 15; refine (cur_c _ _ _ _ _ _ _ _ _ _ _ _ _ _ _).mono ?_; rintro e w1 ⟨rfl, XO, dO, rfl⟩) | (go_at_call 16; refine (place_c _ _ _ _ _).mono ?_; rintro e w1 ⟨rfl, XP, dP, rfl⟩) | (go_at_call 17; refine (csane_c _ _ _ _ _ _ _ _ _ _ _ _ _ _ _ _ _ _ _ HB1.out HB2.out).mono ?_; rintro e w1 ⟨rfl, X1, d1, rfl⟩))
  go_ret
  exact ⟨rfl, (Below.toGrow (by repeat (first | exact Below.refl _ _ | refine Below.grow ?_ (by (try simp); (try omega)) _ _ | refine Below.drewN' ?_ _ | refine Below.drew ?_ | refine Below.alloc ?_ (by (try simp); (try omega)) _ | refine Below.setCell ?_ (by (try simp); (try omega)) _)))⟩

set_option maxRecDepth 100000 in
set_option maxHeartbeats 2000000 in
theorem to_false (q' p' AA BB YY a b x y : Int) (wr : Bool) (fg bg fl g0 g1 g2 g3 gl gr on : Int) (rH rW rT rB : Int) (w : World) (hb1 : rW ≤ 9223372036854775807) (hb2 : -9223372036854775808 ≤ rW) (hs : csaneB x y wr false fg bg fl g0 g1 g2 g3 gl gr on rH rW rT rB = true)
    (hq : bits .and .i64 a 65535 = q') (hp : bits .and .i64 b 65535 = p') (hq0 : 0 ≤ q') (hp0 : 0 ≤ p') (hA : q' % rH = AA) (hB : p' % rW = BB) (hX : btw BB 0 (rW - 1) = BB) (hY : toY false AA rH rT rB = YY) (hYA : YY = AA) (hS : csaneB BB YY false false fg bg fl g0 g1 g2 g3 gl gr on rH rW rT rB = true) :
    Calls Try.prog 5 #[.agg #[.int .i64 x, .int .i64 y, .bool wr, .bool false, .int .i64 fg, .int .i64 bg, .int .i64 fl, .int .u8 g0, .int .u8 g1, .int .u8 g2, .int .u8 g3, .int .i64 gl, .int .i64 gr, .int .i64 on], .agg #[.int .i64 rH, .int .i64 rW, .int .i64 rT, .int .i64 rB], .int .i64 a, .int .i64 b] w fun e w' => e = .returned (.bool true) ∧ Grew w w' := by
  subst hYA
  have HB1 := Lib.hid hb1; have HB2 := Lib.hid hb2; clear hb1 hb2
  have F := facts hs
  obtain ⟨a1, a2, a3, a4, a5, a6, a7, a8, a9, a10, a11, a12, a13⟩ := F
  clear a12 a13
  have HX := Lib.hid hX
  have HY := Lib.hid hY
  have HS := Lib.hid hS
  clear hX hY hS
  have heq := eq_cur BB YY false false fg bg fl g0 g1 g2 g3 gl gr on
  go_enter Try.func5, Try.ntmps5
  go_wp2_with (first | (go_at_call 14; refine (awake_c _).mono ?_; rintro e w1 ⟨rfl, XA, dA, rfl⟩) | (go_at_call 15; refine (cur_c _ _ _ _ _ _ _ _ _ _ _ _ _ _ _).mono ?_; rintro e w1 ⟨rfl, XO, dO, rfl⟩) | (go_at_call 16; refine (place_c _ _ _ _ _).mono ?_; rintro e w1 ⟨rfl, XP, dP, rfl⟩) | (go_at_call 17; refine (csane_c _ _ _ _ _ _ _ _ _ _ _ _ _ _ _ _ _ _ _ HB1.out HB2.out).mono ?_; rintro e w1 ⟨rfl, X1, d1, rfl⟩) | (go_at_call 20; (with_reducible refine (to_exact _ _ BB YY _ _ _ _ _ _ _ _ _ _ _ _ _ _ _ _ _ _ _ hs HX.out HY.out).mono ?_); rintro e w1 ⟨rfl, X3, d3, rfl⟩) | (go_at_call 20; (with_reducible refine (to_exact _ _ BB YY _ _ _ _ _ _ _ _ _ _ _ _ _ _ _ _ _ _ _ HS.out HX.out HY.out).mono ?_); rintro e w1 ⟨rfl, X4, d4, rfl⟩) | (go_at_call 21; (with_reducible refine (column_exact _ BB _ _ _ _ _ _ _ _ _ _ _ _ _ _ _ _ _ _ _ hs HX.out).mono ?_); rintro e w1 ⟨rfl, X5, d5, rfl⟩))
  (refine wp_region_grew (by kernel_rfl) (by kernel_rfl) ?_; (repeat (quiet_step ((go_at_call 22; first | exact Calls.grew_add (plain_c _ _ _ _ _ _ _ _ _ _ _ _ _ _ _) | exact Calls.grew_of (plain_c _ _ _ _ _ _ _ _ _ _ _ _ _ _ _))))); refine wpQuiet_nil ?_; rintro _ ⟨⟨Xq, dq⟩, rfl⟩)
  go_wp2
  go_ret
  exact ⟨rfl, (Below.toGrow (by repeat (first | exact Below.refl _ _ | refine Below.grow ?_ (by (try simp); (try omega)) _ _ | refine Below.drewN' ?_ _ | refine Below.drew ?_ | refine Below.alloc ?_ (by (try simp); (try omega)) _ | refine Below.setCell ?_ (by (try simp); (try omega)) _)))⟩
set_option maxRecDepth 100000 in
set_option maxHeartbeats 2000000 in
theorem to_true1 (q' p' AA BB YY a b x y : Int) (wr : Bool) (fg bg fl g0 g1 g2 g3 gl gr on : Int) (rH rW rT rB : Int) (w : World) (hb1 : rW ≤ 9223372036854775807) (hb2 : -9223372036854775808 ≤ rW) (hs : csaneB x y wr true fg bg fl g0 g1 g2 g3 gl gr on rH rW rT rB = true)
    (hq : bits .and .i64 a 65535 = q') (hp : bits .and .i64 b 65535 = p') (hq0 : 0 ≤ q') (hp0 : 0 ≤ p') (hA : q' % rH = AA) (hB : p' % rW = BB) (hX : btw BB 0 (rW - 1) = BB) (hY : toY true AA rH rT rB = YY) (hA0 : 0 ≤ AA) (hm : rT + AA ≤ rB - 1) (hYA : YY = rT + AA) (hS : csaneB BB YY false true fg bg fl g0 g1 g2 g3 gl gr on rH rW rT rB = true) :
    Calls Try.prog 5 #[.agg #[.int .i64 x, .int .i64 y, .bool wr, .bool true, .int .i64 fg, .int .i64 bg, .int .i64 fl, .int .u8 g0, .int .u8 g1, .int .u8 g2, .int .u8 g3, .int .i64 gl, .int .i64 gr, .int .i64 on], .agg #[.int .i64 rH, .int .i64 rW, .int .i64 rT, .int .i64 rB], .int .i64 a, .int .i64 b] w fun e w' => e = .returned (.bool true) ∧ Grew w w' := by
  subst hYA
  have HB1 := Lib.hid hb1; have HB2 := Lib.hid hb2; clear hb1 hb2
  have F := facts hs
  obtain ⟨a1, a2, a3, a4, a5, a6, a7, a8, a9, a10, a11, a12, a13⟩ := F
  clear a12 a13
  have HX := Lib.hid hX
  have HY := Lib.hid hY
  have HS := Lib.hid hS
  clear hX hY hS
  have heq := eq_cur BB (rT + AA) false true fg bg fl g0 g1 g2 g3 gl gr on
  go_enter Try.func5, Try.ntmps5
  go_wp2_with (first | (go_at_call 14; refine (awake_c _).mono ?_; rintro e w1 ⟨rfl, XA, dA, rfl⟩) | (go_at_call 15; refine (cur_c _ _ _ _ _ _ _ _ _ _ _ _ _ _ _).mono ?_; rintro e w1 ⟨rfl, XO, dO, rfl⟩) | (go_at_call 16; refine (place_c _ _ _ _ _).mono ?_; rintro e w1 ⟨rfl, XP, dP, rfl⟩) | (go_at_call 17; refine (csane_c _ _ _ _ _ _ _ _ _ _ _ _ _ _ _ _ _ _ _ HB1.out HB2.out).mono ?_; rintro e w1 ⟨rfl, X1, d1, rfl⟩) | (go_at_call 20; (with_reducible refine (to_exact _ _ BB (rT + AA) _ _ _ _ _ _ _ _ _ _ _ _ _ _ _ _ _ _ _ hs HX.out HY.out).mono ?_); rintro e w1 ⟨rfl, X3, d3, rfl⟩) | (go_at_call 20; (with_reducible refine (to_exact _ _ BB (rT + AA) _ _ _ _ _ _ _ _ _ _ _ _ _ _ _ _ _ _ _ HS.out HX.out HY.out).mono ?_); rintro e w1 ⟨rfl, X4, d4, rfl⟩) | (go_at_call 21; (with_reducible refine (column_exact _ BB _ _ _ _ _ _ _ _ _ _ _ _ _ _ _ _ _ _ _ hs HX.out).mono ?_); rintro e w1 ⟨rfl, X5, d5, rfl⟩))
  (refine wp_region_grew (by kernel_rfl) (by kernel_rfl) ?_; (repeat (quiet_step ((go_at_call 22; first | exact Calls.grew_add (plain_c _ _ _ _ _ _ _ _ _ _ _ _ _ _ _) | exact Calls.grew_of (plain_c _ _ _ _ _ _ _ _ _ _ _ _ _ _ _))))); refine wpQuiet_nil ?_; rintro _ ⟨⟨Xq, dq⟩, rfl⟩)
  go_wp2
  go_ret
  exact ⟨rfl, (Below.toGrow (by repeat (first | exact Below.refl _ _ | refine Below.grow ?_ (by (try simp); (try omega)) _ _ | refine Below.drewN' ?_ _ | refine Below.drew ?_ | refine Below.alloc ?_ (by (try simp); (try omega)) _ | refine Below.setCell ?_ (by (try simp); (try omega)) _)))⟩
set_option maxRecDepth 100000 in
set_option maxHeartbeats 2000000 in
theorem to_true2 (q' p' AA BB YY a b x y : Int) (wr : Bool) (fg bg fl g0 g1 g2 g3 gl gr on : Int) (rH rW rT rB : Int) (w : World) (hb1 : rW ≤ 9223372036854775807) (hb2 : -9223372036854775808 ≤ rW) (hs : csaneB x y wr true fg bg fl g0 g1 g2 g3 gl gr on rH rW rT rB = true)
    (hq : bits .and .i64 a 65535 = q') (hp : bits .and .i64 b 65535 = p') (hq0 : 0 ≤ q') (hp0 : 0 ≤ p') (hA : q' % rH = AA) (hB : p' % rW = BB) (hX : btw BB 0 (rW - 1) = BB) (hY : toY true AA rH rT rB = YY) (hA0 : 0 ≤ AA) (hA1 : AA < rH) (hm : rB - 1 < rT + AA) (hYA : YY = rB - 1) (hS : csaneB BB YY false true fg bg fl g0 g1 g2 g3 gl gr on rH rW rT rB = true) :
    Calls Try.prog 5 #[.agg #[.int .i64 x, .int .i64 y, .bool wr, .bool true, .int .i64 fg, .int .i64 bg, .int .i64 fl, .int .u8 g0, .int .u8 g1, .int .u8 g2, .int .u8 g3, .int .i64 gl, .int .i64 gr, .int .i64 on], .agg #[.int .i64 rH, .int .i64 rW, .int .i64 rT, .int .i64 rB], .int .i64 a, .int .i64 b] w fun e w' => e = .returned (.bool true) ∧ Grew w w' := by
  subst hYA
  have HB1 := Lib.hid hb1; have HB2 := Lib.hid hb2; clear hb1 hb2
  have F := facts hs
  obtain ⟨a1, a2, a3, a4, a5, a6, a7, a8, a9, a10, a11, a12, a13⟩ := F
  clear a12 a13
  have HX := Lib.hid hX
  have HY := Lib.hid hY
  have HS := Lib.hid hS
  clear hX hY hS
  have heq := eq_cur BB (rB - 1) false true fg bg fl g0 g1 g2 g3 gl gr on
  go_enter Try.func5, Try.ntmps5
  go_wp2_with (first | (go_at_call 14; refine (awake_c _).mono ?_; rintro e w1 ⟨rfl, XA, dA, rfl⟩) | (go_at_call 15; refine (cur_c _ _ _ _ _ _ _ _ _ _ _ _ _ _ _).mono ?_; rintro e w1 ⟨rfl, XO, dO, rfl⟩) | (go_at_call 16; refine (place_c _ _ _ _ _).mono ?_; rintro e w1 ⟨rfl, XP, dP, rfl⟩) | (go_at_call 17; refine (csane_c _ _ _ _ _ _ _ _ _ _ _ _ _ _ _ _ _ _ _ HB1.out HB2.out).mono ?_; rintro e w1 ⟨rfl, X1, d1, rfl⟩) | (go_at_call 20; (with_reducible refine (to_exact _ _ BB (rB - 1) _ _ _ _ _ _ _ _ _ _ _ _ _ _ _ _ _ _ _ hs HX.out HY.out).mono ?_); rintro e w1 ⟨rfl, X3, d3, rfl⟩) | (go_at_call 20; (with_reducible refine (to_exact _ _ BB (rB - 1) _ _ _ _ _ _ _ _ _ _ _ _ _ _ _ _ _ _ _ HS.out HX.out HY.out).mono ?_); rintro e w1 ⟨rfl, X4, d4, rfl⟩) | (go_at_call 21; (with_reducible refine (column_exact _ BB _ _ _ _ _ _ _ _ _ _ _ _ _ _ _ _ _ _ _ hs HX.out).mono ?_); rintro e w1 ⟨rfl, X5, d5, rfl⟩))
  (refine wp_region_grew (by kernel_rfl) (by kernel_rfl) ?_; (repeat (quiet_step ((go_at_call 22; first | exact Calls.grew_add (plain_c _ _ _ _ _ _ _ _ _ _ _ _ _ _ _) | exact Calls.grew_of (plain_c _ _ _ _ _ _ _ _ _ _ _ _ _ _ _))))); refine wpQuiet_nil ?_; rintro _ ⟨⟨Xq, dq⟩, rfl⟩)
  go_wp2
  go_ret
  exact ⟨rfl, (Below.toGrow (by repeat (first | exact Below.refl _ _ | refine Below.grow ?_ (by (try simp); (try omega)) _ _ | refine Below.drewN' ?_ _ | refine Below.drew ?_ | refine Below.alloc ?_ (by (try simp); (try omega)) _ | refine Below.setCell ?_ (by (try simp); (try omega)) _)))⟩

theorem to_law (a b : Int) (x y : Int) (wr og : Bool) (fg bg fl g0 g1 g2 g3 gl gr on : Int) (rH rW rT rB : Int) (w : World) (hb1 : rW ≤ 9223372036854775807) (hb2 : -9223372036854775808 ≤ rW) : Calls Try.prog 5 #[.agg #[.int .i64 x, .int .i64 y, .bool wr, .bool og, .int .i64 fg, .int .i64 bg, .int .i64 fl, .int .u8 g0, .int .u8 g1, .int .u8 g2, .int .u8 g3, .int .i64 gl, .int .i64 gr, .int .i64 on], .agg #[.int .i64 rH, .int .i64 rW, .int .i64 rT, .int .i64 rB], .int .i64 a, .int .i64 b] w fun e w' => e = .returned (.bool true) ∧ Grew w w' := by
  cases hs : csaneB x y wr og fg bg fl g0 g1 g2 g3 gl gr on rH rW rT rB
  · exact to_insane a b x y wr og fg bg fl g0 g1 g2 g3 gl gr on rH rW rT rB w hb1 hb2 hs
  · have F := facts hs
    obtain ⟨a1, a2, a3, a4, a5, a6, a7, a8, a9, a10, a11, a12, a13⟩ := F
    have e1 : bits .and .i64 a 65535 = a % 65536 := and_mask 16 (by omega) a
    have e2 : bits .and .i64 b 65535 = b % 65536 := and_mask 16 (by omega) b
    have q0 : 0 ≤ a % 65536 := Int.emod_nonneg _ (by omega)
    have p0 : 0 ≤ b % 65536 := Int.emod_nonneg _ (by omega)
    have A0 : 0 ≤ a % 65536 % rH := Int.emod_nonneg _ (by omega)
    have A1 : a % 65536 % rH < rH := Int.emod_lt_of_pos _ (by omega)
    have B0 : 0 ≤ b % 65536 % rW := Int.emod_nonneg _ (by omega)
    have B1 : b % 65536 % rW < rW := Int.emod_lt_of_pos _ (by omega)
    generalize hq' : a % 65536 = q' at e1 q0 A0 A1
    generalize hp' : b % 65536 = p' at e2 p0 B0 B1
    generalize hA : q' % rH = AA at A0 A1
    generalize hB : p' % rW = BB at B0 B1
    have hX : btw BB 0 (rW - 1) = BB := btw_id B0 (by omega)
    cases og
    · have hY : toY false AA rH rT rB = AA := btw_id A0 (by omega)
      exact to_false q' p' AA BB AA a b x y wr fg bg fl g0 g1 g2 g3 gl gr on rH rW rT rB w hb1 hb2 hs e1 e2 q0 p0 hA hB hX hY rfl
        (csane_mk hs ⟨a1, a2, a3, a4, a5, a6, a7, B0, B1, A0, A1, (fun h => by cases h), (fun h => by cases h)⟩)
    · have hY : toY true AA rH rT rB = btw (rT + AA) rT (rB - 1) := by
        show btw (rT + btw AA (-4096) 4096) rT (rB - 1) = _
        rw [btw_id (v := AA) (by omega) (by omega)]
      by_cases hm : rT + AA ≤ rB - 1
      · rw [btw_id (by omega) hm] at hY
        exact to_true1 q' p' AA BB (rT + AA) a b x y wr fg bg fl g0 g1 g2 g3 gl gr on rH rW rT rB w hb1 hb2 hs e1 e2 q0 p0 hA hB hX hY A0 hm rfl
          (csane_mk hs ⟨a1, a2, a3, a4, a5, a6, a7, B0, B1, by omega, by omega, (fun h => by cases h), (fun _ => by omega)⟩)
      · have e : btw (rT + AA) rT (rB - 1) = rB - 1 := by unfold btw; omega
        rw [e] at hY
        exact to_true2 q' p' AA BB (rB - 1) a b x y wr fg bg fl g0 g1 g2 g3 gl gr on rH rW rT rB w hb1 hb2 hs e1 e2 q0 p0 hA hB hX hY A0 A1 (by omega) rfl
          (csane_mk hs ⟨a1, a2, a3, a4, a5, a6, a7, B0, B1, by omega, by omega, (fun h => by cases h), (fun _ => by omega)⟩)
end Go.Proofs.Ytpcpgoeahndlfaa.Cur
