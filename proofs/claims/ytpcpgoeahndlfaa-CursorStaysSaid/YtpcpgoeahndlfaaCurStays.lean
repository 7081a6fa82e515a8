/- The law's walk: CursorStays. -/
import Derived.Test.YtpcpgoeahndlfaaCurR
import Derived.LoopN
namespace Go.Proofs.Ytpcpgoeahndlfaa.Cur
open Go.RowKit
attribute [local go_sem] Nat.add_assoc Nat.add_pos_iff_pos_or_pos lt_add_r

theorem grew_into {P : Program} {f : FuncId} {args : Array Value} {w1 : World} {v : Value} {C : World → Prop} (hC : ∀ (Y : Array Obj) (e' : Nat), C (w1.grow Y e')) (h : Calls P f args w1 fun e w' => e = .returned v ∧ Grew w1 w') :
    Calls P f args w1 fun e w'' => e = .returned v ∧ C w'' :=
  h.mono fun _ _ ⟨he, Y, e', hw⟩ => ⟨he, by rw [hw]; exact hC Y e'⟩
theorem neq_pen (fg bg fl : Int) (w : World) : (binOp .neq 34 (.agg #[.int .i64 fg, .int .i64 bg, .int .i64 fl]) (.agg #[.int .i64 fg, .int .i64 bg, .int .i64 fl])).run Try.prog w = .ok (.bool false) w := by
  simp [go_sem, binOp, Op.equal, Op.maxDepth]
theorem eql_pen (fg bg fl : Int) (w : World) : (binOp .eql 34 (.agg #[.int .i64 fg, .int .i64 bg, .int .i64 fl]) (.agg #[.int .i64 fg, .int .i64 bg, .int .i64 fl])).run Try.prog w = .ok (.bool true) w := by
  simp [go_sem]
theorem neq_set (g0 g1 g2 g3 gl gr on : Int) (w : World) : (binOp .neq 43 (.agg #[.int .u8 g0, .int .u8 g1, .int .u8 g2, .int .u8 g3, .int .i64 gl, .int .i64 gr, .int .i64 on]) (.agg #[.int .u8 g0, .int .u8 g1, .int .u8 g2, .int .u8 g3, .int .i64 gl, .int .i64 gr, .int .i64 on])).run Try.prog w = .ok (.bool false) w := by
  obtain ⟨i, hi⟩ := info_ok (P := Try.prog) (e := 5) (by kernel_rfl)
  have hc : Try.prog.cellsOf 5 = 1 := by kernel_rfl
  have h := fun (d : Nat) (w : World) => run_equalIn_array (P := Try.prog) (w := w) (d + 1) #[.int .u8 g0, .int .u8 g1, .int .u8 g2, .int .u8 g3] #[.int .u8 g0, .int .u8 g1, .int .u8 g2, .int .u8 g3] Try.underlying35 hi
  rw [hc] at h
  have h' : ∀ (d : Nat) (w : World), (Op.equalIn (d + 2) 35 (.agg #[.int .u8 g0, .int .u8 g1, .int .u8 g2, .int .u8 g3]) (.agg #[.int .u8 g0, .int .u8 g1, .int .u8 g2, .int .u8 g3])).run Try.prog w = .ok true w := fun d w => by
    rw [h d w]
    simp [go_sem, List.range, List.range.loop]
  simp [go_sem, binOp, Op.equal, Op.maxDepth, h']
set_option maxHeartbeats 1000000 in
theorem stays_insane (a b : Int) (x y : Int) (wr og : Bool) (fg bg fl g0 g1 g2 g3 gl gr on : Int) (rH rW rT rB : Int) (w : World) (hb1 : rW ≤ 9223372036854775807) (hb2 : -9223372036854775808 ≤ rW) (hs : csaneB x y wr og fg bg fl g0 g1 g2 g3 gl gr on rH rW rT rB = false) : Calls Try.prog 7 #[.agg #[.int .i64 x, .int .i64 y, .bool wr, .bool og, .int .i64 fg, .int .i64 bg, .int .i64 fl, .int .u8 g0, .int .u8 g1, .int .u8 g2, .int .u8 g3, .int .i64 gl, .int .i64 gr, .int .i64 on], .agg #[.int .i64 rH, .int .i64 rW, .int .i64 rT, .int .i64 rB], .int .i64 a, .int .i64 b] w fun e w' => e = .returned (.bool true) ∧ Grew w w' := by
  have HB1 := Lib.hid hb1; have HB2 := Lib.hid hb2; clear hb1 hb2
  go_enter Try.func7, Try.ntmps7
  go_wp2_with (first | (go_at_call 14; refine (awake_c _).mono ?_; rintro e w1 ⟨rfl, XA, dA, rfl⟩) | (go_at_call 15; refine (cur_c _ _ _ _ _ _ _ _ _ _ _ _ _ _ _).mono ?_; rintro e w1 ⟨rfl, XO, dO, rfl⟩) | (go_at_call 16; refine (place_c _ _ _ _ _).mono ?_; rintro e w1 ⟨rfl, XP, dP, rfl⟩) | (go_at_call 17; refine (csane_c _ _ _ _ _ _ _ _ _ _ _ _ _ _ _ _ _ _ _ HB1.out HB2.out).mono ?_; rintro e w1 ⟨rfl, X1, d1, rfl⟩))
  go_ret
  exact ⟨rfl, (Below.toGrow (by repeat (first | exact Below.refl _ _ | refine Below.grow ?_ (by (try simp); (try omega)) _ _ | refine Below.drewN' ?_ _ | refine Below.drew ?_ | refine Below.alloc ?_ (by (try simp); (try omega)) _ | refine Below.setCell ?_ (by (try simp); (try omega)) _)))⟩

theorem move_exact (dy dx X Y : Int) (x y : Int) (wr og : Bool) (fg bg fl g0 g1 g2 g3 gl gr on : Int) (rH rW rT rB : Int) (w : World) (hs : csaneB x y wr og fg bg fl g0 g1 g2 g3 gl gr on rH rW rT rB = true) (hX : btw (x + btw dx (-4096) 4096) 0 (rW - 1) = X) (hY : moveY y dy rH rT rB = Y) :
    Calls Try.prog 19 #[.agg #[.int .i64 x, .int .i64 y, .bool wr, .bool og, .int .i64 fg, .int .i64 bg, .int .i64 fl, .int .u8 g0, .int .u8 g1, .int .u8 g2, .int .u8 g3, .int .i64 gl, .int .i64 gr, .int .i64 on], .agg #[.int .i64 rH, .int .i64 rW, .int .i64 rT, .int .i64 rB], .int .i64 dy, .int .i64 dx] w fun e w' => e = .returned (.agg #[.int .i64 X, .int .i64 Y, .bool false, .bool og, .int .i64 fg, .int .i64 bg, .int .i64 fl, .int .u8 g0, .int .u8 g1, .int .u8 g2, .int .u8 g3, .int .i64 gl, .int .i64 gr, .int .i64 on]) ∧ Grew w w' := by
  subst hX hY
  exact move_c dy dx x y wr og fg bg fl g0 g1 g2 g3 gl gr on rH rW rT rB w hs
theorem to_exact' (q p X Y : Int) (x y : Int) (wr og : Bool) (fg bg fl g0 g1 g2 g3 gl gr on : Int) (rH rW rT rB : Int) (w : World) (hs : csaneB x y wr og fg bg fl g0 g1 g2 g3 gl gr on rH rW rT rB = true) (hX : btw p 0 (rW - 1) = X) (hY : toY og q rH rT rB = Y) :
    Calls Try.prog 20 #[.agg #[.int .i64 x, .int .i64 y, .bool wr, .bool og, .int .i64 fg, .int .i64 bg, .int .i64 fl, .int .u8 g0, .int .u8 g1, .int .u8 g2, .int .u8 g3, .int .i64 gl, .int .i64 gr, .int .i64 on], .agg #[.int .i64 rH, .int .i64 rW, .int .i64 rT, .int .i64 rB], .int .i64 q, .int .i64 p] w fun e w' => e = .returned (.agg #[.int .i64 X, .int .i64 Y, .bool false, .bool og, .int .i64 fg, .int .i64 bg, .int .i64 fl, .int .u8 g0, .int .u8 g1, .int .u8 g2, .int .u8 g3, .int .i64 gl, .int .i64 gr, .int .i64 on]) ∧ Grew w w' := by
  subst hX hY
  exact to_c q p x y wr og fg bg fl g0 g1 g2 g3 gl gr on rH rW rT rB w hs
theorem column_exact' (p X : Int) (x y : Int) (wr og : Bool) (fg bg fl g0 g1 g2 g3 gl gr on : Int) (rH rW rT rB : Int) (w : World) (hs : csaneB x y wr og fg bg fl g0 g1 g2 g3 gl gr on rH rW rT rB = true) (hX : btw p 0 (rW - 1) = X) :
    Calls Try.prog 21 #[.agg #[.int .i64 x, .int .i64 y, .bool wr, .bool og, .int .i64 fg, .int .i64 bg, .int .i64 fl, .int .u8 g0, .int .u8 g1, .int .u8 g2, .int .u8 g3, .int .i64 gl, .int .i64 gr, .int .i64 on], .agg #[.int .i64 rH, .int .i64 rW, .int .i64 rT, .int .i64 rB], .int .i64 p] w fun e w' => e = .returned (.agg #[.int .i64 X, .int .i64 y, .bool false, .bool og, .int .i64 fg, .int .i64 bg, .int .i64 fl, .int .u8 g0, .int .u8 g1, .int .u8 g2, .int .u8 g3, .int .i64 gl, .int .i64 gr, .int .i64 on]) ∧ Grew w w' := by
  subst hX
  exact column_c p x y wr og fg bg fl g0 g1 g2 g3 gl gr on rH rW rT rB w hs
theorem resize_exact (h v X Y nH nW : Int) (x y : Int) (wr og : Bool) (fg bg fl g0 g1 g2 g3 gl gr on : Int) (rH rW rT rB : Int) (w : World) (hs : csaneB x y wr og fg bg fl g0 g1 g2 g3 gl gr on rH rW rT rB = true) (hH : btw h 1 1000 = nH) (hW : btw v 1 4096 = nW) (hX : btw x 0 (nW - 1) = X) (hY : btw y 0 (nH - 1) = Y) :
    Calls Try.prog 24 #[.agg #[.int .i64 x, .int .i64 y, .bool wr, .bool og, .int .i64 fg, .int .i64 bg, .int .i64 fl, .int .u8 g0, .int .u8 g1, .int .u8 g2, .int .u8 g3, .int .i64 gl, .int .i64 gr, .int .i64 on], .agg #[.int .i64 rH, .int .i64 rW, .int .i64 rT, .int .i64 rB], .int .i64 h, .int .i64 v] w fun e w' => e = .returned (.tuple #[.agg #[.int .i64 X, .int .i64 Y, .bool false, .bool false, .int .i64 fg, .int .i64 bg, .int .i64 fl, .int .u8 g0, .int .u8 g1, .int .u8 g2, .int .u8 g3, .int .i64 gl, .int .i64 gr, .int .i64 on], .agg #[.int .i64 nH, .int .i64 nW, .int .i64 0, .int .i64 nH]]) ∧ Grew w w' := by
  subst hX hY hH hW
  exact resize_c h v x y wr og fg bg fl g0 g1 g2 g3 gl gr on rH rW rT rB w hs
set_option maxRecDepth 100000 in
set_option maxHeartbeats 8000000 in
theorem stays_sane (mx my tx ty cx rx ry nH nW a b : Int) (x y : Int) (wr og : Bool) (fg bg fl g0 g1 g2 g3 gl gr on : Int) (rH rW rT rB : Int) (w : World) (hb1 : rW ≤ 9223372036854775807) (hb2 : -9223372036854775808 ≤ rW) (hs : csaneB x y wr og fg bg fl g0 g1 g2 g3 gl gr on rH rW rT rB = true)
    (hM1 : btw (x + btw b (-4096) 4096) 0 (rW - 1) = mx) (hM2 : moveY y a rH rT rB = my) (hT1 : btw b 0 (rW - 1) = tx) (hT2 : toY og a rH rT rB = ty) (hC : btw a 0 (rW - 1) = cx)
    (hR1 : btw a 1 1000 = nH) (hR2 : btw b 1 4096 = nW) (hR3 : btw x 0 (nW - 1) = rx) (hR4 : btw y 0 (nH - 1) = ry) (sR : csaneB rx ry false false fg bg fl g0 g1 g2 g3 gl gr on nH nW 0 nH = true) (hn1 : nW ≤ 9223372036854775807) (hn2 : -9223372036854775808 ≤ nW)
    (sM : csaneB mx my false og fg bg fl g0 g1 g2 g3 gl gr on rH rW rT rB = true) (sT : csaneB tx ty false og fg bg fl g0 g1 g2 g3 gl gr on rH rW rT rB = true) (sC : csaneB cx y false og fg bg fl g0 g1 g2 g3 gl gr on rH rW rT rB = true) :
    Calls Try.prog 7 #[.agg #[.int .i64 x, .int .i64 y, .bool wr, .bool og, .int .i64 fg, .int .i64 bg, .int .i64 fl, .int .u8 g0, .int .u8 g1, .int .u8 g2, .int .u8 g3, .int .i64 gl, .int .i64 gr, .int .i64 on], .agg #[.int .i64 rH, .int .i64 rW, .int .i64 rT, .int .i64 rB], .int .i64 a, .int .i64 b] w fun e w' => e = .returned (.bool true) ∧ Grew w w' := by
  have HB1 := Lib.hid hb1; have HB2 := Lib.hid hb2; clear hb1 hb2
  have HM1 := Lib.hid hM1
  have HM2 := Lib.hid hM2
  have HT1 := Lib.hid hT1
  have HT2 := Lib.hid hT2
  have HC := Lib.hid hC
  have HR1 := Lib.hid hR1
  have HR2 := Lib.hid hR2
  have HR3 := Lib.hid hR3
  have HR4 := Lib.hid hR4
  have HN1 := Lib.hid hn1
  have HN2 := Lib.hid hn2
  clear hM1 hM2 hT1 hT2 hC hR1 hR2 hR3 hR4 hn1 hn2
  have q1 := neq_pen fg bg fl
  have q2 := eql_pen fg bg fl
  have q3 := neq_set g0 g1 g2 g3 gl gr on
  go_enter Try.func7, Try.ntmps7
  go_wp2_with (first | (go_at_call 14; refine (awake_c _).mono ?_; rintro e w1 ⟨rfl, XA, dA, rfl⟩) | (go_at_call 15; refine (cur_c _ _ _ _ _ _ _ _ _ _ _ _ _ _ _).mono ?_; rintro e w1 ⟨rfl, XO, dO, rfl⟩) | (go_at_call 16; refine (place_c _ _ _ _ _).mono ?_; rintro e w1 ⟨rfl, XP, dP, rfl⟩) | (go_at_call 17; refine (csane_c _ _ _ _ _ _ _ _ _ _ _ _ _ _ _ _ _ _ _ HB1.out HB2.out).mono ?_; rintro e w1 ⟨rfl, X1, d1, rfl⟩))
  go_region_held3 (fun w' => w'.cell? ⟨w.heap.size + (2 + (XA.size + XO.size)), 0, none⟩ = some (.int .i64 x) ∧ w'.cell? ⟨w.heap.size + (2 + (XA.size + XO.size)), 1, none⟩ = some (.int .i64 y) ∧ w'.cell? ⟨w.heap.size + (2 + (XA.size + XO.size)), 2, none⟩ = some (.bool wr) ∧ w'.cell? ⟨w.heap.size + (2 + (XA.size + XO.size)), 3, none⟩ = some (.bool og) ∧ w'.cell? ⟨w.heap.size + (2 + (XA.size + XO.size)), 4, none⟩ = some (.int .i64 fg) ∧ w'.cell? ⟨w.heap.size + (2 + (XA.size + XO.size)), 5, none⟩ = some (.int .i64 bg) ∧ w'.cell? ⟨w.heap.size + (2 + (XA.size + XO.size)), 6, none⟩ = some (.int .i64 fl) ∧ w'.cell? ⟨w.heap.size + (2 + (XA.size + XO.size)), 7, none⟩ = some (.int .u8 g0) ∧ w'.cell? ⟨w.heap.size + (2 + (XA.size + XO.size)), 8, none⟩ = some (.int .u8 g1) ∧ w'.cell? ⟨w.heap.size + (2 + (XA.size + XO.size)), 9, none⟩ = some (.int .u8 g2) ∧ w'.cell? ⟨w.heap.size + (2 + (XA.size + XO.size)), 10, none⟩ = some (.int .u8 g3) ∧ w'.cell? ⟨w.heap.size + (2 + (XA.size + XO.size)), 11, none⟩ = some (.int .i64 gl) ∧ w'.cell? ⟨w.heap.size + (2 + (XA.size + XO.size)), 12, none⟩ = some (.int .i64 gr) ∧ w'.cell? ⟨w.heap.size + (2 + (XA.size + XO.size)), 13, none⟩ = some (.int .i64 on) ∧ w'.cell? ⟨w.heap.size + (2 + (XA.size + (XO.size + (1 + XP.size)))), 0, none⟩ = some (.int .i64 rH) ∧ w'.cell? ⟨w.heap.size + (2 + (XA.size + (XO.size + (1 + XP.size)))), 1, none⟩ = some (.int .i64 rW) ∧ w'.cell? ⟨w.heap.size + (2 + (XA.size + (XO.size + (1 + XP.size)))), 2, none⟩ = some (.int .i64 rT) ∧ w'.cell? ⟨w.heap.size + (2 + (XA.size + (XO.size + (1 + XP.size)))), 3, none⟩ = some (.int .i64 rB)) (go_simp) (first | (go_at_call 19; (with_reducible refine (move_exact _ _ mx my _ _ _ _ _ _ _ _ _ _ _ _ _ _ _ _ _ _ _ hs HM1.out HM2.out).mono ?_); rintro e w1 ⟨rfl, X3, d3, rfl⟩) | (go_at_call 20; (with_reducible refine (to_exact' _ _ tx ty _ _ _ _ _ _ _ _ _ _ _ _ _ _ _ _ _ _ _ hs HT1.out HT2.out).mono ?_); rintro e w1 ⟨rfl, X4, d4, rfl⟩) | (go_at_call 21; (with_reducible refine (column_exact' _ cx _ _ _ _ _ _ _ _ _ _ _ _ _ _ _ _ _ _ _ hs HC.out).mono ?_); rintro e w1 ⟨rfl, X5, d5, rfl⟩))
  all_goals go_wp2
  refine wp_loop_rounds 4 ?_
  iterate 3
    rw [rounds_succ]
    go_wp2_with fail
    (refine wp_region_grew (by kernel_rfl) (by kernel_rfl) ?_; (repeat (quiet_step ((go_at_call 17; exact grew_into (fun Y e' => ⟨⟨_, e'⟩, by simp only [World.grow_grow, Array.append_assoc]; exact rfl⟩) (csane_c _ _ _ _ _ _ _ _ _ _ _ _ _ _ _ _ _ _ _ HB1.out HB2.out))))); refine wpQuiet_nil ?_; rintro _ ⟨⟨Xq, dq⟩, rfl⟩)
    go_wp2_with fail
  rw [rounds_succ]
  go_wp2_with fail
  refine (resize_exact _ _ rx ry nH nW _ _ _ _ _ _ _ _ _ _ _ _ _ _ _ _ _ _ _ hs HR1.out HR2.out HR3.out HR4.out).mono ?_
  rintro e w1 ⟨rfl, X6, d6, rfl⟩
  go_wp2_with fail
  (refine wp_region_grew (by kernel_rfl) (by kernel_rfl) ?_; (repeat (quiet_step ((go_at_call 17; exact grew_into (fun Y e' => ⟨⟨_, e'⟩, by simp only [World.grow_grow]; exact rfl⟩) (csane_c _ _ _ _ _ _ _ _ _ _ _ _ _ _ _ _ _ _ _ HN1.out HN2.out))))); refine wpQuiet_nil ?_; rintro _ ⟨⟨Xr, dr⟩, rfl⟩)
  go_wp2_with fail
  go_ret
  exact ⟨rfl, (Below.toGrow (by repeat (first | exact Below.refl _ _ | refine Below.grow ?_ (by (try simp); (try omega)) _ _ | refine Below.drewN' ?_ _ | refine Below.drew ?_ | refine Below.alloc ?_ (by (try simp); (try omega)) _ | refine Below.setCell ?_ (by (try simp); (try omega)) _)))⟩

theorem stays_law (a b : Int) (x y : Int) (wr og : Bool) (fg bg fl g0 g1 g2 g3 gl gr on : Int) (rH rW rT rB : Int) (w : World) (hb1 : rW ≤ 9223372036854775807) (hb2 : -9223372036854775808 ≤ rW) : Calls Try.prog 7 #[.agg #[.int .i64 x, .int .i64 y, .bool wr, .bool og, .int .i64 fg, .int .i64 bg, .int .i64 fl, .int .u8 g0, .int .u8 g1, .int .u8 g2, .int .u8 g3, .int .i64 gl, .int .i64 gr, .int .i64 on], .agg #[.int .i64 rH, .int .i64 rW, .int .i64 rT, .int .i64 rB], .int .i64 a, .int .i64 b] w fun e w' => e = .returned (.bool true) ∧ Grew w w' := by
  cases hs : csaneB x y wr og fg bg fl g0 g1 g2 g3 gl gr on rH rW rT rB
  · exact stays_insane a b x y wr og fg bg fl g0 g1 g2 g3 gl gr on rH rW rT rB w hb1 hb2 hs
  · have F := facts hs
    obtain ⟨a1, a2, a3, a4, a5, a6, a7, a8, a9, a10, a11, a12, a13⟩ := F
    have k1 := btw_in (v := a) (show (1 : Int) ≤ 1000 by omega)
    have k2 := btw_in (v := b) (show (1 : Int) ≤ 4096 by omega)
    have k3 := btw_in (v := x) (show (0 : Int) ≤ btw b 1 4096 - 1 by omega)
    have k4 := btw_in (v := y) (show (0 : Int) ≤ btw a 1 1000 - 1 by omega)
    have m1 := btw_in (v := x + btw b (-4096) 4096) (show (0 : Int) ≤ rW - 1 by omega)
    have t1 := btw_in (v := b) (show (0 : Int) ≤ rW - 1 by omega)
    have c1 := btw_in (v := a) (show (0 : Int) ≤ rW - 1 by omega)
    have m2 : 0 ≤ moveY y a rH rT rB ∧ moveY y a rH rT rB < rH ∧ (og = true → rT ≤ moveY y a rH rT rB ∧ moveY y a rH rT rB < rB) := by
      unfold moveY
      by_cases h1 : rT ≤ y
      · by_cases h2 : y < rB
        · rw [if_pos h1, if_pos h2]
          have := btw_in (v := y + btw a (-4096) 4096) (show rT ≤ rB - 1 by omega)
          exact ⟨by omega, by omega, fun _ => by omega⟩
        · rw [if_pos h1, if_neg h2]
          have := btw_in (v := y + btw a (-4096) 4096) (show rT ≤ rH - 1 by omega)
          exact ⟨by omega, by omega, fun h => absurd (a13 h).2 h2⟩
      · rw [if_neg h1, if_pos (by omega)]
        have := btw_in (v := y + btw a (-4096) 4096) (show (0 : Int) ≤ rB - 1 by omega)
        exact ⟨by omega, by omega, fun h => absurd (a13 h).1 h1⟩
    have t2 : 0 ≤ toY og a rH rT rB ∧ toY og a rH rT rB < rH ∧ (og = true → rT ≤ toY og a rH rT rB ∧ toY og a rH rT rB < rB) := by
      unfold toY
      have b2 := btw_in (v := a) (show (0 : Int) ≤ rH - 1 by omega)
      have b3 := btw_in (v := rT + btw a (-4096) 4096) (show rT ≤ rB - 1 by omega)
      cases og <;> simp <;> omega
    exact stays_sane _ _ _ _ _ _ _ _ _ a b x y wr og fg bg fl g0 g1 g2 g3 gl gr on rH rW rT rB w hb1 hb2 hs rfl rfl rfl rfl rfl rfl rfl rfl rfl
      (csane_mk hs ⟨k1.1, k1.2, k2.1, k2.2, by omega, by omega, by omega, k3.1, by omega, k4.1, by omega, (fun h => by cases h), (fun h => by cases h)⟩) (by omega) (by omega)
      (csane_mk hs ⟨a1, a2, a3, a4, a5, a6, a7, m1.1, by omega, m2.1, m2.2.1, (fun h => by cases h), m2.2.2⟩)
      (csane_mk hs ⟨a1, a2, a3, a4, a5, a6, a7, t1.1, by omega, t2.1, t2.2.1, (fun h => by cases h), t2.2.2⟩)
      (csane_mk hs ⟨a1, a2, a3, a4, a5, a6, a7, c1.1, by omega, a10, a11, (fun h => by cases h), a13⟩)
end Go.Proofs.Ytpcpgoeahndlfaa.Cur
