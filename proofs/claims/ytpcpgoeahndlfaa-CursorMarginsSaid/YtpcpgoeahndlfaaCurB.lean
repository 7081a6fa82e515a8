/- Walks of cursor.In, To, Column, Report, Move. -/
import Derived.Test.YtpcpgoeahndlfaaCurA
import Derived.Test.YtpcpgoeahndlfaaGrewQ
namespace Go.Proofs.Ytpcpgoeahndlfaa.Cur
open Go.RowKit


/-- what is known of a cursor that may be -/
structure Facts (x y : Int) (wr og : Bool) (rH rW rT rB : Int) : Prop where
  h1 : 1 ≤ rH
  h2 : rH ≤ 1000
  w1 : 1 ≤ rW
  w2 : rW ≤ 4096
  t0 : 0 ≤ rT
  tb : rT < rB
  bh : rB ≤ rH
  x0 : 0 ≤ x
  x1 : x < rW
  y0 : 0 ≤ y
  y1 : y < rH
  wx : wr = true → x = rW - 1
  oy : og = true → rT ≤ y ∧ y < rB

theorem facts {x y : Int} {wr og : Bool} {fg bg fl g0 g1 g2 g3 gl gr on rH rW rT rB : Int} (h : csaneB x y wr og fg bg fl g0 g1 g2 g3 gl gr on rH rW rT rB = true) : Facts x y wr og rH rW rT rB := by
  unfold csaneB regionB restB insideB at h
  simp at h
  obtain ⟨⟨⟨⟨⟨a1, a2⟩, a3⟩, a4⟩, ⟨a5, a6⟩, a7⟩, ⟨⟨⟨⟨a8, a9⟩, a10⟩, a11⟩, a12, a13⟩, _⟩ := h
  refine ⟨a1, a2, a3, a4, a5, a6, a7, a8, a9, a10, a11, fun hw => ?_, fun ho => ?_⟩
  · rcases a12 with h | h
    · rw [h] at hw; cases hw
    · exact h
  · rcases a13 with h | h
    · rw [h] at ho; cases ho
    · exact h
theorem csane_mk {x y : Int} {wr og : Bool} {fg bg fl g0 g1 g2 g3 gl gr on rH rW rT rB : Int} {x' y' : Int} {wr' og' : Bool} {rH' rW' rT' rB' : Int} (h : csaneB x y wr og fg bg fl g0 g1 g2 g3 gl gr on rH rW rT rB = true) (F : Facts x' y' wr' og' rH' rW' rT' rB') : csaneB x' y' wr' og' fg bg fl g0 g1 g2 g3 gl gr on rH' rW' rT' rB' = true := by
  obtain ⟨a1, a2, a3, a4, a5, a6, a7, a8, a9, a10, a11, a12, a13⟩ := F
  unfold csaneB at h ⊢
  simp only [Bool.and_eq_true] at h ⊢
  refine ⟨by unfold regionB; simp [*], ?_, h.2.2⟩
  unfold restB insideB
  cases wr' <;> cases og' <;> simp_all

def toY (og : Bool) (q rH rT rB : Int) : Int := if og then btw (rT + btw q (-4096) 4096) rT (rB - 1) else btw q 0 (rH - 1)

set_option maxHeartbeats 1000000 in
theorem to_c (q p : Int) (x y : Int) (wr og : Bool) (fg bg fl g0 g1 g2 g3 gl gr on : Int) (rH rW rT rB : Int) (w : World) (hs : csaneB x y wr og fg bg fl g0 g1 g2 g3 gl gr on rH rW rT rB = true) : Calls Try.prog 20 #[.agg #[.int .i64 x, .int .i64 y, .bool wr, .bool og, .int .i64 fg, .int .i64 bg, .int .i64 fl, .int .u8 g0, .int .u8 g1, .int .u8 g2, .int .u8 g3, .int .i64 gl, .int .i64 gr, .int .i64 on], .agg #[.int .i64 rH, .int .i64 rW, .int .i64 rT, .int .i64 rB], .int .i64 q, .int .i64 p] w fun e w' => e = .returned (.agg #[.int .i64 (btw p 0 (rW - 1)), .int .i64 (toY og q rH rT rB), .bool false, .bool og, .int .i64 fg, .int .i64 bg, .int .i64 fl, .int .u8 g0, .int .u8 g1, .int .u8 g2, .int .u8 g3, .int .i64 gl, .int .i64 gr, .int .i64 on]) ∧ Grew w w' := by
  obtain ⟨a1, a2, a3, a4, a5, a6, a7, _, _, _, _, _, _⟩ := facts hs
  have HB1 := Lib.hid (show rW ≤ 9223372036854775807 by omega)
  have HB2 := Lib.hid (show -9223372036854775808 ≤ rW by omega)
  unfold toY
  cases og
  all_goals
    go_enter Try.func20, Try.ntmps20
    go_wp2_with (first | (go_at_call 17; refine (csane_c _ _ _ _ _ _ _ _ _ _ _ _ _ _ _ _ _ _ _ HB1.out HB2.out).mono ?_; rintro e w1 ⟨rfl, X1, d1, rfl⟩) | (go_at_call 39; refine (between_c _ _ _ _).mono ?_; rintro e w1 ⟨rfl, rfl⟩) | (go_at_call 38; refine (further_c _ _ _ _ _ (by omega) (by omega)).mono ?_; rintro e w1 ⟨rfl, rfl⟩))
    (refine bodyPost_ret (v := _) (by (simp [results, Try.results20, go_sem]; exact rfl)) rfl ⟨?_, (Below.toGrow (by repeat (first | (with_reducible exact Below.refl _ _) | (with_reducible assumption) | (with_reducible refine Below.grow ?_ ?_ _ _) | (with_reducible refine Below.drewN' ?_ _) | (with_reducible refine Below.drew ?_) | (with_reducible refine Below.alloc ?_ ?_ _) | (with_reducible refine Below.setCell ?_ ?_ _) | omega | (focus (simp; done)) | (focus (simp; omega)))))⟩; exact rfl)

set_option maxHeartbeats 1000000 in
theorem column_c (p : Int) (x y : Int) (wr og : Bool) (fg bg fl g0 g1 g2 g3 gl gr on : Int) (rH rW rT rB : Int) (w : World) (hs : csaneB x y wr og fg bg fl g0 g1 g2 g3 gl gr on rH rW rT rB = true) : Calls Try.prog 21 #[.agg #[.int .i64 x, .int .i64 y, .bool wr, .bool og, .int .i64 fg, .int .i64 bg, .int .i64 fl, .int .u8 g0, .int .u8 g1, .int .u8 g2, .int .u8 g3, .int .i64 gl, .int .i64 gr, .int .i64 on], .agg #[.int .i64 rH, .int .i64 rW, .int .i64 rT, .int .i64 rB], .int .i64 p] w fun e w' => e = .returned (.agg #[.int .i64 (btw p 0 (rW - 1)), .int .i64 y, .bool false, .bool og, .int .i64 fg, .int .i64 bg, .int .i64 fl, .int .u8 g0, .int .u8 g1, .int .u8 g2, .int .u8 g3, .int .i64 gl, .int .i64 gr, .int .i64 on]) ∧ Grew w w' := by
  obtain ⟨a1, a2, a3, a4, a5, a6, a7, _, _, _, _, _, _⟩ := facts hs
  have HB1 := Lib.hid (show rW ≤ 9223372036854775807 by omega)
  have HB2 := Lib.hid (show -9223372036854775808 ≤ rW by omega)
  go_enter Try.func21, Try.ntmps21
  go_wp2_with (first | (go_at_call 17; refine (csane_c _ _ _ _ _ _ _ _ _ _ _ _ _ _ _ _ _ _ _ HB1.out HB2.out).mono ?_; rintro e w1 ⟨rfl, X1, d1, rfl⟩) | (go_at_call 39; refine (between_c _ _ _ _).mono ?_; rintro e w1 ⟨rfl, rfl⟩) | (go_at_call 38; refine (further_c _ _ _ _ _ (by omega) (by omega)).mono ?_; rintro e w1 ⟨rfl, rfl⟩))
  (refine bodyPost_ret (v := _) (by (simp [results, Try.results21, go_sem]; exact rfl)) rfl ⟨?_, (Below.toGrow (by repeat (first | (with_reducible exact Below.refl _ _) | (with_reducible assumption) | (with_reducible refine Below.grow ?_ ?_ _ _) | (with_reducible refine Below.drewN' ?_ _) | (with_reducible refine Below.drew ?_) | (with_reducible refine Below.alloc ?_ ?_ _) | (with_reducible refine Below.setCell ?_ ?_ _) | omega | (focus (simp; done)) | (focus (simp; omega)))))⟩; exact rfl)

def inB (x y : Int) (wr og : Bool) (fg bg fl g0 g1 g2 g3 gl gr on rH rW rT rB : Int) : Bool := csaneB x y wr og fg bg fl g0 g1 g2 g3 gl gr on rH rW rT rB && insideB y rT rB
theorem in_c (x y : Int) (wr og : Bool) (fg bg fl g0 g1 g2 g3 gl gr on : Int) (rH rW rT rB : Int) (w : World) (hs : csaneB x y wr og fg bg fl g0 g1 g2 g3 gl gr on rH rW rT rB = true) : Calls Try.prog 18 #[.agg #[.int .i64 x, .int .i64 y, .bool wr, .bool og, .int .i64 fg, .int .i64 bg, .int .i64 fl, .int .u8 g0, .int .u8 g1, .int .u8 g2, .int .u8 g3, .int .i64 gl, .int .i64 gr, .int .i64 on], .agg #[.int .i64 rH, .int .i64 rW, .int .i64 rT, .int .i64 rB]] w fun e w' => e = .returned (.bool (insideB y rT rB)) ∧ Grew w w' := by
  obtain ⟨a1, a2, a3, a4, a5, a6, a7, _, _, _, _, _, _⟩ := facts hs
  have HB1 := Lib.hid (show rW ≤ 9223372036854775807 by omega)
  have HB2 := Lib.hid (show -9223372036854775808 ≤ rW by omega)
  go_enter Try.func18, Try.ntmps18
  go_wp2_with (first | (go_at_call 17; refine (csane_c _ _ _ _ _ _ _ _ _ _ _ _ _ _ _ _ _ _ _ HB1.out HB2.out).mono ?_; rintro e w1 ⟨rfl, X1, d1, rfl⟩) | (go_at_call 34; refine (inside_c _ _ _ _ _ _ _ _ _ _ _ _ _ _ _ _ _ _ _).mono ?_; rintro e w1 ⟨rfl, X2, d2, rfl⟩))
  go_ret
  exact ⟨rfl, (Below.toGrow (by repeat (first | (with_reducible exact Below.refl _ _) | (with_reducible assumption) | (with_reducible refine Below.grow ?_ ?_ _ _) | (with_reducible refine Below.drewN' ?_ _) | (with_reducible refine Below.drew ?_) | (with_reducible refine Below.alloc ?_ ?_ _) | (with_reducible refine Below.setCell ?_ ?_ _) | omega | (focus (simp; done)) | (focus (simp; omega)))))⟩

set_option maxHeartbeats 1000000 in
theorem report_c (x y : Int) (wr og : Bool) (fg bg fl g0 g1 g2 g3 gl gr on : Int) (rH rW rT rB : Int) (w : World) (hs : csaneB x y wr og fg bg fl g0 g1 g2 g3 gl gr on rH rW rT rB = true) : Calls Try.prog 23 #[.agg #[.int .i64 x, .int .i64 y, .bool wr, .bool og, .int .i64 fg, .int .i64 bg, .int .i64 fl, .int .u8 g0, .int .u8 g1, .int .u8 g2, .int .u8 g3, .int .i64 gl, .int .i64 gr, .int .i64 on], .agg #[.int .i64 rH, .int .i64 rW, .int .i64 rT, .int .i64 rB]] w fun e w' => e = .returned (.tuple #[.int .i64 ((if og then y - rT else y) + 1), .int .i64 (x + 1)]) ∧ Grew w w' := by
  obtain ⟨a1, a2, a3, a4, a5, a6, a7, a8, a9, a10, a11, _, _⟩ := facts hs
  have HB1 := Lib.hid (show rW ≤ 9223372036854775807 by omega)
  have HB2 := Lib.hid (show -9223372036854775808 ≤ rW by omega)
  cases og
  all_goals
    go_enter Try.func23, Try.ntmps23
    go_wp2_with (first | (go_at_call 17; refine (csane_c _ _ _ _ _ _ _ _ _ _ _ _ _ _ _ _ _ _ _ HB1.out HB2.out).mono ?_; rintro e w1 ⟨rfl, X1, d1, rfl⟩))
    go_quiet (fail)
    go_wp2
    go_ret2
    exact ⟨rfl, (Below.toGrow (by repeat (first | (with_reducible exact Below.refl _ _) | (with_reducible assumption) | (with_reducible refine Below.grow ?_ ?_ _ _) | (with_reducible refine Below.drewN' ?_ _) | (with_reducible refine Below.drew ?_) | (with_reducible refine Below.alloc ?_ ?_ _) | (with_reducible refine Below.setCell ?_ ?_ _) | omega | (focus (simp; done)) | (focus (simp; omega)))))⟩
end Go.Proofs.Ytpcpgoeahndlfaa.Cur
