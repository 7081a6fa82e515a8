/- Walks of cursor's small functions and of cursor.Sane. -/
import Derived.Test.YtpcpgoeahndlfaaCset
import Derived.Test.YtpcpgoeahndlfaaPen
namespace Go.Proofs.Ytpcpgoeahndlfaa.Cur
open Go.RowKit

theorem eint {k : IntKind} {a b : Int} (h : a = b) : Ending.returned (.int k a) = .returned (.int k b) := by rw [h]
theorem ebool {a b : Bool} (h : a = b) : Ending.returned (.bool a) = .returned (.bool b) := by rw [h]
def btw (v l m : Int) : Int := max l (min v m)
def regionB (rH rW rT rB : Int) : Bool := (decide (1 ≤ rH) && decide (rH ≤ 1000) && decide (1 ≤ rW) && decide (rW ≤ 4096)) && (decide (0 ≤ rT) && decide (rT < rB) && decide (rB ≤ rH))
def insideB (y rT rB : Int) : Bool := decide (rT ≤ y) && decide (y < rB)

theorem between_c (v l m : Int) (w : World) : Calls Try.prog 39 #[.int .i64 v, .int .i64 l, .int .i64 m] w fun e w' => e = .returned (.int .i64 (btw v l m)) ∧ w = w' := by
  go_enter Try.func39, Try.ntmps39
  go_wp2
  all_goals (go_ret; refine ⟨eint ?_, rfl⟩)
  all_goals (unfold btw; omega)

theorem region_c (rH rW rT rB : Int) (w : World) : Calls Try.prog 33 #[.agg #[.int .i64 rH, .int .i64 rW, .int .i64 rT, .int .i64 rB]] w fun e w' => e = .returned (.bool (regionB rH rW rT rB)) ∧ Grew w w' := by
  go_enter Try.func33, Try.ntmps33
  go_wp2
  all_goals (go_ret; refine ⟨?_, (Below.toGrow (by repeat (first | (with_reducible exact Below.refl _ _) | (with_reducible assumption) | (with_reducible refine Below.grow ?_ ?_ _ _) | (with_reducible refine Below.drewN' ?_ _) | (with_reducible refine Below.drew ?_) | (with_reducible refine Below.alloc ?_ ?_ _) | (with_reducible refine Below.setCell ?_ ?_ _) | omega | (focus (simp; done)) | (focus (simp; omega)))))⟩)
  all_goals (congr 2 <;> first | (simp [regionB, *]; done) | (simp [regionB, *]; omega))

theorem inside_c (x y : Int) (wr og : Bool) (fg bg fl g0 g1 g2 g3 gl gr on : Int) (rH rW rT rB : Int) (w : World) : Calls Try.prog 34 #[.agg #[.int .i64 x, .int .i64 y, .bool wr, .bool og, .int .i64 fg, .int .i64 bg, .int .i64 fl, .int .u8 g0, .int .u8 g1, .int .u8 g2, .int .u8 g3, .int .i64 gl, .int .i64 gr, .int .i64 on], .agg #[.int .i64 rH, .int .i64 rW, .int .i64 rT, .int .i64 rB]] w fun e w' => e = .returned (.bool (insideB y rT rB)) ∧ Grew w w' := by
  go_enter Try.func34, Try.ntmps34
  go_wp2
  all_goals (go_ret; refine ⟨?_, (Below.toGrow (by repeat (first | (with_reducible exact Below.refl _ _) | (with_reducible assumption) | (with_reducible refine Below.grow ?_ ?_ _ _) | (with_reducible refine Below.drewN' ?_ _) | (with_reducible refine Below.drew ?_) | (with_reducible refine Below.alloc ?_ ?_ _) | (with_reducible refine Below.setCell ?_ ?_ _) | omega | (focus (simp; done)) | (focus (simp; omega)))))⟩)
  all_goals (congr 2 <;> first | (simp [insideB, *]; done) | (simp [insideB, *]; omega))

theorem full_c (h v : Int) (w : World) : Calls Try.prog 37 #[.int .i64 h, .int .i64 v] w fun e w' => e = .returned (.agg #[.int .i64 h, .int .i64 v, .int .i64 0, .int .i64 h]) ∧ Grew w w' := by
  go_enter Try.func37, Try.ntmps37
  go_wp2
  (refine bodyPost_ret (v := _) (by (simp [results, Try.results37, go_sem]; exact rfl)) rfl ⟨?_, (Below.toGrow (by repeat (first | (with_reducible exact Below.refl _ _) | (with_reducible assumption) | (with_reducible refine Below.grow ?_ ?_ _ _) | (with_reducible refine Below.drewN' ?_ _) | (with_reducible refine Below.drew ?_) | (with_reducible refine Below.alloc ?_ ?_ _) | (with_reducible refine Below.setCell ?_ ?_ _) | omega | (focus (simp; done)) | (focus (simp; omega)))))⟩; exact rfl)

theorem further_c (v b l m : Int) (w : World) (h0 : 0 ≤ v) (h1 : v ≤ 4096) : Calls Try.prog 38 #[.int .i64 v, .int .i64 b, .int .i64 l, .int .i64 m] w fun e w' => e = .returned (.int .i64 (btw (v + btw b (-4096) 4096) l m)) ∧ w = w' := by
  have hb : -4096 ≤ btw b (-4096) 4096 ∧ btw b (-4096) 4096 ≤ 4096 := by unfold btw; omega
  go_enter Try.func38, Try.ntmps38
  go_wp2_with fail
  refine (between_c _ _ _ _).mono ?_
  rintro e w1 ⟨rfl, rfl⟩
  go_wp2_with fail
  refine (between_c _ _ _ _).mono ?_
  rintro e w1 ⟨rfl, rfl⟩
  go_wp2_with fail
  go_ret
  exact ⟨rfl, rfl⟩

def restB (x y : Int) (wr og : Bool) (rH rW rT rB : Int) : Bool := (decide (0 ≤ x) && decide (x < rW) && decide (0 ≤ y) && decide (y < rH)) && ((!wr || x == rW - 1) && (!og || insideB y rT rB))
def csaneB (x y : Int) (wr og : Bool) (fg bg fl g0 g1 g2 g3 gl gr on rH rW rT rB : Int) : Bool := regionB rH rW rT rB && (restB x y wr og rH rW rT rB && (Pen.saneB fg bg fl && Char.saneB g0 g1 g2 g3 gl gr on))

set_option maxHeartbeats 2000000 in
theorem csane_c (x y : Int) (wr og : Bool) (fg bg fl g0 g1 g2 g3 gl gr on : Int) (rH rW rT rB : Int) (w : World) (hW : rW ≤ 9223372036854775807) (hW' : -9223372036854775808 ≤ rW) : Calls Try.prog 17 #[.agg #[.int .i64 x, .int .i64 y, .bool wr, .bool og, .int .i64 fg, .int .i64 bg, .int .i64 fl, .int .u8 g0, .int .u8 g1, .int .u8 g2, .int .u8 g3, .int .i64 gl, .int .i64 gr, .int .i64 on], .agg #[.int .i64 rH, .int .i64 rW, .int .i64 rT, .int .i64 rB]] w fun e w' => e = .returned (.bool (csaneB x y wr og fg bg fl g0 g1 g2 g3 gl gr on rH rW rT rB)) ∧ Grew w w' := by
  have HW := Lib.hid hW
  have HW' := Lib.hid hW'
  clear hW hW'
  cases hr : regionB rH rW rT rB
  · go_enter Try.func17, Try.ntmps17
    go_wp2_with (first | (go_at_call 33; refine (region_c _ _ _ _ _).mono ?_; rintro e w1 ⟨rfl, X1, d1, rfl⟩))
    all_goals (go_ret; refine ⟨by simp [csaneB, hr], (Below.toGrow (by repeat (first | (with_reducible exact Below.refl _ _) | (with_reducible assumption) | (with_reducible refine Below.grow ?_ ?_ _ _) | (with_reducible refine Below.drewN' ?_ _) | (with_reducible refine Below.drew ?_) | (with_reducible refine Below.alloc ?_ ?_ _) | (with_reducible refine Below.setCell ?_ ?_ _) | omega | (focus (simp; done)) | (focus (simp; omega)))))⟩)
  · have h1 : 1 ≤ rW := by unfold regionB at hr; simp at hr; omega
    have h2 : rW ≤ 4096 := by unfold regionB at hr; simp at hr; omega
    cases og <;> cases wr
    all_goals
      go_enter Try.func17, Try.ntmps17
      go_wp2_with (first | (go_at_call 33; refine (region_c _ _ _ _ _).mono ?_; rintro e w1 ⟨rfl, X1, d1, rfl⟩) | (go_at_call 34; refine (inside_c _ _ _ _ _ _ _ _ _ _ _ _ _ _ _ _ _ _ _).mono ?_; rintro e w1 ⟨rfl, X2, d2, rfl⟩) | (go_at_call 35; refine (Pen.sane_c _ _ _ _).mono ?_; rintro e w1 ⟨rfl, X3, d3, rfl⟩) | (go_at_call 36; refine (Char.sane_c _ _ _ _ _ _ _ _).mono ?_; rintro e w1 ⟨rfl, X4, d4, rfl⟩))
    all_goals (go_ret; refine ⟨ebool ?_, (Below.toGrow (by repeat (first | (with_reducible exact Below.refl _ _) | (with_reducible assumption) | (with_reducible refine Below.grow ?_ ?_ _ _) | (with_reducible refine Below.drewN' ?_ _) | (with_reducible refine Below.drew ?_) | (with_reducible refine Below.alloc ?_ ?_ _) | (with_reducible refine Below.setCell ?_ ?_ _) | omega | (focus (simp; done)) | (focus (simp; omega)))))⟩)
    all_goals first | (simp [csaneB, restB, *]; done) | (simp [csaneB, restB, *]; omega) | (simp_all [csaneB, restB]; done) | (simp_all [csaneB, restB]; omega)
end Go.Proofs.Ytpcpgoeahndlfaa.Cur
