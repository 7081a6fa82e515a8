/- Joined: Cset Pen CurA GrewQ CurB CurM CurN CurT CurR. -/
import Derived.Test.YtlchffkabpfjpaaGreatBase
import Derived.Deep.RegionWith
section
/- Walks of charset's functions that do not map: what each returns; below the first new block nothing is changed. -/
namespace Go.Proofs.YtlchffkabpfjpaaGreat.Char
open Go.RowKit

/-- may a byte tell a set? -/
def isSetB (f : Int) : Bool := f == 66 || f == 48 || f == 65
def isPlaceB (n : Int) : Bool := decide (0 ≤ n) && decide (n ≤ 3)
def isShiftB (n : Int) : Bool := n == 2 || n == 3
def ukF (r : Int) : Int := if r = 35 then 163 else r
def saneB (g0 g1 g2 g3 gl gr on : Int) : Bool := isSetB g0 && (isSetB g1 && (isSetB g2 && (isSetB g3 && (isPlaceB gl && (isPlaceB gr && (on == 0 || isShiftB on))))))

theorem isSet_c (f : Int) (w : World) : Calls Tryz.prog 77 #[.int .u8 f] w fun e w' => e = .returned (.bool (isSetB f)) ∧ w = w' := by
  go_enter Tryz.func77, Tryz.ntmps77
  go_wp2
  all_goals (go_ret; exact ⟨by simp [isSetB, *], rfl⟩)

theorem isPlace_c (f : Int) (w : World) : Calls Tryz.prog 78 #[.int .i64 f] w fun e w' => e = .returned (.bool (isPlaceB f)) ∧ w = w' := by
  go_enter Tryz.func78, Tryz.ntmps78
  go_wp2
  all_goals (go_ret; refine ⟨?_, rfl⟩)
  · have h : 0 ≤ f := by assumption
    simp [isPlaceB, h]
  · have h : f < 0 := by assumption
    have h' : ¬ (0 ≤ f) := by omega
    simp [isPlaceB, h']

theorem isShift_c (f : Int) (w : World) : Calls Tryz.prog 79 #[.int .i64 f] w fun e w' => e = .returned (.bool (isShiftB f)) ∧ w = w' := by
  go_enter Tryz.func79, Tryz.ntmps79
  go_wp2
  all_goals (go_ret; exact ⟨by simp [isShiftB, *], rfl⟩)

theorem new_c (w : World) : Calls Tryz.prog 65 #[] w fun e w' => e = .returned (.agg #[.int .u8 66, .int .u8 66, .int .u8 66, .int .u8 66, .int .i64 0, .int .i64 2, .int .i64 0]) ∧ Grew w w' := by
  go_enter Tryz.func65, Tryz.ntmps65
  go_wp2
  exact bodyPost_ret (v := .agg #[.int .u8 66, .int .u8 66, .int .u8 66, .int .u8 66, .int .i64 0, .int .i64 2, .int .i64 0]) (by simp [results, Tryz.results65, go_sem]) rfl ⟨rfl, ((Below.refl _ _).alloc (Nat.le_refl _) _).toGrow⟩

theorem sane_c (g0 g1 g2 g3 gl gr on : Int) (w : World) : Calls Tryz.prog 43 #[.agg #[.int .u8 g0, .int .u8 g1, .int .u8 g2, .int .u8 g3, .int .i64 gl, .int .i64 gr, .int .i64 on]] w fun e w' => e = .returned (.bool (saneB g0 g1 g2 g3 gl gr on)) ∧ Grew w w' := by
  have i0 : ∀ w : World, (Instr.index 27 (.agg #[.int .u8 g0, .int .u8 g1, .int .u8 g2, .int .u8 g3]) (.int .i64 0)).run Tryz.prog w = .ok (.int .u8 g0) w := fun _ => by kernel_rfl
  have i1 : ∀ w : World, (Instr.index 27 (.agg #[.int .u8 g0, .int .u8 g1, .int .u8 g2, .int .u8 g3]) (.int .i64 1)).run Tryz.prog w = .ok (.int .u8 g1) w := fun _ => by kernel_rfl
  have i2 : ∀ w : World, (Instr.index 27 (.agg #[.int .u8 g0, .int .u8 g1, .int .u8 g2, .int .u8 g3]) (.int .i64 2)).run Tryz.prog w = .ok (.int .u8 g2) w := fun _ => by kernel_rfl
  have i3 : ∀ w : World, (Instr.index 27 (.agg #[.int .u8 g0, .int .u8 g1, .int .u8 g2, .int .u8 g3]) (.int .i64 3)).run Tryz.prog w = .ok (.int .u8 g3) w := fun _ => by kernel_rfl
  go_enter Tryz.func43, Tryz.ntmps43
  go_wp2
  refine wp_loop_rounds 5 ?_
  iterate 5
    all_goals (try (rw [rounds_succ]; go_wp2_with (first | (go_at_call 77; refine (isSet_c _ _).mono ?_; rintro e w' ⟨rfl, rfl⟩))))
  all_goals (try (go_wp2_with (first | (go_at_call 78; refine (isPlace_c _ _).mono ?_; rintro e w' ⟨rfl, rfl⟩) | (go_at_call 79; refine (isShift_c _ _).mono ?_; rintro e w' ⟨rfl, rfl⟩))))
  all_goals (go_ret; refine ⟨?_, ((Below.refl _ _).alloc (Nat.le_refl _) _).toGrow⟩)
  all_goals (simp_all [saneB])

end Go.Proofs.YtlchffkabpfjpaaGreat.Char
end
section
/- Walks of pen.isColour and pen.Sane. -/
namespace Go.Proofs.YtlchffkabpfjpaaGreat.Pen
open Go.RowKit

def isColourB (c : Int) : Bool := (decide (0 ≤ c) && decide (c ≤ 256)) || (decide (16777216 ≤ c) && decide (c < 33554432))
def saneB (fg bg fl : Int) : Bool := isColourB fg && (isColourB bg && (decide (0 ≤ fl) && decide (fl ≤ 511)))

theorem isColour_c (c : Int) (w : World) : Calls Tryz.prog 76 #[.int .i64 c] w fun e w' => e = .returned (.bool (isColourB c)) ∧ w = w' := by
  unfold isColourB
  go_enter Tryz.func76, Tryz.ntmps76
  go_wp2
  all_goals (go_ret; refine ⟨?_, rfl⟩)
  all_goals (congr 2 <;> first | (simp [*]; done) | (simp [*]; omega))

theorem sane_c (fg bg fl : Int) (w : World) : Calls Tryz.prog 42 #[.agg #[.int .i64 fg, .int .i64 bg, .int .i64 fl]] w fun e w' => e = .returned (.bool (saneB fg bg fl)) ∧ Grew w w' := by
  go_enter Tryz.func42, Tryz.ntmps42
  go_wp2_with (first | (go_at_call 76; refine (isColour_c _ _).mono ?_; rintro e w' ⟨rfl, rfl⟩))
  all_goals (go_ret; refine ⟨?_, (Below.toGrow (by exact bcAll))⟩)
  all_goals (congr 2 <;> first | (simp [saneB, *]; done) | (simp [saneB, *]; omega))
end Go.Proofs.YtlchffkabpfjpaaGreat.Pen
end
section
/- Walks of cursor's small functions and of cursor.Sane. -/
namespace Go.Proofs.YtlchffkabpfjpaaGreat.Cur
open Go.RowKit

theorem eint {k : IntKind} {a b : Int} (h : a = b) : Ending.returned (.int k a) = .returned (.int k b) := by rw [h]
theorem ebool {a b : Bool} (h : a = b) : Ending.returned (.bool a) = .returned (.bool b) := by rw [h]
def btw (v l m : Int) : Int := max l (min v m)
def regionB (rH rW rT rB : Int) : Bool := (decide (1 ≤ rH) && decide (rH ≤ 1000) && decide (1 ≤ rW) && decide (rW ≤ 4096)) && (decide (0 ≤ rT) && decide (rT < rB) && decide (rB ≤ rH))
def insideB (y rT rB : Int) : Bool := decide (rT ≤ y) && decide (y < rB)

theorem between_c (v l m : Int) (w : World) : Calls Tryz.prog 64 #[.int .i64 v, .int .i64 l, .int .i64 m] w fun e w' => e = .returned (.int .i64 (btw v l m)) ∧ w = w' := by
  go_enter Tryz.func64, Tryz.ntmps64
  go_wp2
  all_goals (go_ret; refine ⟨eint ?_, rfl⟩)
  all_goals (unfold btw; omega)

theorem region_c (rH rW rT rB : Int) (w : World) : Calls Tryz.prog 40 #[.agg #[.int .i64 rH, .int .i64 rW, .int .i64 rT, .int .i64 rB]] w fun e w' => e = .returned (.bool (regionB rH rW rT rB)) ∧ Grew w w' := by
  go_enter Tryz.func40, Tryz.ntmps40
  go_wp2
  all_goals (go_ret; refine ⟨?_, (Below.toGrow (by exact bcAll))⟩)
  all_goals (congr 2 <;> first | (simp [regionB, *]; done) | (simp [regionB, *]; omega))

theorem inside_c (x y : Int) (wr og : Bool) (fg bg fl g0 g1 g2 g3 gl gr on : Int) (rH rW rT rB : Int) (w : World) : Calls Tryz.prog 41 #[.agg #[.int .i64 x, .int .i64 y, .bool wr, .bool og, .int .i64 fg, .int .i64 bg, .int .i64 fl, .int .u8 g0, .int .u8 g1, .int .u8 g2, .int .u8 g3, .int .i64 gl, .int .i64 gr, .int .i64 on], .agg #[.int .i64 rH, .int .i64 rW, .int .i64 rT, .int .i64 rB]] w fun e w' => e = .returned (.bool (insideB y rT rB)) ∧ Grew w w' := by
  go_enter Tryz.func41, Tryz.ntmps41
  go_wp2
  all_goals (go_ret; refine ⟨?_, (Below.toGrow (by exact bcAll))⟩)
  all_goals (congr 2 <;> first | (simp [insideB, *]; done) | (simp [insideB, *]; omega))

theorem full_c (h v : Int) (w : World) : Calls Tryz.prog 63 #[.int .i64 h, .int .i64 v] w fun e w' => e = .returned (.agg #[.int .i64 h, .int .i64 v, .int .i64 0, .int .i64 h]) ∧ Grew w w' := by
  go_enter Tryz.func63, Tryz.ntmps63
  go_wp2
  (refine bodyPost_ret (v := _) (by (simp [results, Tryz.results63, go_sem]; exact rfl)) rfl ⟨?_, (Below.toGrow (by exact bcAll))⟩; exact rfl)

def restB (x y : Int) (wr og : Bool) (rH rW rT rB : Int) : Bool := (decide (0 ≤ x) && decide (x < rW) && decide (0 ≤ y) && decide (y < rH)) && ((!wr || x == rW - 1) && (!og || insideB y rT rB))
def csaneB (x y : Int) (wr og : Bool) (fg bg fl g0 g1 g2 g3 gl gr on rH rW rT rB : Int) : Bool := regionB rH rW rT rB && (restB x y wr og rH rW rT rB && (Pen.saneB fg bg fl && Char.saneB g0 g1 g2 g3 gl gr on))

set_option maxHeartbeats 2000000 in
theorem csane_c (x y : Int) (wr og : Bool) (fg bg fl g0 g1 g2 g3 gl gr on : Int) (rH rW rT rB : Int) (w : World) (hW : rW ≤ 9223372036854775807) (hW' : -9223372036854775808 ≤ rW) : Calls Tryz.prog 14 #[.agg #[.int .i64 x, .int .i64 y, .bool wr, .bool og, .int .i64 fg, .int .i64 bg, .int .i64 fl, .int .u8 g0, .int .u8 g1, .int .u8 g2, .int .u8 g3, .int .i64 gl, .int .i64 gr, .int .i64 on], .agg #[.int .i64 rH, .int .i64 rW, .int .i64 rT, .int .i64 rB]] w fun e w' => e = .returned (.bool (csaneB x y wr og fg bg fl g0 g1 g2 g3 gl gr on rH rW rT rB)) ∧ Grew w w' := by
  have HW := Lib.hid hW
  have HW' := Lib.hid hW'
  clear hW hW'
  cases hr : regionB rH rW rT rB
  · go_enter Tryz.func14, Tryz.ntmps14
    go_wp2_with (first | (go_at_call 40; refine (region_c _ _ _ _ _).mono ?_; rintro e w1 ⟨rfl, X1, d1, rfl⟩))
    all_goals (go_ret; refine ⟨by simp [csaneB, hr], (Below.toGrow (by exact bcAll))⟩)
  · have h1 : 1 ≤ rW := by unfold regionB at hr; simp at hr; omega
    have h2 : rW ≤ 4096 := by unfold regionB at hr; simp at hr; omega
    cases og <;> cases wr
    all_goals
      go_enter Tryz.func14, Tryz.ntmps14
      go_wp2_with (first | (go_at_call 40; refine (region_c _ _ _ _ _).mono ?_; rintro e w1 ⟨rfl, X1, d1, rfl⟩) | (go_at_call 41; refine (inside_c _ _ _ _ _ _ _ _ _ _ _ _ _ _ _ _ _ _ _).mono ?_; rintro e w1 ⟨rfl, X2, d2, rfl⟩) | (go_at_call 42; refine (Pen.sane_c _ _ _ _).mono ?_; rintro e w1 ⟨rfl, X3, d3, rfl⟩) | (go_at_call 43; refine (Char.sane_c _ _ _ _ _ _ _ _).mono ?_; rintro e w1 ⟨rfl, X4, d4, rfl⟩))
    all_goals (go_ret; refine ⟨ebool ?_, (Below.toGrow (by exact bcAll))⟩)
    all_goals first | (simp [csaneB, restB, *]; done) | (simp [csaneB, restB, *]; omega) | (simp_all [csaneB, restB]; done) | (simp_all [csaneB, restB]; omega)
end Go.Proofs.YtlchffkabpfjpaaGreat.Cur
end
section
/- A region that draws its order, whose operations only read and whose callees only make new memory: walked once, in the order of the text. -/
namespace Go
open Go.RowKit

/-- new blocks and draws -/
structure GExt where
  X : Array Obj
  d : Nat
instance : Inhabited GExt := ⟨⟨#[], 0⟩⟩

section
variable {P : Program} {Q : Exit → Act → World → Prop} {a : Act} {w : World}
end
end Go
end
section
/- Walks of cursor.In, To, Column, Report, Move. -/
namespace Go.Proofs.YtlchffkabpfjpaaGreat.Cur
open Go.RowKit


/-- what is known of a cursor that may be -/
structure Facts (x y : Int) (wr og : Bool) (rH rW rT rB : Int) : Prop where
  h1 : 1 ≤ rH
  h2 : rH ≤ 1000
  w1 : 1 ≤ rW
  w2 : rW ≤ 4096
  t0 : 0 ≤ rT
  tb : rT < rB
  bh : rB ≤ rH
  x0 : 0 ≤ x
  x1 : x < rW
  y0 : 0 ≤ y
  y1 : y < rH
  wx : wr = true → x = rW - 1
  oy : og = true → rT ≤ y ∧ y < rB

theorem facts {x y : Int} {wr og : Bool} {fg bg fl g0 g1 g2 g3 gl gr on rH rW rT rB : Int} (h : csaneB x y wr og fg bg fl g0 g1 g2 g3 gl gr on rH rW rT rB = true) : Facts x y wr og rH rW rT rB := by
  unfold csaneB regionB restB insideB at h
  simp at h
  obtain ⟨⟨⟨⟨⟨a1, a2⟩, a3⟩, a4⟩, ⟨a5, a6⟩, a7⟩, ⟨⟨⟨⟨a8, a9⟩, a10⟩, a11⟩, a12, a13⟩, _⟩ := h
  refine ⟨a1, a2, a3, a4, a5, a6, a7, a8, a9, a10, a11, fun hw => ?_, fun ho => ?_⟩
  · rcases a12 with h | h
    · rw [h] at hw; cases hw
    · exact h
  · rcases a13 with h | h
    · rw [h] at ho; cases ho
    · exact h
theorem csane_mk {x y : Int} {wr og : Bool} {fg bg fl g0 g1 g2 g3 gl gr on rH rW rT rB : Int} {x' y' : Int} {wr' og' : Bool} {rH' rW' rT' rB' : Int} (h : csaneB x y wr og fg bg fl g0 g1 g2 g3 gl gr on rH rW rT rB = true) (F : Facts x' y' wr' og' rH' rW' rT' rB') : csaneB x' y' wr' og' fg bg fl g0 g1 g2 g3 gl gr on rH' rW' rT' rB' = true := by
  obtain ⟨a1, a2, a3, a4, a5, a6, a7, a8, a9, a10, a11, a12, a13⟩ := F
  unfold csaneB at h ⊢
  simp only [Bool.and_eq_true] at h ⊢
  refine ⟨by unfold regionB; simp [*], ?_, h.2.2⟩
  unfold restB insideB
  cases wr' <;> cases og' <;> simp_all

def toY (og : Bool) (q rH rT rB : Int) : Int := if og then btw (rT + btw q (-4096) 4096) rT (rB - 1) else btw q 0 (rH - 1)

def inB (x y : Int) (wr og : Bool) (fg bg fl g0 g1 g2 g3 gl gr on rH rW rT rB : Int) : Bool := csaneB x y wr og fg bg fl g0 g1 g2 g3 gl gr on rH rW rT rB && insideB y rT rB
theorem in_c (x y : Int) (wr og : Bool) (fg bg fl g0 g1 g2 g3 gl gr on : Int) (rH rW rT rB : Int) (w : World) (hs : csaneB x y wr og fg bg fl g0 g1 g2 g3 gl gr on rH rW rT rB = true) : Calls Tryz.prog 89 #[.agg #[.int .i64 x, .int .i64 y, .bool wr, .bool og, .int .i64 fg, .int .i64 bg, .int .i64 fl, .int .u8 g0, .int .u8 g1, .int .u8 g2, .int .u8 g3, .int .i64 gl, .int .i64 gr, .int .i64 on], .agg #[.int .i64 rH, .int .i64 rW, .int .i64 rT, .int .i64 rB]] w fun e w' => e = .returned (.bool (insideB y rT rB)) ∧ Grew w w' := by
  obtain ⟨a1, a2, a3, a4, a5, a6, a7, _, _, _, _, _, _⟩ := facts hs
  have HB1 := Lib.hid (show rW ≤ 9223372036854775807 by omega)
  have HB2 := Lib.hid (show -9223372036854775808 ≤ rW by omega)
  go_enter Tryz.func89, Tryz.ntmps89
  go_wp2_with (first | (go_at_call 14; refine (csane_c _ _ _ _ _ _ _ _ _ _ _ _ _ _ _ _ _ _ _ HB1.out HB2.out).mono ?_; rintro e w1 ⟨rfl, X1, d1, rfl⟩) | (go_at_call 41; refine (inside_c _ _ _ _ _ _ _ _ _ _ _ _ _ _ _ _ _ _ _).mono ?_; rintro e w1 ⟨rfl, X2, d2, rfl⟩))
  go_ret
  exact ⟨rfl, (Below.toGrow (by exact bcAll))⟩

end Go.Proofs.YtlchffkabpfjpaaGreat.Cur
end
section
/- The walk of cursor.Move. -/
namespace Go.Proofs.YtlchffkabpfjpaaGreat.Cur
open Go.RowKit
def moveY (y dy rH rT rB : Int) : Int := btw (y + btw dy (-4096) 4096) (if rT ≤ y then rT else 0) ((if y < rB then rB else rH) - 1)
end Go.Proofs.YtlchffkabpfjpaaGreat.Cur
end
section
/- Walks of cursor.New, Margins, Resize; the law's converters; its example. -/
namespace Go.Proofs.YtlchffkabpfjpaaGreat.Cur
open Go.RowKit
theorem lt_add_r (a b x : Nat) (h : a < b) : (a < b + x) = True := by simp; omega
attribute [local go_sem] Nat.add_assoc Nat.add_pos_iff_pos_or_pos lt_add_r


theorem new_c (h v : Int) (w : World) : Calls Tryz.prog 30 #[.int .i64 h, .int .i64 v] w fun e w' => e = .returned (.tuple #[.agg #[.int .i64 0, .int .i64 0, .bool false, .bool false, .int .i64 0, .int .i64 0, .int .i64 0, .int .u8 66, .int .u8 66, .int .u8 66, .int .u8 66, .int .i64 0, .int .i64 2, .int .i64 0], .agg #[.int .i64 (btw h 1 1000), .int .i64 (btw v 1 4096), .int .i64 0, .int .i64 (btw h 1 1000)]]) ∧ Grew w w' := by
  go_enter Tryz.func30, Tryz.ntmps30
  go_wp2_with (first | (go_at_call 64; refine (between_c _ _ _ _).mono ?_; rintro e w1 ⟨rfl, rfl⟩) | (go_at_call 63; refine (full_c _ _ _).mono ?_; rintro e w1 ⟨rfl, X5, d5, rfl⟩))
  go_region_with (go_at_call 65; refine (Char.new_c _).mono ?_; rintro e w1 ⟨rfl, X6, d6, rfl⟩)
  all_goals go_wp2
  all_goals (refine bodyPost_ret (v := _) (by (simp [results, Tryz.results30, go_sem]; exact rfl)) rfl ⟨?_, (Below.toGrow (by exact bcAll))⟩; exact rfl)

theorem sane0 (x y : Int) (h1 : 0 ≤ x) (h2 : x < 8) (h3 : 0 ≤ y) (h4 : y < 5) : csaneB x y false false 0 0 0 66 66 66 66 0 2 0 5 8 1 4 = true := by
  have e : (Pen.saneB 0 0 0 && Char.saneB 66 66 66 66 0 2 0) = true := by decide
  unfold csaneB
  rw [e]
  unfold regionB restB
  simp [h1, h2, h3, h4]
end Go.Proofs.YtlchffkabpfjpaaGreat.Cur
end
section
/- To, where it goes. -/
namespace Go.Proofs.YtlchffkabpfjpaaGreat.Cur
open Go.RowKit
attribute [local go_sem] Nat.add_assoc Nat.add_pos_iff_pos_or_pos lt_add_r

theorem btw_in {v l m : Int} (h : l ≤ m) : l ≤ btw v l m ∧ btw v l m ≤ m := by unfold btw; omega
theorem btw_id {v l m : Int} (h1 : l ≤ v) (h2 : v ≤ m) : btw v l m = v := by unfold btw; omega

end Go.Proofs.YtlchffkabpfjpaaGreat.Cur
end
section
/- The walk of cursor.Resize, of a cursor that may be. -/
namespace Go.Proofs.YtlchffkabpfjpaaGreat.Cur
open Go.RowKit
attribute [local go_sem] Nat.add_assoc Nat.add_pos_iff_pos_or_pos lt_add_r

set_option maxHeartbeats 2000000 in
theorem resize_c (h v : Int) (x y : Int) (wr og : Bool) (fg bg fl g0 g1 g2 g3 gl gr on : Int) (rH rW rT rB : Int) (w : World) (hs : csaneB x y wr og fg bg fl g0 g1 g2 g3 gl gr on rH rW rT rB = true) : Calls Tryz.prog 97 #[.agg #[.int .i64 x, .int .i64 y, .bool wr, .bool og, .int .i64 fg, .int .i64 bg, .int .i64 fl, .int .u8 g0, .int .u8 g1, .int .u8 g2, .int .u8 g3, .int .i64 gl, .int .i64 gr, .int .i64 on], .agg #[.int .i64 rH, .int .i64 rW, .int .i64 rT, .int .i64 rB], .int .i64 h, .int .i64 v] w fun e w' => e = .returned (.tuple #[.agg #[.int .i64 (btw x 0 (btw v 1 4096 - 1)), .int .i64 (btw y 0 (btw h 1 1000 - 1)), .bool false, .bool false, .int .i64 fg, .int .i64 bg, .int .i64 fl, .int .u8 g0, .int .u8 g1, .int .u8 g2, .int .u8 g3, .int .i64 gl, .int .i64 gr, .int .i64 on], .agg #[.int .i64 (btw h 1 1000), .int .i64 (btw v 1 4096), .int .i64 0, .int .i64 (btw h 1 1000)]]) ∧ Grew w w' := by
  obtain ⟨a1, a2, a3, a4, a5, a6, a7, _, _, _, _, _, _⟩ := facts hs
  have HB1 := Lib.hid (show rW ≤ 9223372036854775807 by omega)
  have HB2 := Lib.hid (show -9223372036854775808 ≤ rW by omega)
  have b1 := btw_in (v := h) (show (1 : Int) ≤ 1000 by omega)
  have b2 := btw_in (v := v) (show (1 : Int) ≤ 4096 by omega)
  obtain ⟨b1a, b1b⟩ := b1
  obtain ⟨b2a, b2b⟩ := b2
  go_enter Tryz.func97, Tryz.ntmps97
  go_wp2_with (first | (go_at_call 14; refine (csane_c _ _ _ _ _ _ _ _ _ _ _ _ _ _ _ _ _ _ _ HB1.out HB2.out).mono ?_; rintro e w1 ⟨rfl, X1, d1, rfl⟩) | (go_at_call 30; refine (new_c _ _ _).mono ?_; rintro e w1 ⟨rfl, X2, d2, rfl⟩) | (go_at_call 64; refine (between_c _ _ _ _).mono ?_; rintro e w1 ⟨rfl, rfl⟩))
  go_region_with (fail)
  all_goals go_wp2
  all_goals (refine bodyPost_ret (v := _) (by (simp [results, Tryz.results97, go_sem]; exact rfl)) rfl ⟨?_, (Below.toGrow (by exact bcAll))⟩; exact rfl)
end Go.Proofs.YtlchffkabpfjpaaGreat.Cur
end
