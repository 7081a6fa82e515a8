/- Walks of charset's functions that do not map: what each returns; below the first new block nothing is changed. -/
import Derived.Test.YtpcpgoeahndlfaaBase
namespace Go.Proofs.Ytpcpgoeahndlfaa.Char
open Go.RowKit

/-- may a byte tell a set? -/
def isSetB (f : Int) : Bool := f == 66 || f == 48 || f == 65
def isPlaceB (n : Int) : Bool := decide (0 ≤ n) && decide (n ≤ 3)
def isShiftB (n : Int) : Bool := n == 2 || n == 3
def ukF (r : Int) : Int := if r = 35 then 163 else r
def saneB (g0 g1 g2 g3 gl gr on : Int) : Bool := isSetB g0 && (isSetB g1 && (isSetB g2 && (isSetB g3 && (isPlaceB gl && (isPlaceB gr && (on == 0 || isShiftB on))))))

theorem isSet_c (f : Int) (w : World) : Calls Try.prog 44 #[.int .u8 f] w fun e w' => e = .returned (.bool (isSetB f)) ∧ w = w' := by
  go_enter Try.func44, Try.ntmps44
  go_wp2
  all_goals (go_ret; exact ⟨by simp [isSetB, *], rfl⟩)

theorem isPlace_c (f : Int) (w : World) : Calls Try.prog 45 #[.int .i64 f] w fun e w' => e = .returned (.bool (isPlaceB f)) ∧ w = w' := by
  go_enter Try.func45, Try.ntmps45
  go_wp2
  all_goals (go_ret; refine ⟨?_, rfl⟩)
  · have h : 0 ≤ f := by assumption
    simp [isPlaceB, h]
  · have h : f < 0 := by assumption
    have h' : ¬ (0 ≤ f) := by omega
    simp [isPlaceB, h']

theorem isShift_c (f : Int) (w : World) : Calls Try.prog 46 #[.int .i64 f] w fun e w' => e = .returned (.bool (isShiftB f)) ∧ w = w' := by
  go_enter Try.func46, Try.ntmps46
  go_wp2
  all_goals (go_ret; exact ⟨by simp [isShiftB, *], rfl⟩)

theorem new_c (w : World) : Calls Try.prog 42 #[] w fun e w' => e = .returned (.agg #[.int .u8 66, .int .u8 66, .int .u8 66, .int .u8 66, .int .i64 0, .int .i64 2, .int .i64 0]) ∧ Grew w w' := by
  go_enter Try.func42, Try.ntmps42
  go_wp2
  exact bodyPost_ret (v := .agg #[.int .u8 66, .int .u8 66, .int .u8 66, .int .u8 66, .int .i64 0, .int .i64 2, .int .i64 0]) (by simp [results, Try.results42, go_sem]) rfl ⟨rfl, ((Below.refl _ _).alloc (Nat.le_refl _) _).toGrow⟩

theorem sane_c (g0 g1 g2 g3 gl gr on : Int) (w : World) : Calls Try.prog 36 #[.agg #[.int .u8 g0, .int .u8 g1, .int .u8 g2, .int .u8 g3, .int .i64 gl, .int .i64 gr, .int .i64 on]] w fun e w' => e = .returned (.bool (saneB g0 g1 g2 g3 gl gr on)) ∧ Grew w w' := by
  have i0 : ∀ w : World, (Instr.index 35 (.agg #[.int .u8 g0, .int .u8 g1, .int .u8 g2, .int .u8 g3]) (.int .i64 0)).run Try.prog w = .ok (.int .u8 g0) w := fun _ => by kernel_rfl
  have i1 : ∀ w : World, (Instr.index 35 (.agg #[.int .u8 g0, .int .u8 g1, .int .u8 g2, .int .u8 g3]) (.int .i64 1)).run Try.prog w = .ok (.int .u8 g1) w := fun _ => by kernel_rfl
  have i2 : ∀ w : World, (Instr.index 35 (.agg #[.int .u8 g0, .int .u8 g1, .int .u8 g2, .int .u8 g3]) (.int .i64 2)).run Try.prog w = .ok (.int .u8 g2) w := fun _ => by kernel_rfl
  have i3 : ∀ w : World, (Instr.index 35 (.agg #[.int .u8 g0, .int .u8 g1, .int .u8 g2, .int .u8 g3]) (.int .i64 3)).run Try.prog w = .ok (.int .u8 g3) w := fun _ => by kernel_rfl
  go_enter Try.func36, Try.ntmps36
  go_wp2
  refine wp_loop_rounds 5 ?_
  iterate 5
    all_goals (try (rw [rounds_succ]; go_wp2_with (first | (go_at_call 44; refine (isSet_c _ _).mono ?_; rintro e w' ⟨rfl, rfl⟩))))
  all_goals (try (go_wp2_with (first | (go_at_call 45; refine (isPlace_c _ _).mono ?_; rintro e w' ⟨rfl, rfl⟩) | (go_at_call 46; refine (isShift_c _ _).mono ?_; rintro e w' ⟨rfl, rfl⟩))))
  all_goals (go_ret; refine ⟨?_, ((Below.refl _ _).alloc (Nat.le_refl _) _).toGrow⟩)
  all_goals (simp_all [saneB])

end Go.Proofs.Ytpcpgoeahndlfaa.Char
