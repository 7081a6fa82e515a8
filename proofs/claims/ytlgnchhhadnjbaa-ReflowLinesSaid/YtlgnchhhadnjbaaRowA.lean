/- Walks of pen's and row's small functions: what may be. -/
import Derived.Test.YtlgnchhhadnjbaaBase
import Derived.Test.YtlgnchhhadnjbaaRowPure
namespace Go.Proofs.Ytlgnchhhadnjbaa.Row
open Go.RowKit

theorem ebool {a b : Bool} (h : a = b) : Ending.returned (.bool a) = .returned (.bool b) := by rw [h]
theorem eint {k : IntKind} {a b : Int} (h : a = b) : Ending.returned (.int k a) = .returned (.int k b) := by rw [h]

theorem isColour_c (c : Int) (w : World) : Calls Try.prog 55 #[.int .i64 c] w fun e w' => e = .returned (.bool (isColourB c)) ∧ w = w' := by
  unfold isColourB
  go_enter Try.func55, Try.ntmps55
  go_wp2
  all_goals (go_ret; refine ⟨?_, rfl⟩)
  all_goals (congr 2 <;> first | (simp [*]; done) | (simp [*]; omega))

theorem penSane_c (fg bg fl : Int) (w : World) : Calls Try.prog 50 #[.agg #[.int .i64 fg, .int .i64 bg, .int .i64 fl]] w fun e w' => e = .returned (.bool (penB fg bg fl)) ∧ Grew w w' := by
  go_enter Try.func50, Try.ntmps50
  go_wp2_with (first | (go_at_call 55; refine (isColour_c _ _).mono ?_; rintro e w' ⟨rfl, rfl⟩))
  all_goals (go_ret; refine ⟨?_, (Below.toGrow (by repeat (first | (with_reducible exact Below.refl _ _) | (with_reducible assumption) | (with_reducible refine Below.grow ?_ ?_ _ _) | (with_reducible refine Below.drewN' ?_ _) | (with_reducible refine Below.drew ?_) | (with_reducible refine Below.alloc ?_ ?_ _) | (with_reducible refine Below.setCell ?_ ?_ _) | omega | (focus (simp; done)) | (focus (simp; omega)))))⟩)
  all_goals (congr 2 <;> first | (simp [penB, *]; done) | (simp [penB, *]; omega))

set_option maxHeartbeats 4000000 in
set_option maxRecDepth 100000 in
theorem fits_c (c : Cl) (w : World) : Calls Try.prog 38 #[.agg #[.int .i64 c.r, .int .i64 c.m0, .int .i64 c.m1, .int .i64 c.w, .int .i64 c.fg, .int .i64 c.bg, .int .i64 c.fl]] w fun e w' => e = .returned (.bool (fitsB c)) ∧ Grew w w' := by
  obtain ⟨r, m0, m1, W, fg, bg, fl⟩ := c
  have i0 : ∀ (m0 m1 : Int) (w : World), (Instr.index 55 (.agg #[.int .i64 m0, .int .i64 m1]) (.int .i64 0)).run Try.prog w = .ok (.int .i64 m0) w := fun _ _ _ => by kernel_rfl
  have i1 : ∀ (m0 m1 : Int) (w : World), (Instr.index 55 (.agg #[.int .i64 m0, .int .i64 m1]) (.int .i64 1)).run Try.prog w = .ok (.int .i64 m1) w := fun _ _ _ => by kernel_rfl
  go_enter Try.func38, Try.ntmps38
  go_wp2
  refine wp_loop_rounds 3 ?_
  iterate 3
    all_goals (try (rw [rounds_succ]; go_wp2_with (first | (go_at_call 50; refine (penSane_c _ _ _ _).mono ?_; rintro e w1 ⟨rfl, X3, d3, rfl⟩))))
  all_goals (go_ret; refine ⟨ebool ?_, (Below.toGrow (by repeat (first | (with_reducible exact Below.refl _ _) | (with_reducible assumption) | (with_reducible refine Below.grow ?_ ?_ _ _) | (with_reducible refine Below.drewN' ?_ _) | (with_reducible refine Below.drew ?_) | (with_reducible refine Below.alloc ?_ ?_ _) | (with_reducible refine Below.setCell ?_ ?_ _) | omega | (focus (simp; done)) | (focus (simp; omega)))))⟩)
  all_goals clear i0 i1
  all_goals grind [fitsB]

set_option maxRecDepth 100000 in
set_option maxHeartbeats 2000000 in
theorem lost_c (A : Option Addr) (n cap : Nat) (f : Nat → Cl) (i : Nat) (w : World) (hr : Rd w A n f) (hn : n ≤ 9223372036854775806) (hi : i < n) : Calls Try.prog 39 #[.slice A n cap, .int .i64 i] w fun e w' => e = .returned (.bool (lostB n f i)) ∧ w = w' := by
  obtain ⟨b, o, rfl, hb, hc⟩ := hr (by omega)
  have c0 := (hc i hi).2.2.2.1
  have c1 := fun h : i + 1 < n => (hc (i + 1) h).2.2.2.1
  have c2 := (hc (i - 1) (by omega)).2.2.2.1
  have HL : Hid (lostB n f i = decide ((f i).w = 0 ∧ (i = 0 ∨ (f (i - 1)).w ≠ 2) ∨ (f i).w = 2 ∧ (i + 1 = n ∨ (f (i + 1)).w ≠ 0))) := rfl
  clear hc hr
  generalize lostB n f i = L at *
  generalize hw0 : (f i).w = w0 at *
  generalize hw1 : (f (i + 1)).w = w1 at *
  generalize hw2 : (f (i - 1)).w = w2 at *
  clear hw0 hw1 hw2
  by_cases h1 : i = 0
  · subst h1
    by_cases h2 : n = 1
    · subst h2
      clear c1 c2
      go_enter Try.func39, Try.ntmps39
      go_wp2
      all_goals (go_ret; refine ⟨ebool ?_, rfl⟩; rw [HL.out]; grind)
    · have c1 := c1 (by omega)
      go_enter Try.func39, Try.ntmps39
      go_wp2
      all_goals (go_ret; refine ⟨ebool ?_, rfl⟩; rw [HL.out]; grind)
  · by_cases h2 : i + 1 = n
    · go_enter Try.func39, Try.ntmps39
      go_wp2
      all_goals (go_ret; refine ⟨ebool ?_, rfl⟩; rw [HL.out]; grind)
    · have c1 := c1 (by omega)
      go_enter Try.func39, Try.ntmps39
      go_wp2
      all_goals (go_ret; refine ⟨ebool ?_, rfl⟩; rw [HL.out]; grind)
end Go.Proofs.Ytlgnchhhadnjbaa.Row
