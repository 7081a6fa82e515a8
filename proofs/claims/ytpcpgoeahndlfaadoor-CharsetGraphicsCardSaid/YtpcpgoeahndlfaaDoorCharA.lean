/- Walks of charset's functions that do not map: what each returns; below the first new block nothing is changed. -/
import Derived.Test.YtpcpgoeahndlfaaDoorBase
namespace Go.Proofs.YtpcpgoeahndlfaaDoor.Char
open Go.RowKit

/-- may a byte tell a set? -/
def isSetB (f : Int) : Bool := f == 66 || f == 48 || f == 65
def isPlaceB (n : Int) : Bool := decide (0 ≤ n) && decide (n ≤ 3)
def isShiftB (n : Int) : Bool := n == 2 || n == 3
def ukF (r : Int) : Int := if r = 35 then 163 else r
def saneB (g0 g1 g2 g3 gl gr on : Int) : Bool := isSetB g0 && (isSetB g1 && (isSetB g2 && (isSetB g3 && (isPlaceB gl && (isPlaceB gr && (on == 0 || isShiftB on))))))

theorem isSet_c (f : Int) (w : World) : Calls Tryd.prog 18 #[.int .u8 f] w fun e w' => e = .returned (.bool (isSetB f)) ∧ w = w' := by
  go_enter Tryd.func18, Tryd.ntmps18
  go_wp2
  all_goals (go_ret; exact ⟨by simp [isSetB, *], rfl⟩)

theorem isPlace_c (f : Int) (w : World) : Calls Tryd.prog 17 #[.int .i64 f] w fun e w' => e = .returned (.bool (isPlaceB f)) ∧ w = w' := by
  go_enter Tryd.func17, Tryd.ntmps17
  go_wp2
  all_goals (go_ret; refine ⟨?_, rfl⟩)
  · have h : 0 ≤ f := by assumption
    simp [isPlaceB, h]
  · have h : f < 0 := by assumption
    have h' : ¬ (0 ≤ f) := by omega
    simp [isPlaceB, h']

theorem isShift_c (f : Int) (w : World) : Calls Tryd.prog 19 #[.int .i64 f] w fun e w' => e = .returned (.bool (isShiftB f)) ∧ w = w' := by
  go_enter Tryd.func19, Tryd.ntmps19
  go_wp2
  all_goals (go_ret; exact ⟨by simp [isShiftB, *], rfl⟩)

theorem uk_c (f : Int) (w : World) : Calls Tryd.prog 11 #[.int .i64 f] w fun e w' => e = .returned (.int .i64 (ukF f)) ∧ w = w' := by
  go_enter Tryd.func11, Tryd.ntmps11
  go_wp2
  all_goals (go_ret; exact ⟨by simp_all [ukF], rfl⟩)

theorem new_c (w : World) : Calls Tryd.prog 9 #[] w fun e w' => e = .returned (.agg #[.int .u8 66, .int .u8 66, .int .u8 66, .int .u8 66, .int .i64 0, .int .i64 2, .int .i64 0]) ∧ Grew w w' := by
  go_enter Tryd.func9, Tryd.ntmps9
  go_wp2
  exact bodyPost_ret (v := .agg #[.int .u8 66, .int .u8 66, .int .u8 66, .int .u8 66, .int .i64 0, .int .i64 2, .int .i64 0]) (by simp [results, Tryd.results9, go_sem]) rfl ⟨rfl, ((Below.refl _ _).alloc (Nat.le_refl _) _).toGrow⟩

theorem sane_c (g0 g1 g2 g3 gl gr on : Int) (w : World) : Calls Tryd.prog 13 #[.agg #[.int .u8 g0, .int .u8 g1, .int .u8 g2, .int .u8 g3, .int .i64 gl, .int .i64 gr, .int .i64 on]] w fun e w' => e = .returned (.bool (saneB g0 g1 g2 g3 gl gr on)) ∧ Grew w w' := by
  have i0 : ∀ w : World, (Instr.index 22 (.agg #[.int .u8 g0, .int .u8 g1, .int .u8 g2, .int .u8 g3]) (.int .i64 0)).run Tryd.prog w = .ok (.int .u8 g0) w := fun _ => by kernel_rfl
  have i1 : ∀ w : World, (Instr.index 22 (.agg #[.int .u8 g0, .int .u8 g1, .int .u8 g2, .int .u8 g3]) (.int .i64 1)).run Tryd.prog w = .ok (.int .u8 g1) w := fun _ => by kernel_rfl
  have i2 : ∀ w : World, (Instr.index 22 (.agg #[.int .u8 g0, .int .u8 g1, .int .u8 g2, .int .u8 g3]) (.int .i64 2)).run Tryd.prog w = .ok (.int .u8 g2) w := fun _ => by kernel_rfl
  have i3 : ∀ w : World, (Instr.index 22 (.agg #[.int .u8 g0, .int .u8 g1, .int .u8 g2, .int .u8 g3]) (.int .i64 3)).run Tryd.prog w = .ok (.int .u8 g3) w := fun _ => by kernel_rfl
  go_enter Tryd.func13, Tryd.ntmps13
  go_wp2
  refine wp_loop_rounds 5 ?_
  iterate 5
    all_goals (try (rw [rounds_succ]; go_wp2_with (first | (go_at_call 18; refine (isSet_c _ _).mono ?_; rintro e w' ⟨rfl, rfl⟩))))
  all_goals (try (go_wp2_with (first | (go_at_call 17; refine (isPlace_c _ _).mono ?_; rintro e w' ⟨rfl, rfl⟩) | (go_at_call 19; refine (isShift_c _ _).mono ?_; rintro e w' ⟨rfl, rfl⟩))))
  all_goals (go_ret; refine ⟨?_, ((Below.refl _ _).alloc (Nat.le_refl _) _).toGrow⟩)
  all_goals (simp_all [saneB])

/-- the State that ours makes -/
theorem ours_c (g0 g1 g2 g3 gl gr on : Int) (w : World) : Calls Tryd.prog 7 #[.agg #[.int .u8 g0, .int .u8 g1, .int .u8 g2, .int .u8 g3, .int .i64 gl, .int .i64 gr, .int .i64 on]] w fun e w' => e = .returned (.agg #[.int .u8 g0, .int .u8 g1, .int .u8 g2, .int .u8 g3, .int .i64 gl, .int .i64 gr, .int .i64 on]) ∧ Grew w w' := by
  go_enter Tryd.func7, Tryd.ntmps7
  go_wp2
  exact bodyPost_ret (v := .agg #[.int .u8 g0, .int .u8 g1, .int .u8 g2, .int .u8 g3, .int .i64 gl, .int .i64 gr, .int .i64 on]) (by simp [results, Tryd.results7, go_sem]) rfl ⟨rfl, (((Below.refl _ _).alloc (Nat.le_refl _) _).alloc (by simp) _).toGrow⟩

/-- the letters of DEC graphics -/
def tabL : List Int := [9670, 9618, 9225, 9228, 9229, 9226, 176, 177, 9252, 9227, 9496, 9488, 9484, 9492, 9532, 9146, 9147, 9472, 9148, 9149, 9500, 9508, 9524, 9516, 9474, 8804, 8805, 960, 8800, 163, 183]
def Tab (w : World) : Prop := ∀ i, i < 31 → w.cell? ⟨0, i, none⟩ = some (.int .i64 (tabL.getD i 0))
theorem Tab.pos {w : World} (h : Tab w) : 0 < w.heap.size := by
  rcases Nat.eq_zero_or_pos w.heap.size with h0 | h0
  · have := h 0 (by omega)
    simp [World.cell?, h0] at this
  · exact h0
theorem Tab.below {w w' : World} (h : Tab w) (hb : Below w.heap.size w w') : Tab w' := fun i hi => (hb.cell (p := ⟨0, i, none⟩) h.pos).trans (h i hi)
def graphicF (r : Int) : Int := if r = 95 then 32 else if 96 ≤ r ∧ r ≤ 126 then tabL.getD (r - 96).toNat 0 else r

theorem graphic_c (r : Int) (w : World) (hT : Tab w) : Calls Tryd.prog 10 #[.int .i64 r] w fun e w' => e = .returned (.int .i64 (graphicF r)) ∧ w = w' := by
  by_cases h1 : r = 95
  · subst h1
    clear hT
    go_enter Tryd.func10, Tryd.ntmps10
    go_wp2
    all_goals (go_ret; exact ⟨by simp [graphicF], rfl⟩)
  · have h1b : (r == 95) = false := by simpa using h1
    by_cases h2 : 96 ≤ r ∧ r ≤ 126
    · obtain ⟨h2, h3⟩ := h2
      have hc := hT (r - 96).toNat (by omega)
      have e : graphicF r = tabL.getD (r - 96).toNat 0 := by unfold graphicF; rw [if_neg h1, if_pos ⟨h2, h3⟩]
      rw [← e] at hc
      clear e hT
      generalize graphicF r = g at hc ⊢
      go_enter Tryd.func10, Tryd.ntmps10
      go_wp2
      go_ret
      exact ⟨rfl, rfl⟩
    · have e : graphicF r = r := by unfold graphicF; rw [if_neg h1, if_neg h2]
      rw [e]
      clear hT e
      have h2' : r < 96 ∨ 126 < r := by omega
      clear h2
      rcases h2' with h2 | h2
      · go_enter Tryd.func10, Tryd.ntmps10
        go_wp2
        all_goals (go_ret; exact ⟨rfl, rfl⟩)
      · have h3 : 96 ≤ r := by omega
        go_enter Tryd.func10, Tryd.ntmps10
        go_wp2
        all_goals (go_ret; exact ⟨rfl, rfl⟩)

def byF (f r : Int) : Int := if f = 48 then graphicF r else if f = 65 then ukF r else r
theorem by_c (f r : Int) (w : World) (hT : Tab w) : Calls Tryd.prog 16 #[.int .u8 f, .int .i64 r] w fun e w' => e = .returned (.int .i64 (byF f r)) ∧ w = w' := by
  have HT := Lib.hid hT
  clear hT
  go_enter Tryd.func16, Tryd.ntmps16
  go_wp2_with (first | (go_at_call 10; refine (graphic_c _ _ HT.out).mono ?_; rintro e w' ⟨rfl, rfl⟩) | (go_at_call 11; refine (uk_c _ _).mono ?_; rintro e w' ⟨rfl, rfl⟩))
  all_goals (go_ret; exact ⟨by simp_all [byF], rfl⟩)
end Go.Proofs.YtpcpgoeahndlfaaDoor.Char
