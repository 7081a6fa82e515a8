/- Cells and rows that are equal: the program's '==' on cells, lapwingref08.Cells, Same. -/
import Derived.Test.YtlgnchhhadnjbaaRowC
import Derived.Deep.QuietTactic
import Derived.BigQuiet
namespace Go.Proofs.Ytlgnchhhadnjbaa.Row
open Go.RowKit

theorem equalIn_marks (a b c d : Int) (k : Nat) (w : World) : (Op.equalIn (k + 2) 55 (.agg #[.int .i64 a, .int .i64 b]) (.agg #[.int .i64 c, .int .i64 d])).run Try.prog w = .ok (decide (a = c ∧ b = d)) w := by
  obtain ⟨i, hi⟩ := info_ok (P := Try.prog) (e := 3) (by kernel_rfl)
  have hc : Try.prog.cellsOf 3 = 1 := by kernel_rfl
  have h := run_equalIn_array (P := Try.prog) (w := w) (k + 1) #[.int .i64 a, .int .i64 b] #[.int .i64 c, .int .i64 d] Try.underlying55 hi
  rw [hc] at h
  rw [h]
  by_cases h1 : a = c <;> by_cases h2 : b = d <;> simp [go_sem, List.range, List.range.loop, h1, h2]
theorem eql_cell (a b : Cl) (w : World) : (binOp .eql 59 (.agg #[.int .i64 a.r, .int .i64 a.m0, .int .i64 a.m1, .int .i64 a.w, .int .i64 a.fg, .int .i64 a.bg, .int .i64 a.fl]) (.agg #[.int .i64 b.r, .int .i64 b.m0, .int .i64 b.m1, .int .i64 b.w, .int .i64 b.fg, .int .i64 b.bg, .int .i64 b.fl])).run Try.prog w = .ok (.bool (decide (a = b))) w := by
  obtain ⟨a0, a1, a2, a3, a4, a5, a6⟩ := a
  obtain ⟨b0, b1, b2, b3, b4, b5, b6⟩ := b
  simp [go_sem, binOp, Op.equal, Op.maxDepth, equalIn_marks]
  repeat' split
  all_goals simp_all
theorem neq_cell (a b : Cl) (w : World) : (binOp .neq 59 (.agg #[.int .i64 a.r, .int .i64 a.m0, .int .i64 a.m1, .int .i64 a.w, .int .i64 a.fg, .int .i64 a.bg, .int .i64 a.fl]) (.agg #[.int .i64 b.r, .int .i64 b.m0, .int .i64 b.m1, .int .i64 b.w, .int .i64 b.fg, .int .i64 b.bg, .int .i64 b.fl])).run Try.prog w = .ok (.bool (!decide (a = b))) w := by
  obtain ⟨a0, a1, a2, a3, a4, a5, a6⟩ := a
  obtain ⟨b0, b1, b2, b3, b4, b5, b6⟩ := b
  simp [go_sem, binOp, Op.equal, Op.maxDepth, equalIn_marks]
  repeat' split
  all_goals first | (simp_all; done) | grind
theorem eql_pen (a b c a' b' c' : Int) (w : World) : (binOp .eql 57 (.agg #[.int .i64 a, .int .i64 b, .int .i64 c]) (.agg #[.int .i64 a', .int .i64 b', .int .i64 c'])).run Try.prog w = .ok (.bool (decide (a = a' ∧ b = b' ∧ c = c'))) w := by
  simp [go_sem, binOp, Op.equal, Op.maxDepth]
  repeat' split
  all_goals simp_all
theorem neq_pen (a b c a' b' c' : Int) (w : World) : (binOp .neq 57 (.agg #[.int .i64 a, .int .i64 b, .int .i64 c]) (.agg #[.int .i64 a', .int .i64 b', .int .i64 c'])).run Try.prog w = .ok (.bool (!decide (a = a' ∧ b = b' ∧ c = c'))) w := by
  simp [go_sem, binOp, Op.equal, Op.maxDepth]
  repeat' split
  all_goals simp_all

/-- only draws -/
def Drew (w w' : World) : Prop := ∃ d, w' = w.drewN d
theorem Drew.below {w w' : World} (h : Drew w w') (B : Nat) : Below B w w' := by
  obtain ⟨d, rfl⟩ := h
  exact (Below.refl _ _).drewN' d
/-- are two slices' cells the same? -/
def sameB (n : Nat) (f : Nat → Cl) (m : Nat) (g : Nat → Cl) : Bool := decide (n = m ∧ ∀ i, i < n → f i = g i)
set_option maxRecDepth 100000 in
set_option maxHeartbeats 2000000 in
theorem eqCells_c (A : Option Addr) (n ca : Nat) (f : Nat → Cl) (B : Option Addr) (m cb : Nat) (g : Nat → Cl) (w : World) (ha : Rd w A n f) (hb : Rd w B m g) (hn : n ≤ 9223372036854775806) (hm : m ≤ 9223372036854775806) :
    Calls Try.prog 43 #[.slice A n ca, .slice B m cb] w fun e w' => e = .returned (.bool (sameB n f m g)) ∧ Drew w w' := by
  have HS : Hid (sameB n f m g = decide (n = m ∧ ∀ i, i < n → f i = g i)) := rfl
  generalize sameB n f m g = S at *
  have hq := neq_cell
  by_cases hnm : n = m
  · subst hnm
    go_enter Try.func43, Try.ntmps43
    go_wp2
    go_loopw [5] (fun i wz => ∃ k : Nat, k ≤ n ∧ i = .int .i64 k ∧ Hid (∀ j, j < k → f j = g j) ∧ ∃ d, wz = w.drewN d) (fun i _ => n - (intOf i).toNat)
    case atStart => exact ⟨0, Nat.zero_le _, rfl, fun j hj => absurd hj (by omega), 0, rfl⟩
    case round =>
      obtain ⟨k, hk, rfl, HALL, d, rfl⟩ := hrel
      by_cases hlt : k < n
      · obtain ⟨b1, o1, rfl, hb1, hc⟩ := ha (by omega)
        obtain ⟨b2, o2, rfl, hb2, hc2⟩ := hb (by omega)
        obtain ⟨c0, c1, c2, c3, c4, c5, c6⟩ := hc k hlt
        obtain ⟨e0, e1, e2, e3, e4, e5, e6⟩ := hc2 k hlt
        clear hc hc2
        have l1 : (k : Int) < n := by omega
        by_cases he : f k = g k
        · have he' : decide (f k = g k) = true := by simpa using he
          have HE := Lib.hid he
          clear he
          go_wp2
          go_quiet (fail)
          go_wp2
          go_roundw
          case rel => exact ⟨k + 1, by omega, by go_num, (fun j hj => by
            rcases Nat.lt_or_ge j k with h | h
            · exact HALL.out j h
            · obtain rfl : j = k := by omega
              exact HE.out), d + nq, rfl⟩
          case measure => simp [intOf]; omega
        · have he' : decide (f k = g k) = false := by simpa using he
          have HE := Lib.hid he
          clear he
          go_wp2
          go_quiet (fail)
          go_wp2
          go_ret
          refine ⟨ebool ?_, ?_⟩
          all_goals try (first | exact trivial | exact ⟨d + nq, World.drewN_drewN w d nq⟩)
          rw [HS.out]
          symm
          exact decide_eq_false fun h => HE.out (h.2 k hlt)
      · go_wp2
        go_ret
        refine ⟨ebool ?_, ?_⟩
        all_goals try (first | exact trivial | exact ⟨d, rfl⟩)
        rw [HS.out]
        symm
        exact decide_eq_true (by constructor <;> first | rfl | exact trivial | exact fun i hi => HALL.out i (by omega))
  · have hnm' : ¬ ((n : Int) = m) := by omega
    go_enter Try.func43, Try.ntmps43
    go_wp2
    go_ret
    refine ⟨ebool ?_, ?_⟩
    all_goals try (first | exact trivial | exact ⟨0, rfl⟩)
    rw [HS.out]
    symm
    exact decide_eq_false fun h => hnm h.1

def sameRowB (n : Nat) (f : Nat → Cl) (wb : Bool) (dir : Int) (ex : Bool) (m : Nat) (g : Nat → Cl) (wb' : Bool) (dir' : Int) (ex' : Bool) : Bool := sameB n f m g && (wb == wb' && (dir == dir' && ex == ex'))
set_option maxRecDepth 100000 in
set_option maxHeartbeats 2000000 in
theorem same_c (A : Option Addr) (n ca : Nat) (f : Nat → Cl) (wb : Bool) (dir : Int) (ex : Bool) (B : Option Addr) (m cb : Nat) (g : Nat → Cl) (wb' : Bool) (dir' : Int) (ex' : Bool) (w : World) (ha : Rd w A n f) (hb : Rd w B m g) (hn : n ≤ 9223372036854775806) (hm : m ≤ 9223372036854775806) :
    Calls Try.prog 33 #[.agg #[.slice A n ca, .bool wb, .int .i64 dir, .bool ex], .agg #[.slice B m cb, .bool wb', .int .i64 dir', .bool ex']] w fun e w' => e = .returned (.bool (sameRowB n f wb dir ex m g wb' dir' ex')) ∧ Grew w w' := by
  have HN := Lib.hid hn
  have HM := Lib.hid hm
  clear hn hm
  unfold sameRowB
  cases hs : sameB n f m g
  · go_enter Try.func33, Try.ntmps33
    go_wp2_with (go_at_call 43; refine (eqCells_c A n ca f B m cb g _ (ha.below (by (repeat (first | (with_reducible exact Below.refl _ _) | (with_reducible assumption) | (with_reducible refine Below.grow ?_ ?_ _ _) | (with_reducible refine Below.drewN' ?_ _) | (with_reducible refine Below.drew ?_) | (with_reducible refine Below.alloc ?_ ?_ _) | (with_reducible refine Below.setCell ?_ ?_ _) | omega | (focus (simp; done)) | (focus (simp; omega)))))) (hb.below (by (repeat (first | (with_reducible exact Below.refl _ _) | (with_reducible assumption) | (with_reducible refine Below.grow ?_ ?_ _ _) | (with_reducible refine Below.drewN' ?_ _) | (with_reducible refine Below.drew ?_) | (with_reducible refine Below.alloc ?_ ?_ _) | (with_reducible refine Below.setCell ?_ ?_ _) | omega | (focus (simp; done)) | (focus (simp; omega)))))) HN.out HM.out).mono ?_; rintro e w1 ⟨rfl, d, rfl⟩)
    go_ret
    exact ⟨by simp, (Below.toGrow (by repeat (first | (with_reducible exact Below.refl _ _) | (with_reducible assumption) | (with_reducible refine Below.grow ?_ ?_ _ _) | (with_reducible refine Below.drewN' ?_ _) | (with_reducible refine Below.drew ?_) | (with_reducible refine Below.alloc ?_ ?_ _) | (with_reducible refine Below.setCell ?_ ?_ _) | omega | (focus (simp; done)) | (focus (simp; omega)))))⟩
  · cases h1 : (wb == wb') <;> cases h2 : (dir == dir')
    all_goals
      go_enter Try.func33, Try.ntmps33
      go_wp2_with (go_at_call 43; refine (eqCells_c A n ca f B m cb g _ (ha.below (by (repeat (first | (with_reducible exact Below.refl _ _) | (with_reducible assumption) | (with_reducible refine Below.grow ?_ ?_ _ _) | (with_reducible refine Below.drewN' ?_ _) | (with_reducible refine Below.drew ?_) | (with_reducible refine Below.alloc ?_ ?_ _) | (with_reducible refine Below.setCell ?_ ?_ _) | omega | (focus (simp; done)) | (focus (simp; omega)))))) (hb.below (by (repeat (first | (with_reducible exact Below.refl _ _) | (with_reducible assumption) | (with_reducible refine Below.grow ?_ ?_ _ _) | (with_reducible refine Below.drewN' ?_ _) | (with_reducible refine Below.drew ?_) | (with_reducible refine Below.alloc ?_ ?_ _) | (with_reducible refine Below.setCell ?_ ?_ _) | omega | (focus (simp; done)) | (focus (simp; omega)))))) HN.out HM.out).mono ?_; rintro e w1 ⟨rfl, d, rfl⟩)
      go_ret
      exact ⟨by simp, (Below.toGrow (by repeat (first | (with_reducible exact Below.refl _ _) | (with_reducible assumption) | (with_reducible refine Below.grow ?_ ?_ _ _) | (with_reducible refine Below.drewN' ?_ _) | (with_reducible refine Below.drew ?_) | (with_reducible refine Below.alloc ?_ ?_ _) | (with_reducible refine Below.setCell ?_ ?_ _) | omega | (focus (simp; done)) | (focus (simp; omega)))))⟩
end Go.Proofs.Ytlgnchhhadnjbaa.Row
