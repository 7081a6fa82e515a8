/- The laws' walks of layer 4: awake, CharsetPlain. -/
import Derived.Test.YtpcpgoeahndlfaaDoorCharC
namespace Go.Proofs.YtpcpgoeahndlfaaDoor.Char
open Go.RowKit
attribute [local go_sem] Nat.add_assoc Nat.add_pos_iff_pos_or_pos

theorem saneNew : saneB 66 66 66 66 0 2 0 = true := by decide
theorem toldNew (r : Int) : toldF r 66 66 66 66 0 2 0 = r := by
  unfold toldF pickG byF
  simp
theorem set_new (w : World) : Calls Tryd.prog 12 #[.agg #[.int .u8 66, .int .u8 66, .int .u8 66, .int .u8 66, .int .i64 0, .int .i64 2, .int .i64 0], .int .i64 0, .int .u8 48] w fun e w' => e = .returned (.agg #[.int .u8 48, .int .u8 66, .int .u8 66, .int .u8 66, .int .i64 0, .int .i64 2, .int .i64 0]) ∧ Grew w w' :=
  set_c 0 48 66 66 66 66 0 2 0 w saneNew
theorem map_new (r : Int) (w : World) (hT : Tab w) : Calls Tryd.prog 8 #[.agg #[.int .u8 66, .int .u8 66, .int .u8 66, .int .u8 66, .int .i64 0, .int .i64 2, .int .i64 0], .int .i64 r] w fun e w' => e = .returned (.tuple #[.agg #[.int .u8 66, .int .u8 66, .int .u8 66, .int .u8 66, .int .i64 0, .int .i64 2, .int .i64 (onF r 0)], .int .i64 r]) ∧ Grew w w' := by
  have h := map_c r 66 66 66 66 0 2 0 w hT saneNew
  rw [toldNew] at h
  exact h
theorem map_113 (w : World) (hT : Tab w) : Calls Tryd.prog 8 #[.agg #[.int .u8 48, .int .u8 66, .int .u8 66, .int .u8 66, .int .i64 0, .int .i64 2, .int .i64 0], .int .i64 113] w fun e w' => e = .returned (.tuple #[.agg #[.int .u8 48, .int .u8 66, .int .u8 66, .int .u8 66, .int .i64 0, .int .i64 2, .int .i64 0], .int .i64 9472]) ∧ Grew w w' :=
  map_c 113 48 66 66 66 0 2 0 w hT (by decide)
theorem sane_113 (w : World) : Calls Tryd.prog 13 #[.agg #[.int .u8 48, .int .u8 66, .int .u8 66, .int .u8 66, .int .i64 0, .int .i64 2, .int .i64 0]] w fun e w' => e = .returned (.bool true) ∧ Grew w w' :=
  sane_c 48 66 66 66 0 2 0 w

theorem awake_c (w : World) (hT : Tab w) : Calls Tryd.prog 6 #[] w fun e w' => e = .returned (.bool true) ∧ Grew w w' := by
  have HT : ∀ w', Below w.heap.size w w' → Hid (Tab w') := fun w' h => hT.below h
  clear hT
  go_enter Tryd.func6, Tryd.ntmps6
  go_wp2_with (first | (go_at_call 9; refine (new_c _).mono ?_; rintro e w1 ⟨rfl, X1, d1, rfl⟩) | (go_at_call 12; refine (set_new _).mono ?_; rintro e w1 ⟨rfl, X2, d2, rfl⟩))
  refine (map_113 _ (HT _ (by (repeat (first | exact Below.refl _ _ | refine Below.grow ?_ (by (try simp); (try omega)) _ _ | refine Below.drewN' ?_ _ | refine Below.drew ?_ | refine Below.alloc ?_ (by (try simp); (try omega)) _ | refine Below.setCell ?_ (by (try simp); (try omega)) _)))).out).mono ?_
  rintro e w1 ⟨rfl, X3, d3, rfl⟩
  go_wp2_with (first | (go_at_call 9; refine (new_c _).mono ?_; rintro e w1 ⟨rfl, X1, d1, rfl⟩))
  refine (map_new _ _ (HT _ (by (repeat (first | exact Below.refl _ _ | refine Below.grow ?_ (by (try simp); (try omega)) _ _ | refine Below.drewN' ?_ _ | refine Below.drew ?_ | refine Below.alloc ?_ (by (try simp); (try omega)) _ | refine Below.setCell ?_ (by (try simp); (try omega)) _)))).out).mono ?_
  rintro e w1 ⟨rfl, X4, d4, rfl⟩
  go_wp2_with (first | (go_at_call 13; refine (sane_113 _).mono ?_; rintro e w1 ⟨rfl, X5, d5, rfl⟩))
  go_ret
  exact ⟨rfl, (Below.toGrow (by repeat (first | exact Below.refl _ _ | refine Below.grow ?_ (by (try simp); (try omega)) _ _ | refine Below.drewN' ?_ _ | refine Below.drew ?_ | refine Below.alloc ?_ (by (try simp); (try omega)) _ | refine Below.setCell ?_ (by (try simp); (try omega)) _)))⟩

theorem eret {b : Bool} (h : b = true) : Ending.returned (.bool b) = .returned (.bool true) := by rw [h]
set_option maxHeartbeats 1000000 in
theorem plain_sane (r g0 g1 g2 g3 gl gr on : Int) (w : World) (hT : Tab w) (hs : saneB g0 g1 g2 g3 gl gr on = true) :
    Calls Tryd.prog 3 #[.agg #[.int .u8 g0, .int .u8 g1, .int .u8 g2, .int .u8 g3, .int .i64 gl, .int .i64 gr, .int .i64 on], .int .i64 r] w fun e w' => e = .returned (.bool true) ∧ Grew w w' := by
  have HT : ∀ w', Below w.heap.size w w' → Hid (Tab w') := fun w' h => hT.below h
  clear hT
  have hy : (32 ≤ r ∧ r ≤ 127) ∨ (160 ≤ r ∧ r ≤ 255) ∨ toldF r g0 g1 g2 g3 gl gr on = r := by
    by_cases h1 : 32 ≤ r ∧ r ≤ 127
    · exact .inl h1
    · by_cases h2 : 160 ≤ r ∧ r ≤ 255
      · exact .inr (.inl h2)
      · refine .inr (.inr ?_)
        unfold toldF; rw [if_neg h1, if_neg h2]
  have hg : (95 ≤ r ∧ r ≤ 126) ∨ graphicF r = r := by
    by_cases h1 : 95 ≤ r ∧ r ≤ 126
    · exact .inl h1
    · refine .inr ?_
      unfold graphicF; rw [if_neg (by omega), if_neg (by omega)]
  have hu : r = 35 ∨ ukF r = r := by
    by_cases h1 : r = 35
    · exact .inl h1
    · refine .inr ?_
      unfold ukF; rw [if_neg h1]
  have hr : r < 32 ∨ (32 ≤ r ∧ r ≤ 34) ∨ (35 ≤ r ∧ r ≤ 35) ∨ (36 ≤ r ∧ r ≤ 94) ∨ (95 ≤ r ∧ r ≤ 126) ∨ (127 ≤ r ∧ r ≤ 127) ∨ (128 ≤ r ∧ r ≤ 159) ∨ (160 ≤ r ∧ r ≤ 255) ∨ 255 < r := by omega
  have HY := Lib.hid hy
  have HG := Lib.hid hg
  have HU := Lib.hid hu
  clear hy hg hu
  rcases hr with hr | hr | hr | hr | hr | hr | hr | hr | hr
  all_goals
    first | (have dd0 : decide (32 ≤ r) = true := by simp; omega) | (have dd0 : decide (32 ≤ r) = false := by simp; omega); first | (have dd1 : decide (r ≤ 127) = true := by simp; omega) | (have dd1 : decide (r ≤ 127) = false := by simp; omega); first | (have dd2 : decide (160 ≤ r) = true := by simp; omega) | (have dd2 : decide (160 ≤ r) = false := by simp; omega); first | (have dd3 : decide (r ≤ 255) = true := by simp; omega) | (have dd3 : decide (r ≤ 255) = false := by simp; omega); first | (have dd4 : decide (95 ≤ r) = true := by simp; omega) | (have dd4 : decide (95 ≤ r) = false := by simp; omega); first | (have dd5 : decide (r ≤ 126) = true := by simp; omega) | (have dd5 : decide (r ≤ 126) = false := by simp; omega)
    first | (have be0 : ((r : Int) == 35) = true := by simp; omega) | (have be0 : ((r : Int) == 35) = false := by simp; omega)
    have hy := HY.out
    have hg := HG.out
    have hu := HU.out
    clear HY HG HU
    go_enter Tryd.func3, Tryd.ntmps3
    go_wp2_with (first | (go_at_call 6; refine (awake_c _ (HT _ (by (repeat (first | exact Below.refl _ _ | refine Below.grow ?_ (by (try simp); (try omega)) _ _ | refine Below.drewN' ?_ _ | refine Below.drew ?_ | refine Below.alloc ?_ (by (try simp); (try omega)) _ | refine Below.setCell ?_ (by (try simp); (try omega)) _)))).out).mono ?_; rintro e w1 ⟨rfl, XA, dA, rfl⟩) | (go_at_call 7; refine (ours_c _ _ _ _ _ _ _ _).mono ?_; rintro e w1 ⟨rfl, XO, dO, rfl⟩) | (go_at_call 9; refine (new_c _).mono ?_; rintro e w1 ⟨rfl, X1, d1, rfl⟩))
    refine (map_new _ _ (HT _ (by (repeat (first | exact Below.refl _ _ | refine Below.grow ?_ (by (try simp); (try omega)) _ _ | refine Below.drewN' ?_ _ | refine Below.drew ?_ | refine Below.alloc ?_ (by (try simp); (try omega)) _ | refine Below.setCell ?_ (by (try simp); (try omega)) _)))).out).mono ?_
    rintro e w1 ⟨rfl, X4, d4, rfl⟩
    go_wp2_with fail
    refine (map_c _ _ _ _ _ _ _ _ _ (HT _ (by (repeat (first | exact Below.refl _ _ | refine Below.grow ?_ (by (try simp); (try omega)) _ _ | refine Below.drewN' ?_ _ | refine Below.drew ?_ | refine Below.alloc ?_ (by (try simp); (try omega)) _ | refine Below.setCell ?_ (by (try simp); (try omega)) _)))).out hs).mono ?_
    rintro e w1 ⟨rfl, X5, d5, rfl⟩
    go_wp2_with (first | (go_at_call 10; refine (graphic_c _ _ (HT _ (by (repeat (first | exact Below.refl _ _ | refine Below.grow ?_ (by (try simp); (try omega)) _ _ | refine Below.drewN' ?_ _ | refine Below.drew ?_ | refine Below.alloc ?_ (by (try simp); (try omega)) _ | refine Below.setCell ?_ (by (try simp); (try omega)) _)))).out).mono ?_; rintro e w' ⟨rfl, rfl⟩) | (go_at_call 11; refine (uk_c _ _).mono ?_; rintro e w' ⟨rfl, rfl⟩))
  all_goals
    go_ret
    refine ⟨eret ?_, (Below.toGrow (by repeat (first | exact Below.refl _ _ | refine Below.grow ?_ (by (try simp); (try omega)) _ _ | refine Below.drewN' ?_ _ | refine Below.drew ?_ | refine Below.alloc ?_ (by (try simp); (try omega)) _ | refine Below.setCell ?_ (by (try simp); (try omega)) _)))⟩
    clear HT
    rcases hu with hu | hu <;> rcases hg with hg | hg <;> rcases hy with hy | hy | hy
  all_goals first | (exfalso; omega) | (simp [*]; done) | (simp [*]; omega)

set_option maxHeartbeats 1000000 in
theorem plain_insane (r g0 g1 g2 g3 gl gr on : Int) (w : World) (hT : Tab w) (hs : saneB g0 g1 g2 g3 gl gr on = false) :
    Calls Tryd.prog 3 #[.agg #[.int .u8 g0, .int .u8 g1, .int .u8 g2, .int .u8 g3, .int .i64 gl, .int .i64 gr, .int .i64 on], .int .i64 r] w fun e w' => e = .returned (.bool true) ∧ Grew w w' := by
  have HT : ∀ w', Below w.heap.size w w' → Hid (Tab w') := fun w' h => hT.below h
  clear hT
  have hg : (95 ≤ r ∧ r ≤ 126) ∨ graphicF r = r := by
    by_cases h1 : 95 ≤ r ∧ r ≤ 126
    · exact .inl h1
    · refine .inr ?_
      unfold graphicF; rw [if_neg (by omega), if_neg (by omega)]
  have hu : r = 35 ∨ ukF r = r := by
    by_cases h1 : r = 35
    · exact .inl h1
    · refine .inr ?_
      unfold ukF; rw [if_neg h1]
  have hr : r < 32 ∨ (32 ≤ r ∧ r ≤ 34) ∨ (35 ≤ r ∧ r ≤ 35) ∨ (36 ≤ r ∧ r ≤ 94) ∨ (95 ≤ r ∧ r ≤ 126) ∨ (127 ≤ r ∧ r ≤ 127) ∨ (128 ≤ r ∧ r ≤ 159) ∨ (160 ≤ r ∧ r ≤ 255) ∨ 255 < r := by omega
  have HG := Lib.hid hg
  have HU := Lib.hid hu
  clear hg hu
  rcases hr with hr | hr | hr | hr | hr | hr | hr | hr | hr
  all_goals
    first | (have dd0 : decide (32 ≤ r) = true := by simp; omega) | (have dd0 : decide (32 ≤ r) = false := by simp; omega); first | (have dd1 : decide (r ≤ 127) = true := by simp; omega) | (have dd1 : decide (r ≤ 127) = false := by simp; omega); first | (have dd2 : decide (160 ≤ r) = true := by simp; omega) | (have dd2 : decide (160 ≤ r) = false := by simp; omega); first | (have dd3 : decide (r ≤ 255) = true := by simp; omega) | (have dd3 : decide (r ≤ 255) = false := by simp; omega); first | (have dd4 : decide (95 ≤ r) = true := by simp; omega) | (have dd4 : decide (95 ≤ r) = false := by simp; omega); first | (have dd5 : decide (r ≤ 126) = true := by simp; omega) | (have dd5 : decide (r ≤ 126) = false := by simp; omega)
    first | (have be0 : ((r : Int) == 35) = true := by simp; omega) | (have be0 : ((r : Int) == 35) = false := by simp; omega)
    have hg := HG.out
    have hu := HU.out
    clear HG HU
    go_enter Tryd.func3, Tryd.ntmps3
    go_wp2_with (first | (go_at_call 6; refine (awake_c _ (HT _ (by (repeat (first | exact Below.refl _ _ | refine Below.grow ?_ (by (try simp); (try omega)) _ _ | refine Below.drewN' ?_ _ | refine Below.drew ?_ | refine Below.alloc ?_ (by (try simp); (try omega)) _ | refine Below.setCell ?_ (by (try simp); (try omega)) _)))).out).mono ?_; rintro e w1 ⟨rfl, XA, dA, rfl⟩) | (go_at_call 7; refine (ours_c _ _ _ _ _ _ _ _).mono ?_; rintro e w1 ⟨rfl, XO, dO, rfl⟩) | (go_at_call 9; refine (new_c _).mono ?_; rintro e w1 ⟨rfl, X1, d1, rfl⟩))
    refine (map_new _ _ (HT _ (by (repeat (first | exact Below.refl _ _ | refine Below.grow ?_ (by (try simp); (try omega)) _ _ | refine Below.drewN' ?_ _ | refine Below.drew ?_ | refine Below.alloc ?_ (by (try simp); (try omega)) _ | refine Below.setCell ?_ (by (try simp); (try omega)) _)))).out).mono ?_
    rintro e w1 ⟨rfl, X4, d4, rfl⟩
    go_wp2_with fail
    refine (map_insane _ _ _ _ _ _ _ _ _ hs).mono ?_
    rintro e w1 ⟨rfl, X5, d5, rfl⟩
    go_wp2_with (first | (go_at_call 10; refine (graphic_c _ _ (HT _ (by (repeat (first | exact Below.refl _ _ | refine Below.grow ?_ (by (try simp); (try omega)) _ _ | refine Below.drewN' ?_ _ | refine Below.drew ?_ | refine Below.alloc ?_ (by (try simp); (try omega)) _ | refine Below.setCell ?_ (by (try simp); (try omega)) _)))).out).mono ?_; rintro e w' ⟨rfl, rfl⟩) | (go_at_call 11; refine (uk_c _ _).mono ?_; rintro e w' ⟨rfl, rfl⟩))
  all_goals
    go_ret
    refine ⟨eret ?_, (Below.toGrow (by repeat (first | exact Below.refl _ _ | refine Below.grow ?_ (by (try simp); (try omega)) _ _ | refine Below.drewN' ?_ _ | refine Below.drew ?_ | refine Below.alloc ?_ (by (try simp); (try omega)) _ | refine Below.setCell ?_ (by (try simp); (try omega)) _)))⟩
    clear HT
    rcases hu with hu | hu <;> rcases hg with hg | hg
  all_goals first | (exfalso; omega) | (simp [*]; done) | (simp [*]; omega)

theorem plain_law (r g0 g1 g2 g3 gl gr on : Int) (w : World) (hT : Tab w) :
    Calls Tryd.prog 3 #[.agg #[.int .u8 g0, .int .u8 g1, .int .u8 g2, .int .u8 g3, .int .i64 gl, .int .i64 gr, .int .i64 on], .int .i64 r] w fun e w' => e = .returned (.bool true) ∧ Grew w w' := by
  cases hs : saneB g0 g1 g2 g3 gl gr on
  · exact plain_insane r g0 g1 g2 g3 gl gr on w hT hs
  · exact plain_sane r g0 g1 g2 g3 gl gr on w hT hs
end Go.Proofs.YtpcpgoeahndlfaaDoor.Char
