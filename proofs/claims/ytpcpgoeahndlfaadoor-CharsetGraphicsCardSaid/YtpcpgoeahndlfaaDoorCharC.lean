/- The walk of charset.Map. -/
import Derived.Test.YtpcpgoeahndlfaaDoorCharB
namespace Go.Proofs.YtpcpgoeahndlfaaDoor.Char
open Go.RowKit

def pickG (i g0 g1 g2 g3 : Int) : Int := if i = 0 then g0 else if i = 1 then g1 else if i = 2 then g2 else g3
/-- what a letter stands for, in a state that may be -/
def toldF (r g0 g1 g2 g3 gl gr on : Int) : Int :=
  if 32 ≤ r ∧ r ≤ 127 then (if on = 0 then byF (pickG gl g0 g1 g2 g3) r else byF (pickG on g0 g1 g2 g3) r)
  else if 160 ≤ r ∧ r ≤ 255 then (if pickG gr g0 g1 g2 g3 = 66 then r else byF (pickG gr g0 g1 g2 g3) (r - 128)) else r
def onF (r on : Int) : Int := if 32 ≤ r ∧ (r < 127 ∨ 159 < r) then 0 else on

theorem sane_places {g0 g1 g2 g3 gl gr on : Int} (h : saneB g0 g1 g2 g3 gl gr on = true) : (gl = 0 ∨ gl = 1 ∨ gl = 2 ∨ gl = 3) ∧ (gr = 0 ∨ gr = 1 ∨ gr = 2 ∨ gr = 3) ∧ (on = 0 ∨ on = 2 ∨ on = 3) := by
  unfold saneB isPlaceB isShiftB at h
  simp at h
  omega

theorem map_insane (r g0 g1 g2 g3 gl gr on : Int) (w : World) (hs : saneB g0 g1 g2 g3 gl gr on = false) : Calls Tryd.prog 8 #[.agg #[.int .u8 g0, .int .u8 g1, .int .u8 g2, .int .u8 g3, .int .i64 gl, .int .i64 gr, .int .i64 on], .int .i64 r] w fun e w' => e = .returned (.tuple #[.agg #[.int .u8 66, .int .u8 66, .int .u8 66, .int .u8 66, .int .i64 0, .int .i64 2, .int .i64 0], .int .i64 r]) ∧ Grew w w' := by
  go_enter Tryd.func8, Tryd.ntmps8
  go_wp2_with (first | (go_at_call 13; refine (sane_c _ _ _ _ _ _ _ _).mono ?_; rintro e w1 ⟨rfl, X1, d1, rfl⟩) | (go_at_call 9; refine (new_c _).mono ?_; rintro e w1 ⟨rfl, X2, d2, rfl⟩))
  exact bodyPost_ret (v := .tuple #[.agg #[.int .u8 66, .int .u8 66, .int .u8 66, .int .u8 66, .int .i64 0, .int .i64 2, .int .i64 0], .int .i64 r]) (by simp [results, Tryd.results8, go_sem]) rfl ⟨rfl, (Below.toGrow (by repeat (first | exact Below.refl _ _ | refine Below.grow ?_ (by (try simp); (try omega)) _ _ | refine Below.drewN' ?_ _ | refine Below.drew ?_ | refine Below.alloc ?_ (by (try simp); (try omega)) _ | refine Below.setCell ?_ (by (try simp); (try omega)) _)))⟩

theorem tab_alloc {w : World} (h : Tab w) (o : Obj) : Tab (w.alloc o) := h.below ((Below.refl _ _).alloc (Nat.le_refl _) o)
theorem tab_grow {w : World} (h : Tab w) (X : Array Obj) (d : Nat) : Tab (w.grow X d) := h.below ((Below.refl _ _).grow (Nat.le_refl _) X d)

set_option maxHeartbeats 1000000 in
/-- a letter of GL, or of the place that is used once -/
theorem map_mid (r g0 g1 g2 g3 gl gr on : Int) (w : World) (hT : Tab w) (hs : saneB g0 g1 g2 g3 gl gr on = true) (h1 : 32 ≤ r) (h2 : r ≤ 127) :
    Calls Tryd.prog 8 #[.agg #[.int .u8 g0, .int .u8 g1, .int .u8 g2, .int .u8 g3, .int .i64 gl, .int .i64 gr, .int .i64 on], .int .i64 r] w fun e w' => e = .returned (.tuple #[.agg #[.int .u8 g0, .int .u8 g1, .int .u8 g2, .int .u8 g3, .int .i64 gl, .int .i64 gr, .int .i64 (onF r on)], .int .i64 (toldF r g0 g1 g2 g3 gl gr on)]) ∧ Grew w w' := by
  obtain ⟨hgl, hgr, hon⟩ := sane_places hs
  have HT : ∀ X d, Hid (Tab (((w.alloc (.cells #[.int .u8 g0, .int .u8 g1, .int .u8 g2, .int .u8 g3, .int .i64 gl, .int .i64 gr, .int .i64 on] 26)).alloc (.cells #[.int .u8 0, .int .u8 0, .int .u8 0, .int .u8 0, .int .i64 0, .int .i64 0, .int .i64 0] 26)).grow X d)) := fun X d => tab_grow (tab_alloc (tab_alloc hT _) _) X d
  clear hT hgr
  have H1 : toldF r g0 g1 g2 g3 gl gr on = if on = 0 then byF (pickG gl g0 g1 g2 g3) r else byF (pickG on g0 g1 g2 g3) r := by unfold toldF; rw [if_pos ⟨h1, h2⟩]
  by_cases h3 : r = 127
  · have H2 : onF r on = on := by unfold onF; rw [if_neg (by omega)]
    rw [H1, H2]
    clear H1 H2 h1 h2
    subst h3
    rcases hon with rfl | rfl | rfl
    · rcases hgl with rfl | rfl | rfl | rfl
      all_goals (go_enter Tryd.func8, Tryd.ntmps8; go_wp2_with (first | (go_at_call 13; refine (sane_c _ _ _ _ _ _ _ _).mono ?_; rintro e w1 ⟨rfl, X1, d1, rfl⟩) | (go_at_call 16; refine (by_c _ _ _ (HT X1 d1).out).mono ?_; rintro e w' ⟨rfl, rfl⟩)); all_goals (refine bodyPost_ret (v := _) (by (simp [results, Tryd.results8, go_sem]; exact rfl)) rfl ⟨?_, (Below.toGrow (by repeat (first | exact Below.refl _ _ | refine Below.grow ?_ (by (try simp); (try omega)) _ _ | refine Below.drewN' ?_ _ | refine Below.drew ?_ | refine Below.alloc ?_ (by (try simp); (try omega)) _ | refine Below.setCell ?_ (by (try simp); (try omega)) _)))⟩; exact rfl))
    · clear hgl; go_enter Tryd.func8, Tryd.ntmps8; go_wp2_with (first | (go_at_call 13; refine (sane_c _ _ _ _ _ _ _ _).mono ?_; rintro e w1 ⟨rfl, X1, d1, rfl⟩) | (go_at_call 16; refine (by_c _ _ _ (HT X1 d1).out).mono ?_; rintro e w' ⟨rfl, rfl⟩)); all_goals (refine bodyPost_ret (v := _) (by (simp [results, Tryd.results8, go_sem]; exact rfl)) rfl ⟨?_, (Below.toGrow (by repeat (first | exact Below.refl _ _ | refine Below.grow ?_ (by (try simp); (try omega)) _ _ | refine Below.drewN' ?_ _ | refine Below.drew ?_ | refine Below.alloc ?_ (by (try simp); (try omega)) _ | refine Below.setCell ?_ (by (try simp); (try omega)) _)))⟩; exact rfl)
    · clear hgl; go_enter Tryd.func8, Tryd.ntmps8; go_wp2_with (first | (go_at_call 13; refine (sane_c _ _ _ _ _ _ _ _).mono ?_; rintro e w1 ⟨rfl, X1, d1, rfl⟩) | (go_at_call 16; refine (by_c _ _ _ (HT X1 d1).out).mono ?_; rintro e w' ⟨rfl, rfl⟩)); all_goals (refine bodyPost_ret (v := _) (by (simp [results, Tryd.results8, go_sem]; exact rfl)) rfl ⟨?_, (Below.toGrow (by repeat (first | exact Below.refl _ _ | refine Below.grow ?_ (by (try simp); (try omega)) _ _ | refine Below.drewN' ?_ _ | refine Below.drew ?_ | refine Below.alloc ?_ (by (try simp); (try omega)) _ | refine Below.setCell ?_ (by (try simp); (try omega)) _)))⟩; exact rfl)
  · have H2 : onF r on = 0 := by unfold onF; rw [if_pos (by omega)]
    have h4 : r ≤ 126 := by omega
    rw [H1, H2]
    clear H1 H2 h2 h3
    rcases hon with rfl | rfl | rfl
    · rcases hgl with rfl | rfl | rfl | rfl
      all_goals (go_enter Tryd.func8, Tryd.ntmps8; go_wp2_with (first | (go_at_call 13; refine (sane_c _ _ _ _ _ _ _ _).mono ?_; rintro e w1 ⟨rfl, X1, d1, rfl⟩) | (go_at_call 16; refine (by_c _ _ _ (HT X1 d1).out).mono ?_; rintro e w' ⟨rfl, rfl⟩)); all_goals (refine bodyPost_ret (v := _) (by (simp [results, Tryd.results8, go_sem]; exact rfl)) rfl ⟨?_, (Below.toGrow (by repeat (first | exact Below.refl _ _ | refine Below.grow ?_ (by (try simp); (try omega)) _ _ | refine Below.drewN' ?_ _ | refine Below.drew ?_ | refine Below.alloc ?_ (by (try simp); (try omega)) _ | refine Below.setCell ?_ (by (try simp); (try omega)) _)))⟩; exact rfl))
    · clear hgl; go_enter Tryd.func8, Tryd.ntmps8; go_wp2_with (first | (go_at_call 13; refine (sane_c _ _ _ _ _ _ _ _).mono ?_; rintro e w1 ⟨rfl, X1, d1, rfl⟩) | (go_at_call 16; refine (by_c _ _ _ (HT X1 d1).out).mono ?_; rintro e w' ⟨rfl, rfl⟩)); all_goals (refine bodyPost_ret (v := _) (by (simp [results, Tryd.results8, go_sem]; exact rfl)) rfl ⟨?_, (Below.toGrow (by repeat (first | exact Below.refl _ _ | refine Below.grow ?_ (by (try simp); (try omega)) _ _ | refine Below.drewN' ?_ _ | refine Below.drew ?_ | refine Below.alloc ?_ (by (try simp); (try omega)) _ | refine Below.setCell ?_ (by (try simp); (try omega)) _)))⟩; exact rfl)
    · clear hgl; go_enter Tryd.func8, Tryd.ntmps8; go_wp2_with (first | (go_at_call 13; refine (sane_c _ _ _ _ _ _ _ _).mono ?_; rintro e w1 ⟨rfl, X1, d1, rfl⟩) | (go_at_call 16; refine (by_c _ _ _ (HT X1 d1).out).mono ?_; rintro e w' ⟨rfl, rfl⟩)); all_goals (refine bodyPost_ret (v := _) (by (simp [results, Tryd.results8, go_sem]; exact rfl)) rfl ⟨?_, (Below.toGrow (by repeat (first | exact Below.refl _ _ | refine Below.grow ?_ (by (try simp); (try omega)) _ _ | refine Below.drewN' ?_ _ | refine Below.drew ?_ | refine Below.alloc ?_ (by (try simp); (try omega)) _ | refine Below.setCell ?_ (by (try simp); (try omega)) _)))⟩; exact rfl)

set_option maxHeartbeats 1000000 in
/-- a letter of GR -/
theorem map_hi (r g0 g1 g2 g3 gl gr on : Int) (w : World) (hT : Tab w) (hs : saneB g0 g1 g2 g3 gl gr on = true) (h1 : 160 ≤ r) (h2 : r ≤ 255) :
    Calls Tryd.prog 8 #[.agg #[.int .u8 g0, .int .u8 g1, .int .u8 g2, .int .u8 g3, .int .i64 gl, .int .i64 gr, .int .i64 on], .int .i64 r] w fun e w' => e = .returned (.tuple #[.agg #[.int .u8 g0, .int .u8 g1, .int .u8 g2, .int .u8 g3, .int .i64 gl, .int .i64 gr, .int .i64 (onF r on)], .int .i64 (toldF r g0 g1 g2 g3 gl gr on)]) ∧ Grew w w' := by
  obtain ⟨hgl, hgr, hon⟩ := sane_places hs
  have HT : ∀ X d, Hid (Tab (((w.alloc (.cells #[.int .u8 g0, .int .u8 g1, .int .u8 g2, .int .u8 g3, .int .i64 gl, .int .i64 gr, .int .i64 on] 26)).alloc (.cells #[.int .u8 0, .int .u8 0, .int .u8 0, .int .u8 0, .int .i64 0, .int .i64 0, .int .i64 0] 26)).grow X d)) := fun X d => tab_grow (tab_alloc (tab_alloc hT _) _) X d
  clear hT hgl hon
  have H1 : toldF r g0 g1 g2 g3 gl gr on = if pickG gr g0 g1 g2 g3 = 66 then r else byF (pickG gr g0 g1 g2 g3) (r - 128) := by unfold toldF; rw [if_neg (by omega), if_pos ⟨h1, h2⟩]
  have H2 : onF r on = 0 := by unfold onF; rw [if_pos (by omega)]
  rw [H1, H2]
  clear H1 H2
  have h6 : decide (r ≤ 159) = false := by simp; omega
  have h7 : decide (127 ≤ r) = true := by simp; omega
  have h8 : decide (32 ≤ r) = true := by simp; omega
  have h9 : decide (r ≤ 127) = false := by simp; omega
  have h10 : decide (160 ≤ r) = true := by simp; omega
  have h11 : decide (r ≤ 255) = true := by simp; omega
  by_cases h4 : pickG gr g0 g1 g2 g3 = 66
  · rw [if_pos h4]
    rcases hgr with rfl | rfl | rfl | rfl
    · have h5 : (g0 == 66) = true := by simpa [pickG] using h4
      clear h4
      go_enter Tryd.func8, Tryd.ntmps8; go_wp2_with (first | (go_at_call 13; refine (sane_c _ _ _ _ _ _ _ _).mono ?_; rintro e w1 ⟨rfl, X1, d1, rfl⟩) | (go_at_call 16; refine (by_c _ _ _ (HT X1 d1).out).mono ?_; rintro e w' ⟨rfl, rfl⟩)); all_goals (refine bodyPost_ret (v := _) (by (simp [results, Tryd.results8, go_sem]; exact rfl)) rfl ⟨?_, (Below.toGrow (by repeat (first | exact Below.refl _ _ | refine Below.grow ?_ (by (try simp); (try omega)) _ _ | refine Below.drewN' ?_ _ | refine Below.drew ?_ | refine Below.alloc ?_ (by (try simp); (try omega)) _ | refine Below.setCell ?_ (by (try simp); (try omega)) _)))⟩; exact rfl)
    · have h5 : (g1 == 66) = true := by simpa [pickG] using h4
      clear h4
      go_enter Tryd.func8, Tryd.ntmps8; go_wp2_with (first | (go_at_call 13; refine (sane_c _ _ _ _ _ _ _ _).mono ?_; rintro e w1 ⟨rfl, X1, d1, rfl⟩) | (go_at_call 16; refine (by_c _ _ _ (HT X1 d1).out).mono ?_; rintro e w' ⟨rfl, rfl⟩)); all_goals (refine bodyPost_ret (v := _) (by (simp [results, Tryd.results8, go_sem]; exact rfl)) rfl ⟨?_, (Below.toGrow (by repeat (first | exact Below.refl _ _ | refine Below.grow ?_ (by (try simp); (try omega)) _ _ | refine Below.drewN' ?_ _ | refine Below.drew ?_ | refine Below.alloc ?_ (by (try simp); (try omega)) _ | refine Below.setCell ?_ (by (try simp); (try omega)) _)))⟩; exact rfl)
    · have h5 : (g2 == 66) = true := by simpa [pickG] using h4
      clear h4
      go_enter Tryd.func8, Tryd.ntmps8; go_wp2_with (first | (go_at_call 13; refine (sane_c _ _ _ _ _ _ _ _).mono ?_; rintro e w1 ⟨rfl, X1, d1, rfl⟩) | (go_at_call 16; refine (by_c _ _ _ (HT X1 d1).out).mono ?_; rintro e w' ⟨rfl, rfl⟩)); all_goals (refine bodyPost_ret (v := _) (by (simp [results, Tryd.results8, go_sem]; exact rfl)) rfl ⟨?_, (Below.toGrow (by repeat (first | exact Below.refl _ _ | refine Below.grow ?_ (by (try simp); (try omega)) _ _ | refine Below.drewN' ?_ _ | refine Below.drew ?_ | refine Below.alloc ?_ (by (try simp); (try omega)) _ | refine Below.setCell ?_ (by (try simp); (try omega)) _)))⟩; exact rfl)
    · have h5 : (g3 == 66) = true := by simpa [pickG] using h4
      clear h4
      go_enter Tryd.func8, Tryd.ntmps8; go_wp2_with (first | (go_at_call 13; refine (sane_c _ _ _ _ _ _ _ _).mono ?_; rintro e w1 ⟨rfl, X1, d1, rfl⟩) | (go_at_call 16; refine (by_c _ _ _ (HT X1 d1).out).mono ?_; rintro e w' ⟨rfl, rfl⟩)); all_goals (refine bodyPost_ret (v := _) (by (simp [results, Tryd.results8, go_sem]; exact rfl)) rfl ⟨?_, (Below.toGrow (by repeat (first | exact Below.refl _ _ | refine Below.grow ?_ (by (try simp); (try omega)) _ _ | refine Below.drewN' ?_ _ | refine Below.drew ?_ | refine Below.alloc ?_ (by (try simp); (try omega)) _ | refine Below.setCell ?_ (by (try simp); (try omega)) _)))⟩; exact rfl)
  · rw [if_neg h4]
    rcases hgr with rfl | rfl | rfl | rfl
    · have h5 : (g0 == 66) = false := by simpa [pickG] using h4
      clear h4
      go_enter Tryd.func8, Tryd.ntmps8; go_wp2_with (first | (go_at_call 13; refine (sane_c _ _ _ _ _ _ _ _).mono ?_; rintro e w1 ⟨rfl, X1, d1, rfl⟩) | (go_at_call 16; refine (by_c _ _ _ (HT X1 d1).out).mono ?_; rintro e w' ⟨rfl, rfl⟩)); all_goals (refine bodyPost_ret (v := _) (by (simp [results, Tryd.results8, go_sem]; exact rfl)) rfl ⟨?_, (Below.toGrow (by repeat (first | exact Below.refl _ _ | refine Below.grow ?_ (by (try simp); (try omega)) _ _ | refine Below.drewN' ?_ _ | refine Below.drew ?_ | refine Below.alloc ?_ (by (try simp); (try omega)) _ | refine Below.setCell ?_ (by (try simp); (try omega)) _)))⟩; exact rfl)
    · have h5 : (g1 == 66) = false := by simpa [pickG] using h4
      clear h4
      go_enter Tryd.func8, Tryd.ntmps8; go_wp2_with (first | (go_at_call 13; refine (sane_c _ _ _ _ _ _ _ _).mono ?_; rintro e w1 ⟨rfl, X1, d1, rfl⟩) | (go_at_call 16; refine (by_c _ _ _ (HT X1 d1).out).mono ?_; rintro e w' ⟨rfl, rfl⟩)); all_goals (refine bodyPost_ret (v := _) (by (simp [results, Tryd.results8, go_sem]; exact rfl)) rfl ⟨?_, (Below.toGrow (by repeat (first | exact Below.refl _ _ | refine Below.grow ?_ (by (try simp); (try omega)) _ _ | refine Below.drewN' ?_ _ | refine Below.drew ?_ | refine Below.alloc ?_ (by (try simp); (try omega)) _ | refine Below.setCell ?_ (by (try simp); (try omega)) _)))⟩; exact rfl)
    · have h5 : (g2 == 66) = false := by simpa [pickG] using h4
      clear h4
      go_enter Tryd.func8, Tryd.ntmps8; go_wp2_with (first | (go_at_call 13; refine (sane_c _ _ _ _ _ _ _ _).mono ?_; rintro e w1 ⟨rfl, X1, d1, rfl⟩) | (go_at_call 16; refine (by_c _ _ _ (HT X1 d1).out).mono ?_; rintro e w' ⟨rfl, rfl⟩)); all_goals (refine bodyPost_ret (v := _) (by (simp [results, Tryd.results8, go_sem]; exact rfl)) rfl ⟨?_, (Below.toGrow (by repeat (first | exact Below.refl _ _ | refine Below.grow ?_ (by (try simp); (try omega)) _ _ | refine Below.drewN' ?_ _ | refine Below.drew ?_ | refine Below.alloc ?_ (by (try simp); (try omega)) _ | refine Below.setCell ?_ (by (try simp); (try omega)) _)))⟩; exact rfl)
    · have h5 : (g3 == 66) = false := by simpa [pickG] using h4
      clear h4
      go_enter Tryd.func8, Tryd.ntmps8; go_wp2_with (first | (go_at_call 13; refine (sane_c _ _ _ _ _ _ _ _).mono ?_; rintro e w1 ⟨rfl, X1, d1, rfl⟩) | (go_at_call 16; refine (by_c _ _ _ (HT X1 d1).out).mono ?_; rintro e w' ⟨rfl, rfl⟩)); all_goals (refine bodyPost_ret (v := _) (by (simp [results, Tryd.results8, go_sem]; exact rfl)) rfl ⟨?_, (Below.toGrow (by repeat (first | exact Below.refl _ _ | refine Below.grow ?_ (by (try simp); (try omega)) _ _ | refine Below.drewN' ?_ _ | refine Below.drew ?_ | refine Below.alloc ?_ (by (try simp); (try omega)) _ | refine Below.setCell ?_ (by (try simp); (try omega)) _)))⟩; exact rfl)

set_option maxHeartbeats 1000000 in
/-- what is no letter of a set -/
theorem map_else (r g0 g1 g2 g3 gl gr on : Int) (w : World) (hs : saneB g0 g1 g2 g3 gl gr on = true) (h : r < 32 ∨ (128 ≤ r ∧ r ≤ 159) ∨ 255 < r) :
    Calls Tryd.prog 8 #[.agg #[.int .u8 g0, .int .u8 g1, .int .u8 g2, .int .u8 g3, .int .i64 gl, .int .i64 gr, .int .i64 on], .int .i64 r] w fun e w' => e = .returned (.tuple #[.agg #[.int .u8 g0, .int .u8 g1, .int .u8 g2, .int .u8 g3, .int .i64 gl, .int .i64 gr, .int .i64 (onF r on)], .int .i64 (toldF r g0 g1 g2 g3 gl gr on)]) ∧ Grew w w' := by
  have H1 : toldF r g0 g1 g2 g3 gl gr on = r := by unfold toldF; rw [if_neg (by omega), if_neg (by omega)]
  rw [H1]
  clear H1
  rcases h with h | ⟨h1, h2⟩ | h
  · have H2 : onF r on = on := by unfold onF; rw [if_neg (by omega)]
    rw [H2]
    clear H2
    have h20 : decide (32 ≤ r) = false := by simp; omega
    have h21 : decide (r ≤ 127) = true := by simp; omega
    have h22 : decide (127 ≤ r) = false := by simp; omega
    have h23 : decide (r ≤ 159) = true := by simp; omega
    have h24 : decide (160 ≤ r) = false := by simp; omega
    have h25 : decide (r ≤ 255) = true := by simp; omega
    go_enter Tryd.func8, Tryd.ntmps8
    go_wp2_with (first | (go_at_call 13; refine (sane_c _ _ _ _ _ _ _ _).mono ?_; rintro e w1 ⟨rfl, X1, d1, rfl⟩))
    all_goals (refine bodyPost_ret (v := _) (by (simp [results, Tryd.results8, go_sem]; exact rfl)) rfl ⟨?_, (Below.toGrow (by repeat (first | exact Below.refl _ _ | refine Below.grow ?_ (by (try simp); (try omega)) _ _ | refine Below.drewN' ?_ _ | refine Below.drew ?_ | refine Below.alloc ?_ (by (try simp); (try omega)) _ | refine Below.setCell ?_ (by (try simp); (try omega)) _)))⟩; exact rfl)
  · have H2 : onF r on = on := by unfold onF; rw [if_neg (by omega)]
    rw [H2]
    clear H2
    have h20 : decide (32 ≤ r) = true := by simp; omega
    have h21 : decide (r ≤ 127) = false := by simp; omega
    have h22 : decide (127 ≤ r) = true := by simp; omega
    have h23 : decide (r ≤ 159) = true := by simp; omega
    have h24 : decide (160 ≤ r) = false := by simp; omega
    have h25 : decide (r ≤ 255) = true := by simp; omega
    go_enter Tryd.func8, Tryd.ntmps8
    go_wp2_with (first | (go_at_call 13; refine (sane_c _ _ _ _ _ _ _ _).mono ?_; rintro e w1 ⟨rfl, X1, d1, rfl⟩))
    all_goals (refine bodyPost_ret (v := _) (by (simp [results, Tryd.results8, go_sem]; exact rfl)) rfl ⟨?_, (Below.toGrow (by repeat (first | exact Below.refl _ _ | refine Below.grow ?_ (by (try simp); (try omega)) _ _ | refine Below.drewN' ?_ _ | refine Below.drew ?_ | refine Below.alloc ?_ (by (try simp); (try omega)) _ | refine Below.setCell ?_ (by (try simp); (try omega)) _)))⟩; exact rfl)
  · have H2 : onF r on = 0 := by unfold onF; rw [if_pos (by omega)]
    rw [H2]
    clear H2
    have h20 : decide (32 ≤ r) = true := by simp; omega
    have h21 : decide (r ≤ 127) = false := by simp; omega
    have h22 : decide (127 ≤ r) = true := by simp; omega
    have h23 : decide (r ≤ 159) = false := by simp; omega
    have h24 : decide (160 ≤ r) = true := by simp; omega
    have h25 : decide (r ≤ 255) = false := by simp; omega
    go_enter Tryd.func8, Tryd.ntmps8
    go_wp2_with (first | (go_at_call 13; refine (sane_c _ _ _ _ _ _ _ _).mono ?_; rintro e w1 ⟨rfl, X1, d1, rfl⟩))
    all_goals (refine bodyPost_ret (v := _) (by (simp [results, Tryd.results8, go_sem]; exact rfl)) rfl ⟨?_, (Below.toGrow (by repeat (first | exact Below.refl _ _ | refine Below.grow ?_ (by (try simp); (try omega)) _ _ | refine Below.drewN' ?_ _ | refine Below.drew ?_ | refine Below.alloc ?_ (by (try simp); (try omega)) _ | refine Below.setCell ?_ (by (try simp); (try omega)) _)))⟩; exact rfl)

/-- what a letter stands for, in any state that may be -/
theorem map_c (r g0 g1 g2 g3 gl gr on : Int) (w : World) (hT : Tab w) (hs : saneB g0 g1 g2 g3 gl gr on = true) :
    Calls Tryd.prog 8 #[.agg #[.int .u8 g0, .int .u8 g1, .int .u8 g2, .int .u8 g3, .int .i64 gl, .int .i64 gr, .int .i64 on], .int .i64 r] w fun e w' => e = .returned (.tuple #[.agg #[.int .u8 g0, .int .u8 g1, .int .u8 g2, .int .u8 g3, .int .i64 gl, .int .i64 gr, .int .i64 (onF r on)], .int .i64 (toldF r g0 g1 g2 g3 gl gr on)]) ∧ Grew w w' := by
  by_cases h1 : 32 ≤ r ∧ r ≤ 127
  · exact map_mid r g0 g1 g2 g3 gl gr on w hT hs h1.1 h1.2
  · by_cases h2 : 160 ≤ r ∧ r ≤ 255
    · exact map_hi r g0 g1 g2 g3 gl gr on w hT hs h2.1 h2.2
    · exact map_else r g0 g1 g2 g3 gl gr on w hs (by omega)
end Go.Proofs.YtpcpgoeahndlfaaDoor.Char
