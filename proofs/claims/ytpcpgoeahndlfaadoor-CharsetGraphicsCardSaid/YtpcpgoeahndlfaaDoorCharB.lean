/- Walks of charset's functions that change a state or map a letter. -/
import Derived.Test.YtpcpgoeahndlfaaDoorCharA
namespace Go.Proofs.YtpcpgoeahndlfaaDoor.Char
open Go.RowKit

def setB (wh f : Int) : Bool := isPlaceB wh && isSetB f
def pickI (c : Bool) (a b : Int) : Int := if c then a else b
/-- the state behind Set -/
def setV (wh f g0 g1 g2 g3 gl gr on : Int) : Value := .agg #[.int .u8 (pickI (setB wh f && wh == 0) f g0), .int .u8 (pickI (setB wh f && wh == 1) f g1), .int .u8 (pickI (setB wh f && wh == 2) f g2), .int .u8 (pickI (setB wh f && wh == 3) f g3), .int .i64 gl, .int .i64 gr, .int .i64 on]

theorem set_c (wh f g0 g1 g2 g3 gl gr on : Int) (w : World) (hs : saneB g0 g1 g2 g3 gl gr on = true) : Calls Tryd.prog 12 #[.agg #[.int .u8 g0, .int .u8 g1, .int .u8 g2, .int .u8 g3, .int .i64 gl, .int .i64 gr, .int .i64 on], .int .i64 wh, .int .u8 f] w fun e w' => e = .returned (setV wh f g0 g1 g2 g3 gl gr on) ∧ Grew w w' := by
  by_cases hb : setB wh f = true
  · have hb' := hb
    unfold setB at hb'
    simp only [Bool.and_eq_true] at hb'
    obtain ⟨hp, hf⟩ := hb'
    have hw4 : wh = 0 ∨ wh = 1 ∨ wh = 2 ∨ wh = 3 := by unfold isPlaceB at hp; simp at hp; omega
    unfold setV
    rw [hb]
    clear hb
    rcases hw4 with rfl | rfl | rfl | rfl
    all_goals
      go_enter Tryd.func12, Tryd.ntmps12
      go_wp2_with (first | (go_at_call 13; refine (sane_c _ _ _ _ _ _ _ _).mono ?_; rintro e w1 ⟨rfl, X1, d1, rfl⟩) | (go_at_call 17; refine (isPlace_c _ _).mono ?_; rintro e w' ⟨rfl, rfl⟩) | (go_at_call 18; refine (isSet_c _ _).mono ?_; rintro e w' ⟨rfl, rfl⟩))
    · exact bodyPost_ret (v := .agg #[.int .u8 f, .int .u8 g1, .int .u8 g2, .int .u8 g3, .int .i64 gl, .int .i64 gr, .int .i64 on]) (by simp [results, Tryd.results12, go_sem]) rfl ⟨rfl, (Below.toGrow (by repeat (first | exact Below.refl _ _ | refine Below.grow ?_ (by (try simp); (try omega)) _ _ | refine Below.drewN' ?_ _ | refine Below.drew ?_ | refine Below.alloc ?_ (by (try simp); (try omega)) _ | refine Below.setCell ?_ (by (try simp); (try omega)) _)))⟩
    · exact bodyPost_ret (v := .agg #[.int .u8 g0, .int .u8 f, .int .u8 g2, .int .u8 g3, .int .i64 gl, .int .i64 gr, .int .i64 on]) (by simp [results, Tryd.results12, go_sem]) rfl ⟨rfl, (Below.toGrow (by repeat (first | exact Below.refl _ _ | refine Below.grow ?_ (by (try simp); (try omega)) _ _ | refine Below.drewN' ?_ _ | refine Below.drew ?_ | refine Below.alloc ?_ (by (try simp); (try omega)) _ | refine Below.setCell ?_ (by (try simp); (try omega)) _)))⟩
    · exact bodyPost_ret (v := .agg #[.int .u8 g0, .int .u8 g1, .int .u8 f, .int .u8 g3, .int .i64 gl, .int .i64 gr, .int .i64 on]) (by simp [results, Tryd.results12, go_sem]) rfl ⟨rfl, (Below.toGrow (by repeat (first | exact Below.refl _ _ | refine Below.grow ?_ (by (try simp); (try omega)) _ _ | refine Below.drewN' ?_ _ | refine Below.drew ?_ | refine Below.alloc ?_ (by (try simp); (try omega)) _ | refine Below.setCell ?_ (by (try simp); (try omega)) _)))⟩
    · exact bodyPost_ret (v := .agg #[.int .u8 g0, .int .u8 g1, .int .u8 g2, .int .u8 f, .int .i64 gl, .int .i64 gr, .int .i64 on]) (by simp [results, Tryd.results12, go_sem]) rfl ⟨rfl, (Below.toGrow (by repeat (first | exact Below.refl _ _ | refine Below.grow ?_ (by (try simp); (try omega)) _ _ | refine Below.drewN' ?_ _ | refine Below.drew ?_ | refine Below.alloc ?_ (by (try simp); (try omega)) _ | refine Below.setCell ?_ (by (try simp); (try omega)) _)))⟩
  · have hb' : setB wh f = false := by simpa using hb
    unfold setV
    rw [hb']
    unfold setB at hb'
    simp only [Bool.and_eq_false_iff] at hb'
    clear hb
    rcases hb' with hp | hp
    all_goals
      go_enter Tryd.func12, Tryd.ntmps12
      go_wp2_with (first | (go_at_call 13; refine (sane_c _ _ _ _ _ _ _ _).mono ?_; rintro e w1 ⟨rfl, X1, d1, rfl⟩) | (go_at_call 17; refine (isPlace_c _ _).mono ?_; rintro e w' ⟨rfl, rfl⟩) | (go_at_call 18; refine (isSet_c _ _).mono ?_; rintro e w' ⟨rfl, rfl⟩))
      all_goals exact bodyPost_ret (v := .agg #[.int .u8 g0, .int .u8 g1, .int .u8 g2, .int .u8 g3, .int .i64 gl, .int .i64 gr, .int .i64 on]) (by simp [results, Tryd.results12, go_sem]) rfl ⟨rfl, (Below.toGrow (by repeat (first | exact Below.refl _ _ | refine Below.grow ?_ (by (try simp); (try omega)) _ _ | refine Below.drewN' ?_ _ | refine Below.drew ?_ | refine Below.alloc ?_ (by (try simp); (try omega)) _ | refine Below.setCell ?_ (by (try simp); (try omega)) _)))⟩

theorem shift_c (wh g0 g1 g2 g3 gl gr on : Int) (w : World) (hs : saneB g0 g1 g2 g3 gl gr on = true) : Calls Tryd.prog 14 #[.agg #[.int .u8 g0, .int .u8 g1, .int .u8 g2, .int .u8 g3, .int .i64 gl, .int .i64 gr, .int .i64 on], .int .i64 wh] w fun e w' => e = .returned (.agg #[.int .u8 g0, .int .u8 g1, .int .u8 g2, .int .u8 g3, .int .i64 gl, .int .i64 gr, .int .i64 (pickI (isShiftB wh) wh on)]) ∧ Grew w w' := by
  cases hb : isShiftB wh
  all_goals
    go_enter Tryd.func14, Tryd.ntmps14
    go_wp2_with (first | (go_at_call 13; refine (sane_c _ _ _ _ _ _ _ _).mono ?_; rintro e w1 ⟨rfl, X1, d1, rfl⟩) | (go_at_call 19; refine (isShift_c _ _).mono ?_; rintro e w' ⟨rfl, rfl⟩))
  · exact bodyPost_ret (v := .agg #[.int .u8 g0, .int .u8 g1, .int .u8 g2, .int .u8 g3, .int .i64 gl, .int .i64 gr, .int .i64 on]) (by simp [results, Tryd.results14, go_sem]) rfl ⟨rfl, (Below.toGrow (by repeat (first | exact Below.refl _ _ | refine Below.grow ?_ (by (try simp); (try omega)) _ _ | refine Below.drewN' ?_ _ | refine Below.drew ?_ | refine Below.alloc ?_ (by (try simp); (try omega)) _ | refine Below.setCell ?_ (by (try simp); (try omega)) _)))⟩
  · exact bodyPost_ret (v := .agg #[.int .u8 g0, .int .u8 g1, .int .u8 g2, .int .u8 g3, .int .i64 gl, .int .i64 gr, .int .i64 wh]) (by simp [results, Tryd.results14, go_sem]) rfl ⟨rfl, (Below.toGrow (by repeat (first | exact Below.refl _ _ | refine Below.grow ?_ (by (try simp); (try omega)) _ _ | refine Below.drewN' ?_ _ | refine Below.drew ?_ | refine Below.alloc ?_ (by (try simp); (try omega)) _ | refine Below.setCell ?_ (by (try simp); (try omega)) _)))⟩

/-- a lock on the left -/
theorem lockL_c (wh g0 g1 g2 g3 gl gr on : Int) (w : World) (hs : saneB g0 g1 g2 g3 gl gr on = true) : Calls Tryd.prog 15 #[.agg #[.int .u8 g0, .int .u8 g1, .int .u8 g2, .int .u8 g3, .int .i64 gl, .int .i64 gr, .int .i64 on], .int .i64 wh, .bool false] w fun e w' => e = .returned (.agg #[.int .u8 g0, .int .u8 g1, .int .u8 g2, .int .u8 g3, .int .i64 (pickI (isPlaceB wh) wh gl), .int .i64 gr, .int .i64 on]) ∧ Grew w w' := by
  cases hb : isPlaceB wh
  all_goals
    go_enter Tryd.func15, Tryd.ntmps15
    go_wp2_with (first | (go_at_call 13; refine (sane_c _ _ _ _ _ _ _ _).mono ?_; rintro e w1 ⟨rfl, X1, d1, rfl⟩) | (go_at_call 17; refine (isPlace_c _ _).mono ?_; rintro e w' ⟨rfl, rfl⟩))
  · exact bodyPost_ret (v := .agg #[.int .u8 g0, .int .u8 g1, .int .u8 g2, .int .u8 g3, .int .i64 gl, .int .i64 gr, .int .i64 on]) (by simp [results, Tryd.results15, go_sem]) rfl ⟨rfl, (Below.toGrow (by repeat (first | exact Below.refl _ _ | refine Below.grow ?_ (by (try simp); (try omega)) _ _ | refine Below.drewN' ?_ _ | refine Below.drew ?_ | refine Below.alloc ?_ (by (try simp); (try omega)) _ | refine Below.setCell ?_ (by (try simp); (try omega)) _)))⟩
  · exact bodyPost_ret (v := .agg #[.int .u8 g0, .int .u8 g1, .int .u8 g2, .int .u8 g3, .int .i64 wh, .int .i64 gr, .int .i64 on]) (by simp [results, Tryd.results15, go_sem]) rfl ⟨rfl, (Below.toGrow (by repeat (first | exact Below.refl _ _ | refine Below.grow ?_ (by (try simp); (try omega)) _ _ | refine Below.drewN' ?_ _ | refine Below.drew ?_ | refine Below.alloc ?_ (by (try simp); (try omega)) _ | refine Below.setCell ?_ (by (try simp); (try omega)) _)))⟩
end Go.Proofs.YtpcpgoeahndlfaaDoor.Char
