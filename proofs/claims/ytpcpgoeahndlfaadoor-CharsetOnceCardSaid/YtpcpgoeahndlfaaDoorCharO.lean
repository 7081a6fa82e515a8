/- The law's walk: CharsetOnce. -/
import Derived.Test.YtpcpgoeahndlfaaDoorCharL
namespace Go.Proofs.YtpcpgoeahndlfaaDoor.Char
open Go.RowKit
attribute [local go_sem] Nat.add_assoc Nat.add_pos_iff_pos_or_pos


theorem sane_on {g0 g1 g2 g3 gl gr on : Int} (on' : Int) (h : saneB g0 g1 g2 g3 gl gr on = true) (h' : on' = 0 ∨ on' = 2 ∨ on' = 3) : saneB g0 g1 g2 g3 gl gr on' = true := by
  unfold saneB isShiftB at h ⊢
  simp at h ⊢
  refine ⟨h.1, h.2.1, h.2.2.1, h.2.2.2.1, h.2.2.2.2.1, h.2.2.2.2.2.1, ?_⟩
  omega
theorem sane_gl {g0 g1 g2 g3 gl gr on : Int} (gl' : Int) (h : saneB g0 g1 g2 g3 gl gr on = true) (h' : gl' = 2 ∨ gl' = 3) : saneB g0 g1 g2 g3 gl' gr on = true := by
  unfold saneB at h ⊢
  have hp : isPlaceB gl' = true := by unfold isPlaceB; simp; omega
  rw [hp]
  simp only [Bool.and_eq_true] at h ⊢
  exact ⟨h.1, h.2.1, h.2.2.1, h.2.2.2.1, trivial, h.2.2.2.2.2.1, h.2.2.2.2.2.2⟩

/-- a letter from 33 to 96 -/
theorem map_low (r g0 g1 g2 g3 gl gr on : Int) (w : World) (hT : Tab w) (hs : saneB g0 g1 g2 g3 gl gr on = true) (h1 : 33 ≤ r) (h2 : r ≤ 96) :
    Calls Tryd.prog 8 #[.agg #[.int .u8 g0, .int .u8 g1, .int .u8 g2, .int .u8 g3, .int .i64 gl, .int .i64 gr, .int .i64 on], .int .i64 r] w fun e w' => e = .returned (.tuple #[.agg #[.int .u8 g0, .int .u8 g1, .int .u8 g2, .int .u8 g3, .int .i64 gl, .int .i64 gr, .int .i64 0], .int .i64 (if on = 0 then byF (pickG gl g0 g1 g2 g3) r else byF (pickG on g0 g1 g2 g3) r)]) ∧ Grew w w' := by
  have h := map_c r g0 g1 g2 g3 gl gr on w hT hs
  have e1 : onF r on = 0 := by unfold onF; rw [if_pos (by omega)]
  have e2 : toldF r g0 g1 g2 g3 gl gr on = if on = 0 then byF (pickG gl g0 g1 g2 g3) r else byF (pickG on g0 g1 g2 g3) r := by unfold toldF; rw [if_pos (by omega)]
  rw [e1, e2] at h
  exact h
theorem map_gl (r g0 g1 g2 g3 gl gr : Int) (w : World) (hT : Tab w) (hs : saneB g0 g1 g2 g3 gl gr 0 = true) (h1 : 33 ≤ r) (h2 : r ≤ 96) :
    Calls Tryd.prog 8 #[.agg #[.int .u8 g0, .int .u8 g1, .int .u8 g2, .int .u8 g3, .int .i64 gl, .int .i64 gr, .int .i64 0], .int .i64 r] w fun e w' => e = .returned (.tuple #[.agg #[.int .u8 g0, .int .u8 g1, .int .u8 g2, .int .u8 g3, .int .i64 gl, .int .i64 gr, .int .i64 0], .int .i64 (byF (pickG gl g0 g1 g2 g3) r)]) ∧ Grew w w' :=
  map_low r g0 g1 g2 g3 gl gr 0 w hT hs h1 h2
theorem map_on (k : Int) (hk : k = 2 ∨ k = 3) (r g0 g1 g2 g3 gl gr : Int) (w : World) (hT : Tab w) (hs : saneB g0 g1 g2 g3 gl gr k = true) (h1 : 33 ≤ r) (h2 : r ≤ 96) :
    Calls Tryd.prog 8 #[.agg #[.int .u8 g0, .int .u8 g1, .int .u8 g2, .int .u8 g3, .int .i64 gl, .int .i64 gr, .int .i64 k], .int .i64 r] w fun e w' => e = .returned (.tuple #[.agg #[.int .u8 g0, .int .u8 g1, .int .u8 g2, .int .u8 g3, .int .i64 gl, .int .i64 gr, .int .i64 0], .int .i64 (byF (pickG k g0 g1 g2 g3) r)]) ∧ Grew w w' := by
  have h := map_low r g0 g1 g2 g3 gl gr k w hT hs h1 h2
  rw [if_neg (by omega)] at h
  exact h
theorem shift_k (k : Int) (hk : k = 2 ∨ k = 3) (g0 g1 g2 g3 gl gr on : Int) (w : World) (hs : saneB g0 g1 g2 g3 gl gr on = true) : Calls Tryd.prog 14 #[.agg #[.int .u8 g0, .int .u8 g1, .int .u8 g2, .int .u8 g3, .int .i64 gl, .int .i64 gr, .int .i64 on], .int .i64 k] w fun e w' => e = .returned (.agg #[.int .u8 g0, .int .u8 g1, .int .u8 g2, .int .u8 g3, .int .i64 gl, .int .i64 gr, .int .i64 k]) ∧ Grew w w' := by
  rcases hk with rfl | rfl
  · exact shift_c 2 g0 g1 g2 g3 gl gr on w hs
  · exact shift_c 3 g0 g1 g2 g3 gl gr on w hs
theorem lock_k (k : Int) (hk : k = 2 ∨ k = 3) (g0 g1 g2 g3 gl gr on : Int) (w : World) (hs : saneB g0 g1 g2 g3 gl gr on = true) : Calls Tryd.prog 15 #[.agg #[.int .u8 g0, .int .u8 g1, .int .u8 g2, .int .u8 g3, .int .i64 gl, .int .i64 gr, .int .i64 on], .int .i64 k, .bool false] w fun e w' => e = .returned (.agg #[.int .u8 g0, .int .u8 g1, .int .u8 g2, .int .u8 g3, .int .i64 k, .int .i64 gr, .int .i64 on]) ∧ Grew w w' := by
  rcases hk with rfl | rfl
  · exact lockL_c 2 g0 g1 g2 g3 gl gr on w hs
  · exact lockL_c 3 g0 g1 g2 g3 gl gr on w hs

set_option maxHeartbeats 1000000 in
theorem once_insane (wh a b g0 g1 g2 g3 gl gr on : Int) (w : World) (hT : Tab w) (hs : saneB g0 g1 g2 g3 gl gr on = false) :
    Calls Tryd.prog 5 #[.agg #[.int .u8 g0, .int .u8 g1, .int .u8 g2, .int .u8 g3, .int .i64 gl, .int .i64 gr, .int .i64 on], .int .i64 wh, .int .i64 a, .int .i64 b] w fun e w' => e = .returned (.bool true) ∧ Grew w w' := by
  have HT : ∀ w', Below w.heap.size w w' → Hid (Tab w') := fun w' h => hT.below h
  clear hT
  go_enter Tryd.func5, Tryd.ntmps5
  go_wp2_with (first | (go_at_call 6; refine (awake_c _ (HT _ (by (repeat (first | exact Below.refl _ _ | refine Below.grow ?_ (by (try simp); (try omega)) _ _ | refine Below.drewN' ?_ _ | refine Below.drew ?_ | refine Below.alloc ?_ (by (try simp); (try omega)) _ | refine Below.setCell ?_ (by (try simp); (try omega)) _)))).out).mono ?_; rintro e w1 ⟨rfl, XA, dA, rfl⟩) | (go_at_call 7; refine (ours_c _ _ _ _ _ _ _ _).mono ?_; rintro e w1 ⟨rfl, XO, dO, rfl⟩) | (go_at_call 13; refine (sane_c _ _ _ _ _ _ _ _).mono ?_; rintro e w1 ⟨rfl, XS, dS, rfl⟩))
  go_ret
  exact ⟨rfl, (Below.toGrow (by repeat (first | exact Below.refl _ _ | refine Below.grow ?_ (by (try simp); (try omega)) _ _ | refine Below.drewN' ?_ _ | refine Below.drew ?_ | refine Below.alloc ?_ (by (try simp); (try omega)) _ | refine Below.setCell ?_ (by (try simp); (try omega)) _)))⟩

/-- four sets against themselves -/
theorem eq_sets (g0 g1 g2 g3 : Int) (w : World) : (binOp .eql 22 (.agg #[.int .u8 g0, .int .u8 g1, .int .u8 g2, .int .u8 g3]) (.agg #[.int .u8 g0, .int .u8 g1, .int .u8 g2, .int .u8 g3])).run Tryd.prog w = .ok (.bool true) w := by
  obtain ⟨i, hi⟩ := info_ok (P := Tryd.prog) (e := 5) (by kernel_rfl)
  have h := fun w => run_equalIn_array (P := Tryd.prog) (w := w) 9999 #[.int .u8 g0, .int .u8 g1, .int .u8 g2, .int .u8 g3] #[.int .u8 g0, .int .u8 g1, .int .u8 g2, .int .u8 g3] Tryd.underlying22 hi
  have hc : Tryd.prog.cellsOf 5 = 1 := by kernel_rfl
  rw [hc] at h
  simp only [run_eql_struct, h]
  simp [go_sem, List.range, List.range.loop]

set_option maxHeartbeats 1000000 in
theorem once_sane (k x y : Int) (hk : k = 2 ∨ k = 3) (hx1 : 33 ≤ x) (hx2 : x ≤ 96) (hy1 : 33 ≤ y) (hy2 : y ≤ 96) (wh a b g0 g1 g2 g3 gl gr on : Int) (hwh : IntKind.i64.wrap (2 + bits .and .i64 wh 1) = k) (ha : IntKind.i64.wrap (33 + bits .and .i64 a 63) = x) (hb : IntKind.i64.wrap (33 + bits .and .i64 b 63) = y)
    (w : World) (hT : Tab w) (hs : saneB g0 g1 g2 g3 gl gr on = true) :
    Calls Tryd.prog 5 #[.agg #[.int .u8 g0, .int .u8 g1, .int .u8 g2, .int .u8 g3, .int .i64 gl, .int .i64 gr, .int .i64 on], .int .i64 wh, .int .i64 a, .int .i64 b] w fun e w' => e = .returned (.bool true) ∧ Grew w w' := by
  have HT : ∀ w', Below w.heap.size w w' → Hid (Tab w') := fun w' h => hT.below h
  have H0 := Lib.hid (sane_on 0 hs (by omega))
  have HK := Lib.hid (sane_on k hs (by omega))
  have HL := Lib.hid (sane_gl k (sane_on 0 hs (by omega)) hk)
  have heq := eq_sets g0 g1 g2 g3
  clear hT
  go_enter Tryd.func5, Tryd.ntmps5
  go_wp2_with (first | (go_at_call 6; refine (awake_c _ (HT _ (by (repeat (first | exact Below.refl _ _ | refine Below.grow ?_ (by (try simp); (try omega)) _ _ | refine Below.drewN' ?_ _ | refine Below.drew ?_ | refine Below.alloc ?_ (by (try simp); (try omega)) _ | refine Below.setCell ?_ (by (try simp); (try omega)) _)))).out).mono ?_; rintro e w1 ⟨rfl, XA, dA, rfl⟩) | (go_at_call 7; refine (ours_c _ _ _ _ _ _ _ _).mono ?_; rintro e w1 ⟨rfl, XO, dO, rfl⟩) | (go_at_call 13; refine (sane_c _ _ _ _ _ _ _ _).mono ?_; rintro e w1 ⟨rfl, XS, dS, rfl⟩))
  refine (shift_k k hk _ _ _ _ _ _ _ _ hs).mono ?_
  rintro e w1 ⟨rfl, X1, d1, rfl⟩
  go_wp2_with fail
  refine (map_on k hk x _ _ _ _ _ _ _ (HT _ (by (repeat (first | exact Below.refl _ _ | refine Below.grow ?_ (by (try simp); (try omega)) _ _ | refine Below.drewN' ?_ _ | refine Below.drew ?_ | refine Below.alloc ?_ (by (try simp); (try omega)) _ | refine Below.setCell ?_ (by (try simp); (try omega)) _)))).out HK.out hx1 hx2).mono ?_
  rintro e w1 ⟨rfl, X2, d2, rfl⟩
  go_wp2_with fail
  refine (map_gl y _ _ _ _ _ _ _ (HT _ (by (repeat (first | exact Below.refl _ _ | refine Below.grow ?_ (by (try simp); (try omega)) _ _ | refine Below.drewN' ?_ _ | refine Below.drew ?_ | refine Below.alloc ?_ (by (try simp); (try omega)) _ | refine Below.setCell ?_ (by (try simp); (try omega)) _)))).out H0.out hy1 hy2).mono ?_
  rintro e w1 ⟨rfl, X3, d3, rfl⟩
  go_wp2_with fail
  refine (lock_k k hk _ _ _ _ _ _ _ _ H0.out).mono ?_
  rintro e w1 ⟨rfl, X4, d4, rfl⟩
  go_wp2_with fail
  refine (map_gl x _ _ _ _ _ _ _ (HT _ (by (repeat (first | exact Below.refl _ _ | refine Below.grow ?_ (by (try simp); (try omega)) _ _ | refine Below.drewN' ?_ _ | refine Below.drew ?_ | refine Below.alloc ?_ (by (try simp); (try omega)) _ | refine Below.setCell ?_ (by (try simp); (try omega)) _)))).out HL.out hx1 hx2).mono ?_
  rintro e w1 ⟨rfl, X5, d5, rfl⟩
  go_wp2_with fail
  refine (map_gl y _ _ _ _ _ _ _ (HT _ (by (repeat (first | exact Below.refl _ _ | refine Below.grow ?_ (by (try simp); (try omega)) _ _ | refine Below.drewN' ?_ _ | refine Below.drew ?_ | refine Below.alloc ?_ (by (try simp); (try omega)) _ | refine Below.setCell ?_ (by (try simp); (try omega)) _)))).out H0.out hy1 hy2).mono ?_
  rintro e w1 ⟨rfl, X6, d6, rfl⟩
  go_wp2_with fail
  go_ret
  exact ⟨rfl, (Below.toGrow (by repeat (first | exact Below.refl _ _ | refine Below.grow ?_ (by (try simp); (try omega)) _ _ | refine Below.drewN' ?_ _ | refine Below.drew ?_ | refine Below.alloc ?_ (by (try simp); (try omega)) _ | refine Below.setCell ?_ (by (try simp); (try omega)) _)))⟩

theorem once_law (wh a b g0 g1 g2 g3 gl gr on : Int) (w : World) (hT : Tab w) :
    Calls Tryd.prog 5 #[.agg #[.int .u8 g0, .int .u8 g1, .int .u8 g2, .int .u8 g3, .int .i64 gl, .int .i64 gr, .int .i64 on], .int .i64 wh, .int .i64 a, .int .i64 b] w fun e w' => e = .returned (.bool true) ∧ Grew w w' := by
  cases hs : saneB g0 g1 g2 g3 gl gr on
  · exact once_insane wh a b g0 g1 g2 g3 gl gr on w hT hs
  · have e1 : bits .and .i64 wh 1 = wh % 2 := and_mask 1 (by omega) wh
    have e2 : bits .and .i64 a 63 = a % 64 := and_mask 6 (by omega) a
    have e3 : bits .and .i64 b 63 = b % 64 := and_mask 6 (by omega) b
    refine once_sane _ _ _ ?_ ?_ ?_ ?_ ?_ wh a b g0 g1 g2 g3 gl gr on rfl rfl rfl w hT hs
    all_goals
      first | rw [e1] | rw [e2] | rw [e3]
      rw [IntKind.wrap_i64]
      omega
end Go.Proofs.YtpcpgoeahndlfaaDoor.Char
