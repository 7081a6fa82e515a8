/- Walks of row.Letters at an empty range, row.Length, lapwingref03.Ints. -/
import Derived.Test.YtpnadnjcacaibaaRowI
import Derived.Test.YtpnadnjcacaibaaRowE
namespace Go.Proofs.Ytpnadnjcacaibaa.Row
open Go.RowKit

set_option maxRecDepth 100000 in
set_option maxHeartbeats 4000000 in
theorem letters_none (A : Option Addr) (n cap : Nat) (f : Nat → Cl) (wb : Bool) (dir : Int) (ex : Bool) (x y : Int) (F : Nat) (w : World) (hr : Rd w A n f) (hs : saneB n f dir = true) (hcap : n ≤ cap)
    (hF : max 0 (min x n) = (F : Int)) (hT : max (F : Int) (max 0 (min y n)) = (F : Int)) :
    Calls Try.prog 48 #[.agg #[.slice A n cap, .bool wb, .int .i64 dir, .bool ex], .int .i64 x, .int .i64 y] w fun e w' => e = .returned (.slice none 0 0) ∧ Below w.heap.size w w' := by
  obtain ⟨hn1, hn2⟩ := sane_len hs
  have hFn : F ≤ n := by omega
  have HF := Lib.hid hF
  have HT := Lib.hid hT
  clear hF hT
  obtain ⟨bf, of_, rfl, hbf, hcf⟩ := hr (by omega)
  clear hcf
  go_enter Try.func48, Try.ntmps48
  go_wp2_with fail
  generalize hw0 : w.alloc _ = w0
  have hbw : Below w.heap.size w w0 := by rw [← hw0]; (repeat (first | (with_reducible exact Below.refl _ _) | (with_reducible assumption) | (with_reducible refine Below.grow ?_ ?_ _ _) | (with_reducible refine Below.drewN' ?_ _) | (with_reducible refine Below.drew ?_) | (with_reducible refine Below.alloc ?_ ?_ _) | (with_reducible refine Below.setCell ?_ ?_ _) | omega | (focus (simp; done)) | (focus (simp; omega))))
  have hB1 : Blk w0 w.heap.size 24 #[.slice (some ⟨bf, of_, none⟩) n cap, .bool wb, .int .i64 dir, .bool ex] := by rw [← hw0]; exact Blk.new _ _ _
  clear hw0
  obtain ⟨r0, r1, r2, r3, rf, rl⟩ := hB1.facts4
  refine (sane_c (some ⟨bf, of_, none⟩) n cap f wb dir ex _ (hr.below hbw) (by omega)).mono ?_
  rintro e w1 ⟨rfl, hg⟩
  replace hg := hg.below
  replace hbw := hbw.trans (hg.mono hbw.size); replace hB1 := hB1.below hg hB1.lt; clear r0 r1 r2 r3 rf rl; obtain ⟨r0, r1, r2, r3, rf, rl⟩ := hB1.facts4; clear hg
  go_wp2_with fail
  refine (between_c (some ⟨bf, of_, none⟩) n cap wb dir ex x y F F _ (by omega) HF.out HT.out).mono ?_
  rintro e w2 ⟨rfl, hg⟩
  replace hg := hg.below
  replace hbw := hbw.trans (hg.mono hbw.size); replace hB1 := hB1.below hg hB1.lt; clear r0 r1 r2 r3 rf rl; obtain ⟨r0, r1, r2, r3, rf, rl⟩ := hB1.facts4; clear hg
  have l1 : (0 : Int) ≤ F := by omega
  have l3 : (F : Int) ≤ cap := by omega
  go_wp2_with fail
  all_goals
    refine wp_loop_rounds 1 ?_
    rw [rounds_succ]
    go_wp2_with fail
    go_ret
    exact ⟨rfl, hbw⟩

theorem letters_any (A : Option Addr) (n cap : Nat) (f : Nat → Cl) (wb : Bool) (dir : Int) (ex : Bool) (x y : Int) (F T : Nat) (w : World) (hr : Rd w A n f) (hs : saneB n f dir = true) (hcap : n ≤ cap)
    (hF : max 0 (min x n) = (F : Int)) (hT : max (F : Int) (max 0 (min y n)) = (T : Int)) :
    Calls Try.prog 48 #[.agg #[.slice A n cap, .bool wb, .int .i64 dir, .bool ex], .int .i64 x, .int .i64 y] w fun e w' => ∃ v, e = .returned v ∧ Below w.heap.size w w' ∧ OwnI w' w.heap.size 3 v (lettersL f F (T - F)) := by
  by_cases h : F < T
  · exact letters_c A n cap f wb dir ex x y F T w hr hs hcap hF hT h (by have := sane_len hs; omega)
  · obtain rfl : T = F := by omega
    refine (letters_none A n cap f wb dir ex x y T w hr hs hcap hF hT).mono ?_
    rintro e w1 ⟨rfl, hg⟩
    refine ⟨_, rfl, hg, ?_⟩
    rw [Nat.sub_self]
    exact OwnI.nil _ _ _

def hasB (c : Cl) : Bool := !(decide (c.r = 0)) || !(decide (c.fg = 0 ∧ c.bg = 0 ∧ c.fl = 0))
/-- how far there is something, of k cells -/
def lenF (f : Nat → Cl) : Nat → Int
  | 0 => 0
  | k + 1 => if hasB (f k) = true then k + max (f k).w 1 else lenF f k

set_option maxRecDepth 100000 in
set_option maxHeartbeats 4000000 in
theorem length_c (A : Option Addr) (n cap : Nat) (f : Nat → Cl) (wb : Bool) (dir : Int) (ex : Bool) (w : World) (hr : Rd w A n f) (hs : saneB n f dir = true) :
    Calls Try.prog 49 #[.agg #[.slice A n cap, .bool wb, .int .i64 dir, .bool ex]] w fun e w' => e = .returned (.int .i64 (lenF f n)) ∧ Below w.heap.size w w' := by
  obtain ⟨hn1, hn2⟩ := sane_len hs
  have HSN := Lib.hid hs
  have HRD := Lib.hid hr
  obtain ⟨bf, of_, rfl, hbf, hcf⟩ := hr (by omega)
  clear hcf
  have hnp := neq_pen
  go_enter Try.func49, Try.ntmps49
  go_wp2_with fail
  generalize hw0 : w.alloc _ = w0
  have hbw : Below w.heap.size w w0 := by rw [← hw0]; (repeat (first | (with_reducible exact Below.refl _ _) | (with_reducible assumption) | (with_reducible refine Below.grow ?_ ?_ _ _) | (with_reducible refine Below.drewN' ?_ _) | (with_reducible refine Below.drew ?_) | (with_reducible refine Below.alloc ?_ ?_ _) | (with_reducible refine Below.setCell ?_ ?_ _) | omega | (focus (simp; done)) | (focus (simp; omega))))
  have hB1 : Blk w0 w.heap.size 24 #[.slice (some ⟨bf, of_, none⟩) n cap, .bool wb, .int .i64 dir, .bool ex] := by rw [← hw0]; exact Blk.new _ _ _
  clear hw0
  obtain ⟨r0, r1, r2, r3, rf, rl⟩ := hB1.facts4
  refine (sane_c (some ⟨bf, of_, none⟩) n cap f wb dir ex _ (hr.below hbw) (by omega)).mono ?_
  rintro e w1 ⟨rfl, hg⟩
  replace hg := hg.below
  replace hbw := hbw.trans (hg.mono hbw.size); replace hB1 := hB1.below hg hB1.lt; clear r0 r1 r2 r3 rf rl; obtain ⟨r0, r1, r2, r3, rf, rl⟩ := hB1.facts4; clear hg
  go_wp2_with fail
  have hbw2 : Below w.heap.size w w1 := hbw
  clear hB1 r0 r1 r2 r3 rf rl hbw hr hs
  go_loopw [3, 12] (fun v i wz => ∃ k : Nat, k ≤ n ∧ i = .int .i64 k ∧ v = .int .i64 (lenF f k) ∧ Below w.heap.size w wz) (fun _ i _ => n - (intOf i).toNat)
  case atStart => exact ⟨0, Nat.zero_le _, rfl, rfl, hbw2⟩
  case round =>
    obtain ⟨k, hk, rfl, rfl, hbz⟩ := hrel
    by_cases hlt : k < n
    · obtain ⟨b', o', e1, hbl, hcf⟩ := HRD.out.below hbz (by omega)
      injection e1 with e1
      injection e1 with e1 e2
      subst e1 e2
      have hck := hcf k hlt
      have hfz := fits_iff.1 (fits_of_sane HSN.out (i := k) (by omega))
      have HL1 : Hid (hasB (f k) = true → lenF f (k + 1) = k + max (f k).w 1) := fun h => if_pos h
      have HL2 : Hid (¬ hasB (f k) = true → lenF f (k + 1) = lenF f k) := fun h => if_neg h
      generalize f k = cl at *
      obtain ⟨R, m0, m1, W, fg, bg, fl⟩ := cl
      obtain ⟨c0, c1, c2, c3, c4, c5, c6⟩ := hck
      simp only at c0 c1 c2 c3 c4 c5 c6 hfz
      have hW : 0 ≤ W ∧ W ≤ 2 := by omega
      obtain ⟨hW0, hW2⟩ := hW
      clear hcf hfz
      have m2 : (k : Int) < (n : Int) := by omega
      have hws := hbz.size
      by_cases hR : R = 0
      · subst hR
        cases hp : decide (fg = 0 ∧ bg = 0 ∧ fl = 0)
        · go_wp2_with fail
          all_goals
            go_roundw
            case rel => exact ⟨k + 1, by omega, by go_num, by rw [HL1.out (by unfold hasB; simp only [hp]; rfl)]; congr 1; (show _ = _ + max W 1; split <;> omega), by (repeat (first | (with_reducible exact Below.refl _ _) | (with_reducible assumption) | (with_reducible refine Below.grow ?_ ?_ _ _) | (with_reducible refine Below.drewN' ?_ _) | (with_reducible refine Below.drew ?_) | (with_reducible refine Below.alloc ?_ ?_ _) | (with_reducible refine Below.setCell ?_ ?_ _) | omega | (focus (simp; done)) | (focus (simp; omega))))⟩
            case measure => simp [intOf]; omega
        · go_wp2_with fail
          go_roundw
          case rel => exact ⟨k + 1, by omega, by go_num, by rw [HL2.out (by unfold hasB; simp only [hp]; simp)], by (repeat (first | (with_reducible exact Below.refl _ _) | (with_reducible assumption) | (with_reducible refine Below.grow ?_ ?_ _ _) | (with_reducible refine Below.drewN' ?_ _) | (with_reducible refine Below.drew ?_) | (with_reducible refine Below.alloc ?_ ?_ _) | (with_reducible refine Below.setCell ?_ ?_ _) | omega | (focus (simp; done)) | (focus (simp; omega))))⟩
          case measure => simp [intOf]; omega
      · have hR' : (R != 0) = true := by simpa using hR
        have HR := Lib.hid hR
        clear hR
        go_wp2_with fail
        all_goals
          go_roundw
          case rel => exact ⟨k + 1, by omega, by go_num, by rw [HL1.out (by unfold hasB; simp [HR.out])]; congr 1; (show _ = _ + max W 1; split <;> omega), by (repeat (first | (with_reducible exact Below.refl _ _) | (with_reducible assumption) | (with_reducible refine Below.grow ?_ ?_ _ _) | (with_reducible refine Below.drewN' ?_ _) | (with_reducible refine Below.drew ?_) | (with_reducible refine Below.alloc ?_ ?_ _) | (with_reducible refine Below.setCell ?_ ?_ _) | omega | (focus (simp; done)) | (focus (simp; omega))))⟩
          case measure => simp [intOf]; omega
    · obtain rfl : k = n := by omega
      go_wp2
      go_ret
      exact ⟨rfl, hbz⟩

set_option maxRecDepth 100000 in
set_option maxHeartbeats 2000000 in
theorem ints_c (x y : Value) (xs ys : List Int) (w : World) (ha : RdI w x xs) (hb : RdI w y ys) (hn : xs.length ≤ 9223372036854775806) (hm : ys.length ≤ 9223372036854775806) :
    Calls Try.prog 50 #[x, y] w fun e w' => e = .returned (.bool (decide (xs = ys))) ∧ Drew w w' := by
  obtain ⟨A, ca, rfl, ha⟩ := ha
  obtain ⟨B, cb, rfl, hb⟩ := hb
  have HS : Hid (decide (xs = ys) = decide (xs.length = ys.length ∧ ∀ i, i < xs.length → xs[i]? = ys[i]?)) := by
    show decide (xs = ys) = _
    congr 1
    rw [eq_iff_iff]
    constructor
    · rintro rfl
      exact ⟨rfl, fun _ _ => rfl⟩
    · rintro ⟨h1, h2⟩
      apply List.ext_getElem? 
      intro i
      by_cases hi : i < xs.length
      · exact h2 i hi
      · rw [List.getElem?_eq_none (by omega), List.getElem?_eq_none (by omega)]
  generalize decide (xs = ys) = S at *
  by_cases hnm : xs.length = ys.length
  · rw [← hnm] at hb HS ⊢
    have HAL := Lib.hid (show ∀ k, k < xs.length → ∃ a b, xs[k]? = some a ∧ ys[k]? = some b from fun k hk => ⟨xs[k], ys[k]'(by omega), List.getElem?_eq_getElem hk, List.getElem?_eq_getElem (by omega)⟩)
    generalize xs.length = n at *
    clear hnm
    go_enter Try.func50, Try.ntmps50
    go_wp2
    go_loopw [5] (fun i wz => ∃ k : Nat, k ≤ n ∧ i = .int .i64 k ∧ Hid (∀ j, j < k → xs[j]? = ys[j]?) ∧ ∃ d, wz = w.drewN d) (fun i _ => n - (intOf i).toNat)
    case atStart => exact ⟨0, Nat.zero_le _, rfl, fun j hj => absurd hj (by omega), 0, rfl⟩
    case round =>
      obtain ⟨k, hk, rfl, HALL, d, rfl⟩ := hrel
      by_cases hlt : k < n
      · obtain ⟨b1, o1, rfl, hb1, hc⟩ := ha (by omega)
        obtain ⟨b2, o2, rfl, hb2, hc2⟩ := hb (by omega)
        obtain ⟨a, b, e1, e2⟩ := HAL.out k hlt
        have c0 := hc k a e1
        have d0 := hc2 k b e2
        have HE1 := Lib.hid e1
        have HE2 := Lib.hid e2
        clear hc hc2 e1 e2
        have l1 : (k : Int) < n := by omega
        by_cases he : a = b
        · subst he
          go_wp2
          go_quiet (fail)
          go_wp2
          go_roundw
          case rel => exact ⟨k + 1, by omega, by go_num, (fun j hj => by
            rcases Nat.lt_or_ge j k with h | h
            · exact HALL.out j h
            · obtain rfl : j = k := by omega
              rw [HE1.out, HE2.out]), d + nq, rfl⟩
          case measure => simp [intOf]; omega
        · have he' : (a != b) = true := by simpa using he
          have HE := Lib.hid he
          clear he
          go_wp2
          go_quiet (fail)
          go_wp2
          go_ret
          refine ⟨ebool ?_, ?_⟩
          all_goals try (first | exact trivial | exact ⟨d + nq, World.drewN_drewN w d nq⟩)
          rw [HS.out]
          symm
          exact decide_eq_false fun h => HE.out (by
            have := h.2 k hlt
            rw [HE1.out, HE2.out] at this
            injection this)
      · go_wp2
        go_ret
        refine ⟨ebool ?_, ?_⟩
        all_goals try (first | exact trivial | exact ⟨d, rfl⟩)
        rw [HS.out]
        symm
        exact decide_eq_true (by constructor <;> first | rfl | exact trivial | exact fun i hi => HALL.out i (by omega))
  · have hnm' : ¬ ((xs.length : Int) = ys.length) := by omega
    go_enter Try.func50, Try.ntmps50
    go_wp2
    go_ret
    refine ⟨ebool ?_, ?_⟩
    all_goals try (first | exact trivial | exact ⟨0, rfl⟩)
    rw [HS.out]
    symm
    exact decide_eq_false fun h => hnm h.1
end Go.Proofs.Ytpnadnjcacaibaa.Row
