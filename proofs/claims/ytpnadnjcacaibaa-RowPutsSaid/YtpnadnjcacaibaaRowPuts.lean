/- The law's walk: RowPuts. -/
import Derived.Test.YtpnadnjcacaibaaRowW
import Derived.Test.YtpnadnjcacaibaaGrewQ
import Derived.Test.YtpnadnjcacaibaaHand
namespace Go.Proofs.Ytpnadnjcacaibaa.Row
open Go.RowKit

set_option maxRecDepth 100000 in
set_option maxHeartbeats 2000000 in
theorem puts_long (A : Option Addr) (n cap : Nat) (wb : Bool) (dir : Int) (ex : Bool) (pl : Int) (c : Cl) (w : World) (hn : 300 < n) :
    Calls Try.prog 3 #[.agg #[.slice A n cap, .bool wb, .int .i64 dir, .bool ex], .int .i64 pl, .agg #[.int .i64 c.r, .int .i64 c.m0, .int .i64 c.m1, .int .i64 c.w, .int .i64 c.fg, .int .i64 c.bg, .int .i64 c.fl]] w fun e w' => e = .returned (.bool true) ∧ Grew w w' := by
  have hn' : 300 < (n : Int) := by omega
  go_enter Try.func3, Try.ntmps3
  go_wp2_with (first | (go_at_call 14; refine (awake_c _).mono ?_; rintro e w1 ⟨rfl, XA, dA, rfl⟩))
  go_ret
  exact ⟨rfl, (Below.toGrow (by repeat (first | (with_reducible exact Below.refl _ _) | (with_reducible assumption) | (with_reducible refine Below.grow ?_ ?_ _ _) | (with_reducible refine Below.drewN' ?_ _) | (with_reducible refine Below.drew ?_) | (with_reducible refine Below.alloc ?_ ?_ _) | (with_reducible refine Below.setCell ?_ ?_ _) | omega | (focus (simp; done)) | (focus (simp; omega)))))⟩
set_option maxRecDepth 100000 in
set_option maxHeartbeats 2000000 in
theorem puts_insane (A : Option Addr) (n cap : Nat) (f : Nat → Cl) (wb : Bool) (dir : Int) (ex : Bool) (pl : Int) (c : Cl) (w : World) (hr : Rd w A n f) (hn : n ≤ 300) (hs : saneB n f dir = false) :
    Calls Try.prog 3 #[.agg #[.slice A n cap, .bool wb, .int .i64 dir, .bool ex], .int .i64 pl, .agg #[.int .i64 c.r, .int .i64 c.m0, .int .i64 c.m1, .int .i64 c.w, .int .i64 c.fg, .int .i64 c.bg, .int .i64 c.fl]] w fun e w' => e = .returned (.bool true) ∧ Grew w w' := by
  go_enter Try.func3, Try.ntmps3
  go_wp2_with (first | (go_at_call 14; refine (awake_c _).mono ?_; rintro e w1 ⟨rfl, XA, dA, rfl⟩) | (go_at_call 15; refine (sane_c A n cap f wb dir ex _ (hr.below (by (repeat (first | (with_reducible exact Below.refl _ _) | (with_reducible assumption) | (with_reducible refine Below.grow ?_ ?_ _ _) | (with_reducible refine Below.drewN' ?_ _) | (with_reducible refine Below.drew ?_) | (with_reducible refine Below.alloc ?_ ?_ _) | (with_reducible refine Below.setCell ?_ ?_ _) | omega | (focus (simp; done)) | (focus (simp; omega)))))) (by omega)).mono ?_; rintro e w1 ⟨rfl, X1, d1, rfl⟩))
  go_ret
  exact ⟨rfl, (Below.toGrow (by repeat (first | (with_reducible exact Below.refl _ _) | (with_reducible assumption) | (with_reducible refine Below.grow ?_ ?_ _ _) | (with_reducible refine Below.drewN' ?_ _) | (with_reducible refine Below.drew ?_) | (with_reducible refine Below.alloc ?_ ?_ _) | (with_reducible refine Below.setCell ?_ ?_ _) | omega | (focus (simp; done)) | (focus (simp; omega)))))⟩

set_option maxRecDepth 100000 in
set_option maxHeartbeats 8000000 in
theorem puts_sane (A : Option Addr) (n cap : Nat) (f : Nat → Cl) (wb : Bool) (dir : Int) (ex : Bool) (pl : Int) (c : Cl) (w : World) (hr : Rd w A n f) (hn : n ≤ 300) (hs : saneB n f dir = true) :
    Calls Try.prog 3 #[.agg #[.slice A n cap, .bool wb, .int .i64 dir, .bool ex], .int .i64 pl, .agg #[.int .i64 c.r, .int .i64 c.m0, .int .i64 c.m1, .int .i64 c.w, .int .i64 c.fg, .int .i64 c.bg, .int .i64 c.fl]] w fun e w' => e = .returned (.bool true) ∧ Grew w w' := by
  have hn1 := (sane_len hs).1
  obtain ⟨bf, of_, rfl, hbf, hcf⟩ := hr (by omega)
  have HCF := Lib.hid hcf
  clear hcf
  have hand : bits .and .i64 pl 65535 = pl % 65536 := and_mask 16 (by omega) pl
  have hp0 : 0 ≤ pl % 65536 := by omega
  obtain ⟨k, hk⟩ : ∃ k : Nat, pl % 65536 % (n : Int) = (k : Int) := ⟨(pl % 65536 % (n : Int)).toNat, (Int.toNat_of_nonneg (Int.emod_nonneg _ (by omega))).symm⟩
  have hkn : k < n := by
    have := Int.emod_lt_of_pos (pl % 65536) (show (0 : Int) < n by omega)
    omega
  have hn0 : ((n : Int) == 0) = false := by simp; omega
  go_enter Try.func3, Try.ntmps3
  go_wp2_with fail
  generalize hw0 : (w.alloc _).alloc _ = w0
  have hbw : Below w.heap.size w w0 := by rw [← hw0]; (repeat (first | (with_reducible exact Below.refl _ _) | (with_reducible assumption) | (with_reducible refine Below.grow ?_ ?_ _ _) | (with_reducible refine Below.drewN' ?_ _) | (with_reducible refine Below.drew ?_) | (with_reducible refine Below.alloc ?_ ?_ _) | (with_reducible refine Below.setCell ?_ ?_ _) | omega | (focus (simp; done)) | (focus (simp; omega))))
  have hB1 : Blk w0 w.heap.size 24 #[.slice (some ⟨bf, of_, none⟩) n cap, .bool wb, .int .i64 dir, .bool ex] := by rw [← hw0]; exact (Blk.new _ _ _).alloc _
  have hB2 : Blk w0 (w.heap.size + 1) 29 #[.int .i64 c.r, .int .i64 c.m0, .int .i64 c.m1, .int .i64 c.w, .int .i64 c.fg, .int .i64 c.bg, .int .i64 c.fl] := by rw [← hw0]; exact Blk.new_at (by simp)
  clear hw0
  obtain ⟨r0, r1, r2, r3, rf, rl⟩ := hB1.facts4; obtain ⟨c0, c1, c2, c3, c4, c5, c6, cf, cl⟩ := hB2.facts7
  refine (awake_c _).mono ?_
  rintro e w1 ⟨rfl, hg⟩
  replace hg := hg.below
  replace hbw := hbw.trans (hg.mono hbw.size); replace hB1 := hB1.below hg hB1.lt; clear r0 r1 r2 r3 rf rl; obtain ⟨r0, r1, r2, r3, rf, rl⟩ := hB1.facts4; replace hB2 := hB2.below hg hB2.lt; clear c0 c1 c2 c3 c4 c5 c6 cf cl; obtain ⟨c0, c1, c2, c3, c4, c5, c6, cf, cl⟩ := hB2.facts7; clear hg
  go_wp2_with fail
  refine (sane_c (some ⟨bf, of_, none⟩) n cap f wb dir ex _ (hr.below hbw) (by omega)).mono ?_
  rintro e w2 ⟨rfl, hg⟩
  replace hg := hg.below
  replace hbw := hbw.trans (hg.mono hbw.size); replace hB1 := hB1.below hg hB1.lt; clear r0 r1 r2 r3 rf rl; obtain ⟨r0, r1, r2, r3, rf, rl⟩ := hB1.facts4; replace hB2 := hB2.below hg hB2.lt; clear c0 c1 c2 c3 c4 c5 c6 cf cl; obtain ⟨c0, c1, c2, c3, c4, c5, c6, cf, cl⟩ := hB2.facts7; clear hg
  go_wp2_with fail
  simp only [hk]
  clear hk hand hp0
  have hgs := putR_sane hs k c
  have HT := Lib.hid (fun h => put_there (c := c) hs hkn h)
  have HNT := Lib.hid (fun h => put_not (n := n) (f := f) (k := k) (c := c) h)
  have HC := fun w => put_c (some ⟨bf, of_, none⟩) n cap f wb dir ex k c w
  generalize putR n f k c = g at *
  refine (HC _ (hr.below hbw) hs).mono ?_
  rintro e w3 ⟨B, cap', rfl, hg, hrg⟩
  clear HC
  replace hg := hg.below
  replace hbw := hbw.trans (hg.mono hbw.size); replace hB1 := hB1.below hg hB1.lt; clear r0 r1 r2 r3 rf rl; obtain ⟨r0, r1, r2, r3, rf, rl⟩ := hB1.facts4; replace hB2 := hB2.below hg hB2.lt; clear c0 c1 c2 c3 c4 c5 c6 cf cl; obtain ⟨c0, c1, c2, c3, c4, c5, c6, cf, cl⟩ := hB2.facts7; clear hg
  go_wp2_with fail
  generalize hw4 : w3.alloc _ = w4
  have hg : Below w3.heap.size w3 w4 := by rw [← hw4]; (repeat (first | (with_reducible exact Below.refl _ _) | (with_reducible assumption) | (with_reducible refine Below.grow ?_ ?_ _ _) | (with_reducible refine Below.drewN' ?_ _) | (with_reducible refine Below.drew ?_) | (with_reducible refine Below.alloc ?_ ?_ _) | (with_reducible refine Below.setCell ?_ ?_ _) | omega | (focus (simp; done)) | (focus (simp; omega))))
  have hB3 : Blk w4 w3.heap.size 24 #[.slice B n cap', .bool wb, .int .i64 dir, .bool ex] := by rw [← hw4]; exact Blk.new _ _ _
  clear hw4
  replace hrg := hrg.below hg
  have hbn : w.heap.size + 1 < w3.heap.size := cl
  replace hbw := hbw.trans (hg.mono hbw.size); replace hB1 := hB1.below hg hB1.lt; clear r0 r1 r2 r3 rf rl; obtain ⟨r0, r1, r2, r3, rf, rl⟩ := hB1.facts4; replace hB2 := hB2.below hg hB2.lt; clear c0 c1 c2 c3 c4 c5 c6 cf cl; obtain ⟨c0, c1, c2, c3, c4, c5, c6, cf, cl⟩ := hB2.facts7; clear hg
  obtain ⟨s0, s1, s2, s3, sf, sl⟩ := hB3.facts4
  generalize w3.heap.size = b3 at *
  have hnq := neq_cell
  have heq := eql_cell
  have hpq := eql_pen
  have hsb : ∀ (n : Nat) (f g : Nat → Cl), (∀ i, i < n → f i = g i) → sameRowB n f wb dir ex n g wb dir ex = true := fun n f g h => by
    unfold sameRowB sameB
    simp
    exact h
  have HSB := Lib.hid hsb
  clear hsb
  obtain ⟨bg, og, rfl, hbg, hcg⟩ := hrg (by omega)
  obtain ⟨q0, q1, q2, q3, q4, q5, q6⟩ := hcg k hkn
  have HCG := Lib.hid hcg
  clear hcg
  by_cases hgk : g k = c
  · have hd : decide (g k = c) = true := by simpa using hgk
    obtain ⟨t1, t2, t3⟩ := HT.out hgk
    have HT1 := Lib.hid t1
    have HT2 := Lib.hid t2
    have HT3 := Lib.hid t3
    clear t1 t2 t3 hgk HT HNT
    go_quiet (fail)
    go_wp2_with fail
    have hcw : 0 ≤ c.w ∧ c.w ≤ 2 := by
      have := fits_w (fits_of_sane hgs hkn)
      rw [of_decide_eq_true hd] at this
      omega
    obtain ⟨hcw0, hcw2⟩ := hcw
    have hbr := (hr.below hbw)
    generalize hw5 : w4.drewN nq = w5
    have hg : Below w4.heap.size w4 w5 := by rw [← hw5]; (repeat (first | (with_reducible exact Below.refl _ _) | (with_reducible assumption) | (with_reducible refine Below.grow ?_ ?_ _ _) | (with_reducible refine Below.drewN' ?_ _) | (with_reducible refine Below.drew ?_) | (with_reducible refine Below.alloc ?_ ?_ _) | (with_reducible refine Below.setCell ?_ ?_ _) | omega | (focus (simp; done)) | (focus (simp; omega))))
    clear hw5
    replace hrg := hrg.below hg
    replace hbr := hbr.below hg
    replace hbw := hbw.trans (hg.mono hbw.size); replace hB1 := hB1.below hg hB1.lt; clear r0 r1 r2 r3 rf rl; obtain ⟨r0, r1, r2, r3, rf, rl⟩ := hB1.facts4; replace hB2 := hB2.below hg hB2.lt; clear c0 c1 c2 c3 c4 c5 c6 cf cl; obtain ⟨c0, c1, c2, c3, c4, c5, c6, cf, cl⟩ := hB2.facts7; replace hB3 := hB3.below hg hB3.lt; clear s0 s1 s2 s3 sf sl; obtain ⟨s0, s1, s2, s3, sf, sl⟩ := hB3.facts4; clear hg
    clear q0 q1 q2 q3 q4 q5 q6
    go_loopw [10] (fun v wz => ∃ i : Nat, i ≤ n ∧ v = .int .i64 i ∧ Below w5.heap.size w5 wz) (fun v _ => n - (intOf v).toNat)
    case atStart => exact ⟨0, Nat.zero_le _, rfl, Below.refl _ _⟩
    case round =>
      obtain ⟨i, hi, rfl, hg⟩ := hrel
      have hgq := hg
      replace hrg := hrg.below hg
      replace hbr := hbr.below hg
      replace hbw := hbw.trans (hg.mono hbw.size); replace hB1 := hB1.below hg hB1.lt; clear r0 r1 r2 r3 rf rl; obtain ⟨r0, r1, r2, r3, rf, rl⟩ := hB1.facts4; replace hB2 := hB2.below hg hB2.lt; clear c0 c1 c2 c3 c4 c5 c6 cf cl; obtain ⟨c0, c1, c2, c3, c4, c5, c6, cf, cl⟩ := hB2.facts7; replace hB3 := hB3.below hg hB3.lt; clear s0 s1 s2 s3 sf sl; obtain ⟨s0, s1, s2, s3, sf, sl⟩ := hB3.facts4; clear hg
      by_cases hlt : i < n
      ·
        --<1
        have hltI : (i : Int) < n := by omega
        obtain ⟨_, _, e1, hbg', hcg'⟩ := hrg (by omega)
        obtain ⟨rfl, rfl⟩ : bg = _ ∧ og = _ := by simpa using e1
        obtain ⟨_, _, e2, hbf', hcf'⟩ := hbr (by omega)
        obtain ⟨rfl, rfl⟩ : bf = _ ∧ of_ = _ := by simpa using e2
        clear e1 e2
        obtain ⟨q0, q1, q2, q3, q4, q5, q6⟩ := hcg' i hlt
        obtain ⟨p0, p1, p2, p3, p4, p5, p6⟩ := hcf' i hlt
        clear hcg' hcf'
        have hwr1 : IntKind.i64.wrap ((k : Int) + c.w) = (k : Int) + c.w := IntWalk.i64_in _ (by omega)
        have hwr2 : IntKind.i64.wrap ((k : Int) - 1) = (k : Int) - 1 := IntWalk.i64_in _ (by omega)
        have hT := HT1.out i hlt
        have HTi := Lib.hid hT
        clear hT
        by_cases hki : k ≤ i
        · have hA : decide (k ≤ i) = true := by simpa using hki
          by_cases hin : (i : Int) < k + c.w
          · have hA' : decide ((i : Int) < (k : Int) + c.w) = true := by simpa using hin
            clear HTi
            go_wp2_with fail
            go_quiet (fail)
            go_wp2_with fail
            go_roundw
            case rel => exact ⟨i + 1, by omega, by go_num, by (repeat (first | (with_reducible exact Below.refl _ _) | (with_reducible assumption) | (with_reducible refine Below.grow ?_ ?_ _ _) | (with_reducible refine Below.drewN' ?_ _) | (with_reducible refine Below.drew ?_) | (with_reducible refine Below.alloc ?_ ?_ _) | (with_reducible refine Below.setCell ?_ ?_ _) | omega | (focus (simp; done)) | (focus (simp; omega))))⟩
            case measure => simp [intOf]; omega
          · have hA' : decide ((i : Int) < (k : Int) + c.w) = false := by simpa using hin
            by_cases hgf : g i = f i
            · have hd2 : decide (g i = f i) = true := by simpa using hgf
              clear HTi hgf
              go_wp2_with fail
              go_quiet (fail)
              go_wp2_with fail
              go_roundw
              case rel => exact ⟨i + 1, by omega, by go_num, by (repeat (first | (with_reducible exact Below.refl _ _) | (with_reducible assumption) | (with_reducible refine Below.grow ?_ ?_ _ _) | (with_reducible refine Below.drewN' ?_ _) | (with_reducible refine Below.drew ?_) | (with_reducible refine Below.alloc ?_ ?_ _) | (with_reducible refine Below.setCell ?_ ?_ _) | omega | (focus (simp; done)) | (focus (simp; omega))))⟩
              case measure => simp [intOf]; omega
            · have hd2 : decide (g i = f i) = false := by simpa using hgf
              have hT := HTi.out.resolve_left (fun h => hin h.2)
              obtain ⟨hedge, hbl⟩ := hT.resolve_left hgf
              have hie : (i : Int) = k + c.w := by omega
              have hE1 : ((i : Int) != (k : Int) - 1) = true := by simp; omega
              have hE2 : ((i : Int) != (k : Int) + c.w) = false := by simp; omega
              have hd3 : decide (g i = blank (f i).fg (f i).bg (f i).fl) = true := decide_eq_true hbl
              clear HTi hT hedge hbl hgf hie
              go_wp2_with fail
              go_quiet (fail)
              go_wp2_with fail
              generalize hw6 : wr.drewN nq = w6
              have hg : Below wr.heap.size wr w6 := by rw [← hw6]; (repeat (first | (with_reducible exact Below.refl _ _) | (with_reducible assumption) | (with_reducible refine Below.grow ?_ ?_ _ _) | (with_reducible refine Below.drewN' ?_ _) | (with_reducible refine Below.drew ?_) | (with_reducible refine Below.alloc ?_ ?_ _) | (with_reducible refine Below.setCell ?_ ?_ _) | omega | (focus (simp; done)) | (focus (simp; omega))))
              clear hw6
              have hgx := hg
              replace hrg := hrg.below hg
              replace hbr := hbr.below hg
              replace hbw := hbw.trans (hg.mono hbw.size); replace hB1 := hB1.below hg hB1.lt; clear r0 r1 r2 r3 rf rl; obtain ⟨r0, r1, r2, r3, rf, rl⟩ := hB1.facts4; replace hB2 := hB2.below hg hB2.lt; clear c0 c1 c2 c3 c4 c5 c6 cf cl; obtain ⟨c0, c1, c2, c3, c4, c5, c6, cf, cl⟩ := hB2.facts7; replace hB3 := hB3.below hg hB3.lt; clear s0 s1 s2 s3 sf sl; obtain ⟨s0, s1, s2, s3, sf, sl⟩ := hB3.facts4; clear hg
              clear q0 q1 q2 q3 q4 q5 q6 p0 p1 p2 p3 p4 p5 p6
              obtain ⟨_, _, e1, hbg', hcg'⟩ := hrg (by omega)
              obtain ⟨rfl, rfl⟩ : bg = _ ∧ og = _ := by simpa using e1
              obtain ⟨_, _, e2, hbf', hcf'⟩ := hbr (by omega)
              obtain ⟨rfl, rfl⟩ : bf = _ ∧ of_ = _ := by simpa using e2
              clear e1 e2
              obtain ⟨q0, q1, q2, q3, q4, q5, q6⟩ := hcg' i hlt
              obtain ⟨p0, p1, p2, p3, p4, p5, p6⟩ := hcf' i hlt
              clear hcg' hcf'
              (refine wp_region_grew (by kernel_rfl) (by kernel_rfl) ?_; (repeat (quiet_step ((go_at_call 18; exact Calls.grew_of (blank_c _ _ _ _))))); refine wpQuiet_nil ?_; rintro _ ⟨⟨Xq, dq⟩, rfl⟩)
              go_wp2_with fail
              go_roundw
              case rel => exact ⟨i + 1, by omega, by go_num, (hgq.trans (hgx.mono hgq.size)).grow (by have := hgq.size; have := hgx.size; omega) _ _⟩
              case measure => simp [intOf]; omega
        · have hA : decide (k ≤ i) = false := by simpa using hki
          by_cases hgf : g i = f i
          · have hd2 : decide (g i = f i) = true := by simpa using hgf
            clear HTi hgf
            go_wp2_with fail
            go_quiet (fail)
            go_wp2_with fail
            go_roundw
            case rel => exact ⟨i + 1, by omega, by go_num, by (repeat (first | (with_reducible exact Below.refl _ _) | (with_reducible assumption) | (with_reducible refine Below.grow ?_ ?_ _ _) | (with_reducible refine Below.drewN' ?_ _) | (with_reducible refine Below.drew ?_) | (with_reducible refine Below.alloc ?_ ?_ _) | (with_reducible refine Below.setCell ?_ ?_ _) | omega | (focus (simp; done)) | (focus (simp; omega))))⟩
            case measure => simp [intOf]; omega
          · have hd2 : decide (g i = f i) = false := by simpa using hgf
            have hT := HTi.out.resolve_left (fun h => hki (by omega))
            obtain ⟨hedge, hbl⟩ := hT.resolve_left hgf
            have hie : (i : Int) = k - 1 := by omega
            have hE1 : ((i : Int) != (k : Int) - 1) = false := by simp; omega
            have hd3 : decide (g i = blank (f i).fg (f i).bg (f i).fl) = true := decide_eq_true hbl
            clear HTi hT hedge hbl hgf hie
            go_wp2_with fail
            go_quiet (fail)
            go_wp2_with fail
            generalize hw6 : wr.drewN nq = w6
            have hg : Below wr.heap.size wr w6 := by rw [← hw6]; (repeat (first | (with_reducible exact Below.refl _ _) | (with_reducible assumption) | (with_reducible refine Below.grow ?_ ?_ _ _) | (with_reducible refine Below.drewN' ?_ _) | (with_reducible refine Below.drew ?_) | (with_reducible refine Below.alloc ?_ ?_ _) | (with_reducible refine Below.setCell ?_ ?_ _) | omega | (focus (simp; done)) | (focus (simp; omega))))
            clear hw6
            have hgx := hg
            replace hrg := hrg.below hg
            replace hbr := hbr.below hg
            replace hbw := hbw.trans (hg.mono hbw.size); replace hB1 := hB1.below hg hB1.lt; clear r0 r1 r2 r3 rf rl; obtain ⟨r0, r1, r2, r3, rf, rl⟩ := hB1.facts4; replace hB2 := hB2.below hg hB2.lt; clear c0 c1 c2 c3 c4 c5 c6 cf cl; obtain ⟨c0, c1, c2, c3, c4, c5, c6, cf, cl⟩ := hB2.facts7; replace hB3 := hB3.below hg hB3.lt; clear s0 s1 s2 s3 sf sl; obtain ⟨s0, s1, s2, s3, sf, sl⟩ := hB3.facts4; clear hg
            clear q0 q1 q2 q3 q4 q5 q6 p0 p1 p2 p3 p4 p5 p6
            obtain ⟨_, _, e1, hbg', hcg'⟩ := hrg (by omega)
            obtain ⟨rfl, rfl⟩ : bg = _ ∧ og = _ := by simpa using e1
            obtain ⟨_, _, e2, hbf', hcf'⟩ := hbr (by omega)
            obtain ⟨rfl, rfl⟩ : bf = _ ∧ of_ = _ := by simpa using e2
            clear e1 e2
            obtain ⟨q0, q1, q2, q3, q4, q5, q6⟩ := hcg' i hlt
            obtain ⟨p0, p1, p2, p3, p4, p5, p6⟩ := hcf' i hlt
            clear hcg' hcf'
            (refine wp_region_grew (by kernel_rfl) (by kernel_rfl) ?_; (repeat (quiet_step ((go_at_call 18; exact Calls.grew_of (blank_c _ _ _ _))))); refine wpQuiet_nil ?_; rintro _ ⟨⟨Xq, dq⟩, rfl⟩)
            go_wp2_with fail
            go_roundw
            case rel => exact ⟨i + 1, by omega, by go_num, (hgq.trans (hgx.mono hgq.size)).grow (by have := hgq.size; have := hgx.size; omega) _ _⟩
            case measure => simp [intOf]; omega
        -->1
      · obtain rfl : i = n := by omega
        have HP := fun w => put_c (some ⟨bg, og, none⟩) i cap' g wb dir ex k c w
        have hsm := HSB.out i (putR i g k c) g HT3.out
        have hwr3 : IntKind.i64.wrap ((k : Int) + 1) = (k : Int) + 1 := IntWalk.i64_in _ (by omega)
        generalize putR i g k c = h at *
        by_cases h2 : c.w = 2
        · have hw2 : (c.w != 2) = false := by simpa using h2
          obtain ⟨hk1, z0, z1, z2, z3⟩ := HT2.out h2
          obtain ⟨_, _, e1, hbg', hcg'⟩ := hrg (by omega)
          obtain ⟨rfl, rfl⟩ : bg = _ ∧ og = _ := by simpa using e1
          clear e1
          obtain ⟨q0, q1, q2, q3, q4, q5, q6⟩ := hcg' (k + 1) hk1
          rw [z0] at q3
          rw [z1] at q4
          rw [z2] at q5
          rw [z3] at q6
          have l1 : (0 : Int) ≤ (k : Int) + 1 := by omega
          have l2 : (k : Int) + 1 < (i : Int) := by omega
          have l3 : ((k : Int) + 1).toNat = k + 1 := by omega
          clear hcg' z0 z1 z2 z3 HT1 HT2 HT3 HSB h2
          go_wp2_with fail
          refine hr_start (S := (fun w' => w'.cell? ⟨b3, 0, none⟩ = some (.slice (some ⟨bg, og, none⟩) i cap') ∧ w'.cell? ⟨b3, 1, none⟩ = some (.bool wb) ∧ w'.cell? ⟨b3, 2, none⟩ = some (.int .i64 dir) ∧ w'.cell? ⟨b3, 3, none⟩ = some (.bool ex) ∧ w'.cell? ⟨w.heap.size + 1, 0, none⟩ = some (.int .i64 c.r) ∧ w'.cell? ⟨w.heap.size + 1, 1, none⟩ = some (.int .i64 c.m0) ∧ w'.cell? ⟨w.heap.size + 1, 2, none⟩ = some (.int .i64 c.m1) ∧ w'.cell? ⟨w.heap.size + 1, 3, none⟩ = some (.int .i64 c.w) ∧ w'.cell? ⟨w.heap.size + 1, 4, none⟩ = some (.int .i64 c.fg) ∧ w'.cell? ⟨w.heap.size + 1, 5, none⟩ = some (.int .i64 c.bg) ∧ w'.cell? ⟨w.heap.size + 1, 6, none⟩ = some (.int .i64 c.fl) ∧ w'.cell? ⟨bg, og + (k + 1) * 7 + 3, none⟩ = some (.int .i64 0) ∧ w'.cell? ⟨bg, og + (k + 1) * 7 + 4, none⟩ = some (.int .i64 c.fg) ∧ w'.cell? ⟨bg, og + (k + 1) * 7 + 5, none⟩ = some (.int .i64 c.bg) ∧ w'.cell? ⟨bg, og + (k + 1) * 7 + 6, none⟩ = some (.int .i64 c.fl))) (by kernel_rfl) rfl ?_ (fun hHeld => ?_)
          · ((try dsimp only); go_simp)
          refine hr_take (i := 0) rfl rfl (by kernel_rfl) (by kernel_rfl) (by kernel_rfl) (by kernel_rfl) (fun _ _ _ h => h) (v := ?_) ?_ (by assumption) ?_
          rotate_left
          focus (intro wS hSw; (try dsimp only at hSw); go_simp; (try with_reducible rfl))
          simp only [List.set_cons_zero, List.set_cons_succ]
          refine hr_take (i := 1) rfl rfl (by kernel_rfl) (by kernel_rfl) (by kernel_rfl) (by kernel_rfl) (fun _ _ _ h => h) (v := ?_) ?_ (by assumption) ?_
          rotate_left
          focus (intro wS hSw; (try dsimp only at hSw); go_simp; (try with_reducible rfl))
          simp only [List.set_cons_zero, List.set_cons_succ]
          refine hr_take (i := 2) rfl rfl (by kernel_rfl) (by kernel_rfl) (by kernel_rfl) (by kernel_rfl) (fun _ _ _ h => h) (v := ?_) ?_ (by assumption) ?_
          rotate_left
          focus (intro wS hSw; (try dsimp only at hSw); go_simp; (try with_reducible rfl))
          simp only [List.set_cons_zero, List.set_cons_succ]
          refine hr_take (i := 3) rfl rfl (by kernel_rfl) (by kernel_rfl) (by kernel_rfl) (by kernel_rfl) (fun _ _ _ h => h) (v := ?_) ?_ (by assumption) ?_
          rotate_left
          focus (intro wS hSw; (try dsimp only at hSw); go_simp; (try with_reducible rfl))
          simp only [List.set_cons_zero, List.set_cons_succ]
          refine hr_take (i := 4) rfl rfl (by kernel_rfl) (by kernel_rfl) (by kernel_rfl) (by kernel_rfl) (fun _ _ _ h => h) (v := ?_) ?_ (by assumption) ?_
          rotate_left
          focus (intro wS hSw; (try dsimp only at hSw); go_simp; (try with_reducible rfl))
          simp only [List.set_cons_zero, List.set_cons_succ]
          refine hr_take (i := 5) rfl rfl (by kernel_rfl) (by kernel_rfl) (by kernel_rfl) (by kernel_rfl) (fun _ _ _ h => h) (v := ?_) ?_ (by assumption) ?_
          rotate_left
          focus (intro wS hSw; (try dsimp only at hSw); go_simp; (try with_reducible rfl))
          simp only [List.set_cons_zero, List.set_cons_succ]
          refine hr_take (i := 6) rfl rfl (by kernel_rfl) (by kernel_rfl) (by kernel_rfl) (by kernel_rfl) (fun _ _ _ h => h) (v := ?_) ?_ (by assumption) ?_
          rotate_left
          focus (intro wS hSw; (try dsimp only at hSw); go_simp; (try with_reducible rfl))
          simp only [List.set_cons_zero, List.set_cons_succ]
          refine hr_take (i := 7) rfl rfl (by kernel_rfl) (by kernel_rfl) (by kernel_rfl) (by kernel_rfl) (fun _ _ _ h => h) (v := ?_) ?_ (by assumption) ?_
          rotate_left
          focus (intro wS hSw; (try dsimp only at hSw); go_simp; (try with_reducible rfl))
          simp only [List.set_cons_zero, List.set_cons_succ]
          refine hr_take (i := 8) rfl rfl (by kernel_rfl) (by kernel_rfl) (by kernel_rfl) (by kernel_rfl) (fun _ _ _ h => h) (v := ?_) ?_ (by assumption) ?_
          rotate_left
          focus (intro wS hSw; (try dsimp only at hSw); go_simp; (try with_reducible rfl))
          simp only [List.set_cons_zero, List.set_cons_succ]
          refine hr_take (i := 9) rfl rfl (by kernel_rfl) (by kernel_rfl) (by kernel_rfl) (by kernel_rfl) (fun _ _ _ h => h) (v := ?_) ?_ (by assumption) ?_
          rotate_left
          focus (intro wS hSw; (try dsimp only at hSw); go_simp; (try with_reducible rfl))
          simp only [List.set_cons_zero, List.set_cons_succ]
          refine hr_take (i := 10) rfl rfl (by kernel_rfl) (by kernel_rfl) (by kernel_rfl) (by kernel_rfl) (fun _ _ _ h => h) (v := ?_) ?_ (by assumption) ?_
          rotate_left
          focus (intro wS hSw; (try dsimp only at hSw); go_simp; (try with_reducible rfl))
          simp only [List.set_cons_zero, List.set_cons_succ]
          refine hr_take (i := 11) rfl rfl (by kernel_rfl) (by kernel_rfl) (by kernel_rfl) (by kernel_rfl) (fun _ _ _ h => h) (v := ?_) ?_ (by assumption) ?_
          rotate_left
          focus (intro wS hSw; (try dsimp only at hSw); go_simp; (try with_reducible rfl))
          simp only [List.set_cons_zero, List.set_cons_succ]
          refine hr_take (i := 12) rfl rfl (by kernel_rfl) (by kernel_rfl) (by kernel_rfl) (by kernel_rfl) (fun _ _ _ h => h) (v := ?_) ?_ (by assumption) ?_
          rotate_left
          focus (intro wS hSw; (try dsimp only at hSw); go_simp; (try with_reducible rfl))
          simp only [List.set_cons_zero, List.set_cons_succ]
          refine hr_take (i := 13) rfl rfl (by kernel_rfl) (by kernel_rfl) (by kernel_rfl) (by kernel_rfl) (fun _ _ _ h => h) (v := ?_) ?_ (by assumption) ?_
          rotate_left
          focus (intro wS hSw; (try dsimp only at hSw); go_simp; (try with_reducible rfl))
          simp only [List.set_cons_zero, List.set_cons_succ]
          refine hr_take (i := 14) rfl rfl (by kernel_rfl) (by kernel_rfl) (by kernel_rfl) (by kernel_rfl) (fun _ _ _ h => h) (v := ?_) ?_ (by assumption) ?_
          rotate_left
          focus (intro wS hSw; (try dsimp only at hSw); go_simp; (try with_reducible rfl))
          simp only [List.set_cons_zero, List.set_cons_succ]
          refine hr_take (i := 15) rfl rfl (by kernel_rfl) (by kernel_rfl) (by kernel_rfl) (by kernel_rfl) (fun _ _ _ h => h) (v := ?_) ?_ (by assumption) ?_
          rotate_left
          focus (intro wS hSw; (try dsimp only at hSw); go_simp; (try with_reducible rfl))
          simp only [List.set_cons_zero, List.set_cons_succ]
          refine hr_take (i := 16) rfl rfl (by kernel_rfl) (by kernel_rfl) (by kernel_rfl) (by kernel_rfl) (fun _ _ _ h => h) (v := ?_) ?_ (by assumption) ?_
          rotate_left
          focus (intro wS hSw; (try dsimp only at hSw); go_simp; (try with_reducible rfl))
          simp only [List.set_cons_zero, List.set_cons_succ]
          refine hr_take (i := 17) rfl rfl (by kernel_rfl) (by kernel_rfl) (by kernel_rfl) (by kernel_rfl) (fun _ _ _ h => h) (v := ?_) ?_ (by assumption) ?_
          rotate_left
          focus (intro wS hSw; (try dsimp only at hSw); go_simp; (try with_reducible rfl))
          simp only [List.set_cons_zero, List.set_cons_succ]
          refine hr_take (i := 18) rfl rfl (by kernel_rfl) (by kernel_rfl) (by kernel_rfl) (by kernel_rfl) (fun _ _ _ h => h) (v := ?_) ?_ (by assumption) ?_
          rotate_left
          focus (intro wS hSw; (try dsimp only at hSw); go_simp; (try with_reducible rfl))
          simp only [List.set_cons_zero, List.set_cons_succ]
          refine hr_take (i := 19) rfl rfl (by kernel_rfl) (by kernel_rfl) (by kernel_rfl) (by kernel_rfl) (fun _ _ _ h => h) (v := ?_) ?_ (by assumption) ?_
          rotate_left
          focus (intro wS hSw; (try dsimp only at hSw); go_simp; (try with_reducible rfl))
          simp only [List.set_cons_zero, List.set_cons_succ]
          refine hr_take (i := 20) rfl rfl (by kernel_rfl) (by kernel_rfl) (by kernel_rfl) (by kernel_rfl) (fun _ _ _ h => h) (v := ?_) ?_ (by assumption) ?_
          rotate_left
          focus (intro wS hSw; (try dsimp only at hSw); go_simp; (try with_reducible rfl))
          simp only [List.set_cons_zero, List.set_cons_succ]
          refine hr_take (i := 21) rfl rfl (by kernel_rfl) (by kernel_rfl) (by kernel_rfl) (by kernel_rfl) (fun _ _ _ h => h) (v := ?_) ?_ (by assumption) ?_
          rotate_left
          focus (intro wS hSw; (try dsimp only at hSw); go_simp; (try with_reducible rfl))
          simp only [List.set_cons_zero, List.set_cons_succ]
          refine hr_take (i := 22) rfl rfl (by kernel_rfl) (by kernel_rfl) (by kernel_rfl) (by kernel_rfl) (fun _ _ _ h => h) (v := ?_) ?_ (by assumption) ?_
          rotate_left
          focus (intro wS hSw; (try dsimp only at hSw); go_simp; (try with_reducible rfl))
          simp only [List.set_cons_zero, List.set_cons_succ]
          refine hr_take (i := 23) rfl rfl (by kernel_rfl) (by kernel_rfl) (by kernel_rfl) (by kernel_rfl) (fun _ _ _ h => h) (v := ?_) ?_ (by assumption) ?_
          rotate_left
          focus (intro wS hSw; (try dsimp only at hSw); go_simp; (try with_reducible rfl))
          simp only [List.set_cons_zero, List.set_cons_succ]
          refine hr_take (i := 24) rfl rfl (by kernel_rfl) (by kernel_rfl) (by kernel_rfl) (by kernel_rfl) (fun _ _ _ h => h) (v := ?_) ?_ (by assumption) ?_
          rotate_left
          focus (intro wS hSw; (try dsimp only at hSw); go_simp; (try with_reducible rfl))
          simp only [List.set_cons_zero, List.set_cons_succ]
          refine hr_take (i := 25) rfl rfl (by kernel_rfl) (by kernel_rfl) (by kernel_rfl) (by kernel_rfl) (fun _ _ _ h => h) (v := ?_) ?_ (by assumption) ?_
          rotate_left
          focus (intro wS hSw; (try dsimp only at hSw); go_simp; (try with_reducible rfl))
          simp only [List.set_cons_zero, List.set_cons_succ]
          refine hr_take (i := 26) rfl rfl (by kernel_rfl) (by kernel_rfl) (by kernel_rfl) (by kernel_rfl) (fun _ _ _ h => h) (v := ?_) ?_ (by assumption) ?_
          rotate_left
          focus (intro wS hSw; (try dsimp only at hSw); go_simp; (try with_reducible rfl))
          simp only [List.set_cons_zero, List.set_cons_succ]
          refine hr_take (i := 27) rfl rfl (by kernel_rfl) (by kernel_rfl) (by kernel_rfl) (by kernel_rfl) (fun _ _ _ h => h) (v := ?_) ?_ (by assumption) ?_
          rotate_left
          focus (intro wS hSw; (try dsimp only at hSw); go_simp; (try with_reducible rfl))
          simp only [List.set_cons_zero, List.set_cons_succ]
          refine hr_take (i := 28) rfl rfl (by kernel_rfl) (by kernel_rfl) (by kernel_rfl) (by kernel_rfl) (fun _ _ _ h => h) (v := ?_) ?_ (by assumption) ?_
          rotate_left
          focus (intro wS hSw; (try dsimp only at hSw); go_simp; (try with_reducible rfl))
          simp only [List.set_cons_zero, List.set_cons_succ]
          refine hr_take (i := 29) rfl rfl (by kernel_rfl) (by kernel_rfl) (by kernel_rfl) (by kernel_rfl) (fun _ _ _ h => h) (v := ?_) ?_ (by assumption) ?_
          rotate_left
          focus (intro wS hSw; (try dsimp only at hSw); go_simp; (try with_reducible rfl))
          simp only [List.set_cons_zero, List.set_cons_succ]
          refine hr_take (i := 30) rfl rfl (by kernel_rfl) (by kernel_rfl) (by kernel_rfl) (by kernel_rfl) (fun _ _ _ h => h) (v := ?_) ?_ (by assumption) ?_
          rotate_left
          focus (intro wS hSw; (try dsimp only at hSw); go_simp; (try with_reducible rfl))
          simp only [List.set_cons_zero, List.set_cons_succ]
          refine hr_take (i := 31) rfl rfl (by kernel_rfl) (by kernel_rfl) (by kernel_rfl) (by kernel_rfl) (fun _ _ _ h => h) (v := ?_) ?_ (by assumption) ?_
          rotate_left
          focus (intro wS hSw; (try dsimp only at hSw); go_simp; (try with_reducible rfl))
          simp only [List.set_cons_zero, List.set_cons_succ]
          refine hr_take (i := 33) rfl rfl (by kernel_rfl) (by kernel_rfl) (by kernel_rfl) (by kernel_rfl) (fun _ _ _ h => h) (v := ?_) ?_ (by assumption) ?_
          rotate_left
          focus (intro wS hSw; (try dsimp only at hSw); go_simp; (try with_reducible rfl))
          simp only [List.set_cons_zero, List.set_cons_succ]
          refine hr_op (i := 32) rfl rfl (by kernel_rfl) (by kernel_rfl) (fun K hK => ?_)
          go_simp
          ((with_reducible refine (HP _ (hrg.below (by (repeat (first | (with_reducible exact Below.refl _ _) | (with_reducible assumption) | (with_reducible refine Below.grow ?_ ?_ _ _) | (with_reducible refine Below.drewN' ?_ _) | (with_reducible refine Below.drew ?_) | (with_reducible refine Below.alloc ?_ ?_ _) | (with_reducible refine Below.setCell ?_ ?_ _) | omega | (focus (simp; done)) | (focus (simp; omega)))))) hgs).mono ?_); rintro e wp ⟨B2, cap2, rfl, ⟨X6, d6, rfl⟩, hr6⟩; replace hr6 : Rd (wr.grow X6 d6) _ _ _ := hr6)
          (try go_wp2_with fail)
          refine hK.out _ _ ?_ (fun hHeld => ?_)
          · ((try dsimp only); go_simp)
          clear hK K
          simp only [List.set_cons_zero, List.set_cons_succ]
          refine hr_op (i := 34) rfl rfl (by kernel_rfl) (by kernel_rfl) (fun K hK => ?_)
          go_simp
          ((with_reducible refine (same_c B2 i cap2 h wb dir ex (some ⟨bg, og, none⟩) i cap' g wb dir ex _ (hr6.below (by (repeat (first | (with_reducible exact Below.refl _ _) | (with_reducible assumption) | (with_reducible refine Below.grow ?_ ?_ _ _) | (with_reducible refine Below.drewN' ?_ _) | (with_reducible refine Below.drew ?_) | (with_reducible refine Below.alloc ?_ ?_ _) | (with_reducible refine Below.setCell ?_ ?_ _) | omega | (focus (simp; done)) | (focus (simp; omega)))))) (hrg.below (by (repeat (first | (with_reducible exact Below.refl _ _) | (with_reducible assumption) | (with_reducible refine Below.grow ?_ ?_ _ _) | (with_reducible refine Below.drewN' ?_ _) | (with_reducible refine Below.drew ?_) | (with_reducible refine Below.alloc ?_ ?_ _) | (with_reducible refine Below.setCell ?_ ?_ _) | omega | (focus (simp; done)) | (focus (simp; omega)))))) (by omega) (by omega)).mono ?_); rintro e ws ⟨rfl, X7, d7, rfl⟩)
          (try go_wp2_with fail)
          refine hK.out _ _ ?_ (fun hHeld => ?_)
          · ((try dsimp only); go_simp)
          clear hK K
          simp only [List.set_cons_zero, List.set_cons_succ]
          refine hr_take (i := 35) rfl rfl (by kernel_rfl) (by kernel_rfl) (by kernel_rfl) (by kernel_rfl) (fun _ _ _ h => h) (v := ?_) ?_ (by assumption) ?_
          rotate_left
          focus (intro wS hSw; (try dsimp only at hSw); go_simp; (try with_reducible rfl))
          simp only [List.set_cons_zero, List.set_cons_succ]
          refine hr_take (i := 36) rfl rfl (by kernel_rfl) (by kernel_rfl) (by kernel_rfl) (by kernel_rfl) (fun _ _ _ h => h) (v := ?_) ?_ (by assumption) ?_
          rotate_left
          focus (intro wS hSw; (try dsimp only at hSw); go_simp; (try with_reducible rfl))
          simp only [List.set_cons_zero, List.set_cons_succ]
          refine hr_done (by kernel_rfl) ?_
          go_wp2_with fail
          go_ret
          exact ⟨rfl, (Below.toGrow (by repeat (first | (with_reducible exact Below.refl _ _) | (with_reducible assumption) | (with_reducible refine Below.grow ?_ ?_ _ _) | (with_reducible refine Below.drewN' ?_ _) | (with_reducible refine Below.drew ?_) | (with_reducible refine Below.alloc ?_ ?_ _) | (with_reducible refine Below.setCell ?_ ?_ _) | omega | (focus (simp; done)) | (focus (simp; omega)))))⟩
        · have hw2 : (c.w != 2) = true := by simpa using h2
          clear HT1 HT2 HT3 HSB
          go_wp2_with fail
          refine hr_start (S := (fun w' => w'.cell? ⟨b3, 0, none⟩ = some (.slice (some ⟨bg, og, none⟩) i cap') ∧ w'.cell? ⟨b3, 1, none⟩ = some (.bool wb) ∧ w'.cell? ⟨b3, 2, none⟩ = some (.int .i64 dir) ∧ w'.cell? ⟨b3, 3, none⟩ = some (.bool ex) ∧ w'.cell? ⟨w.heap.size + 1, 0, none⟩ = some (.int .i64 c.r) ∧ w'.cell? ⟨w.heap.size + 1, 1, none⟩ = some (.int .i64 c.m0) ∧ w'.cell? ⟨w.heap.size + 1, 2, none⟩ = some (.int .i64 c.m1) ∧ w'.cell? ⟨w.heap.size + 1, 3, none⟩ = some (.int .i64 c.w) ∧ w'.cell? ⟨w.heap.size + 1, 4, none⟩ = some (.int .i64 c.fg) ∧ w'.cell? ⟨w.heap.size + 1, 5, none⟩ = some (.int .i64 c.bg) ∧ w'.cell? ⟨w.heap.size + 1, 6, none⟩ = some (.int .i64 c.fl))) (by kernel_rfl) rfl ?_ (fun hHeld => ?_)
          · ((try dsimp only); go_simp)
          refine hr_take (i := 0) rfl rfl (by kernel_rfl) (by kernel_rfl) (by kernel_rfl) (by kernel_rfl) (fun _ _ _ h => h) (v := ?_) ?_ (by assumption) ?_
          rotate_left
          focus (intro wS hSw; (try dsimp only at hSw); go_simp; (try with_reducible rfl))
          simp only [List.set_cons_zero, List.set_cons_succ]
          refine hr_take (i := 1) rfl rfl (by kernel_rfl) (by kernel_rfl) (by kernel_rfl) (by kernel_rfl) (fun _ _ _ h => h) (v := ?_) ?_ (by assumption) ?_
          rotate_left
          focus (intro wS hSw; (try dsimp only at hSw); go_simp; (try with_reducible rfl))
          simp only [List.set_cons_zero, List.set_cons_succ]
          refine hr_take (i := 2) rfl rfl (by kernel_rfl) (by kernel_rfl) (by kernel_rfl) (by kernel_rfl) (fun _ _ _ h => h) (v := ?_) ?_ (by assumption) ?_
          rotate_left
          focus (intro wS hSw; (try dsimp only at hSw); go_simp; (try with_reducible rfl))
          simp only [List.set_cons_zero, List.set_cons_succ]
          refine hr_take (i := 3) rfl rfl (by kernel_rfl) (by kernel_rfl) (by kernel_rfl) (by kernel_rfl) (fun _ _ _ h => h) (v := ?_) ?_ (by assumption) ?_
          rotate_left
          focus (intro wS hSw; (try dsimp only at hSw); go_simp; (try with_reducible rfl))
          simp only [List.set_cons_zero, List.set_cons_succ]
          refine hr_take (i := 4) rfl rfl (by kernel_rfl) (by kernel_rfl) (by kernel_rfl) (by kernel_rfl) (fun _ _ _ h => h) (v := ?_) ?_ (by assumption) ?_
          rotate_left
          focus (intro wS hSw; (try dsimp only at hSw); go_simp; (try with_reducible rfl))
          simp only [List.set_cons_zero, List.set_cons_succ]
          refine hr_take (i := 5) rfl rfl (by kernel_rfl) (by kernel_rfl) (by kernel_rfl) (by kernel_rfl) (fun _ _ _ h => h) (v := ?_) ?_ (by assumption) ?_
          rotate_left
          focus (intro wS hSw; (try dsimp only at hSw); go_simp; (try with_reducible rfl))
          simp only [List.set_cons_zero, List.set_cons_succ]
          refine hr_skip (i := 6) rfl rfl (by kernel_rfl) (by kernel_rfl) (by kernel_rfl) (by kernel_rfl) (fun _ _ _ h => h) (by assumption) ?_
          simp only [List.set_cons_zero, List.set_cons_succ]
          refine hr_skip (i := 7) rfl rfl (by kernel_rfl) (by kernel_rfl) (by kernel_rfl) (by kernel_rfl) (fun _ _ _ h => h) (by assumption) ?_
          simp only [List.set_cons_zero, List.set_cons_succ]
          refine hr_skip (i := 8) rfl rfl (by kernel_rfl) (by kernel_rfl) (by kernel_rfl) (by kernel_rfl) (fun _ _ _ h => h) (by assumption) ?_
          simp only [List.set_cons_zero, List.set_cons_succ]
          refine hr_skip (i := 9) rfl rfl (by kernel_rfl) (by kernel_rfl) (by kernel_rfl) (by kernel_rfl) (fun _ _ _ h => h) (by assumption) ?_
          simp only [List.set_cons_zero, List.set_cons_succ]
          refine hr_skip (i := 10) rfl rfl (by kernel_rfl) (by kernel_rfl) (by kernel_rfl) (by kernel_rfl) (fun _ _ _ h => h) (by assumption) ?_
          simp only [List.set_cons_zero, List.set_cons_succ]
          refine hr_skip (i := 11) rfl rfl (by kernel_rfl) (by kernel_rfl) (by kernel_rfl) (by kernel_rfl) (fun _ _ _ h => h) (by assumption) ?_
          simp only [List.set_cons_zero, List.set_cons_succ]
          refine hr_skip (i := 12) rfl rfl (by kernel_rfl) (by kernel_rfl) (by kernel_rfl) (by kernel_rfl) (fun _ _ _ h => h) (by assumption) ?_
          simp only [List.set_cons_zero, List.set_cons_succ]
          refine hr_skip (i := 13) rfl rfl (by kernel_rfl) (by kernel_rfl) (by kernel_rfl) (by kernel_rfl) (fun _ _ _ h => h) (by assumption) ?_
          simp only [List.set_cons_zero, List.set_cons_succ]
          refine hr_skip (i := 14) rfl rfl (by kernel_rfl) (by kernel_rfl) (by kernel_rfl) (by kernel_rfl) (fun _ _ _ h => h) (by assumption) ?_
          simp only [List.set_cons_zero, List.set_cons_succ]
          refine hr_skip (i := 15) rfl rfl (by kernel_rfl) (by kernel_rfl) (by kernel_rfl) (by kernel_rfl) (fun _ _ _ h => h) (by assumption) ?_
          simp only [List.set_cons_zero, List.set_cons_succ]
          refine hr_skip (i := 16) rfl rfl (by kernel_rfl) (by kernel_rfl) (by kernel_rfl) (by kernel_rfl) (fun _ _ _ h => h) (by assumption) ?_
          simp only [List.set_cons_zero, List.set_cons_succ]
          refine hr_skip (i := 17) rfl rfl (by kernel_rfl) (by kernel_rfl) (by kernel_rfl) (by kernel_rfl) (fun _ _ _ h => h) (by assumption) ?_
          simp only [List.set_cons_zero, List.set_cons_succ]
          refine hr_skip (i := 18) rfl rfl (by kernel_rfl) (by kernel_rfl) (by kernel_rfl) (by kernel_rfl) (fun _ _ _ h => h) (by assumption) ?_
          simp only [List.set_cons_zero, List.set_cons_succ]
          refine hr_skip (i := 19) rfl rfl (by kernel_rfl) (by kernel_rfl) (by kernel_rfl) (by kernel_rfl) (fun _ _ _ h => h) (by assumption) ?_
          simp only [List.set_cons_zero, List.set_cons_succ]
          refine hr_skip (i := 20) rfl rfl (by kernel_rfl) (by kernel_rfl) (by kernel_rfl) (by kernel_rfl) (fun _ _ _ h => h) (by assumption) ?_
          simp only [List.set_cons_zero, List.set_cons_succ]
          refine hr_skip (i := 21) rfl rfl (by kernel_rfl) (by kernel_rfl) (by kernel_rfl) (by kernel_rfl) (fun _ _ _ h => h) (by assumption) ?_
          simp only [List.set_cons_zero, List.set_cons_succ]
          refine hr_skip (i := 22) rfl rfl (by kernel_rfl) (by kernel_rfl) (by kernel_rfl) (by kernel_rfl) (fun _ _ _ h => h) (by assumption) ?_
          simp only [List.set_cons_zero, List.set_cons_succ]
          refine hr_skip (i := 23) rfl rfl (by kernel_rfl) (by kernel_rfl) (by kernel_rfl) (by kernel_rfl) (fun _ _ _ h => h) (by assumption) ?_
          simp only [List.set_cons_zero, List.set_cons_succ]
          refine hr_skip (i := 24) rfl rfl (by kernel_rfl) (by kernel_rfl) (by kernel_rfl) (by kernel_rfl) (fun _ _ _ h => h) (by assumption) ?_
          simp only [List.set_cons_zero, List.set_cons_succ]
          refine hr_skip (i := 25) rfl rfl (by kernel_rfl) (by kernel_rfl) (by kernel_rfl) (by kernel_rfl) (fun _ _ _ h => h) (by assumption) ?_
          simp only [List.set_cons_zero, List.set_cons_succ]
          refine hr_take (i := 26) rfl rfl (by kernel_rfl) (by kernel_rfl) (by kernel_rfl) (by kernel_rfl) (fun _ _ _ h => h) (v := ?_) ?_ (by assumption) ?_
          rotate_left
          focus (intro wS hSw; (try dsimp only at hSw); go_simp; (try with_reducible rfl))
          simp only [List.set_cons_zero, List.set_cons_succ]
          refine hr_take (i := 27) rfl rfl (by kernel_rfl) (by kernel_rfl) (by kernel_rfl) (by kernel_rfl) (fun _ _ _ h => h) (v := ?_) ?_ (by assumption) ?_
          rotate_left
          focus (intro wS hSw; (try dsimp only at hSw); go_simp; (try with_reducible rfl))
          simp only [List.set_cons_zero, List.set_cons_succ]
          refine hr_take (i := 28) rfl rfl (by kernel_rfl) (by kernel_rfl) (by kernel_rfl) (by kernel_rfl) (fun _ _ _ h => h) (v := ?_) ?_ (by assumption) ?_
          rotate_left
          focus (intro wS hSw; (try dsimp only at hSw); go_simp; (try with_reducible rfl))
          simp only [List.set_cons_zero, List.set_cons_succ]
          refine hr_take (i := 29) rfl rfl (by kernel_rfl) (by kernel_rfl) (by kernel_rfl) (by kernel_rfl) (fun _ _ _ h => h) (v := ?_) ?_ (by assumption) ?_
          rotate_left
          focus (intro wS hSw; (try dsimp only at hSw); go_simp; (try with_reducible rfl))
          simp only [List.set_cons_zero, List.set_cons_succ]
          refine hr_take (i := 30) rfl rfl (by kernel_rfl) (by kernel_rfl) (by kernel_rfl) (by kernel_rfl) (fun _ _ _ h => h) (v := ?_) ?_ (by assumption) ?_
          rotate_left
          focus (intro wS hSw; (try dsimp only at hSw); go_simp; (try with_reducible rfl))
          simp only [List.set_cons_zero, List.set_cons_succ]
          refine hr_take (i := 31) rfl rfl (by kernel_rfl) (by kernel_rfl) (by kernel_rfl) (by kernel_rfl) (fun _ _ _ h => h) (v := ?_) ?_ (by assumption) ?_
          rotate_left
          focus (intro wS hSw; (try dsimp only at hSw); go_simp; (try with_reducible rfl))
          simp only [List.set_cons_zero, List.set_cons_succ]
          refine hr_take (i := 33) rfl rfl (by kernel_rfl) (by kernel_rfl) (by kernel_rfl) (by kernel_rfl) (fun _ _ _ h => h) (v := ?_) ?_ (by assumption) ?_
          rotate_left
          focus (intro wS hSw; (try dsimp only at hSw); go_simp; (try with_reducible rfl))
          simp only [List.set_cons_zero, List.set_cons_succ]
          refine hr_op (i := 32) rfl rfl (by kernel_rfl) (by kernel_rfl) (fun K hK => ?_)
          go_simp
          ((with_reducible refine (HP _ (hrg.below (by (repeat (first | (with_reducible exact Below.refl _ _) | (with_reducible assumption) | (with_reducible refine Below.grow ?_ ?_ _ _) | (with_reducible refine Below.drewN' ?_ _) | (with_reducible refine Below.drew ?_) | (with_reducible refine Below.alloc ?_ ?_ _) | (with_reducible refine Below.setCell ?_ ?_ _) | omega | (focus (simp; done)) | (focus (simp; omega)))))) hgs).mono ?_); rintro e wp ⟨B2, cap2, rfl, ⟨X6, d6, rfl⟩, hr6⟩; replace hr6 : Rd (wr.grow X6 d6) _ _ _ := hr6)
          (try go_wp2_with fail)
          refine hK.out _ _ ?_ (fun hHeld => ?_)
          · ((try dsimp only); go_simp)
          clear hK K
          simp only [List.set_cons_zero, List.set_cons_succ]
          refine hr_op (i := 34) rfl rfl (by kernel_rfl) (by kernel_rfl) (fun K hK => ?_)
          go_simp
          ((with_reducible refine (same_c B2 i cap2 h wb dir ex (some ⟨bg, og, none⟩) i cap' g wb dir ex _ (hr6.below (by (repeat (first | (with_reducible exact Below.refl _ _) | (with_reducible assumption) | (with_reducible refine Below.grow ?_ ?_ _ _) | (with_reducible refine Below.drewN' ?_ _) | (with_reducible refine Below.drew ?_) | (with_reducible refine Below.alloc ?_ ?_ _) | (with_reducible refine Below.setCell ?_ ?_ _) | omega | (focus (simp; done)) | (focus (simp; omega)))))) (hrg.below (by (repeat (first | (with_reducible exact Below.refl _ _) | (with_reducible assumption) | (with_reducible refine Below.grow ?_ ?_ _ _) | (with_reducible refine Below.drewN' ?_ _) | (with_reducible refine Below.drew ?_) | (with_reducible refine Below.alloc ?_ ?_ _) | (with_reducible refine Below.setCell ?_ ?_ _) | omega | (focus (simp; done)) | (focus (simp; omega)))))) (by omega) (by omega)).mono ?_); rintro e ws ⟨rfl, X7, d7, rfl⟩)
          (try go_wp2_with fail)
          refine hK.out _ _ ?_ (fun hHeld => ?_)
          · ((try dsimp only); go_simp)
          clear hK K
          simp only [List.set_cons_zero, List.set_cons_succ]
          refine hr_take (i := 35) rfl rfl (by kernel_rfl) (by kernel_rfl) (by kernel_rfl) (by kernel_rfl) (fun _ _ _ h => h) (v := ?_) ?_ (by assumption) ?_
          rotate_left
          focus (intro wS hSw; (try dsimp only at hSw); go_simp; (try with_reducible rfl))
          simp only [List.set_cons_zero, List.set_cons_succ]
          refine hr_take (i := 36) rfl rfl (by kernel_rfl) (by kernel_rfl) (by kernel_rfl) (by kernel_rfl) (fun _ _ _ h => h) (v := ?_) ?_ (by assumption) ?_
          rotate_left
          focus (intro wS hSw; (try dsimp only at hSw); go_simp; (try with_reducible rfl))
          simp only [List.set_cons_zero, List.set_cons_succ]
          refine hr_done (by kernel_rfl) ?_
          go_wp2_with fail
          go_ret
          exact ⟨rfl, (Below.toGrow (by repeat (first | (with_reducible exact Below.refl _ _) | (with_reducible assumption) | (with_reducible refine Below.grow ?_ ?_ _ _) | (with_reducible refine Below.drewN' ?_ _) | (with_reducible refine Below.drew ?_) | (with_reducible refine Below.alloc ?_ ?_ _) | (with_reducible refine Below.setCell ?_ ?_ _) | omega | (focus (simp; done)) | (focus (simp; omega)))))⟩
  · have hd : decide (g k = c) = false := by simpa using hgk
    have hgf := HNT.out hgk
    have hsm := HSB.out n g f (fun i _ => by rw [hgf])
    clear hgk HT HNT hgf
    go_quiet (fail)
    go_wp2_with (go_at_call 17; refine (same_c (some ⟨bg, og, none⟩) n cap' g wb dir ex (some ⟨bf, of_, none⟩) n cap f wb dir ex _ (hrg.below (by (repeat (first | (with_reducible exact Below.refl _ _) | (with_reducible assumption) | (with_reducible refine Below.grow ?_ ?_ _ _) | (with_reducible refine Below.drewN' ?_ _) | (with_reducible refine Below.drew ?_) | (with_reducible refine Below.alloc ?_ ?_ _) | (with_reducible refine Below.setCell ?_ ?_ _) | omega | (focus (simp; done)) | (focus (simp; omega)))))) ((hr.below hbw).below (by (repeat (first | (with_reducible exact Below.refl _ _) | (with_reducible assumption) | (with_reducible refine Below.grow ?_ ?_ _ _) | (with_reducible refine Below.drewN' ?_ _) | (with_reducible refine Below.drew ?_) | (with_reducible refine Below.alloc ?_ ?_ _) | (with_reducible refine Below.setCell ?_ ?_ _) | omega | (focus (simp; done)) | (focus (simp; omega)))))) (by omega) (by omega)).mono ?_; rintro e w1 ⟨rfl, X1, d1, rfl⟩)
    go_ret
    exact ⟨rfl, (Below.toGrow (by repeat (first | (with_reducible exact Below.refl _ _) | (with_reducible assumption) | (with_reducible refine Below.grow ?_ ?_ _ _) | (with_reducible refine Below.drewN' ?_ _) | (with_reducible refine Below.drew ?_) | (with_reducible refine Below.alloc ?_ ?_ _) | (with_reducible refine Below.setCell ?_ ?_ _) | omega | (focus (simp; done)) | (focus (simp; omega)))))⟩
end Go.Proofs.Ytpnadnjcacaibaa.Row
