/- The law's walk: RowMoves (written by movlaw.py). -/
import Derived.Test.YtpnadnjcacaibaaRowH
import Derived.Test.YtpnadnjcacaibaaRowW
namespace Go.Proofs.Ytpnadnjcacaibaa.Row
open Go.RowKit
set_option maxRecDepth 100000 in
set_option maxHeartbeats 2000000 in
theorem moves_long (A : Option Addr) (n cap : Nat) (wb : Bool) (dir : Int) (ex : Bool) (a b d fg bg fl : Int) (w : World) (hn : 300 < n) :
    Calls Try.prog 7 #[.agg #[.slice A n cap, .bool wb, .int .i64 dir, .bool ex], .int .i64 a, .int .i64 b, .int .i64 d, .agg #[.int .i64 fg, .int .i64 bg, .int .i64 fl]] w fun e w' => e = .returned (.bool true) ∧ Grew w w' := by
  have hn' : 300 < (n : Int) := by omega
  go_enter Try.func7, Try.ntmps7
  go_wp2_with (first | (go_at_call 14; refine (awake_c _).mono ?_; rintro e w1 ⟨rfl, XA, dA, rfl⟩))
  go_ret
  exact ⟨rfl, (Below.toGrow (by repeat (first | (with_reducible exact Below.refl _ _) | (with_reducible assumption) | (with_reducible refine Below.grow ?_ ?_ _ _) | (with_reducible refine Below.drewN' ?_ _) | (with_reducible refine Below.drew ?_) | (with_reducible refine Below.alloc ?_ ?_ _) | (with_reducible refine Below.setCell ?_ ?_ _) | omega | (focus (simp; done)) | (focus (simp; omega)))))⟩
set_option maxRecDepth 100000 in
set_option maxHeartbeats 2000000 in
theorem moves_insane (A : Option Addr) (n cap : Nat) (f : Nat → Cl) (wb : Bool) (dir : Int) (ex : Bool) (a b d fg bg fl : Int) (w : World) (hr : Rd w A n f) (hn : n ≤ 300) (hs : saneB n f dir = false) :
    Calls Try.prog 7 #[.agg #[.slice A n cap, .bool wb, .int .i64 dir, .bool ex], .int .i64 a, .int .i64 b, .int .i64 d, .agg #[.int .i64 fg, .int .i64 bg, .int .i64 fl]] w fun e w' => e = .returned (.bool true) ∧ Grew w w' := by
  go_enter Try.func7, Try.ntmps7
  go_wp2_with (first | (go_at_call 14; refine (awake_c _).mono ?_; rintro e w1 ⟨rfl, XA, dA, rfl⟩) | (go_at_call 15; refine (sane_c A n cap f wb dir ex _ (hr.below (by (repeat (first | (with_reducible exact Below.refl _ _) | (with_reducible assumption) | (with_reducible refine Below.grow ?_ ?_ _ _) | (with_reducible refine Below.drewN' ?_ _) | (with_reducible refine Below.drew ?_) | (with_reducible refine Below.alloc ?_ ?_ _) | (with_reducible refine Below.setCell ?_ ?_ _) | omega | (focus (simp; done)) | (focus (simp; omega)))))) (by omega)).mono ?_; rintro e w1 ⟨rfl, X1, d1, rfl⟩))
  go_ret
  exact ⟨rfl, (Below.toGrow (by repeat (first | (with_reducible exact Below.refl _ _) | (with_reducible assumption) | (with_reducible refine Below.grow ?_ ?_ _ _) | (with_reducible refine Below.drewN' ?_ _) | (with_reducible refine Below.drew ?_) | (with_reducible refine Below.alloc ?_ ?_ _) | (with_reducible refine Below.setCell ?_ ?_ _) | omega | (focus (simp; done)) | (focus (simp; omega)))))⟩

set_option maxRecDepth 100000 in
set_option maxHeartbeats 8000000 in
theorem moves_sane (A : Option Addr) (n cap : Nat) (f : Nat → Cl) (wb : Bool) (dir : Int) (ex : Bool) (a b d fg bg fl : Int) (w : World) (hr : Rd w A n f) (hncap : n ≤ cap) (hn : n ≤ 300) (hs : saneB n f dir = true) :
    Calls Try.prog 7 #[.agg #[.slice A n cap, .bool wb, .int .i64 dir, .bool ex], .int .i64 a, .int .i64 b, .int .i64 d, .agg #[.int .i64 fg, .int .i64 bg, .int .i64 fl]] w fun e w' => e = .returned (.bool true) ∧ Grew w w' := by
  have hn1 := (sane_len hs).1
  obtain ⟨bf, of_, rfl, hbf, hcf⟩ := hr (by omega)
  clear hcf
  have hn0 : ((n : Int) == 0) = false := by simp; omega
  have hand1 : bits .and .i64 d 65535 = d % 65536 := and_mask 16 (by omega) d
  have hand2 : bits .and .i64 a 65535 = a % 65536 := and_mask 16 (by omega) a
  have hand3 : bits .and .i64 b 65535 = b % 65536 := and_mask 16 (by omega) b
  have hp1 : 0 ≤ d % 65536 := by omega
  have hp2 : 0 ≤ a % 65536 := by omega
  have hp3 : 0 ≤ b % 65536 := by omega
  obtain ⟨u, hu⟩ : ∃ u : Nat, d % 65536 % (n : Int) = (u : Int) := ⟨(d % 65536 % (n : Int)).toNat, (Int.toNat_of_nonneg (Int.emod_nonneg _ (by omega))).symm⟩
  have hun : u < n := by
    have := Int.emod_lt_of_pos (d % 65536) (show (0 : Int) < (n : Int) by omega)
    omega
  obtain ⟨v, hv⟩ : ∃ v : Nat, 1 + (u : Int) = (v : Int) := ⟨1 + u, by omega⟩
  have hvn : v ≤ n := by omega
  have hv1 : 1 ≤ v := by omega
  obtain ⟨k, hk⟩ : ∃ k : Nat, a % 65536 % (v : Int) = (k : Int) := ⟨(a % 65536 % (v : Int)).toNat, (Int.toNat_of_nonneg (Int.emod_nonneg _ (by omega))).symm⟩
  have hkv : k < v := by
    have := Int.emod_lt_of_pos (a % 65536) (show (0 : Int) < (v : Int) by omega)
    omega
  obtain ⟨m, hm⟩ : ∃ m : Nat, b % 65536 % ((v : Int) - k + 1) = (m : Int) := ⟨(b % 65536 % ((v : Int) - k + 1)).toNat, (Int.toNat_of_nonneg (Int.emod_nonneg _ (by omega))).symm⟩
  have hmv : k + m ≤ v := by
    have := Int.emod_lt_of_pos (b % 65536) (show (0 : Int) < (v : Int) - k + 1 by omega)
    omega
  go_enter Try.func7, Try.ntmps7
  go_wp2_with fail
  generalize hw0 : (w.alloc _).alloc _ = w0
  have hbw : Below w.heap.size w w0 := by rw [← hw0]; (repeat (first | (with_reducible exact Below.refl _ _) | (with_reducible assumption) | (with_reducible refine Below.grow ?_ ?_ _ _) | (with_reducible refine Below.drewN' ?_ _) | (with_reducible refine Below.drew ?_) | (with_reducible refine Below.alloc ?_ ?_ _) | (with_reducible refine Below.setCell ?_ ?_ _) | omega | (focus (simp; done)) | (focus (simp; omega))))
  have hB1 : Blk w0 w.heap.size 24 #[.slice (some ⟨bf, of_, none⟩) n cap, .bool wb, .int .i64 dir, .bool ex] := by rw [← hw0]; exact (Blk.new _ _ _).alloc _
  have hB2 : Blk w0 (w.heap.size + 1) 27 #[.int .i64 fg, .int .i64 bg, .int .i64 fl] := by rw [← hw0]; exact Blk.new_at (by simp)
  clear hw0
  obtain ⟨r0, r1, r2, r3, rf, rl⟩ := hB1.facts4; obtain ⟨c0, c1, c2, cf, cl⟩ := hB2.facts3
  refine (awake_c _).mono ?_
  rintro e w1 ⟨rfl, hg⟩
  replace hg := hg.below
  replace hbw := hbw.trans (hg.mono hbw.size); replace hB1 := hB1.below hg hB1.lt; clear r0 r1 r2 r3 rf rl; obtain ⟨r0, r1, r2, r3, rf, rl⟩ := hB1.facts4; replace hB2 := hB2.below hg hB2.lt; clear c0 c1 c2 cf cl; obtain ⟨c0, c1, c2, cf, cl⟩ := hB2.facts3; clear hg
  go_wp2_with fail
  refine (sane_c (some ⟨bf, of_, none⟩) n cap f wb dir ex _ (hr.below hbw) (by omega)).mono ?_
  rintro e w2 ⟨rfl, hg⟩
  replace hg := hg.below
  replace hbw := hbw.trans (hg.mono hbw.size); replace hB1 := hB1.below hg hB1.lt; clear r0 r1 r2 r3 rf rl; obtain ⟨r0, r1, r2, r3, rf, rl⟩ := hB1.facts4; replace hB2 := hB2.below hg hB2.lt; clear c0 c1 c2 cf cl; obtain ⟨c0, c1, c2, cf, cl⟩ := hB2.facts3; clear hg
  go_wp2_with fail
  simp only [hu, hk, hm]
  clear hu hv hk hm hand1 hand2 hand3 hp1 hp2 hp3
  have hbr := hr.below hbw
  go_loopw [15] (fun x wz => ∃ i : Nat, i ≤ n ∧ x = .int .i64 i ∧ Hid (∀ j, j < i → (f j).w = 1) ∧ wz = w2) (fun x _ => n - (intOf x).toNat)
  case atStart => exact ⟨0, Nat.zero_le _, rfl, fun j hj => absurd hj (by omega), rfl⟩
  case round =>
    obtain ⟨i, hi, rfl, HW, rfl⟩ := hrel
    by_cases hlt : i < n
    · have hltI : (i : Int) < n := by omega
      obtain ⟨_, _, e2, hbf', hcf'⟩ := hbr (by omega)
      obtain ⟨rfl, rfl⟩ : bf = _ ∧ of_ = _ := by simpa using e2
      have p3 := (hcf' i hlt).2.2.2.1
      clear e2 hcf'
      by_cases h1 : (f i).w = 1
      · have hd : ((f i).w != 1) = false := by simpa using h1
        have H1 := Lib.hid h1
        clear h1
        go_wp2_with fail
        go_roundw
        case rel => exact ⟨i + 1, by omega, by go_num, (fun j hj => by
          rcases Nat.lt_or_ge j i with hh | hh
          · exact HW.out j hh
          · obtain rfl : j = i := by omega
            exact H1.out), by first | rfl | exact trivial⟩
        case measure => simp [intOf]; omega
      · have hd : ((f i).w != 1) = true := by simpa using h1
        clear h1
        go_wp2_with fail
        go_ret
        exact ⟨rfl, (Below.toGrow (by repeat (first | (with_reducible exact Below.refl _ _) | (with_reducible assumption) | (with_reducible refine Below.grow ?_ ?_ _ _) | (with_reducible refine Below.drewN' ?_ _) | (with_reducible refine Below.drew ?_) | (with_reducible refine Below.alloc ?_ ?_ _) | (with_reducible refine Below.setCell ?_ ?_ _) | omega | (focus (simp; done)) | (focus (simp; omega)))))⟩
    · obtain rfl : i = n := by omega
      have HGS := Lib.hid (ins_sane hs (at_ := k) (m := m) (rt := v) fg bg fl)
      have HTH := Lib.hid (fun (hp : penB fg bg fl = true) => moves_there HW.out hvn hp hmv)
      have HNO := Lib.hid (fun (hp : penB fg bg fl = false) => show insR i f k m v fg bg fl = f by unfold insR; rw [hp]; rfl)
      have HC := fun w => insert_c (some ⟨bf, of_, none⟩) i cap f wb dir ex k v m m fg bg fl w
      generalize insR i f k m v fg bg fl = g at *
      clear HW
      go_wp2_with fail
      refine (HC _ hbr hs hkv hvn hncap (by omega)).mono ?_
      rintro e w3 ⟨B, cap', rfl, hcap', hg, hrg⟩
      clear HC
      replace hg := hg.below
      replace hbr := hbr.below hg
      replace hbw := hbw.trans (hg.mono hbw.size); replace hB1 := hB1.below hg hB1.lt; clear r0 r1 r2 r3 rf rl; obtain ⟨r0, r1, r2, r3, rf, rl⟩ := hB1.facts4; replace hB2 := hB2.below hg hB2.lt; clear c0 c1 c2 cf cl; obtain ⟨c0, c1, c2, cf, cl⟩ := hB2.facts3; clear hg
      go_wp2_with fail
      generalize hw4 : w3.alloc _ = w4
      have hg : Below w3.heap.size w3 w4 := by rw [← hw4]; (repeat (first | (with_reducible exact Below.refl _ _) | (with_reducible assumption) | (with_reducible refine Below.grow ?_ ?_ _ _) | (with_reducible refine Below.drewN' ?_ _) | (with_reducible refine Below.drew ?_) | (with_reducible refine Below.alloc ?_ ?_ _) | (with_reducible refine Below.setCell ?_ ?_ _) | omega | (focus (simp; done)) | (focus (simp; omega))))
      have hB3 : Blk w4 w3.heap.size 24 #[.slice B i cap', .bool wb, .int .i64 dir, .bool ex] := by rw [← hw4]; exact Blk.new _ _ _
      clear hw4
      replace hrg := hrg.below hg
      replace hbr := hbr.below hg
      have hbn : w.heap.size + 1 < w3.heap.size := cl
      replace hbw := hbw.trans (hg.mono hbw.size); replace hB1 := hB1.below hg hB1.lt; clear r0 r1 r2 r3 rf rl; obtain ⟨r0, r1, r2, r3, rf, rl⟩ := hB1.facts4; replace hB2 := hB2.below hg hB2.lt; clear c0 c1 c2 cf cl; obtain ⟨c0, c1, c2, cf, cl⟩ := hB2.facts3; clear hg
      obtain ⟨s0, s1, s2, s3, sf, sl⟩ := hB3.facts4
      generalize w3.heap.size = ba at *
      obtain ⟨kg, og, rfl, hbg, hcg⟩ := hrg (by omega)
      clear hcg
      have HNO2 := Lib.hid (fun (hp : penB fg bg fl = false) => show delR i g k m v fg bg fl = g by unfold delR; rw [hp]; rfl)
      have HC := fun w => delete_c (some ⟨kg, og, none⟩) i cap' g wb dir ex k v m m fg bg fl w
      generalize delR i g k m v fg bg fl = h at *
      refine (HC _ hrg HGS.out hkv hvn hcap' (by omega)).mono ?_
      rintro e w5 ⟨B2, cap2, rfl, hcap2, hg, hrh⟩
      clear HC
      replace hg := hg.below
      replace hbr := hbr.below hg
      replace hrg := hrg.below hg
      replace hbw := hbw.trans (hg.mono hbw.size); replace hB1 := hB1.below hg hB1.lt; clear r0 r1 r2 r3 rf rl; obtain ⟨r0, r1, r2, r3, rf, rl⟩ := hB1.facts4; replace hB2 := hB2.below hg hB2.lt; clear c0 c1 c2 cf cl; obtain ⟨c0, c1, c2, cf, cl⟩ := hB2.facts3; replace hB3 := hB3.below hg hB3.lt; clear s0 s1 s2 s3 sf sl; obtain ⟨s0, s1, s2, s3, sf, sl⟩ := hB3.facts4; clear hg
      go_wp2_with fail
      generalize hw6 : w5.alloc _ = w6
      have hg : Below w5.heap.size w5 w6 := by rw [← hw6]; (repeat (first | (with_reducible exact Below.refl _ _) | (with_reducible assumption) | (with_reducible refine Below.grow ?_ ?_ _ _) | (with_reducible refine Below.drewN' ?_ _) | (with_reducible refine Below.drew ?_) | (with_reducible refine Below.alloc ?_ ?_ _) | (with_reducible refine Below.setCell ?_ ?_ _) | omega | (focus (simp; done)) | (focus (simp; omega))))
      have hB4 : Blk w6 w5.heap.size 24 #[.slice B2 i cap2, .bool wb, .int .i64 dir, .bool ex] := by rw [← hw6]; exact Blk.new _ _ _
      clear hw6
      replace hrg := hrg.below hg
      replace hrh := hrh.below hg
      replace hbr := hbr.below hg
      have hbn2 : ba < w5.heap.size := sl
      replace hbw := hbw.trans (hg.mono hbw.size); replace hB1 := hB1.below hg hB1.lt; clear r0 r1 r2 r3 rf rl; obtain ⟨r0, r1, r2, r3, rf, rl⟩ := hB1.facts4; replace hB2 := hB2.below hg hB2.lt; clear c0 c1 c2 cf cl; obtain ⟨c0, c1, c2, cf, cl⟩ := hB2.facts3; replace hB3 := hB3.below hg hB3.lt; clear s0 s1 s2 s3 sf sl; obtain ⟨s0, s1, s2, s3, sf, sl⟩ := hB3.facts4; clear hg
      obtain ⟨y0, y1, y2, y3, yf, yl⟩ := hB4.facts4
      generalize w5.heap.size = bb at *
      obtain ⟨kh, oh, rfl, hbh, hch⟩ := hrh (by omega)
      clear hch
      have hnq := neq_cell
      refine (same_c (some ⟨kg, og, none⟩) i cap' g wb dir ex (some ⟨bf, of_, none⟩) i cap f wb dir ex _ hrg hbr (by omega) (by omega)).mono ?_
      rintro e w7 ⟨rfl, hg⟩
      replace hg := hg.below
      replace hrg := hrg.below hg
      replace hrh := hrh.below hg
      replace hbr := hbr.below hg
      replace hbw := hbw.trans (hg.mono hbw.size); replace hB1 := hB1.below hg hB1.lt; clear r0 r1 r2 r3 rf rl; obtain ⟨r0, r1, r2, r3, rf, rl⟩ := hB1.facts4; replace hB2 := hB2.below hg hB2.lt; clear c0 c1 c2 cf cl; obtain ⟨c0, c1, c2, cf, cl⟩ := hB2.facts3; replace hB3 := hB3.below hg hB3.lt; clear s0 s1 s2 s3 sf sl; obtain ⟨s0, s1, s2, s3, sf, sl⟩ := hB3.facts4; replace hB4 := hB4.below hg hB4.lt; clear y0 y1 y2 y3 yf yl; obtain ⟨y0, y1, y2, y3, yf, yl⟩ := hB4.facts4; clear hg
      cases hS : sameRowB i g wb dir ex i f wb dir ex
      · have hp : penB fg bg fl = true := by
          cases hp : penB fg bg fl
          · exfalso
            rw [HNO.out hp] at hS
            unfold sameRowB sameB at hS
            simp at hS
          · rfl
        obtain ⟨t1, t2, t3⟩ := HTH.out hp
        have HT1 := Lib.hid t1
        have HT2 := Lib.hid t2
        have HT3 := Lib.hid t3
        clear t1 t2 t3 HTH HNO HNO2 HGS hp
        obtain ⟨n, rfl⟩ : ∃ n, n = i := ⟨_, rfl⟩
        go_wp2_with fail
        go_loopw [18] (fun x wz => ∃ i : Nat, i ≤ n ∧ x = .int .i64 i ∧ Below w7.heap.size w7 wz) (fun x _ => n - (intOf x).toNat)
        case atStart => exact ⟨0, Nat.zero_le _, rfl, Below.refl _ _⟩
        case round =>
          obtain ⟨i, hi, rfl, hg⟩ := hrel
          have hgq := hg
          replace hrg := hrg.below hg
          replace hrh := hrh.below hg
          replace hbr := hbr.below hg
          replace hbw := hbw.trans (hg.mono hbw.size); replace hB1 := hB1.below hg hB1.lt; clear r0 r1 r2 r3 rf rl; obtain ⟨r0, r1, r2, r3, rf, rl⟩ := hB1.facts4; replace hB2 := hB2.below hg hB2.lt; clear c0 c1 c2 cf cl; obtain ⟨c0, c1, c2, cf, cl⟩ := hB2.facts3; replace hB3 := hB3.below hg hB3.lt; clear s0 s1 s2 s3 sf sl; obtain ⟨s0, s1, s2, s3, sf, sl⟩ := hB3.facts4; replace hB4 := hB4.below hg hB4.lt; clear y0 y1 y2 y3 yf yl; obtain ⟨y0, y1, y2, y3, yf, yl⟩ := hB4.facts4; clear hg
          have hsz := hgq.size
          by_cases hlt : i < n
          ·
            --<1
            have hltI : (i : Int) < n := by omega
            obtain ⟨_, _, e1, hbg', hcg'⟩ := hrg (by omega)
            obtain ⟨rfl, rfl⟩ : kg = _ ∧ og = _ := by simpa using e1
            obtain ⟨_, _, e2, hbf', hcf'⟩ := hbr (by omega)
            obtain ⟨rfl, rfl⟩ : bf = _ ∧ of_ = _ := by simpa using e2
            obtain ⟨_, _, e3, hbh', hch'⟩ := hrh (by omega)
            obtain ⟨rfl, rfl⟩ : kh = _ ∧ oh = _ := by simpa using e3
            clear e1 e2 e3
            obtain ⟨q0, q1, q2, q3, q4, q5, q6⟩ := hcg' i hlt
            obtain ⟨p0, p1, p2, p3, p4, p5, p6⟩ := hcf' i hlt
            obtain ⟨h0, h1, h2, h3, h4, h5, h6⟩ := hch' i hlt
            have c1 : IntKind.i64.wrap ((v : Int) - m) = (v : Int) - m := IntWalk.i64_in _ (by omega)
            have c2 : IntKind.i64.wrap ((k : Int) + m) = (k : Int) + m := IntWalk.i64_in _ (by omega)
            by_cases hlost : v ≤ i + m ∧ i < v
            · obtain ⟨l1, l2⟩ := hlost
              have hL1 : decide ((v : Int) - m ≤ i) = true := by simp; omega
              have hL2 : decide (i < v) = true := by simpa using l2
              have hd2 : decide (h i = blank fg bg fl) = true := decide_eq_true (HT2.out i hlt l1 l2)
              by_cases hin : k + m ≤ i
              · have hI : decide ((k : Int) + m ≤ i) = true := by simp; omega
                have hsrc := hcf' (i - m) (by omega)
                obtain ⟨x0, x1, x2, x3, x4, x5, x6⟩ := hsrc
                have c5 : IntKind.i64.wrap ((i : Int) - m) = (i : Int) - m := IntWalk.i64_in _ (by omega)
                have c6 : ((i : Int) - m).toNat = i - m := by omega
                have c7 : (0 : Int) ≤ (i : Int) - m := by omega
                have c8 : (i : Int) - m < n := by omega
                have c9 : (m : Int) ≤ i := by omega
                have c10 : m ≤ i := by omega
                have c11 : (i : Int) < n + m := by omega
                have c12 : (i : Int) < m + n := by omega
                have hd4 : decide (g i = f (i - m)) = true := decide_eq_true (HT1.out i hlt (by omega) (by omega))
                clear hcg' hcf' hch'
                go_wp2_with fail
                refine hr_start (S := (fun w' => w'.cell? ⟨bb, 0, none⟩ = some (.slice (some ⟨kh, oh, none⟩) n cap2) ∧ w'.cell? ⟨bb, 1, none⟩ = some (.bool wb) ∧ w'.cell? ⟨bb, 2, none⟩ = some (.int .i64 dir) ∧ w'.cell? ⟨bb, 3, none⟩ = some (.bool ex) ∧ w'.cell? ⟨w.heap.size, 0, none⟩ = some (.slice (some ⟨bf, of_, none⟩) n cap) ∧ w'.cell? ⟨w.heap.size, 1, none⟩ = some (.bool wb) ∧ w'.cell? ⟨w.heap.size, 2, none⟩ = some (.int .i64 dir) ∧ w'.cell? ⟨w.heap.size, 3, none⟩ = some (.bool ex) ∧ w'.cell? ⟨w.heap.size + 1, 0, none⟩ = some (.int .i64 fg) ∧ w'.cell? ⟨w.heap.size + 1, 1, none⟩ = some (.int .i64 bg) ∧ w'.cell? ⟨w.heap.size + 1, 2, none⟩ = some (.int .i64 fl) ∧ w'.cell? ⟨kh, oh + i * 7, none⟩ = some (.int .i64 (h i).r) ∧ w'.cell? ⟨kh, oh + i * 7 + 1, none⟩ = some (.int .i64 (h i).m0) ∧ w'.cell? ⟨kh, oh + i * 7 + 2, none⟩ = some (.int .i64 (h i).m1) ∧ w'.cell? ⟨kh, oh + i * 7 + 3, none⟩ = some (.int .i64 (h i).w) ∧ w'.cell? ⟨kh, oh + i * 7 + 4, none⟩ = some (.int .i64 (h i).fg) ∧ w'.cell? ⟨kh, oh + i * 7 + 5, none⟩ = some (.int .i64 (h i).bg) ∧ w'.cell? ⟨kh, oh + i * 7 + 6, none⟩ = some (.int .i64 (h i).fl) ∧ w'.cell? ⟨bf, of_ + i * 7, none⟩ = some (.int .i64 (f i).r) ∧ w'.cell? ⟨bf, of_ + i * 7 + 1, none⟩ = some (.int .i64 (f i).m0) ∧ w'.cell? ⟨bf, of_ + i * 7 + 2, none⟩ = some (.int .i64 (f i).m1) ∧ w'.cell? ⟨bf, of_ + i * 7 + 3, none⟩ = some (.int .i64 (f i).w) ∧ w'.cell? ⟨bf, of_ + i * 7 + 4, none⟩ = some (.int .i64 (f i).fg) ∧ w'.cell? ⟨bf, of_ + i * 7 + 5, none⟩ = some (.int .i64 (f i).bg) ∧ w'.cell? ⟨bf, of_ + i * 7 + 6, none⟩ = some (.int .i64 (f i).fl))) (by kernel_rfl) rfl ?_ (fun hHeld => ?_)
                · ((try dsimp only); go_simp)
                refine hr_take (i := 0) rfl rfl (by kernel_rfl) (by kernel_rfl) (by kernel_rfl) (by kernel_rfl) (fun _ _ _ h => h) (v := ?_) ?_ (by assumption) ?_
                rotate_left
                focus (intro wS hSw; (try dsimp only at hSw); go_simp; (try with_reducible rfl))
                simp only [List.set_cons_zero, List.set_cons_succ]
                refine hr_take (i := 1) rfl rfl (by kernel_rfl) (by kernel_rfl) (by kernel_rfl) (by kernel_rfl) (fun _ _ _ h => h) (v := ?_) ?_ (by assumption) ?_
                rotate_left
                focus (intro wS hSw; (try dsimp only at hSw); go_simp; (try with_reducible rfl))
                simp only [List.set_cons_zero, List.set_cons_succ]
                refine hr_take (i := 2) rfl rfl (by kernel_rfl) (by kernel_rfl) (by kernel_rfl) (by kernel_rfl) (fun _ _ _ h => h) (v := ?_) ?_ (by assumption) ?_
                rotate_left
                focus (intro wS hSw; (try dsimp only at hSw); go_simp; (try with_reducible rfl))
                simp only [List.set_cons_zero, List.set_cons_succ]
                refine hr_skip (i := 3) rfl rfl (by kernel_rfl) (by kernel_rfl) (by kernel_rfl) (by kernel_rfl) (fun _ _ _ h => h) (by assumption) ?_
                simp only [List.set_cons_zero, List.set_cons_succ]
                refine hr_skip (i := 4) rfl rfl (by kernel_rfl) (by kernel_rfl) (by kernel_rfl) (by kernel_rfl) (fun _ _ _ h => h) (by assumption) ?_
                simp only [List.set_cons_zero, List.set_cons_succ]
                refine hr_skip (i := 5) rfl rfl (by kernel_rfl) (by kernel_rfl) (by kernel_rfl) (by kernel_rfl) (fun _ _ _ h => h) (by assumption) ?_
                simp only [List.set_cons_zero, List.set_cons_succ]
                refine hr_skip (i := 6) rfl rfl (by kernel_rfl) (by kernel_rfl) (by kernel_rfl) (by kernel_rfl) (fun _ _ _ h => h) (by assumption) ?_
                simp only [List.set_cons_zero, List.set_cons_succ]
                refine hr_skip (i := 7) rfl rfl (by kernel_rfl) (by kernel_rfl) (by kernel_rfl) (by kernel_rfl) (fun _ _ _ h => h) (by assumption) ?_
                simp only [List.set_cons_zero, List.set_cons_succ]
                refine hr_skip (i := 8) rfl rfl (by kernel_rfl) (by kernel_rfl) (by kernel_rfl) (by kernel_rfl) (fun _ _ _ h => h) (by assumption) ?_
                simp only [List.set_cons_zero, List.set_cons_succ]
                refine hr_skip (i := 9) rfl rfl (by kernel_rfl) (by kernel_rfl) (by kernel_rfl) (by kernel_rfl) (fun _ _ _ h => h) (by assumption) ?_
                simp only [List.set_cons_zero, List.set_cons_succ]
                refine hr_skip (i := 10) rfl rfl (by kernel_rfl) (by kernel_rfl) (by kernel_rfl) (by kernel_rfl) (fun _ _ _ h => h) (by assumption) ?_
                simp only [List.set_cons_zero, List.set_cons_succ]
                refine hr_skip (i := 11) rfl rfl (by kernel_rfl) (by kernel_rfl) (by kernel_rfl) (by kernel_rfl) (fun _ _ _ h => h) (by assumption) ?_
                simp only [List.set_cons_zero, List.set_cons_succ]
                refine hr_skip (i := 12) rfl rfl (by kernel_rfl) (by kernel_rfl) (by kernel_rfl) (by kernel_rfl) (fun _ _ _ h => h) (by assumption) ?_
                simp only [List.set_cons_zero, List.set_cons_succ]
                refine hr_skip (i := 13) rfl rfl (by kernel_rfl) (by kernel_rfl) (by kernel_rfl) (by kernel_rfl) (fun _ _ _ h => h) (by assumption) ?_
                simp only [List.set_cons_zero, List.set_cons_succ]
                refine hr_take (i := 14) rfl rfl (by kernel_rfl) (by kernel_rfl) (by kernel_rfl) (by kernel_rfl) (fun _ _ _ h => h) (v := ?_) ?_ (by assumption) ?_
                rotate_left
                focus (intro wS hSw; (try dsimp only at hSw); go_simp; (try with_reducible rfl))
                simp only [List.set_cons_zero, List.set_cons_succ]
                refine hr_take (i := 15) rfl rfl (by kernel_rfl) (by kernel_rfl) (by kernel_rfl) (by kernel_rfl) (fun _ _ _ h => h) (v := ?_) ?_ (by assumption) ?_
                rotate_left
                focus (intro wS hSw; (try dsimp only at hSw); go_simp; (try with_reducible rfl))
                simp only [List.set_cons_zero, List.set_cons_succ]
                refine hr_take (i := 16) rfl rfl (by kernel_rfl) (by kernel_rfl) (by kernel_rfl) (by kernel_rfl) (fun _ _ _ h => h) (v := ?_) ?_ (by assumption) ?_
                rotate_left
                focus (intro wS hSw; (try dsimp only at hSw); go_simp; (try with_reducible rfl))
                simp only [List.set_cons_zero, List.set_cons_succ]
                refine hr_take (i := 17) rfl rfl (by kernel_rfl) (by kernel_rfl) (by kernel_rfl) (by kernel_rfl) (fun _ _ _ h => h) (v := ?_) ?_ (by assumption) ?_
                rotate_left
                focus (intro wS hSw; (try dsimp only at hSw); go_simp; (try with_reducible rfl))
                simp only [List.set_cons_zero, List.set_cons_succ]
                refine hr_take (i := 18) rfl rfl (by kernel_rfl) (by kernel_rfl) (by kernel_rfl) (by kernel_rfl) (fun _ _ _ h => h) (v := ?_) ?_ (by assumption) ?_
                rotate_left
                focus (intro wS hSw; (try dsimp only at hSw); go_simp; (try with_reducible rfl))
                simp only [List.set_cons_zero, List.set_cons_succ]
                refine hr_take (i := 19) rfl rfl (by kernel_rfl) (by kernel_rfl) (by kernel_rfl) (by kernel_rfl) (fun _ _ _ h => h) (v := ?_) ?_ (by assumption) ?_
                rotate_left
                focus (intro wS hSw; (try dsimp only at hSw); go_simp; (try with_reducible rfl))
                simp only [List.set_cons_zero, List.set_cons_succ]
                refine hr_take (i := 20) rfl rfl (by kernel_rfl) (by kernel_rfl) (by kernel_rfl) (by kernel_rfl) (fun _ _ _ h => h) (v := ?_) ?_ (by assumption) ?_
                rotate_left
                focus (intro wS hSw; (try dsimp only at hSw); go_simp; (try with_reducible rfl))
                simp only [List.set_cons_zero, List.set_cons_succ]
                refine hr_take (i := 21) rfl rfl (by kernel_rfl) (by kernel_rfl) (by kernel_rfl) (by kernel_rfl) (fun _ _ _ h => h) (v := ?_) ?_ (by assumption) ?_
                rotate_left
                focus (intro wS hSw; (try dsimp only at hSw); go_simp; (try with_reducible rfl))
                simp only [List.set_cons_zero, List.set_cons_succ]
                refine hr_take (i := 22) rfl rfl (by kernel_rfl) (by kernel_rfl) (by kernel_rfl) (by kernel_rfl) (fun _ _ _ h => h) (v := ?_) ?_ (by assumption) ?_
                rotate_left
                focus (intro wS hSw; (try dsimp only at hSw); go_simp; (try with_reducible rfl))
                simp only [List.set_cons_zero, List.set_cons_succ]
                refine hr_take (i := 23) rfl rfl (by kernel_rfl) (by kernel_rfl) (by kernel_rfl) (by kernel_rfl) (fun _ _ _ h => h) (v := ?_) ?_ (by assumption) ?_
                rotate_left
                focus (intro wS hSw; (try dsimp only at hSw); go_simp; (try with_reducible rfl))
                simp only [List.set_cons_zero, List.set_cons_succ]
                refine hr_op (i := 24) rfl rfl (by kernel_rfl) (by kernel_rfl) (fun K hK => ?_)
                go_simp
                ((with_reducible refine (blank_c _ _ _ _).mono ?_); rintro e wq ⟨rfl, X8, d8, rfl⟩)
                (try go_wp2_with fail)
                refine hK.out _ _ ?_ (fun hHeld => ?_)
                · ((try dsimp only); go_simp)
                clear hK K
                simp only [List.set_cons_zero, List.set_cons_succ]
                refine hr_take (i := 25) rfl rfl (by kernel_rfl) (by kernel_rfl) (by kernel_rfl) (by kernel_rfl) (fun _ _ _ h => h) (v := ?_) ?_ (by assumption) ?_
                rotate_left
                focus (intro wS hSw; (try dsimp only at hSw); go_simp; (try with_reducible rfl))
                simp only [List.set_cons_zero, List.set_cons_succ]
                refine hr_take (i := 26) rfl rfl (by kernel_rfl) (by kernel_rfl) (by kernel_rfl) (by kernel_rfl) (fun _ _ _ h => h) (v := ?_) ?_ (by assumption) ?_
                rotate_left
                focus (intro wS hSw; (try dsimp only at hSw); go_simp; (try with_reducible rfl))
                simp only [List.set_cons_zero, List.set_cons_succ]
                refine hr_take (i := 27) rfl rfl (by kernel_rfl) (by kernel_rfl) (by kernel_rfl) (by kernel_rfl) (fun _ _ _ h => h) (v := ?_) ?_ (by assumption) ?_
                rotate_left
                focus (intro wS hSw; (try dsimp only at hSw); go_simp; (try with_reducible rfl))
                simp only [List.set_cons_zero, List.set_cons_succ]
                refine hr_done (by kernel_rfl) ?_
                go_wp2_with fail
                refine hr_start (S := (fun w' => w'.cell? ⟨ba, 0, none⟩ = some (.slice (some ⟨kg, og, none⟩) n cap') ∧ w'.cell? ⟨ba, 1, none⟩ = some (.bool wb) ∧ w'.cell? ⟨ba, 2, none⟩ = some (.int .i64 dir) ∧ w'.cell? ⟨ba, 3, none⟩ = some (.bool ex) ∧ w'.cell? ⟨w.heap.size, 0, none⟩ = some (.slice (some ⟨bf, of_, none⟩) n cap) ∧ w'.cell? ⟨w.heap.size, 1, none⟩ = some (.bool wb) ∧ w'.cell? ⟨w.heap.size, 2, none⟩ = some (.int .i64 dir) ∧ w'.cell? ⟨w.heap.size, 3, none⟩ = some (.bool ex) ∧ w'.cell? ⟨kg, og + i * 7, none⟩ = some (.int .i64 (g i).r) ∧ w'.cell? ⟨kg, og + i * 7 + 1, none⟩ = some (.int .i64 (g i).m0) ∧ w'.cell? ⟨kg, og + i * 7 + 2, none⟩ = some (.int .i64 (g i).m1) ∧ w'.cell? ⟨kg, og + i * 7 + 3, none⟩ = some (.int .i64 (g i).w) ∧ w'.cell? ⟨kg, og + i * 7 + 4, none⟩ = some (.int .i64 (g i).fg) ∧ w'.cell? ⟨kg, og + i * 7 + 5, none⟩ = some (.int .i64 (g i).bg) ∧ w'.cell? ⟨kg, og + i * 7 + 6, none⟩ = some (.int .i64 (g i).fl) ∧ w'.cell? ⟨bf, of_ + (i - m) * 7, none⟩ = some (.int .i64 (f (i - m)).r) ∧ w'.cell? ⟨bf, of_ + (i - m) * 7 + 1, none⟩ = some (.int .i64 (f (i - m)).m0) ∧ w'.cell? ⟨bf, of_ + (i - m) * 7 + 2, none⟩ = some (.int .i64 (f (i - m)).m1) ∧ w'.cell? ⟨bf, of_ + (i - m) * 7 + 3, none⟩ = some (.int .i64 (f (i - m)).w) ∧ w'.cell? ⟨bf, of_ + (i - m) * 7 + 4, none⟩ = some (.int .i64 (f (i - m)).fg) ∧ w'.cell? ⟨bf, of_ + (i - m) * 7 + 5, none⟩ = some (.int .i64 (f (i - m)).bg) ∧ w'.cell? ⟨bf, of_ + (i - m) * 7 + 6, none⟩ = some (.int .i64 (f (i - m)).fl))) (by kernel_rfl) rfl ?_ (fun hHeld => ?_)
                · ((try dsimp only); go_simp)
                refine hr_take (i := 0) rfl rfl (by kernel_rfl) (by kernel_rfl) (by kernel_rfl) (by kernel_rfl) (fun _ _ _ h => h) (v := ?_) ?_ (by assumption) ?_
                rotate_left
                focus (intro wS hSw; (try dsimp only at hSw); go_simp; (try with_reducible rfl))
                simp only [List.set_cons_zero, List.set_cons_succ]
                refine hr_take (i := 1) rfl rfl (by kernel_rfl) (by kernel_rfl) (by kernel_rfl) (by kernel_rfl) (fun _ _ _ h => h) (v := ?_) ?_ (by assumption) ?_
                rotate_left
                focus (intro wS hSw; (try dsimp only at hSw); go_simp; (try with_reducible rfl))
                simp only [List.set_cons_zero, List.set_cons_succ]
                refine hr_take (i := 2) rfl rfl (by kernel_rfl) (by kernel_rfl) (by kernel_rfl) (by kernel_rfl) (fun _ _ _ h => h) (v := ?_) ?_ (by assumption) ?_
                rotate_left
                focus (intro wS hSw; (try dsimp only at hSw); go_simp; (try with_reducible rfl))
                simp only [List.set_cons_zero, List.set_cons_succ]
                refine hr_take (i := 3) rfl rfl (by kernel_rfl) (by kernel_rfl) (by kernel_rfl) (by kernel_rfl) (fun _ _ _ h => h) (v := ?_) ?_ (by assumption) ?_
                rotate_left
                focus (intro wS hSw; (try dsimp only at hSw); go_simp; (try with_reducible rfl))
                simp only [List.set_cons_zero, List.set_cons_succ]
                refine hr_take (i := 4) rfl rfl (by kernel_rfl) (by kernel_rfl) (by kernel_rfl) (by kernel_rfl) (fun _ _ _ h => h) (v := ?_) ?_ (by assumption) ?_
                rotate_left
                focus (intro wS hSw; (try dsimp only at hSw); go_simp; (try with_reducible rfl))
                simp only [List.set_cons_zero, List.set_cons_succ]
                refine hr_take (i := 5) rfl rfl (by kernel_rfl) (by kernel_rfl) (by kernel_rfl) (by kernel_rfl) (fun _ _ _ h => h) (v := ?_) ?_ (by assumption) ?_
                rotate_left
                focus (intro wS hSw; (try dsimp only at hSw); go_simp; (try with_reducible rfl))
                simp only [List.set_cons_zero, List.set_cons_succ]
                refine hr_take (i := 6) rfl rfl (by kernel_rfl) (by kernel_rfl) (by kernel_rfl) (by kernel_rfl) (fun _ _ _ h => h) (v := ?_) ?_ (by assumption) ?_
                rotate_left
                focus (intro wS hSw; (try dsimp only at hSw); go_simp; (try with_reducible rfl))
                simp only [List.set_cons_zero, List.set_cons_succ]
                refine hr_take (i := 7) rfl rfl (by kernel_rfl) (by kernel_rfl) (by kernel_rfl) (by kernel_rfl) (fun _ _ _ h => h) (v := ?_) ?_ (by assumption) ?_
                rotate_left
                focus (intro wS hSw; (try dsimp only at hSw); go_simp; (try with_reducible rfl))
                simp only [List.set_cons_zero, List.set_cons_succ]
                refine hr_take (i := 8) rfl rfl (by kernel_rfl) (by kernel_rfl) (by kernel_rfl) (by kernel_rfl) (fun _ _ _ h => h) (v := ?_) ?_ (by assumption) ?_
                rotate_left
                focus (intro wS hSw; (try dsimp only at hSw); go_simp; (try with_reducible rfl))
                simp only [List.set_cons_zero, List.set_cons_succ]
                refine hr_take (i := 9) rfl rfl (by kernel_rfl) (by kernel_rfl) (by kernel_rfl) (by kernel_rfl) (fun _ _ _ h => h) (v := ?_) ?_ (by assumption) ?_
                rotate_left
                focus (intro wS hSw; (try dsimp only at hSw); go_simp; (try with_reducible rfl))
                simp only [List.set_cons_zero, List.set_cons_succ]
                refine hr_take (i := 10) rfl rfl (by kernel_rfl) (by kernel_rfl) (by kernel_rfl) (by kernel_rfl) (fun _ _ _ h => h) (v := ?_) ?_ (by assumption) ?_
                rotate_left
                focus (intro wS hSw; (try dsimp only at hSw); go_simp; (try with_reducible rfl))
                simp only [List.set_cons_zero, List.set_cons_succ]
                refine hr_take (i := 11) rfl rfl (by kernel_rfl) (by kernel_rfl) (by kernel_rfl) (by kernel_rfl) (fun _ _ _ h => h) (v := ?_) ?_ (by assumption) ?_
                rotate_left
                focus (intro wS hSw; (try dsimp only at hSw); go_simp; (try with_reducible rfl))
                simp only [List.set_cons_zero, List.set_cons_succ]
                refine hr_take (i := 12) rfl rfl (by kernel_rfl) (by kernel_rfl) (by kernel_rfl) (by kernel_rfl) (fun _ _ _ h => h) (v := ?_) ?_ (by assumption) ?_
                rotate_left
                focus (intro wS hSw; (try dsimp only at hSw); go_simp; (try with_reducible rfl))
                simp only [List.set_cons_zero, List.set_cons_succ]
                refine hr_take (i := 13) rfl rfl (by kernel_rfl) (by kernel_rfl) (by kernel_rfl) (by kernel_rfl) (fun _ _ _ h => h) (v := ?_) ?_ (by assumption) ?_
                rotate_left
                focus (intro wS hSw; (try dsimp only at hSw); go_simp; (try with_reducible rfl))
                simp only [List.set_cons_zero, List.set_cons_succ]
                refine hr_take (i := 14) rfl rfl (by kernel_rfl) (by kernel_rfl) (by kernel_rfl) (by kernel_rfl) (fun _ _ _ h => h) (v := ?_) ?_ (by assumption) ?_
                rotate_left
                focus (intro wS hSw; (try dsimp only at hSw); go_simp; (try with_reducible rfl))
                simp only [List.set_cons_zero, List.set_cons_succ]
                refine hr_take (i := 15) rfl rfl (by kernel_rfl) (by kernel_rfl) (by kernel_rfl) (by kernel_rfl) (fun _ _ _ h => h) (v := ?_) ?_ (by assumption) ?_
                rotate_left
                focus (intro wS hSw; (try dsimp only at hSw); go_simp; (try with_reducible rfl))
                simp only [List.set_cons_zero, List.set_cons_succ]
                refine hr_take (i := 16) rfl rfl (by kernel_rfl) (by kernel_rfl) (by kernel_rfl) (by kernel_rfl) (fun _ _ _ h => h) (v := ?_) ?_ (by assumption) ?_
                rotate_left
                focus (intro wS hSw; (try dsimp only at hSw); go_simp; (try with_reducible rfl))
                simp only [List.set_cons_zero, List.set_cons_succ]
                refine hr_take (i := 17) rfl rfl (by kernel_rfl) (by kernel_rfl) (by kernel_rfl) (by kernel_rfl) (fun _ _ _ h => h) (v := ?_) ?_ (by assumption) ?_
                rotate_left
                focus (intro wS hSw; (try dsimp only at hSw); go_simp; (try with_reducible rfl))
                simp only [List.set_cons_zero, List.set_cons_succ]
                refine hr_take (i := 18) rfl rfl (by kernel_rfl) (by kernel_rfl) (by kernel_rfl) (by kernel_rfl) (fun _ _ _ h => h) (v := ?_) ?_ (by assumption) ?_
                rotate_left
                focus (intro wS hSw; (try dsimp only at hSw); go_simp; (try with_reducible rfl))
                simp only [List.set_cons_zero, List.set_cons_succ]
                refine hr_take (i := 19) rfl rfl (by kernel_rfl) (by kernel_rfl) (by kernel_rfl) (by kernel_rfl) (fun _ _ _ h => h) (v := ?_) ?_ (by assumption) ?_
                rotate_left
                focus (intro wS hSw; (try dsimp only at hSw); go_simp; (try with_reducible rfl))
                simp only [List.set_cons_zero, List.set_cons_succ]
                refine hr_take (i := 20) rfl rfl (by kernel_rfl) (by kernel_rfl) (by kernel_rfl) (by kernel_rfl) (fun _ _ _ h => h) (v := ?_) ?_ (by assumption) ?_
                rotate_left
                focus (intro wS hSw; (try dsimp only at hSw); go_simp; (try with_reducible rfl))
                simp only [List.set_cons_zero, List.set_cons_succ]
                refine hr_take (i := 21) rfl rfl (by kernel_rfl) (by kernel_rfl) (by kernel_rfl) (by kernel_rfl) (fun _ _ _ h => h) (v := ?_) ?_ (by assumption) ?_
                rotate_left
                focus (intro wS hSw; (try dsimp only at hSw); go_simp; (try with_reducible rfl))
                simp only [List.set_cons_zero, List.set_cons_succ]
                refine hr_take (i := 22) rfl rfl (by kernel_rfl) (by kernel_rfl) (by kernel_rfl) (by kernel_rfl) (fun _ _ _ h => h) (v := ?_) ?_ (by assumption) ?_
                rotate_left
                focus (intro wS hSw; (try dsimp only at hSw); go_simp; (try with_reducible rfl))
                simp only [List.set_cons_zero, List.set_cons_succ]
                refine hr_take (i := 23) rfl rfl (by kernel_rfl) (by kernel_rfl) (by kernel_rfl) (by kernel_rfl) (fun _ _ _ h => h) (v := ?_) ?_ (by assumption) ?_
                rotate_left
                focus (intro wS hSw; (try dsimp only at hSw); go_simp; (try with_reducible rfl))
                simp only [List.set_cons_zero, List.set_cons_succ]
                refine hr_take (i := 24) rfl rfl (by kernel_rfl) (by kernel_rfl) (by kernel_rfl) (by kernel_rfl) (fun _ _ _ h => h) (v := ?_) ?_ (by assumption) ?_
                rotate_left
                focus (intro wS hSw; (try dsimp only at hSw); go_simp; (try with_reducible rfl))
                simp only [List.set_cons_zero, List.set_cons_succ]
                refine hr_done (by kernel_rfl) ?_
                go_wp2_with fail
                go_roundw
                case rel => exact ⟨i + 1, by omega, by go_num, by (repeat (first | (with_reducible exact Below.refl _ _) | (with_reducible assumption) | (with_reducible refine Below.grow ?_ ?_ _ _) | (with_reducible refine Below.drewN' ?_ _) | (with_reducible refine Below.drew ?_) | (with_reducible refine Below.alloc ?_ ?_ _) | (with_reducible refine Below.setCell ?_ ?_ _) | omega | (focus (simp; done)) | (focus (simp; omega))))⟩
                case measure => simp [intOf]; omega
              · have hI : decide ((k : Int) + m ≤ i) = false := by simp; omega
                clear hcg' hcf' hch'
                go_wp2_with fail
                refine hr_start (S := (fun w' => w'.cell? ⟨bb, 0, none⟩ = some (.slice (some ⟨kh, oh, none⟩) n cap2) ∧ w'.cell? ⟨bb, 1, none⟩ = some (.bool wb) ∧ w'.cell? ⟨bb, 2, none⟩ = some (.int .i64 dir) ∧ w'.cell? ⟨bb, 3, none⟩ = some (.bool ex) ∧ w'.cell? ⟨w.heap.size, 0, none⟩ = some (.slice (some ⟨bf, of_, none⟩) n cap) ∧ w'.cell? ⟨w.heap.size, 1, none⟩ = some (.bool wb) ∧ w'.cell? ⟨w.heap.size, 2, none⟩ = some (.int .i64 dir) ∧ w'.cell? ⟨w.heap.size, 3, none⟩ = some (.bool ex) ∧ w'.cell? ⟨w.heap.size + 1, 0, none⟩ = some (.int .i64 fg) ∧ w'.cell? ⟨w.heap.size + 1, 1, none⟩ = some (.int .i64 bg) ∧ w'.cell? ⟨w.heap.size + 1, 2, none⟩ = some (.int .i64 fl) ∧ w'.cell? ⟨kh, oh + i * 7, none⟩ = some (.int .i64 (h i).r) ∧ w'.cell? ⟨kh, oh + i * 7 + 1, none⟩ = some (.int .i64 (h i).m0) ∧ w'.cell? ⟨kh, oh + i * 7 + 2, none⟩ = some (.int .i64 (h i).m1) ∧ w'.cell? ⟨kh, oh + i * 7 + 3, none⟩ = some (.int .i64 (h i).w) ∧ w'.cell? ⟨kh, oh + i * 7 + 4, none⟩ = some (.int .i64 (h i).fg) ∧ w'.cell? ⟨kh, oh + i * 7 + 5, none⟩ = some (.int .i64 (h i).bg) ∧ w'.cell? ⟨kh, oh + i * 7 + 6, none⟩ = some (.int .i64 (h i).fl) ∧ w'.cell? ⟨bf, of_ + i * 7, none⟩ = some (.int .i64 (f i).r) ∧ w'.cell? ⟨bf, of_ + i * 7 + 1, none⟩ = some (.int .i64 (f i).m0) ∧ w'.cell? ⟨bf, of_ + i * 7 + 2, none⟩ = some (.int .i64 (f i).m1) ∧ w'.cell? ⟨bf, of_ + i * 7 + 3, none⟩ = some (.int .i64 (f i).w) ∧ w'.cell? ⟨bf, of_ + i * 7 + 4, none⟩ = some (.int .i64 (f i).fg) ∧ w'.cell? ⟨bf, of_ + i * 7 + 5, none⟩ = some (.int .i64 (f i).bg) ∧ w'.cell? ⟨bf, of_ + i * 7 + 6, none⟩ = some (.int .i64 (f i).fl))) (by kernel_rfl) rfl ?_ (fun hHeld => ?_)
                · ((try dsimp only); go_simp)
                refine hr_take (i := 0) rfl rfl (by kernel_rfl) (by kernel_rfl) (by kernel_rfl) (by kernel_rfl) (fun _ _ _ h => h) (v := ?_) ?_ (by assumption) ?_
                rotate_left
                focus (intro wS hSw; (try dsimp only at hSw); go_simp; (try with_reducible rfl))
                simp only [List.set_cons_zero, List.set_cons_succ]
                refine hr_take (i := 1) rfl rfl (by kernel_rfl) (by kernel_rfl) (by kernel_rfl) (by kernel_rfl) (fun _ _ _ h => h) (v := ?_) ?_ (by assumption) ?_
                rotate_left
                focus (intro wS hSw; (try dsimp only at hSw); go_simp; (try with_reducible rfl))
                simp only [List.set_cons_zero, List.set_cons_succ]
                refine hr_take (i := 2) rfl rfl (by kernel_rfl) (by kernel_rfl) (by kernel_rfl) (by kernel_rfl) (fun _ _ _ h => h) (v := ?_) ?_ (by assumption) ?_
                rotate_left
                focus (intro wS hSw; (try dsimp only at hSw); go_simp; (try with_reducible rfl))
                simp only [List.set_cons_zero, List.set_cons_succ]
                refine hr_skip (i := 3) rfl rfl (by kernel_rfl) (by kernel_rfl) (by kernel_rfl) (by kernel_rfl) (fun _ _ _ h => h) (by assumption) ?_
                simp only [List.set_cons_zero, List.set_cons_succ]
                refine hr_skip (i := 4) rfl rfl (by kernel_rfl) (by kernel_rfl) (by kernel_rfl) (by kernel_rfl) (fun _ _ _ h => h) (by assumption) ?_
                simp only [List.set_cons_zero, List.set_cons_succ]
                refine hr_skip (i := 5) rfl rfl (by kernel_rfl) (by kernel_rfl) (by kernel_rfl) (by kernel_rfl) (fun _ _ _ h => h) (by assumption) ?_
                simp only [List.set_cons_zero, List.set_cons_succ]
                refine hr_skip (i := 6) rfl rfl (by kernel_rfl) (by kernel_rfl) (by kernel_rfl) (by kernel_rfl) (fun _ _ _ h => h) (by assumption) ?_
                simp only [List.set_cons_zero, List.set_cons_succ]
                refine hr_skip (i := 7) rfl rfl (by kernel_rfl) (by kernel_rfl) (by kernel_rfl) (by kernel_rfl) (fun _ _ _ h => h) (by assumption) ?_
                simp only [List.set_cons_zero, List.set_cons_succ]
                refine hr_skip (i := 8) rfl rfl (by kernel_rfl) (by kernel_rfl) (by kernel_rfl) (by kernel_rfl) (fun _ _ _ h => h) (by assumption) ?_
                simp only [List.set_cons_zero, List.set_cons_succ]
                refine hr_skip (i := 9) rfl rfl (by kernel_rfl) (by kernel_rfl) (by kernel_rfl) (by kernel_rfl) (fun _ _ _ h => h) (by assumption) ?_
                simp only [List.set_cons_zero, List.set_cons_succ]
                refine hr_skip (i := 10) rfl rfl (by kernel_rfl) (by kernel_rfl) (by kernel_rfl) (by kernel_rfl) (fun _ _ _ h => h) (by assumption) ?_
                simp only [List.set_cons_zero, List.set_cons_succ]
                refine hr_skip (i := 11) rfl rfl (by kernel_rfl) (by kernel_rfl) (by kernel_rfl) (by kernel_rfl) (fun _ _ _ h => h) (by assumption) ?_
                simp only [List.set_cons_zero, List.set_cons_succ]
                refine hr_skip (i := 12) rfl rfl (by kernel_rfl) (by kernel_rfl) (by kernel_rfl) (by kernel_rfl) (fun _ _ _ h => h) (by assumption) ?_
                simp only [List.set_cons_zero, List.set_cons_succ]
                refine hr_skip (i := 13) rfl rfl (by kernel_rfl) (by kernel_rfl) (by kernel_rfl) (by kernel_rfl) (fun _ _ _ h => h) (by assumption) ?_
                simp only [List.set_cons_zero, List.set_cons_succ]
                refine hr_take (i := 14) rfl rfl (by kernel_rfl) (by kernel_rfl) (by kernel_rfl) (by kernel_rfl) (fun _ _ _ h => h) (v := ?_) ?_ (by assumption) ?_
                rotate_left
                focus (intro wS hSw; (try dsimp only at hSw); go_simp; (try with_reducible rfl))
                simp only [List.set_cons_zero, List.set_cons_succ]
                refine hr_take (i := 15) rfl rfl (by kernel_rfl) (by kernel_rfl) (by kernel_rfl) (by kernel_rfl) (fun _ _ _ h => h) (v := ?_) ?_ (by assumption) ?_
                rotate_left
                focus (intro wS hSw; (try dsimp only at hSw); go_simp; (try with_reducible rfl))
                simp only [List.set_cons_zero, List.set_cons_succ]
                refine hr_take (i := 16) rfl rfl (by kernel_rfl) (by kernel_rfl) (by kernel_rfl) (by kernel_rfl) (fun _ _ _ h => h) (v := ?_) ?_ (by assumption) ?_
                rotate_left
                focus (intro wS hSw; (try dsimp only at hSw); go_simp; (try with_reducible rfl))
                simp only [List.set_cons_zero, List.set_cons_succ]
                refine hr_take (i := 17) rfl rfl (by kernel_rfl) (by kernel_rfl) (by kernel_rfl) (by kernel_rfl) (fun _ _ _ h => h) (v := ?_) ?_ (by assumption) ?_
                rotate_left
                focus (intro wS hSw; (try dsimp only at hSw); go_simp; (try with_reducible rfl))
                simp only [List.set_cons_zero, List.set_cons_succ]
                refine hr_take (i := 18) rfl rfl (by kernel_rfl) (by kernel_rfl) (by kernel_rfl) (by kernel_rfl) (fun _ _ _ h => h) (v := ?_) ?_ (by assumption) ?_
                rotate_left
                focus (intro wS hSw; (try dsimp only at hSw); go_simp; (try with_reducible rfl))
                simp only [List.set_cons_zero, List.set_cons_succ]
                refine hr_take (i := 19) rfl rfl (by kernel_rfl) (by kernel_rfl) (by kernel_rfl) (by kernel_rfl) (fun _ _ _ h => h) (v := ?_) ?_ (by assumption) ?_
                rotate_left
                focus (intro wS hSw; (try dsimp only at hSw); go_simp; (try with_reducible rfl))
                simp only [List.set_cons_zero, List.set_cons_succ]
                refine hr_take (i := 20) rfl rfl (by kernel_rfl) (by kernel_rfl) (by kernel_rfl) (by kernel_rfl) (fun _ _ _ h => h) (v := ?_) ?_ (by assumption) ?_
                rotate_left
                focus (intro wS hSw; (try dsimp only at hSw); go_simp; (try with_reducible rfl))
                simp only [List.set_cons_zero, List.set_cons_succ]
                refine hr_take (i := 21) rfl rfl (by kernel_rfl) (by kernel_rfl) (by kernel_rfl) (by kernel_rfl) (fun _ _ _ h => h) (v := ?_) ?_ (by assumption) ?_
                rotate_left
                focus (intro wS hSw; (try dsimp only at hSw); go_simp; (try with_reducible rfl))
                simp only [List.set_cons_zero, List.set_cons_succ]
                refine hr_take (i := 22) rfl rfl (by kernel_rfl) (by kernel_rfl) (by kernel_rfl) (by kernel_rfl) (fun _ _ _ h => h) (v := ?_) ?_ (by assumption) ?_
                rotate_left
                focus (intro wS hSw; (try dsimp only at hSw); go_simp; (try with_reducible rfl))
                simp only [List.set_cons_zero, List.set_cons_succ]
                refine hr_take (i := 23) rfl rfl (by kernel_rfl) (by kernel_rfl) (by kernel_rfl) (by kernel_rfl) (fun _ _ _ h => h) (v := ?_) ?_ (by assumption) ?_
                rotate_left
                focus (intro wS hSw; (try dsimp only at hSw); go_simp; (try with_reducible rfl))
                simp only [List.set_cons_zero, List.set_cons_succ]
                refine hr_op (i := 24) rfl rfl (by kernel_rfl) (by kernel_rfl) (fun K hK => ?_)
                go_simp
                ((with_reducible refine (blank_c _ _ _ _).mono ?_); rintro e wq ⟨rfl, X8, d8, rfl⟩)
                (try go_wp2_with fail)
                refine hK.out _ _ ?_ (fun hHeld => ?_)
                · ((try dsimp only); go_simp)
                clear hK K
                simp only [List.set_cons_zero, List.set_cons_succ]
                refine hr_take (i := 25) rfl rfl (by kernel_rfl) (by kernel_rfl) (by kernel_rfl) (by kernel_rfl) (fun _ _ _ h => h) (v := ?_) ?_ (by assumption) ?_
                rotate_left
                focus (intro wS hSw; (try dsimp only at hSw); go_simp; (try with_reducible rfl))
                simp only [List.set_cons_zero, List.set_cons_succ]
                refine hr_take (i := 26) rfl rfl (by kernel_rfl) (by kernel_rfl) (by kernel_rfl) (by kernel_rfl) (fun _ _ _ h => h) (v := ?_) ?_ (by assumption) ?_
                rotate_left
                focus (intro wS hSw; (try dsimp only at hSw); go_simp; (try with_reducible rfl))
                simp only [List.set_cons_zero, List.set_cons_succ]
                refine hr_take (i := 27) rfl rfl (by kernel_rfl) (by kernel_rfl) (by kernel_rfl) (by kernel_rfl) (fun _ _ _ h => h) (v := ?_) ?_ (by assumption) ?_
                rotate_left
                focus (intro wS hSw; (try dsimp only at hSw); go_simp; (try with_reducible rfl))
                simp only [List.set_cons_zero, List.set_cons_succ]
                refine hr_done (by kernel_rfl) ?_
                go_wp2_with fail
                refine hr_start (S := (fun w' => w'.cell? ⟨ba, 0, none⟩ = some (.slice (some ⟨kg, og, none⟩) n cap') ∧ w'.cell? ⟨ba, 1, none⟩ = some (.bool wb) ∧ w'.cell? ⟨ba, 2, none⟩ = some (.int .i64 dir) ∧ w'.cell? ⟨ba, 3, none⟩ = some (.bool ex))) (by kernel_rfl) rfl ?_ (fun hHeld => ?_)
                · ((try dsimp only); go_simp)
                refine hr_take (i := 0) rfl rfl (by kernel_rfl) (by kernel_rfl) (by kernel_rfl) (by kernel_rfl) (fun _ _ _ h => h) (v := ?_) ?_ (by assumption) ?_
                rotate_left
                focus (intro wS hSw; (try dsimp only at hSw); go_simp; (try with_reducible rfl))
                simp only [List.set_cons_zero, List.set_cons_succ]
                refine hr_take (i := 1) rfl rfl (by kernel_rfl) (by kernel_rfl) (by kernel_rfl) (by kernel_rfl) (fun _ _ _ h => h) (v := ?_) ?_ (by assumption) ?_
                rotate_left
                focus (intro wS hSw; (try dsimp only at hSw); go_simp; (try with_reducible rfl))
                simp only [List.set_cons_zero, List.set_cons_succ]
                refine hr_take (i := 2) rfl rfl (by kernel_rfl) (by kernel_rfl) (by kernel_rfl) (by kernel_rfl) (fun _ _ _ h => h) (v := ?_) ?_ (by assumption) ?_
                rotate_left
                focus (intro wS hSw; (try dsimp only at hSw); go_simp; (try with_reducible rfl))
                simp only [List.set_cons_zero, List.set_cons_succ]
                refine hr_take (i := 3) rfl rfl (by kernel_rfl) (by kernel_rfl) (by kernel_rfl) (by kernel_rfl) (fun _ _ _ h => h) (v := ?_) ?_ (by assumption) ?_
                rotate_left
                focus (intro wS hSw; (try dsimp only at hSw); go_simp; (try with_reducible rfl))
                simp only [List.set_cons_zero, List.set_cons_succ]
                refine hr_take (i := 4) rfl rfl (by kernel_rfl) (by kernel_rfl) (by kernel_rfl) (by kernel_rfl) (fun _ _ _ h => h) (v := ?_) ?_ (by assumption) ?_
                rotate_left
                focus (intro wS hSw; (try dsimp only at hSw); go_simp; (try with_reducible rfl))
                simp only [List.set_cons_zero, List.set_cons_succ]
                refine hr_take (i := 5) rfl rfl (by kernel_rfl) (by kernel_rfl) (by kernel_rfl) (by kernel_rfl) (fun _ _ _ h => h) (v := ?_) ?_ (by assumption) ?_
                rotate_left
                focus (intro wS hSw; (try dsimp only at hSw); go_simp; (try with_reducible rfl))
                simp only [List.set_cons_zero, List.set_cons_succ]
                refine hr_skip (i := 6) rfl rfl (by kernel_rfl) (by kernel_rfl) (by kernel_rfl) (by kernel_rfl) (fun _ _ _ h => h) (by assumption) ?_
                simp only [List.set_cons_zero, List.set_cons_succ]
                refine hr_skip (i := 7) rfl rfl (by kernel_rfl) (by kernel_rfl) (by kernel_rfl) (by kernel_rfl) (fun _ _ _ h => h) (by assumption) ?_
                simp only [List.set_cons_zero, List.set_cons_succ]
                refine hr_skip (i := 8) rfl rfl (by kernel_rfl) (by kernel_rfl) (by kernel_rfl) (by kernel_rfl) (fun _ _ _ h => h) (by assumption) ?_
                simp only [List.set_cons_zero, List.set_cons_succ]
                refine hr_take (i := 9) rfl rfl (by kernel_rfl) (by kernel_rfl) (by kernel_rfl) (by kernel_rfl) (fun _ _ _ h => h) (v := ?_) ?_ (by assumption) ?_
                rotate_left
                focus (intro wS hSw; (try dsimp only at hSw); go_simp; (try with_reducible rfl))
                simp only [List.set_cons_zero, List.set_cons_succ]
                refine hr_take (i := 10) rfl rfl (by kernel_rfl) (by kernel_rfl) (by kernel_rfl) (by kernel_rfl) (fun _ _ _ h => h) (v := ?_) ?_ (by assumption) ?_
                rotate_left
                focus (intro wS hSw; (try dsimp only at hSw); go_simp; (try with_reducible rfl))
                simp only [List.set_cons_zero, List.set_cons_succ]
                refine hr_skip (i := 11) rfl rfl (by kernel_rfl) (by kernel_rfl) (by kernel_rfl) (by kernel_rfl) (fun _ _ _ h => h) (by assumption) ?_
                simp only [List.set_cons_zero, List.set_cons_succ]
                refine hr_skip (i := 12) rfl rfl (by kernel_rfl) (by kernel_rfl) (by kernel_rfl) (by kernel_rfl) (fun _ _ _ h => h) (by assumption) ?_
                simp only [List.set_cons_zero, List.set_cons_succ]
                refine hr_skip (i := 13) rfl rfl (by kernel_rfl) (by kernel_rfl) (by kernel_rfl) (by kernel_rfl) (fun _ _ _ h => h) (by assumption) ?_
                simp only [List.set_cons_zero, List.set_cons_succ]
                refine hr_skip (i := 14) rfl rfl (by kernel_rfl) (by kernel_rfl) (by kernel_rfl) (by kernel_rfl) (fun _ _ _ h => h) (by assumption) ?_
                simp only [List.set_cons_zero, List.set_cons_succ]
                refine hr_skip (i := 15) rfl rfl (by kernel_rfl) (by kernel_rfl) (by kernel_rfl) (by kernel_rfl) (fun _ _ _ h => h) (by assumption) ?_
                simp only [List.set_cons_zero, List.set_cons_succ]
                refine hr_skip (i := 16) rfl rfl (by kernel_rfl) (by kernel_rfl) (by kernel_rfl) (by kernel_rfl) (fun _ _ _ h => h) (by assumption) ?_
                simp only [List.set_cons_zero, List.set_cons_succ]
                refine hr_skip (i := 17) rfl rfl (by kernel_rfl) (by kernel_rfl) (by kernel_rfl) (by kernel_rfl) (fun _ _ _ h => h) (by assumption) ?_
                simp only [List.set_cons_zero, List.set_cons_succ]
                refine hr_skip (i := 18) rfl rfl (by kernel_rfl) (by kernel_rfl) (by kernel_rfl) (by kernel_rfl) (fun _ _ _ h => h) (by assumption) ?_
                simp only [List.set_cons_zero, List.set_cons_succ]
                refine hr_skip (i := 19) rfl rfl (by kernel_rfl) (by kernel_rfl) (by kernel_rfl) (by kernel_rfl) (fun _ _ _ h => h) (by assumption) ?_
                simp only [List.set_cons_zero, List.set_cons_succ]
                refine hr_skip (i := 20) rfl rfl (by kernel_rfl) (by kernel_rfl) (by kernel_rfl) (by kernel_rfl) (fun _ _ _ h => h) (by assumption) ?_
                simp only [List.set_cons_zero, List.set_cons_succ]
                refine hr_skip (i := 21) rfl rfl (by kernel_rfl) (by kernel_rfl) (by kernel_rfl) (by kernel_rfl) (fun _ _ _ h => h) (by assumption) ?_
                simp only [List.set_cons_zero, List.set_cons_succ]
                refine hr_skip (i := 22) rfl rfl (by kernel_rfl) (by kernel_rfl) (by kernel_rfl) (by kernel_rfl) (fun _ _ _ h => h) (by assumption) ?_
                simp only [List.set_cons_zero, List.set_cons_succ]
                refine hr_skip (i := 23) rfl rfl (by kernel_rfl) (by kernel_rfl) (by kernel_rfl) (by kernel_rfl) (fun _ _ _ h => h) (by assumption) ?_
                simp only [List.set_cons_zero, List.set_cons_succ]
                refine hr_take (i := 24) rfl rfl (by kernel_rfl) (by kernel_rfl) (by kernel_rfl) (by kernel_rfl) (fun _ _ _ h => h) (v := ?_) ?_ (by assumption) ?_
                rotate_left
                focus (intro wS hSw; (try dsimp only at hSw); go_simp; (try with_reducible rfl))
                simp only [List.set_cons_zero, List.set_cons_succ]
                refine hr_done (by kernel_rfl) ?_
                go_wp2_with fail
                go_roundw
                case rel => exact ⟨i + 1, by omega, by go_num, by (repeat (first | (with_reducible exact Below.refl _ _) | (with_reducible assumption) | (with_reducible refine Below.grow ?_ ?_ _ _) | (with_reducible refine Below.drewN' ?_ _) | (with_reducible refine Below.drew ?_) | (with_reducible refine Below.alloc ?_ ?_ _) | (with_reducible refine Below.setCell ?_ ?_ _) | omega | (focus (simp; done)) | (focus (simp; omega))))⟩
                case measure => simp [intOf]; omega
            · have hd2 : decide (h i = f i) = true := decide_eq_true (HT3.out i hlt hlost)
              by_cases hiv : i < v
              · have hL1 : decide ((v : Int) - m ≤ i) = false := by simp; omega
                have hL2 : decide (i < v) = true := by simpa using hiv
                by_cases hin : k + m ≤ i
                · have hI : decide ((k : Int) + m ≤ i) = true := by simp; omega
                  have hsrc := hcf' (i - m) (by omega)
                  obtain ⟨x0, x1, x2, x3, x4, x5, x6⟩ := hsrc
                  have c5 : IntKind.i64.wrap ((i : Int) - m) = (i : Int) - m := IntWalk.i64_in _ (by omega)
                  have c6 : ((i : Int) - m).toNat = i - m := by omega
                  have c7 : (0 : Int) ≤ (i : Int) - m := by omega
                  have c8 : (i : Int) - m < n := by omega
                  have c9 : (m : Int) ≤ i := by omega
                  have c10 : m ≤ i := by omega
                  have c11 : (i : Int) < n + m := by omega
                  have c12 : (i : Int) < m + n := by omega
                  have hd4 : decide (g i = f (i - m)) = true := decide_eq_true (HT1.out i hlt (by omega) (by omega))
                  clear hcg' hcf' hch'
                  go_wp2_with fail
                  refine hr_start (S := (fun w' => w'.cell? ⟨bb, 0, none⟩ = some (.slice (some ⟨kh, oh, none⟩) n cap2) ∧ w'.cell? ⟨bb, 1, none⟩ = some (.bool wb) ∧ w'.cell? ⟨bb, 2, none⟩ = some (.int .i64 dir) ∧ w'.cell? ⟨bb, 3, none⟩ = some (.bool ex) ∧ w'.cell? ⟨w.heap.size, 0, none⟩ = some (.slice (some ⟨bf, of_, none⟩) n cap) ∧ w'.cell? ⟨w.heap.size, 1, none⟩ = some (.bool wb) ∧ w'.cell? ⟨w.heap.size, 2, none⟩ = some (.int .i64 dir) ∧ w'.cell? ⟨w.heap.size, 3, none⟩ = some (.bool ex) ∧ w'.cell? ⟨w.heap.size + 1, 0, none⟩ = some (.int .i64 fg) ∧ w'.cell? ⟨w.heap.size + 1, 1, none⟩ = some (.int .i64 bg) ∧ w'.cell? ⟨w.heap.size + 1, 2, none⟩ = some (.int .i64 fl) ∧ w'.cell? ⟨kh, oh + i * 7, none⟩ = some (.int .i64 (h i).r) ∧ w'.cell? ⟨kh, oh + i * 7 + 1, none⟩ = some (.int .i64 (h i).m0) ∧ w'.cell? ⟨kh, oh + i * 7 + 2, none⟩ = some (.int .i64 (h i).m1) ∧ w'.cell? ⟨kh, oh + i * 7 + 3, none⟩ = some (.int .i64 (h i).w) ∧ w'.cell? ⟨kh, oh + i * 7 + 4, none⟩ = some (.int .i64 (h i).fg) ∧ w'.cell? ⟨kh, oh + i * 7 + 5, none⟩ = some (.int .i64 (h i).bg) ∧ w'.cell? ⟨kh, oh + i * 7 + 6, none⟩ = some (.int .i64 (h i).fl) ∧ w'.cell? ⟨bf, of_ + i * 7, none⟩ = some (.int .i64 (f i).r) ∧ w'.cell? ⟨bf, of_ + i * 7 + 1, none⟩ = some (.int .i64 (f i).m0) ∧ w'.cell? ⟨bf, of_ + i * 7 + 2, none⟩ = some (.int .i64 (f i).m1) ∧ w'.cell? ⟨bf, of_ + i * 7 + 3, none⟩ = some (.int .i64 (f i).w) ∧ w'.cell? ⟨bf, of_ + i * 7 + 4, none⟩ = some (.int .i64 (f i).fg) ∧ w'.cell? ⟨bf, of_ + i * 7 + 5, none⟩ = some (.int .i64 (f i).bg) ∧ w'.cell? ⟨bf, of_ + i * 7 + 6, none⟩ = some (.int .i64 (f i).fl))) (by kernel_rfl) rfl ?_ (fun hHeld => ?_)
                  · ((try dsimp only); go_simp)
                  refine hr_take (i := 0) rfl rfl (by kernel_rfl) (by kernel_rfl) (by kernel_rfl) (by kernel_rfl) (fun _ _ _ h => h) (v := ?_) ?_ (by assumption) ?_
                  rotate_left
                  focus (intro wS hSw; (try dsimp only at hSw); go_simp; (try with_reducible rfl))
                  simp only [List.set_cons_zero, List.set_cons_succ]
                  refine hr_take (i := 1) rfl rfl (by kernel_rfl) (by kernel_rfl) (by kernel_rfl) (by kernel_rfl) (fun _ _ _ h => h) (v := ?_) ?_ (by assumption) ?_
                  rotate_left
                  focus (intro wS hSw; (try dsimp only at hSw); go_simp; (try with_reducible rfl))
                  simp only [List.set_cons_zero, List.set_cons_succ]
                  refine hr_take (i := 2) rfl rfl (by kernel_rfl) (by kernel_rfl) (by kernel_rfl) (by kernel_rfl) (fun _ _ _ h => h) (v := ?_) ?_ (by assumption) ?_
                  rotate_left
                  focus (intro wS hSw; (try dsimp only at hSw); go_simp; (try with_reducible rfl))
                  simp only [List.set_cons_zero, List.set_cons_succ]
                  refine hr_take (i := 3) rfl rfl (by kernel_rfl) (by kernel_rfl) (by kernel_rfl) (by kernel_rfl) (fun _ _ _ h => h) (v := ?_) ?_ (by assumption) ?_
                  rotate_left
                  focus (intro wS hSw; (try dsimp only at hSw); go_simp; (try with_reducible rfl))
                  simp only [List.set_cons_zero, List.set_cons_succ]
                  refine hr_take (i := 4) rfl rfl (by kernel_rfl) (by kernel_rfl) (by kernel_rfl) (by kernel_rfl) (fun _ _ _ h => h) (v := ?_) ?_ (by assumption) ?_
                  rotate_left
                  focus (intro wS hSw; (try dsimp only at hSw); go_simp; (try with_reducible rfl))
                  simp only [List.set_cons_zero, List.set_cons_succ]
                  refine hr_take (i := 5) rfl rfl (by kernel_rfl) (by kernel_rfl) (by kernel_rfl) (by kernel_rfl) (fun _ _ _ h => h) (v := ?_) ?_ (by assumption) ?_
                  rotate_left
                  focus (intro wS hSw; (try dsimp only at hSw); go_simp; (try with_reducible rfl))
                  simp only [List.set_cons_zero, List.set_cons_succ]
                  refine hr_take (i := 6) rfl rfl (by kernel_rfl) (by kernel_rfl) (by kernel_rfl) (by kernel_rfl) (fun _ _ _ h => h) (v := ?_) ?_ (by assumption) ?_
                  rotate_left
                  focus (intro wS hSw; (try dsimp only at hSw); go_simp; (try with_reducible rfl))
                  simp only [List.set_cons_zero, List.set_cons_succ]
                  refine hr_take (i := 7) rfl rfl (by kernel_rfl) (by kernel_rfl) (by kernel_rfl) (by kernel_rfl) (fun _ _ _ h => h) (v := ?_) ?_ (by assumption) ?_
                  rotate_left
                  focus (intro wS hSw; (try dsimp only at hSw); go_simp; (try with_reducible rfl))
                  simp only [List.set_cons_zero, List.set_cons_succ]
                  refine hr_take (i := 8) rfl rfl (by kernel_rfl) (by kernel_rfl) (by kernel_rfl) (by kernel_rfl) (fun _ _ _ h => h) (v := ?_) ?_ (by assumption) ?_
                  rotate_left
                  focus (intro wS hSw; (try dsimp only at hSw); go_simp; (try with_reducible rfl))
                  simp only [List.set_cons_zero, List.set_cons_succ]
                  refine hr_take (i := 9) rfl rfl (by kernel_rfl) (by kernel_rfl) (by kernel_rfl) (by kernel_rfl) (fun _ _ _ h => h) (v := ?_) ?_ (by assumption) ?_
                  rotate_left
                  focus (intro wS hSw; (try dsimp only at hSw); go_simp; (try with_reducible rfl))
                  simp only [List.set_cons_zero, List.set_cons_succ]
                  refine hr_take (i := 10) rfl rfl (by kernel_rfl) (by kernel_rfl) (by kernel_rfl) (by kernel_rfl) (fun _ _ _ h => h) (v := ?_) ?_ (by assumption) ?_
                  rotate_left
                  focus (intro wS hSw; (try dsimp only at hSw); go_simp; (try with_reducible rfl))
                  simp only [List.set_cons_zero, List.set_cons_succ]
                  refine hr_take (i := 11) rfl rfl (by kernel_rfl) (by kernel_rfl) (by kernel_rfl) (by kernel_rfl) (fun _ _ _ h => h) (v := ?_) ?_ (by assumption) ?_
                  rotate_left
                  focus (intro wS hSw; (try dsimp only at hSw); go_simp; (try with_reducible rfl))
                  simp only [List.set_cons_zero, List.set_cons_succ]
                  refine hr_take (i := 12) rfl rfl (by kernel_rfl) (by kernel_rfl) (by kernel_rfl) (by kernel_rfl) (fun _ _ _ h => h) (v := ?_) ?_ (by assumption) ?_
                  rotate_left
                  focus (intro wS hSw; (try dsimp only at hSw); go_simp; (try with_reducible rfl))
                  simp only [List.set_cons_zero, List.set_cons_succ]
                  refine hr_take (i := 13) rfl rfl (by kernel_rfl) (by kernel_rfl) (by kernel_rfl) (by kernel_rfl) (fun _ _ _ h => h) (v := ?_) ?_ (by assumption) ?_
                  rotate_left
                  focus (intro wS hSw; (try dsimp only at hSw); go_simp; (try with_reducible rfl))
                  simp only [List.set_cons_zero, List.set_cons_succ]
                  refine hr_take (i := 14) rfl rfl (by kernel_rfl) (by kernel_rfl) (by kernel_rfl) (by kernel_rfl) (fun _ _ _ h => h) (v := ?_) ?_ (by assumption) ?_
                  rotate_left
                  focus (intro wS hSw; (try dsimp only at hSw); go_simp; (try with_reducible rfl))
                  simp only [List.set_cons_zero, List.set_cons_succ]
                  refine hr_take (i := 15) rfl rfl (by kernel_rfl) (by kernel_rfl) (by kernel_rfl) (by kernel_rfl) (fun _ _ _ h => h) (v := ?_) ?_ (by assumption) ?_
                  rotate_left
                  focus (intro wS hSw; (try dsimp only at hSw); go_simp; (try with_reducible rfl))
                  simp only [List.set_cons_zero, List.set_cons_succ]
                  refine hr_take (i := 16) rfl rfl (by kernel_rfl) (by kernel_rfl) (by kernel_rfl) (by kernel_rfl) (fun _ _ _ h => h) (v := ?_) ?_ (by assumption) ?_
                  rotate_left
                  focus (intro wS hSw; (try dsimp only at hSw); go_simp; (try with_reducible rfl))
                  simp only [List.set_cons_zero, List.set_cons_succ]
                  refine hr_take (i := 17) rfl rfl (by kernel_rfl) (by kernel_rfl) (by kernel_rfl) (by kernel_rfl) (fun _ _ _ h => h) (v := ?_) ?_ (by assumption) ?_
                  rotate_left
                  focus (intro wS hSw; (try dsimp only at hSw); go_simp; (try with_reducible rfl))
                  simp only [List.set_cons_zero, List.set_cons_succ]
                  refine hr_skip (i := 18) rfl rfl (by kernel_rfl) (by kernel_rfl) (by kernel_rfl) (by kernel_rfl) (fun _ _ _ h => h) (by assumption) ?_
                  simp only [List.set_cons_zero, List.set_cons_succ]
                  refine hr_skip (i := 19) rfl rfl (by kernel_rfl) (by kernel_rfl) (by kernel_rfl) (by kernel_rfl) (fun _ _ _ h => h) (by assumption) ?_
                  simp only [List.set_cons_zero, List.set_cons_succ]
                  refine hr_skip (i := 20) rfl rfl (by kernel_rfl) (by kernel_rfl) (by kernel_rfl) (by kernel_rfl) (fun _ _ _ h => h) (by assumption) ?_
                  simp only [List.set_cons_zero, List.set_cons_succ]
                  refine hr_skip (i := 21) rfl rfl (by kernel_rfl) (by kernel_rfl) (by kernel_rfl) (by kernel_rfl) (fun _ _ _ h => h) (by assumption) ?_
                  simp only [List.set_cons_zero, List.set_cons_succ]
                  refine hr_skip (i := 22) rfl rfl (by kernel_rfl) (by kernel_rfl) (by kernel_rfl) (by kernel_rfl) (fun _ _ _ h => h) (by assumption) ?_
                  simp only [List.set_cons_zero, List.set_cons_succ]
                  refine hr_skip (i := 23) rfl rfl (by kernel_rfl) (by kernel_rfl) (by kernel_rfl) (by kernel_rfl) (fun _ _ _ h => h) (by assumption) ?_
                  simp only [List.set_cons_zero, List.set_cons_succ]
                  refine hr_skip (i := 24) rfl rfl (by kernel_rfl) (by kernel_rfl) (by kernel_rfl) (by kernel_rfl) (fun _ _ _ h => h) (by assumption) ?_
                  simp only [List.set_cons_zero, List.set_cons_succ]
                  refine hr_skip (i := 25) rfl rfl (by kernel_rfl) (by kernel_rfl) (by kernel_rfl) (by kernel_rfl) (fun _ _ _ h => h) (by assumption) ?_
                  simp only [List.set_cons_zero, List.set_cons_succ]
                  refine hr_take (i := 26) rfl rfl (by kernel_rfl) (by kernel_rfl) (by kernel_rfl) (by kernel_rfl) (fun _ _ _ h => h) (v := ?_) ?_ (by assumption) ?_
                  rotate_left
                  focus (intro wS hSw; (try dsimp only at hSw); go_simp; (try with_reducible rfl))
                  simp only [List.set_cons_zero, List.set_cons_succ]
                  refine hr_take (i := 27) rfl rfl (by kernel_rfl) (by kernel_rfl) (by kernel_rfl) (by kernel_rfl) (fun _ _ _ h => h) (v := ?_) ?_ (by assumption) ?_
                  rotate_left
                  focus (intro wS hSw; (try dsimp only at hSw); go_simp; (try with_reducible rfl))
                  simp only [List.set_cons_zero, List.set_cons_succ]
                  refine hr_done (by kernel_rfl) ?_
                  go_wp2_with fail
                  refine hr_start (S := (fun w' => w'.cell? ⟨ba, 0, none⟩ = some (.slice (some ⟨kg, og, none⟩) n cap') ∧ w'.cell? ⟨ba, 1, none⟩ = some (.bool wb) ∧ w'.cell? ⟨ba, 2, none⟩ = some (.int .i64 dir) ∧ w'.cell? ⟨ba, 3, none⟩ = some (.bool ex) ∧ w'.cell? ⟨w.heap.size, 0, none⟩ = some (.slice (some ⟨bf, of_, none⟩) n cap) ∧ w'.cell? ⟨w.heap.size, 1, none⟩ = some (.bool wb) ∧ w'.cell? ⟨w.heap.size, 2, none⟩ = some (.int .i64 dir) ∧ w'.cell? ⟨w.heap.size, 3, none⟩ = some (.bool ex) ∧ w'.cell? ⟨kg, og + i * 7, none⟩ = some (.int .i64 (g i).r) ∧ w'.cell? ⟨kg, og + i * 7 + 1, none⟩ = some (.int .i64 (g i).m0) ∧ w'.cell? ⟨kg, og + i * 7 + 2, none⟩ = some (.int .i64 (g i).m1) ∧ w'.cell? ⟨kg, og + i * 7 + 3, none⟩ = some (.int .i64 (g i).w) ∧ w'.cell? ⟨kg, og + i * 7 + 4, none⟩ = some (.int .i64 (g i).fg) ∧ w'.cell? ⟨kg, og + i * 7 + 5, none⟩ = some (.int .i64 (g i).bg) ∧ w'.cell? ⟨kg, og + i * 7 + 6, none⟩ = some (.int .i64 (g i).fl) ∧ w'.cell? ⟨bf, of_ + (i - m) * 7, none⟩ = some (.int .i64 (f (i - m)).r) ∧ w'.cell? ⟨bf, of_ + (i - m) * 7 + 1, none⟩ = some (.int .i64 (f (i - m)).m0) ∧ w'.cell? ⟨bf, of_ + (i - m) * 7 + 2, none⟩ = some (.int .i64 (f (i - m)).m1) ∧ w'.cell? ⟨bf, of_ + (i - m) * 7 + 3, none⟩ = some (.int .i64 (f (i - m)).w) ∧ w'.cell? ⟨bf, of_ + (i - m) * 7 + 4, none⟩ = some (.int .i64 (f (i - m)).fg) ∧ w'.cell? ⟨bf, of_ + (i - m) * 7 + 5, none⟩ = some (.int .i64 (f (i - m)).bg) ∧ w'.cell? ⟨bf, of_ + (i - m) * 7 + 6, none⟩ = some (.int .i64 (f (i - m)).fl))) (by kernel_rfl) rfl ?_ (fun hHeld => ?_)
                  · ((try dsimp only); go_simp)
                  refine hr_take (i := 0) rfl rfl (by kernel_rfl) (by kernel_rfl) (by kernel_rfl) (by kernel_rfl) (fun _ _ _ h => h) (v := ?_) ?_ (by assumption) ?_
                  rotate_left
                  focus (intro wS hSw; (try dsimp only at hSw); go_simp; (try with_reducible rfl))
                  simp only [List.set_cons_zero, List.set_cons_succ]
                  refine hr_take (i := 1) rfl rfl (by kernel_rfl) (by kernel_rfl) (by kernel_rfl) (by kernel_rfl) (fun _ _ _ h => h) (v := ?_) ?_ (by assumption) ?_
                  rotate_left
                  focus (intro wS hSw; (try dsimp only at hSw); go_simp; (try with_reducible rfl))
                  simp only [List.set_cons_zero, List.set_cons_succ]
                  refine hr_take (i := 2) rfl rfl (by kernel_rfl) (by kernel_rfl) (by kernel_rfl) (by kernel_rfl) (fun _ _ _ h => h) (v := ?_) ?_ (by assumption) ?_
                  rotate_left
                  focus (intro wS hSw; (try dsimp only at hSw); go_simp; (try with_reducible rfl))
                  simp only [List.set_cons_zero, List.set_cons_succ]
                  refine hr_take (i := 3) rfl rfl (by kernel_rfl) (by kernel_rfl) (by kernel_rfl) (by kernel_rfl) (fun _ _ _ h => h) (v := ?_) ?_ (by assumption) ?_
                  rotate_left
                  focus (intro wS hSw; (try dsimp only at hSw); go_simp; (try with_reducible rfl))
                  simp only [List.set_cons_zero, List.set_cons_succ]
                  refine hr_take (i := 4) rfl rfl (by kernel_rfl) (by kernel_rfl) (by kernel_rfl) (by kernel_rfl) (fun _ _ _ h => h) (v := ?_) ?_ (by assumption) ?_
                  rotate_left
                  focus (intro wS hSw; (try dsimp only at hSw); go_simp; (try with_reducible rfl))
                  simp only [List.set_cons_zero, List.set_cons_succ]
                  refine hr_take (i := 5) rfl rfl (by kernel_rfl) (by kernel_rfl) (by kernel_rfl) (by kernel_rfl) (fun _ _ _ h => h) (v := ?_) ?_ (by assumption) ?_
                  rotate_left
                  focus (intro wS hSw; (try dsimp only at hSw); go_simp; (try with_reducible rfl))
                  simp only [List.set_cons_zero, List.set_cons_succ]
                  refine hr_take (i := 6) rfl rfl (by kernel_rfl) (by kernel_rfl) (by kernel_rfl) (by kernel_rfl) (fun _ _ _ h => h) (v := ?_) ?_ (by assumption) ?_
                  rotate_left
                  focus (intro wS hSw; (try dsimp only at hSw); go_simp; (try with_reducible rfl))
                  simp only [List.set_cons_zero, List.set_cons_succ]
                  refine hr_take (i := 7) rfl rfl (by kernel_rfl) (by kernel_rfl) (by kernel_rfl) (by kernel_rfl) (fun _ _ _ h => h) (v := ?_) ?_ (by assumption) ?_
                  rotate_left
                  focus (intro wS hSw; (try dsimp only at hSw); go_simp; (try with_reducible rfl))
                  simp only [List.set_cons_zero, List.set_cons_succ]
                  refine hr_take (i := 8) rfl rfl (by kernel_rfl) (by kernel_rfl) (by kernel_rfl) (by kernel_rfl) (fun _ _ _ h => h) (v := ?_) ?_ (by assumption) ?_
                  rotate_left
                  focus (intro wS hSw; (try dsimp only at hSw); go_simp; (try with_reducible rfl))
                  simp only [List.set_cons_zero, List.set_cons_succ]
                  refine hr_take (i := 9) rfl rfl (by kernel_rfl) (by kernel_rfl) (by kernel_rfl) (by kernel_rfl) (fun _ _ _ h => h) (v := ?_) ?_ (by assumption) ?_
                  rotate_left
                  focus (intro wS hSw; (try dsimp only at hSw); go_simp; (try with_reducible rfl))
                  simp only [List.set_cons_zero, List.set_cons_succ]
                  refine hr_take (i := 10) rfl rfl (by kernel_rfl) (by kernel_rfl) (by kernel_rfl) (by kernel_rfl) (fun _ _ _ h => h) (v := ?_) ?_ (by assumption) ?_
                  rotate_left
                  focus (intro wS hSw; (try dsimp only at hSw); go_simp; (try with_reducible rfl))
                  simp only [List.set_cons_zero, List.set_cons_succ]
                  refine hr_take (i := 11) rfl rfl (by kernel_rfl) (by kernel_rfl) (by kernel_rfl) (by kernel_rfl) (fun _ _ _ h => h) (v := ?_) ?_ (by assumption) ?_
                  rotate_left
                  focus (intro wS hSw; (try dsimp only at hSw); go_simp; (try with_reducible rfl))
                  simp only [List.set_cons_zero, List.set_cons_succ]
                  refine hr_take (i := 12) rfl rfl (by kernel_rfl) (by kernel_rfl) (by kernel_rfl) (by kernel_rfl) (fun _ _ _ h => h) (v := ?_) ?_ (by assumption) ?_
                  rotate_left
                  focus (intro wS hSw; (try dsimp only at hSw); go_simp; (try with_reducible rfl))
                  simp only [List.set_cons_zero, List.set_cons_succ]
                  refine hr_take (i := 13) rfl rfl (by kernel_rfl) (by kernel_rfl) (by kernel_rfl) (by kernel_rfl) (fun _ _ _ h => h) (v := ?_) ?_ (by assumption) ?_
                  rotate_left
                  focus (intro wS hSw; (try dsimp only at hSw); go_simp; (try with_reducible rfl))
                  simp only [List.set_cons_zero, List.set_cons_succ]
                  refine hr_take (i := 14) rfl rfl (by kernel_rfl) (by kernel_rfl) (by kernel_rfl) (by kernel_rfl) (fun _ _ _ h => h) (v := ?_) ?_ (by assumption) ?_
                  rotate_left
                  focus (intro wS hSw; (try dsimp only at hSw); go_simp; (try with_reducible rfl))
                  simp only [List.set_cons_zero, List.set_cons_succ]
                  refine hr_take (i := 15) rfl rfl (by kernel_rfl) (by kernel_rfl) (by kernel_rfl) (by kernel_rfl) (fun _ _ _ h => h) (v := ?_) ?_ (by assumption) ?_
                  rotate_left
                  focus (intro wS hSw; (try dsimp only at hSw); go_simp; (try with_reducible rfl))
                  simp only [List.set_cons_zero, List.set_cons_succ]
                  refine hr_take (i := 16) rfl rfl (by kernel_rfl) (by kernel_rfl) (by kernel_rfl) (by kernel_rfl) (fun _ _ _ h => h) (v := ?_) ?_ (by assumption) ?_
                  rotate_left
                  focus (intro wS hSw; (try dsimp only at hSw); go_simp; (try with_reducible rfl))
                  simp only [List.set_cons_zero, List.set_cons_succ]
                  refine hr_take (i := 17) rfl rfl (by kernel_rfl) (by kernel_rfl) (by kernel_rfl) (by kernel_rfl) (fun _ _ _ h => h) (v := ?_) ?_ (by assumption) ?_
                  rotate_left
                  focus (intro wS hSw; (try dsimp only at hSw); go_simp; (try with_reducible rfl))
                  simp only [List.set_cons_zero, List.set_cons_succ]
                  refine hr_take (i := 18) rfl rfl (by kernel_rfl) (by kernel_rfl) (by kernel_rfl) (by kernel_rfl) (fun _ _ _ h => h) (v := ?_) ?_ (by assumption) ?_
                  rotate_left
                  focus (intro wS hSw; (try dsimp only at hSw); go_simp; (try with_reducible rfl))
                  simp only [List.set_cons_zero, List.set_cons_succ]
                  refine hr_take (i := 19) rfl rfl (by kernel_rfl) (by kernel_rfl) (by kernel_rfl) (by kernel_rfl) (fun _ _ _ h => h) (v := ?_) ?_ (by assumption) ?_
                  rotate_left
                  focus (intro wS hSw; (try dsimp only at hSw); go_simp; (try with_reducible rfl))
                  simp only [List.set_cons_zero, List.set_cons_succ]
                  refine hr_take (i := 20) rfl rfl (by kernel_rfl) (by kernel_rfl) (by kernel_rfl) (by kernel_rfl) (fun _ _ _ h => h) (v := ?_) ?_ (by assumption) ?_
                  rotate_left
                  focus (intro wS hSw; (try dsimp only at hSw); go_simp; (try with_reducible rfl))
                  simp only [List.set_cons_zero, List.set_cons_succ]
                  refine hr_take (i := 21) rfl rfl (by kernel_rfl) (by kernel_rfl) (by kernel_rfl) (by kernel_rfl) (fun _ _ _ h => h) (v := ?_) ?_ (by assumption) ?_
                  rotate_left
                  focus (intro wS hSw; (try dsimp only at hSw); go_simp; (try with_reducible rfl))
                  simp only [List.set_cons_zero, List.set_cons_succ]
                  refine hr_take (i := 22) rfl rfl (by kernel_rfl) (by kernel_rfl) (by kernel_rfl) (by kernel_rfl) (fun _ _ _ h => h) (v := ?_) ?_ (by assumption) ?_
                  rotate_left
                  focus (intro wS hSw; (try dsimp only at hSw); go_simp; (try with_reducible rfl))
                  simp only [List.set_cons_zero, List.set_cons_succ]
                  refine hr_take (i := 23) rfl rfl (by kernel_rfl) (by kernel_rfl) (by kernel_rfl) (by kernel_rfl) (fun _ _ _ h => h) (v := ?_) ?_ (by assumption) ?_
                  rotate_left
                  focus (intro wS hSw; (try dsimp only at hSw); go_simp; (try with_reducible rfl))
                  simp only [List.set_cons_zero, List.set_cons_succ]
                  refine hr_take (i := 24) rfl rfl (by kernel_rfl) (by kernel_rfl) (by kernel_rfl) (by kernel_rfl) (fun _ _ _ h => h) (v := ?_) ?_ (by assumption) ?_
                  rotate_left
                  focus (intro wS hSw; (try dsimp only at hSw); go_simp; (try with_reducible rfl))
                  simp only [List.set_cons_zero, List.set_cons_succ]
                  refine hr_done (by kernel_rfl) ?_
                  go_wp2_with fail
                  go_roundw
                  case rel => exact ⟨i + 1, by omega, by go_num, by (repeat (first | (with_reducible exact Below.refl _ _) | (with_reducible assumption) | (with_reducible refine Below.grow ?_ ?_ _ _) | (with_reducible refine Below.drewN' ?_ _) | (with_reducible refine Below.drew ?_) | (with_reducible refine Below.alloc ?_ ?_ _) | (with_reducible refine Below.setCell ?_ ?_ _) | omega | (focus (simp; done)) | (focus (simp; omega))))⟩
                  case measure => simp [intOf]; omega
                · have hI : decide ((k : Int) + m ≤ i) = false := by simp; omega
                  clear hcg' hcf' hch'
                  go_wp2_with fail
                  refine hr_start (S := (fun w' => w'.cell? ⟨bb, 0, none⟩ = some (.slice (some ⟨kh, oh, none⟩) n cap2) ∧ w'.cell? ⟨bb, 1, none⟩ = some (.bool wb) ∧ w'.cell? ⟨bb, 2, none⟩ = some (.int .i64 dir) ∧ w'.cell? ⟨bb, 3, none⟩ = some (.bool ex) ∧ w'.cell? ⟨w.heap.size, 0, none⟩ = some (.slice (some ⟨bf, of_, none⟩) n cap) ∧ w'.cell? ⟨w.heap.size, 1, none⟩ = some (.bool wb) ∧ w'.cell? ⟨w.heap.size, 2, none⟩ = some (.int .i64 dir) ∧ w'.cell? ⟨w.heap.size, 3, none⟩ = some (.bool ex) ∧ w'.cell? ⟨w.heap.size + 1, 0, none⟩ = some (.int .i64 fg) ∧ w'.cell? ⟨w.heap.size + 1, 1, none⟩ = some (.int .i64 bg) ∧ w'.cell? ⟨w.heap.size + 1, 2, none⟩ = some (.int .i64 fl) ∧ w'.cell? ⟨kh, oh + i * 7, none⟩ = some (.int .i64 (h i).r) ∧ w'.cell? ⟨kh, oh + i * 7 + 1, none⟩ = some (.int .i64 (h i).m0) ∧ w'.cell? ⟨kh, oh + i * 7 + 2, none⟩ = some (.int .i64 (h i).m1) ∧ w'.cell? ⟨kh, oh + i * 7 + 3, none⟩ = some (.int .i64 (h i).w) ∧ w'.cell? ⟨kh, oh + i * 7 + 4, none⟩ = some (.int .i64 (h i).fg) ∧ w'.cell? ⟨kh, oh + i * 7 + 5, none⟩ = some (.int .i64 (h i).bg) ∧ w'.cell? ⟨kh, oh + i * 7 + 6, none⟩ = some (.int .i64 (h i).fl) ∧ w'.cell? ⟨bf, of_ + i * 7, none⟩ = some (.int .i64 (f i).r) ∧ w'.cell? ⟨bf, of_ + i * 7 + 1, none⟩ = some (.int .i64 (f i).m0) ∧ w'.cell? ⟨bf, of_ + i * 7 + 2, none⟩ = some (.int .i64 (f i).m1) ∧ w'.cell? ⟨bf, of_ + i * 7 + 3, none⟩ = some (.int .i64 (f i).w) ∧ w'.cell? ⟨bf, of_ + i * 7 + 4, none⟩ = some (.int .i64 (f i).fg) ∧ w'.cell? ⟨bf, of_ + i * 7 + 5, none⟩ = some (.int .i64 (f i).bg) ∧ w'.cell? ⟨bf, of_ + i * 7 + 6, none⟩ = some (.int .i64 (f i).fl))) (by kernel_rfl) rfl ?_ (fun hHeld => ?_)
                  · ((try dsimp only); go_simp)
                  refine hr_take (i := 0) rfl rfl (by kernel_rfl) (by kernel_rfl) (by kernel_rfl) (by kernel_rfl) (fun _ _ _ h => h) (v := ?_) ?_ (by assumption) ?_
                  rotate_left
                  focus (intro wS hSw; (try dsimp only at hSw); go_simp; (try with_reducible rfl))
                  simp only [List.set_cons_zero, List.set_cons_succ]
                  refine hr_take (i := 1) rfl rfl (by kernel_rfl) (by kernel_rfl) (by kernel_rfl) (by kernel_rfl) (fun _ _ _ h => h) (v := ?_) ?_ (by assumption) ?_
                  rotate_left
                  focus (intro wS hSw; (try dsimp only at hSw); go_simp; (try with_reducible rfl))
                  simp only [List.set_cons_zero, List.set_cons_succ]
                  refine hr_take (i := 2) rfl rfl (by kernel_rfl) (by kernel_rfl) (by kernel_rfl) (by kernel_rfl) (fun _ _ _ h => h) (v := ?_) ?_ (by assumption) ?_
                  rotate_left
                  focus (intro wS hSw; (try dsimp only at hSw); go_simp; (try with_reducible rfl))
                  simp only [List.set_cons_zero, List.set_cons_succ]
                  refine hr_take (i := 3) rfl rfl (by kernel_rfl) (by kernel_rfl) (by kernel_rfl) (by kernel_rfl) (fun _ _ _ h => h) (v := ?_) ?_ (by assumption) ?_
                  rotate_left
                  focus (intro wS hSw; (try dsimp only at hSw); go_simp; (try with_reducible rfl))
                  simp only [List.set_cons_zero, List.set_cons_succ]
                  refine hr_take (i := 4) rfl rfl (by kernel_rfl) (by kernel_rfl) (by kernel_rfl) (by kernel_rfl) (fun _ _ _ h => h) (v := ?_) ?_ (by assumption) ?_
                  rotate_left
                  focus (intro wS hSw; (try dsimp only at hSw); go_simp; (try with_reducible rfl))
                  simp only [List.set_cons_zero, List.set_cons_succ]
                  refine hr_take (i := 5) rfl rfl (by kernel_rfl) (by kernel_rfl) (by kernel_rfl) (by kernel_rfl) (fun _ _ _ h => h) (v := ?_) ?_ (by assumption) ?_
                  rotate_left
                  focus (intro wS hSw; (try dsimp only at hSw); go_simp; (try with_reducible rfl))
                  simp only [List.set_cons_zero, List.set_cons_succ]
                  refine hr_take (i := 6) rfl rfl (by kernel_rfl) (by kernel_rfl) (by kernel_rfl) (by kernel_rfl) (fun _ _ _ h => h) (v := ?_) ?_ (by assumption) ?_
                  rotate_left
                  focus (intro wS hSw; (try dsimp only at hSw); go_simp; (try with_reducible rfl))
                  simp only [List.set_cons_zero, List.set_cons_succ]
                  refine hr_take (i := 7) rfl rfl (by kernel_rfl) (by kernel_rfl) (by kernel_rfl) (by kernel_rfl) (fun _ _ _ h => h) (v := ?_) ?_ (by assumption) ?_
                  rotate_left
                  focus (intro wS hSw; (try dsimp only at hSw); go_simp; (try with_reducible rfl))
                  simp only [List.set_cons_zero, List.set_cons_succ]
                  refine hr_take (i := 8) rfl rfl (by kernel_rfl) (by kernel_rfl) (by kernel_rfl) (by kernel_rfl) (fun _ _ _ h => h) (v := ?_) ?_ (by assumption) ?_
                  rotate_left
                  focus (intro wS hSw; (try dsimp only at hSw); go_simp; (try with_reducible rfl))
                  simp only [List.set_cons_zero, List.set_cons_succ]
                  refine hr_take (i := 9) rfl rfl (by kernel_rfl) (by kernel_rfl) (by kernel_rfl) (by kernel_rfl) (fun _ _ _ h => h) (v := ?_) ?_ (by assumption) ?_
                  rotate_left
                  focus (intro wS hSw; (try dsimp only at hSw); go_simp; (try with_reducible rfl))
                  simp only [List.set_cons_zero, List.set_cons_succ]
                  refine hr_take (i := 10) rfl rfl (by kernel_rfl) (by kernel_rfl) (by kernel_rfl) (by kernel_rfl) (fun _ _ _ h => h) (v := ?_) ?_ (by assumption) ?_
                  rotate_left
                  focus (intro wS hSw; (try dsimp only at hSw); go_simp; (try with_reducible rfl))
                  simp only [List.set_cons_zero, List.set_cons_succ]
                  refine hr_take (i := 11) rfl rfl (by kernel_rfl) (by kernel_rfl) (by kernel_rfl) (by kernel_rfl) (fun _ _ _ h => h) (v := ?_) ?_ (by assumption) ?_
                  rotate_left
                  focus (intro wS hSw; (try dsimp only at hSw); go_simp; (try with_reducible rfl))
                  simp only [List.set_cons_zero, List.set_cons_succ]
                  refine hr_take (i := 12) rfl rfl (by kernel_rfl) (by kernel_rfl) (by kernel_rfl) (by kernel_rfl) (fun _ _ _ h => h) (v := ?_) ?_ (by assumption) ?_
                  rotate_left
                  focus (intro wS hSw; (try dsimp only at hSw); go_simp; (try with_reducible rfl))
                  simp only [List.set_cons_zero, List.set_cons_succ]
                  refine hr_take (i := 13) rfl rfl (by kernel_rfl) (by kernel_rfl) (by kernel_rfl) (by kernel_rfl) (fun _ _ _ h => h) (v := ?_) ?_ (by assumption) ?_
                  rotate_left
                  focus (intro wS hSw; (try dsimp only at hSw); go_simp; (try with_reducible rfl))
                  simp only [List.set_cons_zero, List.set_cons_succ]
                  refine hr_take (i := 14) rfl rfl (by kernel_rfl) (by kernel_rfl) (by kernel_rfl) (by kernel_rfl) (fun _ _ _ h => h) (v := ?_) ?_ (by assumption) ?_
                  rotate_left
                  focus (intro wS hSw; (try dsimp only at hSw); go_simp; (try with_reducible rfl))
                  simp only [List.set_cons_zero, List.set_cons_succ]
                  refine hr_take (i := 15) rfl rfl (by kernel_rfl) (by kernel_rfl) (by kernel_rfl) (by kernel_rfl) (fun _ _ _ h => h) (v := ?_) ?_ (by assumption) ?_
                  rotate_left
                  focus (intro wS hSw; (try dsimp only at hSw); go_simp; (try with_reducible rfl))
                  simp only [List.set_cons_zero, List.set_cons_succ]
                  refine hr_take (i := 16) rfl rfl (by kernel_rfl) (by kernel_rfl) (by kernel_rfl) (by kernel_rfl) (fun _ _ _ h => h) (v := ?_) ?_ (by assumption) ?_
                  rotate_left
                  focus (intro wS hSw; (try dsimp only at hSw); go_simp; (try with_reducible rfl))
                  simp only [List.set_cons_zero, List.set_cons_succ]
                  refine hr_take (i := 17) rfl rfl (by kernel_rfl) (by kernel_rfl) (by kernel_rfl) (by kernel_rfl) (fun _ _ _ h => h) (v := ?_) ?_ (by assumption) ?_
                  rotate_left
                  focus (intro wS hSw; (try dsimp only at hSw); go_simp; (try with_reducible rfl))
                  simp only [List.set_cons_zero, List.set_cons_succ]
                  refine hr_skip (i := 18) rfl rfl (by kernel_rfl) (by kernel_rfl) (by kernel_rfl) (by kernel_rfl) (fun _ _ _ h => h) (by assumption) ?_
                  simp only [List.set_cons_zero, List.set_cons_succ]
                  refine hr_skip (i := 19) rfl rfl (by kernel_rfl) (by kernel_rfl) (by kernel_rfl) (by kernel_rfl) (fun _ _ _ h => h) (by assumption) ?_
                  simp only [List.set_cons_zero, List.set_cons_succ]
                  refine hr_skip (i := 20) rfl rfl (by kernel_rfl) (by kernel_rfl) (by kernel_rfl) (by kernel_rfl) (fun _ _ _ h => h) (by assumption) ?_
                  simp only [List.set_cons_zero, List.set_cons_succ]
                  refine hr_skip (i := 21) rfl rfl (by kernel_rfl) (by kernel_rfl) (by kernel_rfl) (by kernel_rfl) (fun _ _ _ h => h) (by assumption) ?_
                  simp only [List.set_cons_zero, List.set_cons_succ]
                  refine hr_skip (i := 22) rfl rfl (by kernel_rfl) (by kernel_rfl) (by kernel_rfl) (by kernel_rfl) (fun _ _ _ h => h) (by assumption) ?_
                  simp only [List.set_cons_zero, List.set_cons_succ]
                  refine hr_skip (i := 23) rfl rfl (by kernel_rfl) (by kernel_rfl) (by kernel_rfl) (by kernel_rfl) (fun _ _ _ h => h) (by assumption) ?_
                  simp only [List.set_cons_zero, List.set_cons_succ]
                  refine hr_skip (i := 24) rfl rfl (by kernel_rfl) (by kernel_rfl) (by kernel_rfl) (by kernel_rfl) (fun _ _ _ h => h) (by assumption) ?_
                  simp only [List.set_cons_zero, List.set_cons_succ]
                  refine hr_skip (i := 25) rfl rfl (by kernel_rfl) (by kernel_rfl) (by kernel_rfl) (by kernel_rfl) (fun _ _ _ h => h) (by assumption) ?_
                  simp only [List.set_cons_zero, List.set_cons_succ]
                  refine hr_take (i := 26) rfl rfl (by kernel_rfl) (by kernel_rfl) (by kernel_rfl) (by kernel_rfl) (fun _ _ _ h => h) (v := ?_) ?_ (by assumption) ?_
                  rotate_left
                  focus (intro wS hSw; (try dsimp only at hSw); go_simp; (try with_reducible rfl))
                  simp only [List.set_cons_zero, List.set_cons_succ]
                  refine hr_take (i := 27) rfl rfl (by kernel_rfl) (by kernel_rfl) (by kernel_rfl) (by kernel_rfl) (fun _ _ _ h => h) (v := ?_) ?_ (by assumption) ?_
                  rotate_left
                  focus (intro wS hSw; (try dsimp only at hSw); go_simp; (try with_reducible rfl))
                  simp only [List.set_cons_zero, List.set_cons_succ]
                  refine hr_done (by kernel_rfl) ?_
                  go_wp2_with fail
                  refine hr_start (S := (fun w' => w'.cell? ⟨ba, 0, none⟩ = some (.slice (some ⟨kg, og, none⟩) n cap') ∧ w'.cell? ⟨ba, 1, none⟩ = some (.bool wb) ∧ w'.cell? ⟨ba, 2, none⟩ = some (.int .i64 dir) ∧ w'.cell? ⟨ba, 3, none⟩ = some (.bool ex))) (by kernel_rfl) rfl ?_ (fun hHeld => ?_)
                  · ((try dsimp only); go_simp)
                  refine hr_take (i := 0) rfl rfl (by kernel_rfl) (by kernel_rfl) (by kernel_rfl) (by kernel_rfl) (fun _ _ _ h => h) (v := ?_) ?_ (by assumption) ?_
                  rotate_left
                  focus (intro wS hSw; (try dsimp only at hSw); go_simp; (try with_reducible rfl))
                  simp only [List.set_cons_zero, List.set_cons_succ]
                  refine hr_take (i := 1) rfl rfl (by kernel_rfl) (by kernel_rfl) (by kernel_rfl) (by kernel_rfl) (fun _ _ _ h => h) (v := ?_) ?_ (by assumption) ?_
                  rotate_left
                  focus (intro wS hSw; (try dsimp only at hSw); go_simp; (try with_reducible rfl))
                  simp only [List.set_cons_zero, List.set_cons_succ]
                  refine hr_take (i := 2) rfl rfl (by kernel_rfl) (by kernel_rfl) (by kernel_rfl) (by kernel_rfl) (fun _ _ _ h => h) (v := ?_) ?_ (by assumption) ?_
                  rotate_left
                  focus (intro wS hSw; (try dsimp only at hSw); go_simp; (try with_reducible rfl))
                  simp only [List.set_cons_zero, List.set_cons_succ]
                  refine hr_take (i := 3) rfl rfl (by kernel_rfl) (by kernel_rfl) (by kernel_rfl) (by kernel_rfl) (fun _ _ _ h => h) (v := ?_) ?_ (by assumption) ?_
                  rotate_left
                  focus (intro wS hSw; (try dsimp only at hSw); go_simp; (try with_reducible rfl))
                  simp only [List.set_cons_zero, List.set_cons_succ]
                  refine hr_take (i := 4) rfl rfl (by kernel_rfl) (by kernel_rfl) (by kernel_rfl) (by kernel_rfl) (fun _ _ _ h => h) (v := ?_) ?_ (by assumption) ?_
                  rotate_left
                  focus (intro wS hSw; (try dsimp only at hSw); go_simp; (try with_reducible rfl))
                  simp only [List.set_cons_zero, List.set_cons_succ]
                  refine hr_take (i := 5) rfl rfl (by kernel_rfl) (by kernel_rfl) (by kernel_rfl) (by kernel_rfl) (fun _ _ _ h => h) (v := ?_) ?_ (by assumption) ?_
                  rotate_left
                  focus (intro wS hSw; (try dsimp only at hSw); go_simp; (try with_reducible rfl))
                  simp only [List.set_cons_zero, List.set_cons_succ]
                  refine hr_skip (i := 6) rfl rfl (by kernel_rfl) (by kernel_rfl) (by kernel_rfl) (by kernel_rfl) (fun _ _ _ h => h) (by assumption) ?_
                  simp only [List.set_cons_zero, List.set_cons_succ]
                  refine hr_skip (i := 7) rfl rfl (by kernel_rfl) (by kernel_rfl) (by kernel_rfl) (by kernel_rfl) (fun _ _ _ h => h) (by assumption) ?_
                  simp only [List.set_cons_zero, List.set_cons_succ]
                  refine hr_skip (i := 8) rfl rfl (by kernel_rfl) (by kernel_rfl) (by kernel_rfl) (by kernel_rfl) (fun _ _ _ h => h) (by assumption) ?_
                  simp only [List.set_cons_zero, List.set_cons_succ]
                  refine hr_take (i := 9) rfl rfl (by kernel_rfl) (by kernel_rfl) (by kernel_rfl) (by kernel_rfl) (fun _ _ _ h => h) (v := ?_) ?_ (by assumption) ?_
                  rotate_left
                  focus (intro wS hSw; (try dsimp only at hSw); go_simp; (try with_reducible rfl))
                  simp only [List.set_cons_zero, List.set_cons_succ]
                  refine hr_take (i := 10) rfl rfl (by kernel_rfl) (by kernel_rfl) (by kernel_rfl) (by kernel_rfl) (fun _ _ _ h => h) (v := ?_) ?_ (by assumption) ?_
                  rotate_left
                  focus (intro wS hSw; (try dsimp only at hSw); go_simp; (try with_reducible rfl))
                  simp only [List.set_cons_zero, List.set_cons_succ]
                  refine hr_skip (i := 11) rfl rfl (by kernel_rfl) (by kernel_rfl) (by kernel_rfl) (by kernel_rfl) (fun _ _ _ h => h) (by assumption) ?_
                  simp only [List.set_cons_zero, List.set_cons_succ]
                  refine hr_skip (i := 12) rfl rfl (by kernel_rfl) (by kernel_rfl) (by kernel_rfl) (by kernel_rfl) (fun _ _ _ h => h) (by assumption) ?_
                  simp only [List.set_cons_zero, List.set_cons_succ]
                  refine hr_skip (i := 13) rfl rfl (by kernel_rfl) (by kernel_rfl) (by kernel_rfl) (by kernel_rfl) (fun _ _ _ h => h) (by assumption) ?_
                  simp only [List.set_cons_zero, List.set_cons_succ]
                  refine hr_skip (i := 14) rfl rfl (by kernel_rfl) (by kernel_rfl) (by kernel_rfl) (by kernel_rfl) (fun _ _ _ h => h) (by assumption) ?_
                  simp only [List.set_cons_zero, List.set_cons_succ]
                  refine hr_skip (i := 15) rfl rfl (by kernel_rfl) (by kernel_rfl) (by kernel_rfl) (by kernel_rfl) (fun _ _ _ h => h) (by assumption) ?_
                  simp only [List.set_cons_zero, List.set_cons_succ]
                  refine hr_skip (i := 16) rfl rfl (by kernel_rfl) (by kernel_rfl) (by kernel_rfl) (by kernel_rfl) (fun _ _ _ h => h) (by assumption) ?_
                  simp only [List.set_cons_zero, List.set_cons_succ]
                  refine hr_skip (i := 17) rfl rfl (by kernel_rfl) (by kernel_rfl) (by kernel_rfl) (by kernel_rfl) (fun _ _ _ h => h) (by assumption) ?_
                  simp only [List.set_cons_zero, List.set_cons_succ]
                  refine hr_skip (i := 18) rfl rfl (by kernel_rfl) (by kernel_rfl) (by kernel_rfl) (by kernel_rfl) (fun _ _ _ h => h) (by assumption) ?_
                  simp only [List.set_cons_zero, List.set_cons_succ]
                  refine hr_skip (i := 19) rfl rfl (by kernel_rfl) (by kernel_rfl) (by kernel_rfl) (by kernel_rfl) (fun _ _ _ h => h) (by assumption) ?_
                  simp only [List.set_cons_zero, List.set_cons_succ]
                  refine hr_skip (i := 20) rfl rfl (by kernel_rfl) (by kernel_rfl) (by kernel_rfl) (by kernel_rfl) (fun _ _ _ h => h) (by assumption) ?_
                  simp only [List.set_cons_zero, List.set_cons_succ]
                  refine hr_skip (i := 21) rfl rfl (by kernel_rfl) (by kernel_rfl) (by kernel_rfl) (by kernel_rfl) (fun _ _ _ h => h) (by assumption) ?_
                  simp only [List.set_cons_zero, List.set_cons_succ]
                  refine hr_skip (i := 22) rfl rfl (by kernel_rfl) (by kernel_rfl) (by kernel_rfl) (by kernel_rfl) (fun _ _ _ h => h) (by assumption) ?_
                  simp only [List.set_cons_zero, List.set_cons_succ]
                  refine hr_skip (i := 23) rfl rfl (by kernel_rfl) (by kernel_rfl) (by kernel_rfl) (by kernel_rfl) (fun _ _ _ h => h) (by assumption) ?_
                  simp only [List.set_cons_zero, List.set_cons_succ]
                  refine hr_take (i := 24) rfl rfl (by kernel_rfl) (by kernel_rfl) (by kernel_rfl) (by kernel_rfl) (fun _ _ _ h => h) (v := ?_) ?_ (by assumption) ?_
                  rotate_left
                  focus (intro wS hSw; (try dsimp only at hSw); go_simp; (try with_reducible rfl))
                  simp only [List.set_cons_zero, List.set_cons_succ]
                  refine hr_done (by kernel_rfl) ?_
                  go_wp2_with fail
                  go_roundw
                  case rel => exact ⟨i + 1, by omega, by go_num, by (repeat (first | (with_reducible exact Below.refl _ _) | (with_reducible assumption) | (with_reducible refine Below.grow ?_ ?_ _ _) | (with_reducible refine Below.drewN' ?_ _) | (with_reducible refine Below.drew ?_) | (with_reducible refine Below.alloc ?_ ?_ _) | (with_reducible refine Below.setCell ?_ ?_ _) | omega | (focus (simp; done)) | (focus (simp; omega))))⟩
                  case measure => simp [intOf]; omega
              · have hL1 : decide ((v : Int) - m ≤ i) = true := by simp; omega
                have hL2 : decide (i < v) = false := by simpa using hiv
                have hI : decide ((k : Int) + m ≤ i) = true := by simp; omega
                clear hcg' hcf' hch'
                go_wp2_with fail
                refine hr_start (S := (fun w' => w'.cell? ⟨bb, 0, none⟩ = some (.slice (some ⟨kh, oh, none⟩) n cap2) ∧ w'.cell? ⟨bb, 1, none⟩ = some (.bool wb) ∧ w'.cell? ⟨bb, 2, none⟩ = some (.int .i64 dir) ∧ w'.cell? ⟨bb, 3, none⟩ = some (.bool ex) ∧ w'.cell? ⟨w.heap.size, 0, none⟩ = some (.slice (some ⟨bf, of_, none⟩) n cap) ∧ w'.cell? ⟨w.heap.size, 1, none⟩ = some (.bool wb) ∧ w'.cell? ⟨w.heap.size, 2, none⟩ = some (.int .i64 dir) ∧ w'.cell? ⟨w.heap.size, 3, none⟩ = some (.bool ex) ∧ w'.cell? ⟨w.heap.size + 1, 0, none⟩ = some (.int .i64 fg) ∧ w'.cell? ⟨w.heap.size + 1, 1, none⟩ = some (.int .i64 bg) ∧ w'.cell? ⟨w.heap.size + 1, 2, none⟩ = some (.int .i64 fl) ∧ w'.cell? ⟨kh, oh + i * 7, none⟩ = some (.int .i64 (h i).r) ∧ w'.cell? ⟨kh, oh + i * 7 + 1, none⟩ = some (.int .i64 (h i).m0) ∧ w'.cell? ⟨kh, oh + i * 7 + 2, none⟩ = some (.int .i64 (h i).m1) ∧ w'.cell? ⟨kh, oh + i * 7 + 3, none⟩ = some (.int .i64 (h i).w) ∧ w'.cell? ⟨kh, oh + i * 7 + 4, none⟩ = some (.int .i64 (h i).fg) ∧ w'.cell? ⟨kh, oh + i * 7 + 5, none⟩ = some (.int .i64 (h i).bg) ∧ w'.cell? ⟨kh, oh + i * 7 + 6, none⟩ = some (.int .i64 (h i).fl) ∧ w'.cell? ⟨bf, of_ + i * 7, none⟩ = some (.int .i64 (f i).r) ∧ w'.cell? ⟨bf, of_ + i * 7 + 1, none⟩ = some (.int .i64 (f i).m0) ∧ w'.cell? ⟨bf, of_ + i * 7 + 2, none⟩ = some (.int .i64 (f i).m1) ∧ w'.cell? ⟨bf, of_ + i * 7 + 3, none⟩ = some (.int .i64 (f i).w) ∧ w'.cell? ⟨bf, of_ + i * 7 + 4, none⟩ = some (.int .i64 (f i).fg) ∧ w'.cell? ⟨bf, of_ + i * 7 + 5, none⟩ = some (.int .i64 (f i).bg) ∧ w'.cell? ⟨bf, of_ + i * 7 + 6, none⟩ = some (.int .i64 (f i).fl))) (by kernel_rfl) rfl ?_ (fun hHeld => ?_)
                · ((try dsimp only); go_simp)
                refine hr_take (i := 0) rfl rfl (by kernel_rfl) (by kernel_rfl) (by kernel_rfl) (by kernel_rfl) (fun _ _ _ h => h) (v := ?_) ?_ (by assumption) ?_
                rotate_left
                focus (intro wS hSw; (try dsimp only at hSw); go_simp; (try with_reducible rfl))
                simp only [List.set_cons_zero, List.set_cons_succ]
                refine hr_take (i := 1) rfl rfl (by kernel_rfl) (by kernel_rfl) (by kernel_rfl) (by kernel_rfl) (fun _ _ _ h => h) (v := ?_) ?_ (by assumption) ?_
                rotate_left
                focus (intro wS hSw; (try dsimp only at hSw); go_simp; (try with_reducible rfl))
                simp only [List.set_cons_zero, List.set_cons_succ]
                refine hr_take (i := 2) rfl rfl (by kernel_rfl) (by kernel_rfl) (by kernel_rfl) (by kernel_rfl) (fun _ _ _ h => h) (v := ?_) ?_ (by assumption) ?_
                rotate_left
                focus (intro wS hSw; (try dsimp only at hSw); go_simp; (try with_reducible rfl))
                simp only [List.set_cons_zero, List.set_cons_succ]
                refine hr_take (i := 3) rfl rfl (by kernel_rfl) (by kernel_rfl) (by kernel_rfl) (by kernel_rfl) (fun _ _ _ h => h) (v := ?_) ?_ (by assumption) ?_
                rotate_left
                focus (intro wS hSw; (try dsimp only at hSw); go_simp; (try with_reducible rfl))
                simp only [List.set_cons_zero, List.set_cons_succ]
                refine hr_take (i := 4) rfl rfl (by kernel_rfl) (by kernel_rfl) (by kernel_rfl) (by kernel_rfl) (fun _ _ _ h => h) (v := ?_) ?_ (by assumption) ?_
                rotate_left
                focus (intro wS hSw; (try dsimp only at hSw); go_simp; (try with_reducible rfl))
                simp only [List.set_cons_zero, List.set_cons_succ]
                refine hr_take (i := 5) rfl rfl (by kernel_rfl) (by kernel_rfl) (by kernel_rfl) (by kernel_rfl) (fun _ _ _ h => h) (v := ?_) ?_ (by assumption) ?_
                rotate_left
                focus (intro wS hSw; (try dsimp only at hSw); go_simp; (try with_reducible rfl))
                simp only [List.set_cons_zero, List.set_cons_succ]
                refine hr_take (i := 6) rfl rfl (by kernel_rfl) (by kernel_rfl) (by kernel_rfl) (by kernel_rfl) (fun _ _ _ h => h) (v := ?_) ?_ (by assumption) ?_
                rotate_left
                focus (intro wS hSw; (try dsimp only at hSw); go_simp; (try with_reducible rfl))
                simp only [List.set_cons_zero, List.set_cons_succ]
                refine hr_take (i := 7) rfl rfl (by kernel_rfl) (by kernel_rfl) (by kernel_rfl) (by kernel_rfl) (fun _ _ _ h => h) (v := ?_) ?_ (by assumption) ?_
                rotate_left
                focus (intro wS hSw; (try dsimp only at hSw); go_simp; (try with_reducible rfl))
                simp only [List.set_cons_zero, List.set_cons_succ]
                refine hr_take (i := 8) rfl rfl (by kernel_rfl) (by kernel_rfl) (by kernel_rfl) (by kernel_rfl) (fun _ _ _ h => h) (v := ?_) ?_ (by assumption) ?_
                rotate_left
                focus (intro wS hSw; (try dsimp only at hSw); go_simp; (try with_reducible rfl))
                simp only [List.set_cons_zero, List.set_cons_succ]
                refine hr_take (i := 9) rfl rfl (by kernel_rfl) (by kernel_rfl) (by kernel_rfl) (by kernel_rfl) (fun _ _ _ h => h) (v := ?_) ?_ (by assumption) ?_
                rotate_left
                focus (intro wS hSw; (try dsimp only at hSw); go_simp; (try with_reducible rfl))
                simp only [List.set_cons_zero, List.set_cons_succ]
                refine hr_take (i := 10) rfl rfl (by kernel_rfl) (by kernel_rfl) (by kernel_rfl) (by kernel_rfl) (fun _ _ _ h => h) (v := ?_) ?_ (by assumption) ?_
                rotate_left
                focus (intro wS hSw; (try dsimp only at hSw); go_simp; (try with_reducible rfl))
                simp only [List.set_cons_zero, List.set_cons_succ]
                refine hr_take (i := 11) rfl rfl (by kernel_rfl) (by kernel_rfl) (by kernel_rfl) (by kernel_rfl) (fun _ _ _ h => h) (v := ?_) ?_ (by assumption) ?_
                rotate_left
                focus (intro wS hSw; (try dsimp only at hSw); go_simp; (try with_reducible rfl))
                simp only [List.set_cons_zero, List.set_cons_succ]
                refine hr_take (i := 12) rfl rfl (by kernel_rfl) (by kernel_rfl) (by kernel_rfl) (by kernel_rfl) (fun _ _ _ h => h) (v := ?_) ?_ (by assumption) ?_
                rotate_left
                focus (intro wS hSw; (try dsimp only at hSw); go_simp; (try with_reducible rfl))
                simp only [List.set_cons_zero, List.set_cons_succ]
                refine hr_take (i := 13) rfl rfl (by kernel_rfl) (by kernel_rfl) (by kernel_rfl) (by kernel_rfl) (fun _ _ _ h => h) (v := ?_) ?_ (by assumption) ?_
                rotate_left
                focus (intro wS hSw; (try dsimp only at hSw); go_simp; (try with_reducible rfl))
                simp only [List.set_cons_zero, List.set_cons_succ]
                refine hr_take (i := 14) rfl rfl (by kernel_rfl) (by kernel_rfl) (by kernel_rfl) (by kernel_rfl) (fun _ _ _ h => h) (v := ?_) ?_ (by assumption) ?_
                rotate_left
                focus (intro wS hSw; (try dsimp only at hSw); go_simp; (try with_reducible rfl))
                simp only [List.set_cons_zero, List.set_cons_succ]
                refine hr_take (i := 15) rfl rfl (by kernel_rfl) (by kernel_rfl) (by kernel_rfl) (by kernel_rfl) (fun _ _ _ h => h) (v := ?_) ?_ (by assumption) ?_
                rotate_left
                focus (intro wS hSw; (try dsimp only at hSw); go_simp; (try with_reducible rfl))
                simp only [List.set_cons_zero, List.set_cons_succ]
                refine hr_take (i := 16) rfl rfl (by kernel_rfl) (by kernel_rfl) (by kernel_rfl) (by kernel_rfl) (fun _ _ _ h => h) (v := ?_) ?_ (by assumption) ?_
                rotate_left
                focus (intro wS hSw; (try dsimp only at hSw); go_simp; (try with_reducible rfl))
                simp only [List.set_cons_zero, List.set_cons_succ]
                refine hr_take (i := 17) rfl rfl (by kernel_rfl) (by kernel_rfl) (by kernel_rfl) (by kernel_rfl) (fun _ _ _ h => h) (v := ?_) ?_ (by assumption) ?_
                rotate_left
                focus (intro wS hSw; (try dsimp only at hSw); go_simp; (try with_reducible rfl))
                simp only [List.set_cons_zero, List.set_cons_succ]
                refine hr_skip (i := 18) rfl rfl (by kernel_rfl) (by kernel_rfl) (by kernel_rfl) (by kernel_rfl) (fun _ _ _ h => h) (by assumption) ?_
                simp only [List.set_cons_zero, List.set_cons_succ]
                refine hr_skip (i := 19) rfl rfl (by kernel_rfl) (by kernel_rfl) (by kernel_rfl) (by kernel_rfl) (fun _ _ _ h => h) (by assumption) ?_
                simp only [List.set_cons_zero, List.set_cons_succ]
                refine hr_skip (i := 20) rfl rfl (by kernel_rfl) (by kernel_rfl) (by kernel_rfl) (by kernel_rfl) (fun _ _ _ h => h) (by assumption) ?_
                simp only [List.set_cons_zero, List.set_cons_succ]
                refine hr_skip (i := 21) rfl rfl (by kernel_rfl) (by kernel_rfl) (by kernel_rfl) (by kernel_rfl) (fun _ _ _ h => h) (by assumption) ?_
                simp only [List.set_cons_zero, List.set_cons_succ]
                refine hr_skip (i := 22) rfl rfl (by kernel_rfl) (by kernel_rfl) (by kernel_rfl) (by kernel_rfl) (fun _ _ _ h => h) (by assumption) ?_
                simp only [List.set_cons_zero, List.set_cons_succ]
                refine hr_skip (i := 23) rfl rfl (by kernel_rfl) (by kernel_rfl) (by kernel_rfl) (by kernel_rfl) (fun _ _ _ h => h) (by assumption) ?_
                simp only [List.set_cons_zero, List.set_cons_succ]
                refine hr_skip (i := 24) rfl rfl (by kernel_rfl) (by kernel_rfl) (by kernel_rfl) (by kernel_rfl) (fun _ _ _ h => h) (by assumption) ?_
                simp only [List.set_cons_zero, List.set_cons_succ]
                refine hr_skip (i := 25) rfl rfl (by kernel_rfl) (by kernel_rfl) (by kernel_rfl) (by kernel_rfl) (fun _ _ _ h => h) (by assumption) ?_
                simp only [List.set_cons_zero, List.set_cons_succ]
                refine hr_take (i := 26) rfl rfl (by kernel_rfl) (by kernel_rfl) (by kernel_rfl) (by kernel_rfl) (fun _ _ _ h => h) (v := ?_) ?_ (by assumption) ?_
                rotate_left
                focus (intro wS hSw; (try dsimp only at hSw); go_simp; (try with_reducible rfl))
                simp only [List.set_cons_zero, List.set_cons_succ]
                refine hr_take (i := 27) rfl rfl (by kernel_rfl) (by kernel_rfl) (by kernel_rfl) (by kernel_rfl) (fun _ _ _ h => h) (v := ?_) ?_ (by assumption) ?_
                rotate_left
                focus (intro wS hSw; (try dsimp only at hSw); go_simp; (try with_reducible rfl))
                simp only [List.set_cons_zero, List.set_cons_succ]
                refine hr_done (by kernel_rfl) ?_
                go_wp2_with fail
                refine hr_start (S := (fun w' => w'.cell? ⟨ba, 0, none⟩ = some (.slice (some ⟨kg, og, none⟩) n cap') ∧ w'.cell? ⟨ba, 1, none⟩ = some (.bool wb) ∧ w'.cell? ⟨ba, 2, none⟩ = some (.int .i64 dir) ∧ w'.cell? ⟨ba, 3, none⟩ = some (.bool ex))) (by kernel_rfl) rfl ?_ (fun hHeld => ?_)
                · ((try dsimp only); go_simp)
                refine hr_take (i := 0) rfl rfl (by kernel_rfl) (by kernel_rfl) (by kernel_rfl) (by kernel_rfl) (fun _ _ _ h => h) (v := ?_) ?_ (by assumption) ?_
                rotate_left
                focus (intro wS hSw; (try dsimp only at hSw); go_simp; (try with_reducible rfl))
                simp only [List.set_cons_zero, List.set_cons_succ]
                refine hr_take (i := 1) rfl rfl (by kernel_rfl) (by kernel_rfl) (by kernel_rfl) (by kernel_rfl) (fun _ _ _ h => h) (v := ?_) ?_ (by assumption) ?_
                rotate_left
                focus (intro wS hSw; (try dsimp only at hSw); go_simp; (try with_reducible rfl))
                simp only [List.set_cons_zero, List.set_cons_succ]
                refine hr_take (i := 2) rfl rfl (by kernel_rfl) (by kernel_rfl) (by kernel_rfl) (by kernel_rfl) (fun _ _ _ h => h) (v := ?_) ?_ (by assumption) ?_
                rotate_left
                focus (intro wS hSw; (try dsimp only at hSw); go_simp; (try with_reducible rfl))
                simp only [List.set_cons_zero, List.set_cons_succ]
                refine hr_take (i := 3) rfl rfl (by kernel_rfl) (by kernel_rfl) (by kernel_rfl) (by kernel_rfl) (fun _ _ _ h => h) (v := ?_) ?_ (by assumption) ?_
                rotate_left
                focus (intro wS hSw; (try dsimp only at hSw); go_simp; (try with_reducible rfl))
                simp only [List.set_cons_zero, List.set_cons_succ]
                refine hr_take (i := 4) rfl rfl (by kernel_rfl) (by kernel_rfl) (by kernel_rfl) (by kernel_rfl) (fun _ _ _ h => h) (v := ?_) ?_ (by assumption) ?_
                rotate_left
                focus (intro wS hSw; (try dsimp only at hSw); go_simp; (try with_reducible rfl))
                simp only [List.set_cons_zero, List.set_cons_succ]
                refine hr_take (i := 5) rfl rfl (by kernel_rfl) (by kernel_rfl) (by kernel_rfl) (by kernel_rfl) (fun _ _ _ h => h) (v := ?_) ?_ (by assumption) ?_
                rotate_left
                focus (intro wS hSw; (try dsimp only at hSw); go_simp; (try with_reducible rfl))
                simp only [List.set_cons_zero, List.set_cons_succ]
                refine hr_take (i := 6) rfl rfl (by kernel_rfl) (by kernel_rfl) (by kernel_rfl) (by kernel_rfl) (fun _ _ _ h => h) (v := ?_) ?_ (by assumption) ?_
                rotate_left
                focus (intro wS hSw; (try dsimp only at hSw); go_simp; (try with_reducible rfl))
                simp only [List.set_cons_zero, List.set_cons_succ]
                refine hr_take (i := 7) rfl rfl (by kernel_rfl) (by kernel_rfl) (by kernel_rfl) (by kernel_rfl) (fun _ _ _ h => h) (v := ?_) ?_ (by assumption) ?_
                rotate_left
                focus (intro wS hSw; (try dsimp only at hSw); go_simp; (try with_reducible rfl))
                simp only [List.set_cons_zero, List.set_cons_succ]
                refine hr_take (i := 8) rfl rfl (by kernel_rfl) (by kernel_rfl) (by kernel_rfl) (by kernel_rfl) (fun _ _ _ h => h) (v := ?_) ?_ (by assumption) ?_
                rotate_left
                focus (intro wS hSw; (try dsimp only at hSw); go_simp; (try with_reducible rfl))
                simp only [List.set_cons_zero, List.set_cons_succ]
                refine hr_take (i := 9) rfl rfl (by kernel_rfl) (by kernel_rfl) (by kernel_rfl) (by kernel_rfl) (fun _ _ _ h => h) (v := ?_) ?_ (by assumption) ?_
                rotate_left
                focus (intro wS hSw; (try dsimp only at hSw); go_simp; (try with_reducible rfl))
                simp only [List.set_cons_zero, List.set_cons_succ]
                refine hr_take (i := 10) rfl rfl (by kernel_rfl) (by kernel_rfl) (by kernel_rfl) (by kernel_rfl) (fun _ _ _ h => h) (v := ?_) ?_ (by assumption) ?_
                rotate_left
                focus (intro wS hSw; (try dsimp only at hSw); go_simp; (try with_reducible rfl))
                simp only [List.set_cons_zero, List.set_cons_succ]
                refine hr_skip (i := 11) rfl rfl (by kernel_rfl) (by kernel_rfl) (by kernel_rfl) (by kernel_rfl) (fun _ _ _ h => h) (by assumption) ?_
                simp only [List.set_cons_zero, List.set_cons_succ]
                refine hr_skip (i := 12) rfl rfl (by kernel_rfl) (by kernel_rfl) (by kernel_rfl) (by kernel_rfl) (fun _ _ _ h => h) (by assumption) ?_
                simp only [List.set_cons_zero, List.set_cons_succ]
                refine hr_skip (i := 13) rfl rfl (by kernel_rfl) (by kernel_rfl) (by kernel_rfl) (by kernel_rfl) (fun _ _ _ h => h) (by assumption) ?_
                simp only [List.set_cons_zero, List.set_cons_succ]
                refine hr_skip (i := 14) rfl rfl (by kernel_rfl) (by kernel_rfl) (by kernel_rfl) (by kernel_rfl) (fun _ _ _ h => h) (by assumption) ?_
                simp only [List.set_cons_zero, List.set_cons_succ]
                refine hr_skip (i := 15) rfl rfl (by kernel_rfl) (by kernel_rfl) (by kernel_rfl) (by kernel_rfl) (fun _ _ _ h => h) (by assumption) ?_
                simp only [List.set_cons_zero, List.set_cons_succ]
                refine hr_skip (i := 16) rfl rfl (by kernel_rfl) (by kernel_rfl) (by kernel_rfl) (by kernel_rfl) (fun _ _ _ h => h) (by assumption) ?_
                simp only [List.set_cons_zero, List.set_cons_succ]
                refine hr_skip (i := 17) rfl rfl (by kernel_rfl) (by kernel_rfl) (by kernel_rfl) (by kernel_rfl) (fun _ _ _ h => h) (by assumption) ?_
                simp only [List.set_cons_zero, List.set_cons_succ]
                refine hr_skip (i := 18) rfl rfl (by kernel_rfl) (by kernel_rfl) (by kernel_rfl) (by kernel_rfl) (fun _ _ _ h => h) (by assumption) ?_
                simp only [List.set_cons_zero, List.set_cons_succ]
                refine hr_skip (i := 19) rfl rfl (by kernel_rfl) (by kernel_rfl) (by kernel_rfl) (by kernel_rfl) (fun _ _ _ h => h) (by assumption) ?_
                simp only [List.set_cons_zero, List.set_cons_succ]
                refine hr_skip (i := 20) rfl rfl (by kernel_rfl) (by kernel_rfl) (by kernel_rfl) (by kernel_rfl) (fun _ _ _ h => h) (by assumption) ?_
                simp only [List.set_cons_zero, List.set_cons_succ]
                refine hr_skip (i := 21) rfl rfl (by kernel_rfl) (by kernel_rfl) (by kernel_rfl) (by kernel_rfl) (fun _ _ _ h => h) (by assumption) ?_
                simp only [List.set_cons_zero, List.set_cons_succ]
                refine hr_skip (i := 22) rfl rfl (by kernel_rfl) (by kernel_rfl) (by kernel_rfl) (by kernel_rfl) (fun _ _ _ h => h) (by assumption) ?_
                simp only [List.set_cons_zero, List.set_cons_succ]
                refine hr_skip (i := 23) rfl rfl (by kernel_rfl) (by kernel_rfl) (by kernel_rfl) (by kernel_rfl) (fun _ _ _ h => h) (by assumption) ?_
                simp only [List.set_cons_zero, List.set_cons_succ]
                refine hr_take (i := 24) rfl rfl (by kernel_rfl) (by kernel_rfl) (by kernel_rfl) (by kernel_rfl) (fun _ _ _ h => h) (v := ?_) ?_ (by assumption) ?_
                rotate_left
                focus (intro wS hSw; (try dsimp only at hSw); go_simp; (try with_reducible rfl))
                simp only [List.set_cons_zero, List.set_cons_succ]
                refine hr_done (by kernel_rfl) ?_
                go_wp2_with fail
                go_roundw
                case rel => exact ⟨i + 1, by omega, by go_num, by (repeat (first | (with_reducible exact Below.refl _ _) | (with_reducible assumption) | (with_reducible refine Below.grow ?_ ?_ _ _) | (with_reducible refine Below.drewN' ?_ _) | (with_reducible refine Below.drew ?_) | (with_reducible refine Below.alloc ?_ ?_ _) | (with_reducible refine Below.setCell ?_ ?_ _) | omega | (focus (simp; done)) | (focus (simp; omega))))⟩
                case measure => simp [intOf]; omega
            -->1
          · go_wp2_with fail
            go_ret
            exact ⟨rfl, (Below.toGrow (by repeat (first | (with_reducible exact Below.refl _ _) | (with_reducible assumption) | (with_reducible refine Below.grow ?_ ?_ _ _) | (with_reducible refine Below.drewN' ?_ _) | (with_reducible refine Below.drew ?_) | (with_reducible refine Below.alloc ?_ ?_ _) | (with_reducible refine Below.setCell ?_ ?_ _) | omega | (focus (simp; done)) | (focus (simp; omega)))))⟩
      · clear HTH HNO HNO2 HGS
        go_wp2_with fail
        go_ret
        exact ⟨rfl, (Below.toGrow (by repeat (first | (with_reducible exact Below.refl _ _) | (with_reducible assumption) | (with_reducible refine Below.grow ?_ ?_ _ _) | (with_reducible refine Below.drewN' ?_ _) | (with_reducible refine Below.drew ?_) | (with_reducible refine Below.alloc ?_ ?_ _) | (with_reducible refine Below.setCell ?_ ?_ _) | omega | (focus (simp; done)) | (focus (simp; omega)))))⟩

theorem moves_law (A : Option Addr) (n cap : Nat) (f : Nat → Cl) (wb : Bool) (dir : Int) (ex : Bool) (a b d fg bg fl : Int) (w : World) (hr : Rd w A n f) (hncap : n ≤ cap) :
    Calls Try.prog 7 #[.agg #[.slice A n cap, .bool wb, .int .i64 dir, .bool ex], .int .i64 a, .int .i64 b, .int .i64 d, .agg #[.int .i64 fg, .int .i64 bg, .int .i64 fl]] w fun e w' => e = .returned (.bool true) ∧ Grew w w' := by
  by_cases hn : n ≤ 300
  · cases hs : saneB n f dir
    · exact moves_insane A n cap f wb dir ex a b d fg bg fl w hr hn hs
    · exact moves_sane A n cap f wb dir ex a b d fg bg fl w hr hncap hn hs
  · exact moves_long A n cap wb dir ex a b d fg bg fl w (by omega)
end Go.Proofs.Ytpnadnjcacaibaa.Row
