/- The law's walk: RowErases. -/
import Derived.Test.YtpnadnjcacaibaaRowF
import Derived.Test.YtpnadnjcacaibaaRowW
import Derived.Test.YtpnadnjcacaibaaGrewQ
namespace Go.Proofs.Ytpnadnjcacaibaa.Row
open Go.RowKit
set_option maxRecDepth 100000 in
set_option maxHeartbeats 2000000 in
theorem erases_long (A : Option Addr) (n cap : Nat) (wb : Bool) (dir : Int) (ex : Bool) (a b fg bg fl : Int) (w : World) (hn : 300 < n) :
    Calls Try.prog 6 #[.agg #[.slice A n cap, .bool wb, .int .i64 dir, .bool ex], .int .i64 a, .int .i64 b, .agg #[.int .i64 fg, .int .i64 bg, .int .i64 fl]] w fun e w' => e = .returned (.bool true) ∧ Grew w w' := by
  have hn' : 300 < (n : Int) := by omega
  go_enter Try.func6, Try.ntmps6
  go_wp2_with (first | (go_at_call 14; refine (awake_c _).mono ?_; rintro e w1 ⟨rfl, XA, dA, rfl⟩))
  go_ret
  exact ⟨rfl, (Below.toGrow (by repeat (first | (with_reducible exact Below.refl _ _) | (with_reducible assumption) | (with_reducible refine Below.grow ?_ ?_ _ _) | (with_reducible refine Below.drewN' ?_ _) | (with_reducible refine Below.drew ?_) | (with_reducible refine Below.alloc ?_ ?_ _) | (with_reducible refine Below.setCell ?_ ?_ _) | omega | (focus (simp; done)) | (focus (simp; omega)))))⟩
set_option maxRecDepth 100000 in
set_option maxHeartbeats 2000000 in
theorem erases_insane (A : Option Addr) (n cap : Nat) (f : Nat → Cl) (wb : Bool) (dir : Int) (ex : Bool) (a b fg bg fl : Int) (w : World) (hr : Rd w A n f) (hn : n ≤ 300) (hs : saneB n f dir = false) :
    Calls Try.prog 6 #[.agg #[.slice A n cap, .bool wb, .int .i64 dir, .bool ex], .int .i64 a, .int .i64 b, .agg #[.int .i64 fg, .int .i64 bg, .int .i64 fl]] w fun e w' => e = .returned (.bool true) ∧ Grew w w' := by
  go_enter Try.func6, Try.ntmps6
  go_wp2_with (first | (go_at_call 14; refine (awake_c _).mono ?_; rintro e w1 ⟨rfl, XA, dA, rfl⟩) | (go_at_call 15; refine (sane_c A n cap f wb dir ex _ (hr.below (by (repeat (first | (with_reducible exact Below.refl _ _) | (with_reducible assumption) | (with_reducible refine Below.grow ?_ ?_ _ _) | (with_reducible refine Below.drewN' ?_ _) | (with_reducible refine Below.drew ?_) | (with_reducible refine Below.alloc ?_ ?_ _) | (with_reducible refine Below.setCell ?_ ?_ _) | omega | (focus (simp; done)) | (focus (simp; omega)))))) (by omega)).mono ?_; rintro e w1 ⟨rfl, X1, d1, rfl⟩))
  go_ret
  exact ⟨rfl, (Below.toGrow (by repeat (first | (with_reducible exact Below.refl _ _) | (with_reducible assumption) | (with_reducible refine Below.grow ?_ ?_ _ _) | (with_reducible refine Below.drewN' ?_ _) | (with_reducible refine Below.drew ?_) | (with_reducible refine Below.alloc ?_ ?_ _) | (with_reducible refine Below.setCell ?_ ?_ _) | omega | (focus (simp; done)) | (focus (simp; omega)))))⟩

set_option maxRecDepth 100000 in
set_option maxHeartbeats 4000000 in
theorem erases_sane (A : Option Addr) (n cap : Nat) (f : Nat → Cl) (wb : Bool) (dir : Int) (ex : Bool) (a b fg bg fl : Int) (w : World) (hr : Rd w A n f) (hn : n ≤ 300) (hs : saneB n f dir = true) :
    Calls Try.prog 6 #[.agg #[.slice A n cap, .bool wb, .int .i64 dir, .bool ex], .int .i64 a, .int .i64 b, .agg #[.int .i64 fg, .int .i64 bg, .int .i64 fl]] w fun e w' => e = .returned (.bool true) ∧ Grew w w' := by
  have hn1 := (sane_len hs).1
  obtain ⟨bf, of_, rfl, hbf, hcf⟩ := hr (by omega)
  clear hcf
  have hand : bits .and .i64 a 65535 = a % 65536 := and_mask 16 (by omega) a
  have handb : bits .and .i64 b 65535 = b % 65536 := and_mask 16 (by omega) b
  have hp0 : 0 ≤ a % 65536 := by omega
  have hp1 : 0 ≤ b % 65536 := by omega
  obtain ⟨F, hF⟩ : ∃ k : Nat, a % 65536 % ((n : Int) + 1) = (k : Int) := ⟨(a % 65536 % ((n : Int) + 1)).toNat, (Int.toNat_of_nonneg (Int.emod_nonneg _ (by omega))).symm⟩
  obtain ⟨T, hT⟩ : ∃ k : Nat, b % 65536 % ((n : Int) + 1) = (k : Int) := ⟨(b % 65536 % ((n : Int) + 1)).toNat, (Int.toNat_of_nonneg (Int.emod_nonneg _ (by omega))).symm⟩
  have hFn : F ≤ n := by
    have := Int.emod_lt_of_pos (a % 65536) (show (0 : Int) < (n : Int) + 1 by omega)
    omega
  have hTn : T ≤ n := by
    have := Int.emod_lt_of_pos (b % 65536) (show (0 : Int) < (n : Int) + 1 by omega)
    omega
  go_enter Try.func6, Try.ntmps6
  go_wp2_with fail
  generalize hw0 : (w.alloc _).alloc _ = w0
  have hbw : Below w.heap.size w w0 := by rw [← hw0]; (repeat (first | (with_reducible exact Below.refl _ _) | (with_reducible assumption) | (with_reducible refine Below.grow ?_ ?_ _ _) | (with_reducible refine Below.drewN' ?_ _) | (with_reducible refine Below.drew ?_) | (with_reducible refine Below.alloc ?_ ?_ _) | (with_reducible refine Below.setCell ?_ ?_ _) | omega | (focus (simp; done)) | (focus (simp; omega))))
  have hB1 : Blk w0 w.heap.size 24 #[.slice (some ⟨bf, of_, none⟩) n cap, .bool wb, .int .i64 dir, .bool ex] := by rw [← hw0]; exact (Blk.new _ _ _).alloc _
  have hB2 : Blk w0 (w.heap.size + 1) 27 #[.int .i64 fg, .int .i64 bg, .int .i64 fl] := by rw [← hw0]; exact Blk.new_at (by simp)
  clear hw0
  obtain ⟨r0, r1, r2, r3, rf, rl⟩ := hB1.facts4; obtain ⟨c0, c1, c2, cf, cl⟩ := hB2.facts3
  refine (awake_c _).mono ?_
  rintro e w1 ⟨rfl, hg⟩
  replace hg := hg.below
  replace hbw := hbw.trans (hg.mono hbw.size); replace hB1 := hB1.below hg hB1.lt; clear r0 r1 r2 r3 rf rl; obtain ⟨r0, r1, r2, r3, rf, rl⟩ := hB1.facts4; replace hB2 := hB2.below hg hB2.lt; clear c0 c1 c2 cf cl; obtain ⟨c0, c1, c2, cf, cl⟩ := hB2.facts3; clear hg
  go_wp2_with fail
  refine (sane_c (some ⟨bf, of_, none⟩) n cap f wb dir ex _ (hr.below hbw) (by omega)).mono ?_
  rintro e w2 ⟨rfl, hg⟩
  replace hg := hg.below
  replace hbw := hbw.trans (hg.mono hbw.size); replace hB1 := hB1.below hg hB1.lt; clear r0 r1 r2 r3 rf rl; obtain ⟨r0, r1, r2, r3, rf, rl⟩ := hB1.facts4; replace hB2 := hB2.below hg hB2.lt; clear c0 c1 c2 cf cl; obtain ⟨c0, c1, c2, cf, cl⟩ := hB2.facts3; clear hg
  go_wp2_with fail
  simp only [hF, hT]
  clear hF hT hand handb hp0 hp1
  have hgs := erase_sane hs F (max F T) fg bg fl
  have HTH := Lib.hid (fun (h1 : F < max F T) (h2 : penB fg bg fl = true) => erase_there hs h1 h2)
  have HTW := Lib.hid (fun (i : Nat) (hi : i < n) => erase_twice (F := F) (T := max F T) (fg := fg) (bg := bg) (fl := fl) hs hi)
  have HNO := Lib.hid (fun h => erase_none_eq (n := n) (f := f) (F := F) (T := max F T) (fg := fg) (bg := bg) (fl := fl) h)
  have HC := fun w => erase_c (some ⟨bf, of_, none⟩) n cap f wb dir ex F T F (max F T) fg bg fl w
  generalize eraseR n f F (max F T) fg bg fl = g at *
  refine (HC _ (hr.below hbw) hs (by omega) (by omega)).mono ?_
  rintro e w3 ⟨B, cap', rfl, hg, hrg⟩
  clear HC
  replace hg := hg.below
  replace hbw := hbw.trans (hg.mono hbw.size); replace hB1 := hB1.below hg hB1.lt; clear r0 r1 r2 r3 rf rl; obtain ⟨r0, r1, r2, r3, rf, rl⟩ := hB1.facts4; replace hB2 := hB2.below hg hB2.lt; clear c0 c1 c2 cf cl; obtain ⟨c0, c1, c2, cf, cl⟩ := hB2.facts3; clear hg
  go_wp2_with fail
  generalize hw4 : w3.alloc _ = w4
  have hg : Below w3.heap.size w3 w4 := by rw [← hw4]; (repeat (first | (with_reducible exact Below.refl _ _) | (with_reducible assumption) | (with_reducible refine Below.grow ?_ ?_ _ _) | (with_reducible refine Below.drewN' ?_ _) | (with_reducible refine Below.drew ?_) | (with_reducible refine Below.alloc ?_ ?_ _) | (with_reducible refine Below.setCell ?_ ?_ _) | omega | (focus (simp; done)) | (focus (simp; omega))))
  have hB3 : Blk w4 w3.heap.size 24 #[.slice B n cap', .bool wb, .int .i64 dir, .bool ex] := by rw [← hw4]; exact Blk.new _ _ _
  clear hw4
  replace hrg := hrg.below hg
  have hbn : w.heap.size + 1 < w3.heap.size := cl
  replace hbw := hbw.trans (hg.mono hbw.size); replace hB1 := hB1.below hg hB1.lt; clear r0 r1 r2 r3 rf rl; obtain ⟨r0, r1, r2, r3, rf, rl⟩ := hB1.facts4; replace hB2 := hB2.below hg hB2.lt; clear c0 c1 c2 cf cl; obtain ⟨c0, c1, c2, cf, cl⟩ := hB2.facts3; clear hg
  obtain ⟨s0, s1, s2, s3, sf, sl⟩ := hB3.facts4
  generalize w3.heap.size = b3 at *
  have hnq := neq_cell
  have heq := eql_cell
  obtain ⟨kg, og, rfl, hbg, hcg⟩ := hrg (by omega)
  clear hcg
  refine (same_c (some ⟨kg, og, none⟩) n cap' g wb dir ex (some ⟨bf, of_, none⟩) n cap f wb dir ex _ hrg (hr.below hbw) (by omega) (by omega)).mono ?_
  rintro e w5 ⟨rfl, hg⟩
  replace hg := hg.below
  replace hrg := hrg.below hg
  have hbr := hr.below hbw |>.below hg
  replace hbw := hbw.trans (hg.mono hbw.size); replace hB1 := hB1.below hg hB1.lt; clear r0 r1 r2 r3 rf rl; obtain ⟨r0, r1, r2, r3, rf, rl⟩ := hB1.facts4; replace hB2 := hB2.below hg hB2.lt; clear c0 c1 c2 cf cl; obtain ⟨c0, c1, c2, cf, cl⟩ := hB2.facts3; replace hB3 := hB3.below hg hB3.lt; clear s0 s1 s2 s3 sf sl; obtain ⟨s0, s1, s2, s3, sf, sl⟩ := hB3.facts4; clear hg
  have hsb : ∀ (h g : Nat → Cl), (∀ i, i < n → h i = g i) → sameRowB n h wb dir ex n g wb dir ex = true := fun f g h => by
    unfold sameRowB sameB
    simp
    exact h
  have hsbn : ∀ (h g : Nat → Cl), ¬ (∀ i, i < n → h i = g i) → sameRowB n h wb dir ex n g wb dir ex = false := fun f g h => by
    unfold sameRowB sameB
    rw [decide_eq_false (fun hh => h hh.2)]
    rfl
  have HSB := Lib.hid hsb
  have HSBN := Lib.hid hsbn
  clear hsb hsbn
  have HE := fun w => erase_c (some ⟨kg, og, none⟩) n cap' g wb dir ex F T F (max F T) fg bg fl w
  have hsm : sameRowB n (eraseR n g F (max F T) fg bg fl) wb dir ex n g wb dir ex = true := HSB.out _ _ HTW.out
  generalize eraseR n g F (max F T) fg bg fl = h at *
  clear HTW
  have HE : ∀ w, Rd w (some ⟨kg, og, none⟩) n g → saneB n g dir = true → _ := fun w h1 h2 => HE w h1 h2 (by omega) (by omega)
  by_cases hgf : ∀ i, i < n → g i = f i
  · have hs1 := HSB.out g f hgf
    clear hgf HTH HNO HSB HSBN
    go_wp2_with fail
    refine hr_start (S := (fun w' => w'.cell? ⟨b3, 0, none⟩ = some (.slice (some ⟨kg, og, none⟩) n cap') ∧ w'.cell? ⟨b3, 1, none⟩ = some (.bool wb) ∧ w'.cell? ⟨b3, 2, none⟩ = some (.int .i64 dir) ∧ w'.cell? ⟨b3, 3, none⟩ = some (.bool ex) ∧ w'.cell? ⟨w.heap.size + 1, 0, none⟩ = some (.int .i64 fg) ∧ w'.cell? ⟨w.heap.size + 1, 1, none⟩ = some (.int .i64 bg) ∧ w'.cell? ⟨w.heap.size + 1, 2, none⟩ = some (.int .i64 fl))) (by kernel_rfl) rfl ?_ (fun hHeld => ?_)
    · ((try dsimp only); go_simp)
    refine hr_take (i := 0) rfl rfl (by kernel_rfl) (by kernel_rfl) (by kernel_rfl) (by kernel_rfl) (fun _ _ _ h => h) (v := ?_) ?_ (by assumption) ?_
    rotate_left
    focus (intro wS hSw; (try dsimp only at hSw); go_simp; (try with_reducible rfl))
    simp only [List.set_cons_zero, List.set_cons_succ]
    refine hr_take (i := 1) rfl rfl (by kernel_rfl) (by kernel_rfl) (by kernel_rfl) (by kernel_rfl) (fun _ _ _ h => h) (v := ?_) ?_ (by assumption) ?_
    rotate_left
    focus (intro wS hSw; (try dsimp only at hSw); go_simp; (try with_reducible rfl))
    simp only [List.set_cons_zero, List.set_cons_succ]
    refine hr_take (i := 2) rfl rfl (by kernel_rfl) (by kernel_rfl) (by kernel_rfl) (by kernel_rfl) (fun _ _ _ h => h) (v := ?_) ?_ (by assumption) ?_
    rotate_left
    focus (intro wS hSw; (try dsimp only at hSw); go_simp; (try with_reducible rfl))
    simp only [List.set_cons_zero, List.set_cons_succ]
    refine hr_take (i := 3) rfl rfl (by kernel_rfl) (by kernel_rfl) (by kernel_rfl) (by kernel_rfl) (fun _ _ _ h => h) (v := ?_) ?_ (by assumption) ?_
    rotate_left
    focus (intro wS hSw; (try dsimp only at hSw); go_simp; (try with_reducible rfl))
    simp only [List.set_cons_zero, List.set_cons_succ]
    refine hr_take (i := 4) rfl rfl (by kernel_rfl) (by kernel_rfl) (by kernel_rfl) (by kernel_rfl) (fun _ _ _ h => h) (v := ?_) ?_ (by assumption) ?_
    rotate_left
    focus (intro wS hSw; (try dsimp only at hSw); go_simp; (try with_reducible rfl))
    simp only [List.set_cons_zero, List.set_cons_succ]
    refine hr_take (i := 5) rfl rfl (by kernel_rfl) (by kernel_rfl) (by kernel_rfl) (by kernel_rfl) (fun _ _ _ h => h) (v := ?_) ?_ (by assumption) ?_
    rotate_left
    focus (intro wS hSw; (try dsimp only at hSw); go_simp; (try with_reducible rfl))
    simp only [List.set_cons_zero, List.set_cons_succ]
    refine hr_take (i := 7) rfl rfl (by kernel_rfl) (by kernel_rfl) (by kernel_rfl) (by kernel_rfl) (fun _ _ _ h => h) (v := ?_) ?_ (by assumption) ?_
    rotate_left
    focus (intro wS hSw; (try dsimp only at hSw); go_simp; (try with_reducible rfl))
    simp only [List.set_cons_zero, List.set_cons_succ]
    refine hr_op (i := 6) rfl rfl (by kernel_rfl) (by kernel_rfl) (fun K hK => ?_)
    go_simp
    ((with_reducible refine (HE _ (hrg.below (by (repeat (first | (with_reducible exact Below.refl _ _) | (with_reducible assumption) | (with_reducible refine Below.grow ?_ ?_ _ _) | (with_reducible refine Below.drewN' ?_ _) | (with_reducible refine Below.drew ?_) | (with_reducible refine Below.alloc ?_ ?_ _) | (with_reducible refine Below.setCell ?_ ?_ _) | omega | (focus (simp; done)) | (focus (simp; omega)))))) hgs).mono ?_); rintro e wp ⟨B2, cap2, rfl, ⟨X6, d6, rfl⟩, hr6⟩; replace hr6 : Rd (w5.grow X6 d6) _ _ _ := hr6)
    (try go_wp2_with fail)
    refine hK.out _ _ ?_ (fun hHeld => ?_)
    · ((try dsimp only); go_simp)
    clear hK K
    simp only [List.set_cons_zero, List.set_cons_succ]
    refine hr_op (i := 8) rfl rfl (by kernel_rfl) (by kernel_rfl) (fun K hK => ?_)
    go_simp
    ((with_reducible refine (same_c B2 n cap2 h wb dir ex (some ⟨kg, og, none⟩) n cap' g wb dir ex _ (hr6.below (by (repeat (first | (with_reducible exact Below.refl _ _) | (with_reducible assumption) | (with_reducible refine Below.grow ?_ ?_ _ _) | (with_reducible refine Below.drewN' ?_ _) | (with_reducible refine Below.drew ?_) | (with_reducible refine Below.alloc ?_ ?_ _) | (with_reducible refine Below.setCell ?_ ?_ _) | omega | (focus (simp; done)) | (focus (simp; omega)))))) (hrg.below (by (repeat (first | (with_reducible exact Below.refl _ _) | (with_reducible assumption) | (with_reducible refine Below.grow ?_ ?_ _ _) | (with_reducible refine Below.drewN' ?_ _) | (with_reducible refine Below.drew ?_) | (with_reducible refine Below.alloc ?_ ?_ _) | (with_reducible refine Below.setCell ?_ ?_ _) | omega | (focus (simp; done)) | (focus (simp; omega)))))) (by omega) (by omega)).mono ?_); rintro e ws ⟨rfl, X7, d7, rfl⟩)
    (try go_wp2_with fail)
    refine hK.out _ _ ?_ (fun hHeld => ?_)
    · ((try dsimp only); go_simp)
    clear hK K
    simp only [List.set_cons_zero, List.set_cons_succ]
    refine hr_take (i := 9) rfl rfl (by kernel_rfl) (by kernel_rfl) (by kernel_rfl) (by kernel_rfl) (fun _ _ _ h => h) (v := ?_) ?_ (by assumption) ?_
    rotate_left
    focus (intro wS hSw; (try dsimp only at hSw); go_simp; (try with_reducible rfl))
    simp only [List.set_cons_zero, List.set_cons_succ]
    refine hr_take (i := 10) rfl rfl (by kernel_rfl) (by kernel_rfl) (by kernel_rfl) (by kernel_rfl) (fun _ _ _ h => h) (v := ?_) ?_ (by assumption) ?_
    rotate_left
    focus (intro wS hSw; (try dsimp only at hSw); go_simp; (try with_reducible rfl))
    simp only [List.set_cons_zero, List.set_cons_succ]
    refine hr_done (by kernel_rfl) ?_
    go_wp2_with fail
    go_ret
    exact ⟨rfl, (Below.toGrow (by repeat (first | (with_reducible exact Below.refl _ _) | (with_reducible assumption) | (with_reducible refine Below.grow ?_ ?_ _ _) | (with_reducible refine Below.drewN' ?_ _) | (with_reducible refine Below.drew ?_) | (with_reducible refine Below.alloc ?_ ?_ _) | (with_reducible refine Below.setCell ?_ ?_ _) | omega | (focus (simp; done)) | (focus (simp; omega)))))⟩
  · have hs1 := HSBN.out g f hgf
    have hpF : penB fg bg fl = true ∧ F < max F T := by
      apply Classical.byContradiction
      intro hh
      exact hgf fun i _ => by rw [HNO.out hh]
    have hFT : F < T := by omega
    have eT : max F T = T := by omega
    rw [eT] at HTH
    obtain ⟨t1, t2⟩ := HTH.out hFT hpF.1
    have HT1 := Lib.hid t1
    have HT2 := Lib.hid t2
    clear t1 t2 HTH HNO HSB HSBN hgf hpF eT
    go_wp2_with fail
    go_loopw [14] (fun v wz => ∃ i : Nat, i ≤ n ∧ v = .int .i64 i ∧ Below w5.heap.size w5 wz) (fun v _ => n - (intOf v).toNat)
    case atStart => exact ⟨0, Nat.zero_le _, rfl, Below.refl _ _⟩
    case round =>
      obtain ⟨i, hi, rfl, hg⟩ := hrel
      have hgq := hg
      replace hrg := hrg.below hg
      replace hbr := hbr.below hg
      replace hbw := hbw.trans (hg.mono hbw.size); replace hB1 := hB1.below hg hB1.lt; clear r0 r1 r2 r3 rf rl; obtain ⟨r0, r1, r2, r3, rf, rl⟩ := hB1.facts4; replace hB2 := hB2.below hg hB2.lt; clear c0 c1 c2 cf cl; obtain ⟨c0, c1, c2, cf, cl⟩ := hB2.facts3; replace hB3 := hB3.below hg hB3.lt; clear s0 s1 s2 s3 sf sl; obtain ⟨s0, s1, s2, s3, sf, sl⟩ := hB3.facts4; clear hg
      by_cases hlt : i < n
      ·
        --<1
        have hltI : (i : Int) < n := by omega
        obtain ⟨_, _, e1, hbg', hcg'⟩ := hrg (by omega)
        obtain ⟨rfl, rfl⟩ : kg = _ ∧ og = _ := by simpa using e1
        obtain ⟨_, _, e2, hbf', hcf'⟩ := hbr (by omega)
        obtain ⟨rfl, rfl⟩ : bf = _ ∧ of_ = _ := by simpa using e2
        clear e1 e2
        obtain ⟨q0, q1, q2, q3, q4, q5, q6⟩ := hcg' i hlt
        obtain ⟨p0, p1, p2, p3, p4, p5, p6⟩ := hcf' i hlt
        clear hcg' hcf'
        have hwr2 : IntKind.i64.wrap ((F : Int) - 1) = (F : Int) - 1 := IntWalk.i64_in _ (by omega)
        by_cases hFi : F ≤ i
        · have hA : decide (F ≤ i) = true := by simpa using hFi
          have hE1 : ((i : Int) == (F : Int) - 1) = false := by simp; omega
          by_cases hiT : i < T
          · have hA' : decide (i < T) = true := by simpa using hiT
            have hE2 : ((i : Int) == (T : Int)) = false := by simp; omega
            have hd2 : decide (g i = blank fg bg fl) = true := decide_eq_true (HT1.out i hlt hFi hiT)
            --<2
            go_wp2_with fail
            refine hr_start (S := (fun w' => w'.cell? ⟨b3, 0, none⟩ = some (.slice (some ⟨kg, og, none⟩) n cap') ∧ w'.cell? ⟨b3, 1, none⟩ = some (.bool wb) ∧ w'.cell? ⟨b3, 2, none⟩ = some (.int .i64 dir) ∧ w'.cell? ⟨b3, 3, none⟩ = some (.bool ex) ∧ w'.cell? ⟨w.heap.size, 0, none⟩ = some (.slice (some ⟨bf, of_, none⟩) n cap) ∧ w'.cell? ⟨w.heap.size, 1, none⟩ = some (.bool wb) ∧ w'.cell? ⟨w.heap.size, 2, none⟩ = some (.int .i64 dir) ∧ w'.cell? ⟨w.heap.size, 3, none⟩ = some (.bool ex) ∧ w'.cell? ⟨w.heap.size + 1, 0, none⟩ = some (.int .i64 fg) ∧ w'.cell? ⟨w.heap.size + 1, 1, none⟩ = some (.int .i64 bg) ∧ w'.cell? ⟨w.heap.size + 1, 2, none⟩ = some (.int .i64 fl) ∧ w'.cell? ⟨kg, og + i * 7, none⟩ = some (.int .i64 (g i).r) ∧ w'.cell? ⟨kg, og + i * 7 + 1, none⟩ = some (.int .i64 (g i).m0) ∧ w'.cell? ⟨kg, og + i * 7 + 2, none⟩ = some (.int .i64 (g i).m1) ∧ w'.cell? ⟨kg, og + i * 7 + 3, none⟩ = some (.int .i64 (g i).w) ∧ w'.cell? ⟨kg, og + i * 7 + 4, none⟩ = some (.int .i64 (g i).fg) ∧ w'.cell? ⟨kg, og + i * 7 + 5, none⟩ = some (.int .i64 (g i).bg) ∧ w'.cell? ⟨kg, og + i * 7 + 6, none⟩ = some (.int .i64 (g i).fl) ∧ w'.cell? ⟨bf, of_ + i * 7, none⟩ = some (.int .i64 (f i).r) ∧ w'.cell? ⟨bf, of_ + i * 7 + 1, none⟩ = some (.int .i64 (f i).m0) ∧ w'.cell? ⟨bf, of_ + i * 7 + 2, none⟩ = some (.int .i64 (f i).m1) ∧ w'.cell? ⟨bf, of_ + i * 7 + 3, none⟩ = some (.int .i64 (f i).w) ∧ w'.cell? ⟨bf, of_ + i * 7 + 4, none⟩ = some (.int .i64 (f i).fg) ∧ w'.cell? ⟨bf, of_ + i * 7 + 5, none⟩ = some (.int .i64 (f i).bg) ∧ w'.cell? ⟨bf, of_ + i * 7 + 6, none⟩ = some (.int .i64 (f i).fl))) (by kernel_rfl) rfl ?_ (fun hHeld => ?_)
            · ((try dsimp only); go_simp)
            refine hr_take (i := 0) rfl rfl (by kernel_rfl) (by kernel_rfl) (by kernel_rfl) (by kernel_rfl) (fun _ _ _ h => h) (v := ?_) ?_ (by assumption) ?_
            rotate_left
            focus (intro wS hSw; (try dsimp only at hSw); go_simp; (try with_reducible rfl))
            simp only [List.set_cons_zero, List.set_cons_succ]
            refine hr_take (i := 1) rfl rfl (by kernel_rfl) (by kernel_rfl) (by kernel_rfl) (by kernel_rfl) (fun _ _ _ h => h) (v := ?_) ?_ (by assumption) ?_
            rotate_left
            focus (intro wS hSw; (try dsimp only at hSw); go_simp; (try with_reducible rfl))
            simp only [List.set_cons_zero, List.set_cons_succ]
            refine hr_take (i := 2) rfl rfl (by kernel_rfl) (by kernel_rfl) (by kernel_rfl) (by kernel_rfl) (fun _ _ _ h => h) (v := ?_) ?_ (by assumption) ?_
            rotate_left
            focus (intro wS hSw; (try dsimp only at hSw); go_simp; (try with_reducible rfl))
            simp only [List.set_cons_zero, List.set_cons_succ]
            refine hr_take (i := 3) rfl rfl (by kernel_rfl) (by kernel_rfl) (by kernel_rfl) (by kernel_rfl) (fun _ _ _ h => h) (v := ?_) ?_ (by assumption) ?_
            rotate_left
            focus (intro wS hSw; (try dsimp only at hSw); go_simp; (try with_reducible rfl))
            simp only [List.set_cons_zero, List.set_cons_succ]
            refine hr_take (i := 4) rfl rfl (by kernel_rfl) (by kernel_rfl) (by kernel_rfl) (by kernel_rfl) (fun _ _ _ h => h) (v := ?_) ?_ (by assumption) ?_
            rotate_left
            focus (intro wS hSw; (try dsimp only at hSw); go_simp; (try with_reducible rfl))
            simp only [List.set_cons_zero, List.set_cons_succ]
            refine hr_take (i := 5) rfl rfl (by kernel_rfl) (by kernel_rfl) (by kernel_rfl) (by kernel_rfl) (fun _ _ _ h => h) (v := ?_) ?_ (by assumption) ?_
            rotate_left
            focus (intro wS hSw; (try dsimp only at hSw); go_simp; (try with_reducible rfl))
            simp only [List.set_cons_zero, List.set_cons_succ]
            refine hr_take (i := 6) rfl rfl (by kernel_rfl) (by kernel_rfl) (by kernel_rfl) (by kernel_rfl) (fun _ _ _ h => h) (v := ?_) ?_ (by assumption) ?_
            rotate_left
            focus (intro wS hSw; (try dsimp only at hSw); go_simp; (try with_reducible rfl))
            simp only [List.set_cons_zero, List.set_cons_succ]
            refine hr_take (i := 7) rfl rfl (by kernel_rfl) (by kernel_rfl) (by kernel_rfl) (by kernel_rfl) (fun _ _ _ h => h) (v := ?_) ?_ (by assumption) ?_
            rotate_left
            focus (intro wS hSw; (try dsimp only at hSw); go_simp; (try with_reducible rfl))
            simp only [List.set_cons_zero, List.set_cons_succ]
            refine hr_op (i := 8) rfl rfl (by kernel_rfl) (by kernel_rfl) (fun K hK => ?_)
            go_simp
            ((with_reducible refine (blank_c _ _ _ _).mono ?_); rintro e wq ⟨rfl, X8, d8, rfl⟩)
            (try go_wp2_with fail)
            refine hK.out _ _ ?_ (fun hHeld => ?_)
            · ((try dsimp only); go_simp)
            clear hK K
            simp only [List.set_cons_zero, List.set_cons_succ]
            refine hr_take (i := 9) rfl rfl (by kernel_rfl) (by kernel_rfl) (by kernel_rfl) (by kernel_rfl) (fun _ _ _ h => h) (v := ?_) ?_ (by assumption) ?_
            rotate_left
            focus (intro wS hSw; (try dsimp only at hSw); go_simp; (try with_reducible rfl))
            simp only [List.set_cons_zero, List.set_cons_succ]
            refine hr_take (i := 10) rfl rfl (by kernel_rfl) (by kernel_rfl) (by kernel_rfl) (by kernel_rfl) (fun _ _ _ h => h) (v := ?_) ?_ (by assumption) ?_
            rotate_left
            focus (intro wS hSw; (try dsimp only at hSw); go_simp; (try with_reducible rfl))
            simp only [List.set_cons_zero, List.set_cons_succ]
            refine hr_take (i := 11) rfl rfl (by kernel_rfl) (by kernel_rfl) (by kernel_rfl) (by kernel_rfl) (fun _ _ _ h => h) (v := ?_) ?_ (by assumption) ?_
            rotate_left
            focus (intro wS hSw; (try dsimp only at hSw); go_simp; (try with_reducible rfl))
            simp only [List.set_cons_zero, List.set_cons_succ]
            refine hr_take (i := 12) rfl rfl (by kernel_rfl) (by kernel_rfl) (by kernel_rfl) (by kernel_rfl) (fun _ _ _ h => h) (v := ?_) ?_ (by assumption) ?_
            rotate_left
            focus (intro wS hSw; (try dsimp only at hSw); go_simp; (try with_reducible rfl))
            simp only [List.set_cons_zero, List.set_cons_succ]
            refine hr_take (i := 13) rfl rfl (by kernel_rfl) (by kernel_rfl) (by kernel_rfl) (by kernel_rfl) (fun _ _ _ h => h) (v := ?_) ?_ (by assumption) ?_
            rotate_left
            focus (intro wS hSw; (try dsimp only at hSw); go_simp; (try with_reducible rfl))
            simp only [List.set_cons_zero, List.set_cons_succ]
            refine hr_take (i := 14) rfl rfl (by kernel_rfl) (by kernel_rfl) (by kernel_rfl) (by kernel_rfl) (fun _ _ _ h => h) (v := ?_) ?_ (by assumption) ?_
            rotate_left
            focus (intro wS hSw; (try dsimp only at hSw); go_simp; (try with_reducible rfl))
            simp only [List.set_cons_zero, List.set_cons_succ]
            refine hr_skip (i := 15) rfl rfl (by kernel_rfl) (by kernel_rfl) (by kernel_rfl) (by kernel_rfl) (fun _ _ _ h => h) (by assumption) ?_
            simp only [List.set_cons_zero, List.set_cons_succ]
            refine hr_skip (i := 16) rfl rfl (by kernel_rfl) (by kernel_rfl) (by kernel_rfl) (by kernel_rfl) (fun _ _ _ h => h) (by assumption) ?_
            simp only [List.set_cons_zero, List.set_cons_succ]
            refine hr_skip (i := 17) rfl rfl (by kernel_rfl) (by kernel_rfl) (by kernel_rfl) (by kernel_rfl) (fun _ _ _ h => h) (by assumption) ?_
            simp only [List.set_cons_zero, List.set_cons_succ]
            refine hr_skip (i := 18) rfl rfl (by kernel_rfl) (by kernel_rfl) (by kernel_rfl) (by kernel_rfl) (fun _ _ _ h => h) (by assumption) ?_
            simp only [List.set_cons_zero, List.set_cons_succ]
            refine hr_skip (i := 19) rfl rfl (by kernel_rfl) (by kernel_rfl) (by kernel_rfl) (by kernel_rfl) (fun _ _ _ h => h) (by assumption) ?_
            simp only [List.set_cons_zero, List.set_cons_succ]
            refine hr_skip (i := 20) rfl rfl (by kernel_rfl) (by kernel_rfl) (by kernel_rfl) (by kernel_rfl) (fun _ _ _ h => h) (by assumption) ?_
            simp only [List.set_cons_zero, List.set_cons_succ]
            refine hr_skip (i := 21) rfl rfl (by kernel_rfl) (by kernel_rfl) (by kernel_rfl) (by kernel_rfl) (fun _ _ _ h => h) (by assumption) ?_
            simp only [List.set_cons_zero, List.set_cons_succ]
            refine hr_skip (i := 22) rfl rfl (by kernel_rfl) (by kernel_rfl) (by kernel_rfl) (by kernel_rfl) (fun _ _ _ h => h) (by assumption) ?_
            simp only [List.set_cons_zero, List.set_cons_succ]
            refine hr_skip (i := 23) rfl rfl (by kernel_rfl) (by kernel_rfl) (by kernel_rfl) (by kernel_rfl) (fun _ _ _ h => h) (by assumption) ?_
            simp only [List.set_cons_zero, List.set_cons_succ]
            refine hr_skip (i := 24) rfl rfl (by kernel_rfl) (by kernel_rfl) (by kernel_rfl) (by kernel_rfl) (fun _ _ _ h => h) (by assumption) ?_
            simp only [List.set_cons_zero, List.set_cons_succ]
            refine hr_skip (i := 25) rfl rfl (by kernel_rfl) (by kernel_rfl) (by kernel_rfl) (by kernel_rfl) (fun _ _ _ h => h) (by assumption) ?_
            simp only [List.set_cons_zero, List.set_cons_succ]
            refine hr_take (i := 26) rfl rfl (by kernel_rfl) (by kernel_rfl) (by kernel_rfl) (by kernel_rfl) (fun _ _ _ h => h) (v := ?_) ?_ (by assumption) ?_
            rotate_left
            focus (intro wS hSw; (try dsimp only at hSw); go_simp; (try with_reducible rfl))
            simp only [List.set_cons_zero, List.set_cons_succ]
            refine hr_take (i := 27) rfl rfl (by kernel_rfl) (by kernel_rfl) (by kernel_rfl) (by kernel_rfl) (fun _ _ _ h => h) (v := ?_) ?_ (by assumption) ?_
            rotate_left
            focus (intro wS hSw; (try dsimp only at hSw); go_simp; (try with_reducible rfl))
            simp only [List.set_cons_zero, List.set_cons_succ]
            refine hr_skip (i := 28) rfl rfl (by kernel_rfl) (by kernel_rfl) (by kernel_rfl) (by kernel_rfl) (fun _ _ _ h => h) (by assumption) ?_
            simp only [List.set_cons_zero, List.set_cons_succ]
            refine hr_skip (i := 29) rfl rfl (by kernel_rfl) (by kernel_rfl) (by kernel_rfl) (by kernel_rfl) (fun _ _ _ h => h) (by assumption) ?_
            simp only [List.set_cons_zero, List.set_cons_succ]
            refine hr_skip (i := 30) rfl rfl (by kernel_rfl) (by kernel_rfl) (by kernel_rfl) (by kernel_rfl) (fun _ _ _ h => h) (by assumption) ?_
            simp only [List.set_cons_zero, List.set_cons_succ]
            refine hr_skip (i := 31) rfl rfl (by kernel_rfl) (by kernel_rfl) (by kernel_rfl) (by kernel_rfl) (fun _ _ _ h => h) (by assumption) ?_
            simp only [List.set_cons_zero, List.set_cons_succ]
            refine hr_skip (i := 32) rfl rfl (by kernel_rfl) (by kernel_rfl) (by kernel_rfl) (by kernel_rfl) (fun _ _ _ h => h) (by assumption) ?_
            simp only [List.set_cons_zero, List.set_cons_succ]
            refine hr_skip (i := 33) rfl rfl (by kernel_rfl) (by kernel_rfl) (by kernel_rfl) (by kernel_rfl) (fun _ _ _ h => h) (by assumption) ?_
            simp only [List.set_cons_zero, List.set_cons_succ]
            refine hr_skip (i := 34) rfl rfl (by kernel_rfl) (by kernel_rfl) (by kernel_rfl) (by kernel_rfl) (fun _ _ _ h => h) (by assumption) ?_
            simp only [List.set_cons_zero, List.set_cons_succ]
            refine hr_skip (i := 35) rfl rfl (by kernel_rfl) (by kernel_rfl) (by kernel_rfl) (by kernel_rfl) (fun _ _ _ h => h) (by assumption) ?_
            simp only [List.set_cons_zero, List.set_cons_succ]
            refine hr_skip (i := 36) rfl rfl (by kernel_rfl) (by kernel_rfl) (by kernel_rfl) (by kernel_rfl) (fun _ _ _ h => h) (by assumption) ?_
            simp only [List.set_cons_zero, List.set_cons_succ]
            refine hr_skip (i := 37) rfl rfl (by kernel_rfl) (by kernel_rfl) (by kernel_rfl) (by kernel_rfl) (fun _ _ _ h => h) (by assumption) ?_
            simp only [List.set_cons_zero, List.set_cons_succ]
            refine hr_skip (i := 38) rfl rfl (by kernel_rfl) (by kernel_rfl) (by kernel_rfl) (by kernel_rfl) (fun _ _ _ h => h) (by assumption) ?_
            simp only [List.set_cons_zero, List.set_cons_succ]
            refine hr_skip (i := 39) rfl rfl (by kernel_rfl) (by kernel_rfl) (by kernel_rfl) (by kernel_rfl) (fun _ _ _ h => h) (by assumption) ?_
            simp only [List.set_cons_zero, List.set_cons_succ]
            refine hr_skip (i := 40) rfl rfl (by kernel_rfl) (by kernel_rfl) (by kernel_rfl) (by kernel_rfl) (fun _ _ _ h => h) (by assumption) ?_
            simp only [List.set_cons_zero, List.set_cons_succ]
            refine hr_skip (i := 41) rfl rfl (by kernel_rfl) (by kernel_rfl) (by kernel_rfl) (by kernel_rfl) (fun _ _ _ h => h) (by assumption) ?_
            simp only [List.set_cons_zero, List.set_cons_succ]
            refine hr_skip (i := 42) rfl rfl (by kernel_rfl) (by kernel_rfl) (by kernel_rfl) (by kernel_rfl) (fun _ _ _ h => h) (by assumption) ?_
            simp only [List.set_cons_zero, List.set_cons_succ]
            refine hr_skip (i := 43) rfl rfl (by kernel_rfl) (by kernel_rfl) (by kernel_rfl) (by kernel_rfl) (fun _ _ _ h => h) (by assumption) ?_
            simp only [List.set_cons_zero, List.set_cons_succ]
            refine hr_skip (i := 44) rfl rfl (by kernel_rfl) (by kernel_rfl) (by kernel_rfl) (by kernel_rfl) (fun _ _ _ h => h) (by assumption) ?_
            simp only [List.set_cons_zero, List.set_cons_succ]
            refine hr_take (i := 45) rfl rfl (by kernel_rfl) (by kernel_rfl) (by kernel_rfl) (by kernel_rfl) (fun _ _ _ h => h) (v := ?_) ?_ (by assumption) ?_
            rotate_left
            focus (intro wS hSw; (try dsimp only at hSw); go_simp; (try with_reducible rfl))
            simp only [List.set_cons_zero, List.set_cons_succ]
            refine hr_take (i := 46) rfl rfl (by kernel_rfl) (by kernel_rfl) (by kernel_rfl) (by kernel_rfl) (fun _ _ _ h => h) (v := ?_) ?_ (by assumption) ?_
            rotate_left
            focus (intro wS hSw; (try dsimp only at hSw); go_simp; (try with_reducible rfl))
            simp only [List.set_cons_zero, List.set_cons_succ]
            refine hr_done (by kernel_rfl) ?_
            go_wp2_with fail
            go_roundw
            case rel => exact ⟨i + 1, by omega, by go_num, hgq.grow hgq.size _ _⟩
            case measure => simp [intOf]; omega
            -->2
          · have hA' : decide (i < T) = false := by simpa using hiT
            by_cases hgf : g i = f i
            · have hd2 : decide (g i = f i) = true := by simpa using hgf
              clear hgf
              --<3
              go_wp2_with fail
              refine hr_start (S := (fun w' => w'.cell? ⟨b3, 0, none⟩ = some (.slice (some ⟨kg, og, none⟩) n cap') ∧ w'.cell? ⟨b3, 1, none⟩ = some (.bool wb) ∧ w'.cell? ⟨b3, 2, none⟩ = some (.int .i64 dir) ∧ w'.cell? ⟨b3, 3, none⟩ = some (.bool ex) ∧ w'.cell? ⟨w.heap.size, 0, none⟩ = some (.slice (some ⟨bf, of_, none⟩) n cap) ∧ w'.cell? ⟨w.heap.size, 1, none⟩ = some (.bool wb) ∧ w'.cell? ⟨w.heap.size, 2, none⟩ = some (.int .i64 dir) ∧ w'.cell? ⟨w.heap.size, 3, none⟩ = some (.bool ex) ∧ w'.cell? ⟨w.heap.size + 1, 0, none⟩ = some (.int .i64 fg) ∧ w'.cell? ⟨w.heap.size + 1, 1, none⟩ = some (.int .i64 bg) ∧ w'.cell? ⟨w.heap.size + 1, 2, none⟩ = some (.int .i64 fl) ∧ w'.cell? ⟨kg, og + i * 7, none⟩ = some (.int .i64 (g i).r) ∧ w'.cell? ⟨kg, og + i * 7 + 1, none⟩ = some (.int .i64 (g i).m0) ∧ w'.cell? ⟨kg, og + i * 7 + 2, none⟩ = some (.int .i64 (g i).m1) ∧ w'.cell? ⟨kg, og + i * 7 + 3, none⟩ = some (.int .i64 (g i).w) ∧ w'.cell? ⟨kg, og + i * 7 + 4, none⟩ = some (.int .i64 (g i).fg) ∧ w'.cell? ⟨kg, og + i * 7 + 5, none⟩ = some (.int .i64 (g i).bg) ∧ w'.cell? ⟨kg, og + i * 7 + 6, none⟩ = some (.int .i64 (g i).fl) ∧ w'.cell? ⟨bf, of_ + i * 7, none⟩ = some (.int .i64 (f i).r) ∧ w'.cell? ⟨bf, of_ + i * 7 + 1, none⟩ = some (.int .i64 (f i).m0) ∧ w'.cell? ⟨bf, of_ + i * 7 + 2, none⟩ = some (.int .i64 (f i).m1) ∧ w'.cell? ⟨bf, of_ + i * 7 + 3, none⟩ = some (.int .i64 (f i).w) ∧ w'.cell? ⟨bf, of_ + i * 7 + 4, none⟩ = some (.int .i64 (f i).fg) ∧ w'.cell? ⟨bf, of_ + i * 7 + 5, none⟩ = some (.int .i64 (f i).bg) ∧ w'.cell? ⟨bf, of_ + i * 7 + 6, none⟩ = some (.int .i64 (f i).fl))) (by kernel_rfl) rfl ?_ (fun hHeld => ?_)
              · ((try dsimp only); go_simp)
              refine hr_take (i := 0) rfl rfl (by kernel_rfl) (by kernel_rfl) (by kernel_rfl) (by kernel_rfl) (fun _ _ _ h => h) (v := ?_) ?_ (by assumption) ?_
              rotate_left
              focus (intro wS hSw; (try dsimp only at hSw); go_simp; (try with_reducible rfl))
              simp only [List.set_cons_zero, List.set_cons_succ]
              refine hr_take (i := 1) rfl rfl (by kernel_rfl) (by kernel_rfl) (by kernel_rfl) (by kernel_rfl) (fun _ _ _ h => h) (v := ?_) ?_ (by assumption) ?_
              rotate_left
              focus (intro wS hSw; (try dsimp only at hSw); go_simp; (try with_reducible rfl))
              simp only [List.set_cons_zero, List.set_cons_succ]
              refine hr_skip (i := 2) rfl rfl (by kernel_rfl) (by kernel_rfl) (by kernel_rfl) (by kernel_rfl) (fun _ _ _ h => h) (by assumption) ?_
              simp only [List.set_cons_zero, List.set_cons_succ]
              refine hr_skip (i := 3) rfl rfl (by kernel_rfl) (by kernel_rfl) (by kernel_rfl) (by kernel_rfl) (fun _ _ _ h => h) (by assumption) ?_
              simp only [List.set_cons_zero, List.set_cons_succ]
              refine hr_skip (i := 4) rfl rfl (by kernel_rfl) (by kernel_rfl) (by kernel_rfl) (by kernel_rfl) (fun _ _ _ h => h) (by assumption) ?_
              simp only [List.set_cons_zero, List.set_cons_succ]
              refine hr_skip (i := 5) rfl rfl (by kernel_rfl) (by kernel_rfl) (by kernel_rfl) (by kernel_rfl) (fun _ _ _ h => h) (by assumption) ?_
              simp only [List.set_cons_zero, List.set_cons_succ]
              refine hr_skip (i := 6) rfl rfl (by kernel_rfl) (by kernel_rfl) (by kernel_rfl) (by kernel_rfl) (fun _ _ _ h => h) (by assumption) ?_
              simp only [List.set_cons_zero, List.set_cons_succ]
              refine hr_skip (i := 7) rfl rfl (by kernel_rfl) (by kernel_rfl) (by kernel_rfl) (by kernel_rfl) (fun _ _ _ h => h) (by assumption) ?_
              simp only [List.set_cons_zero, List.set_cons_succ]
              refine hr_skip (i := 8) rfl rfl (by kernel_rfl) (by kernel_rfl) (by kernel_rfl) (by kernel_rfl) (fun _ _ _ h => h) (by assumption) ?_
              simp only [List.set_cons_zero, List.set_cons_succ]
              refine hr_skip (i := 9) rfl rfl (by kernel_rfl) (by kernel_rfl) (by kernel_rfl) (by kernel_rfl) (fun _ _ _ h => h) (by assumption) ?_
              simp only [List.set_cons_zero, List.set_cons_succ]
              refine hr_take (i := 10) rfl rfl (by kernel_rfl) (by kernel_rfl) (by kernel_rfl) (by kernel_rfl) (fun _ _ _ h => h) (v := ?_) ?_ (by assumption) ?_
              rotate_left
              focus (intro wS hSw; (try dsimp only at hSw); go_simp; (try with_reducible rfl))
              simp only [List.set_cons_zero, List.set_cons_succ]
              refine hr_take (i := 11) rfl rfl (by kernel_rfl) (by kernel_rfl) (by kernel_rfl) (by kernel_rfl) (fun _ _ _ h => h) (v := ?_) ?_ (by assumption) ?_
              rotate_left
              focus (intro wS hSw; (try dsimp only at hSw); go_simp; (try with_reducible rfl))
              simp only [List.set_cons_zero, List.set_cons_succ]
              refine hr_take (i := 12) rfl rfl (by kernel_rfl) (by kernel_rfl) (by kernel_rfl) (by kernel_rfl) (fun _ _ _ h => h) (v := ?_) ?_ (by assumption) ?_
              rotate_left
              focus (intro wS hSw; (try dsimp only at hSw); go_simp; (try with_reducible rfl))
              simp only [List.set_cons_zero, List.set_cons_succ]
              refine hr_take (i := 13) rfl rfl (by kernel_rfl) (by kernel_rfl) (by kernel_rfl) (by kernel_rfl) (fun _ _ _ h => h) (v := ?_) ?_ (by assumption) ?_
              rotate_left
              focus (intro wS hSw; (try dsimp only at hSw); go_simp; (try with_reducible rfl))
              simp only [List.set_cons_zero, List.set_cons_succ]
              refine hr_take (i := 14) rfl rfl (by kernel_rfl) (by kernel_rfl) (by kernel_rfl) (by kernel_rfl) (fun _ _ _ h => h) (v := ?_) ?_ (by assumption) ?_
              rotate_left
              focus (intro wS hSw; (try dsimp only at hSw); go_simp; (try with_reducible rfl))
              simp only [List.set_cons_zero, List.set_cons_succ]
              refine hr_take (i := 15) rfl rfl (by kernel_rfl) (by kernel_rfl) (by kernel_rfl) (by kernel_rfl) (fun _ _ _ h => h) (v := ?_) ?_ (by assumption) ?_
              rotate_left
              focus (intro wS hSw; (try dsimp only at hSw); go_simp; (try with_reducible rfl))
              simp only [List.set_cons_zero, List.set_cons_succ]
              refine hr_take (i := 16) rfl rfl (by kernel_rfl) (by kernel_rfl) (by kernel_rfl) (by kernel_rfl) (fun _ _ _ h => h) (v := ?_) ?_ (by assumption) ?_
              rotate_left
              focus (intro wS hSw; (try dsimp only at hSw); go_simp; (try with_reducible rfl))
              simp only [List.set_cons_zero, List.set_cons_succ]
              refine hr_take (i := 17) rfl rfl (by kernel_rfl) (by kernel_rfl) (by kernel_rfl) (by kernel_rfl) (fun _ _ _ h => h) (v := ?_) ?_ (by assumption) ?_
              rotate_left
              focus (intro wS hSw; (try dsimp only at hSw); go_simp; (try with_reducible rfl))
              simp only [List.set_cons_zero, List.set_cons_succ]
              refine hr_take (i := 18) rfl rfl (by kernel_rfl) (by kernel_rfl) (by kernel_rfl) (by kernel_rfl) (fun _ _ _ h => h) (v := ?_) ?_ (by assumption) ?_
              rotate_left
              focus (intro wS hSw; (try dsimp only at hSw); go_simp; (try with_reducible rfl))
              simp only [List.set_cons_zero, List.set_cons_succ]
              refine hr_take (i := 19) rfl rfl (by kernel_rfl) (by kernel_rfl) (by kernel_rfl) (by kernel_rfl) (fun _ _ _ h => h) (v := ?_) ?_ (by assumption) ?_
              rotate_left
              focus (intro wS hSw; (try dsimp only at hSw); go_simp; (try with_reducible rfl))
              simp only [List.set_cons_zero, List.set_cons_succ]
              refine hr_take (i := 20) rfl rfl (by kernel_rfl) (by kernel_rfl) (by kernel_rfl) (by kernel_rfl) (fun _ _ _ h => h) (v := ?_) ?_ (by assumption) ?_
              rotate_left
              focus (intro wS hSw; (try dsimp only at hSw); go_simp; (try with_reducible rfl))
              simp only [List.set_cons_zero, List.set_cons_succ]
              refine hr_take (i := 21) rfl rfl (by kernel_rfl) (by kernel_rfl) (by kernel_rfl) (by kernel_rfl) (fun _ _ _ h => h) (v := ?_) ?_ (by assumption) ?_
              rotate_left
              focus (intro wS hSw; (try dsimp only at hSw); go_simp; (try with_reducible rfl))
              simp only [List.set_cons_zero, List.set_cons_succ]
              refine hr_take (i := 22) rfl rfl (by kernel_rfl) (by kernel_rfl) (by kernel_rfl) (by kernel_rfl) (fun _ _ _ h => h) (v := ?_) ?_ (by assumption) ?_
              rotate_left
              focus (intro wS hSw; (try dsimp only at hSw); go_simp; (try with_reducible rfl))
              simp only [List.set_cons_zero, List.set_cons_succ]
              refine hr_take (i := 23) rfl rfl (by kernel_rfl) (by kernel_rfl) (by kernel_rfl) (by kernel_rfl) (fun _ _ _ h => h) (v := ?_) ?_ (by assumption) ?_
              rotate_left
              focus (intro wS hSw; (try dsimp only at hSw); go_simp; (try with_reducible rfl))
              simp only [List.set_cons_zero, List.set_cons_succ]
              refine hr_take (i := 24) rfl rfl (by kernel_rfl) (by kernel_rfl) (by kernel_rfl) (by kernel_rfl) (fun _ _ _ h => h) (v := ?_) ?_ (by assumption) ?_
              rotate_left
              focus (intro wS hSw; (try dsimp only at hSw); go_simp; (try with_reducible rfl))
              simp only [List.set_cons_zero, List.set_cons_succ]
              refine hr_take (i := 25) rfl rfl (by kernel_rfl) (by kernel_rfl) (by kernel_rfl) (by kernel_rfl) (fun _ _ _ h => h) (v := ?_) ?_ (by assumption) ?_
              rotate_left
              focus (intro wS hSw; (try dsimp only at hSw); go_simp; (try with_reducible rfl))
              simp only [List.set_cons_zero, List.set_cons_succ]
              refine hr_take (i := 26) rfl rfl (by kernel_rfl) (by kernel_rfl) (by kernel_rfl) (by kernel_rfl) (fun _ _ _ h => h) (v := ?_) ?_ (by assumption) ?_
              rotate_left
              focus (intro wS hSw; (try dsimp only at hSw); go_simp; (try with_reducible rfl))
              simp only [List.set_cons_zero, List.set_cons_succ]
              refine hr_take (i := 27) rfl rfl (by kernel_rfl) (by kernel_rfl) (by kernel_rfl) (by kernel_rfl) (fun _ _ _ h => h) (v := ?_) ?_ (by assumption) ?_
              rotate_left
              focus (intro wS hSw; (try dsimp only at hSw); go_simp; (try with_reducible rfl))
              simp only [List.set_cons_zero, List.set_cons_succ]
              refine hr_skip (i := 28) rfl rfl (by kernel_rfl) (by kernel_rfl) (by kernel_rfl) (by kernel_rfl) (fun _ _ _ h => h) (by assumption) ?_
              simp only [List.set_cons_zero, List.set_cons_succ]
              refine hr_skip (i := 29) rfl rfl (by kernel_rfl) (by kernel_rfl) (by kernel_rfl) (by kernel_rfl) (fun _ _ _ h => h) (by assumption) ?_
              simp only [List.set_cons_zero, List.set_cons_succ]
              refine hr_skip (i := 30) rfl rfl (by kernel_rfl) (by kernel_rfl) (by kernel_rfl) (by kernel_rfl) (fun _ _ _ h => h) (by assumption) ?_
              simp only [List.set_cons_zero, List.set_cons_succ]
              refine hr_skip (i := 31) rfl rfl (by kernel_rfl) (by kernel_rfl) (by kernel_rfl) (by kernel_rfl) (fun _ _ _ h => h) (by assumption) ?_
              simp only [List.set_cons_zero, List.set_cons_succ]
              refine hr_skip (i := 32) rfl rfl (by kernel_rfl) (by kernel_rfl) (by kernel_rfl) (by kernel_rfl) (fun _ _ _ h => h) (by assumption) ?_
              simp only [List.set_cons_zero, List.set_cons_succ]
              refine hr_skip (i := 33) rfl rfl (by kernel_rfl) (by kernel_rfl) (by kernel_rfl) (by kernel_rfl) (fun _ _ _ h => h) (by assumption) ?_
              simp only [List.set_cons_zero, List.set_cons_succ]
              refine hr_skip (i := 34) rfl rfl (by kernel_rfl) (by kernel_rfl) (by kernel_rfl) (by kernel_rfl) (fun _ _ _ h => h) (by assumption) ?_
              simp only [List.set_cons_zero, List.set_cons_succ]
              refine hr_skip (i := 35) rfl rfl (by kernel_rfl) (by kernel_rfl) (by kernel_rfl) (by kernel_rfl) (fun _ _ _ h => h) (by assumption) ?_
              simp only [List.set_cons_zero, List.set_cons_succ]
              refine hr_skip (i := 36) rfl rfl (by kernel_rfl) (by kernel_rfl) (by kernel_rfl) (by kernel_rfl) (fun _ _ _ h => h) (by assumption) ?_
              simp only [List.set_cons_zero, List.set_cons_succ]
              refine hr_skip (i := 37) rfl rfl (by kernel_rfl) (by kernel_rfl) (by kernel_rfl) (by kernel_rfl) (fun _ _ _ h => h) (by assumption) ?_
              simp only [List.set_cons_zero, List.set_cons_succ]
              refine hr_skip (i := 38) rfl rfl (by kernel_rfl) (by kernel_rfl) (by kernel_rfl) (by kernel_rfl) (fun _ _ _ h => h) (by assumption) ?_
              simp only [List.set_cons_zero, List.set_cons_succ]
              refine hr_skip (i := 39) rfl rfl (by kernel_rfl) (by kernel_rfl) (by kernel_rfl) (by kernel_rfl) (fun _ _ _ h => h) (by assumption) ?_
              simp only [List.set_cons_zero, List.set_cons_succ]
              refine hr_skip (i := 40) rfl rfl (by kernel_rfl) (by kernel_rfl) (by kernel_rfl) (by kernel_rfl) (fun _ _ _ h => h) (by assumption) ?_
              simp only [List.set_cons_zero, List.set_cons_succ]
              refine hr_skip (i := 41) rfl rfl (by kernel_rfl) (by kernel_rfl) (by kernel_rfl) (by kernel_rfl) (fun _ _ _ h => h) (by assumption) ?_
              simp only [List.set_cons_zero, List.set_cons_succ]
              refine hr_skip (i := 42) rfl rfl (by kernel_rfl) (by kernel_rfl) (by kernel_rfl) (by kernel_rfl) (fun _ _ _ h => h) (by assumption) ?_
              simp only [List.set_cons_zero, List.set_cons_succ]
              refine hr_skip (i := 43) rfl rfl (by kernel_rfl) (by kernel_rfl) (by kernel_rfl) (by kernel_rfl) (fun _ _ _ h => h) (by assumption) ?_
              simp only [List.set_cons_zero, List.set_cons_succ]
              refine hr_skip (i := 44) rfl rfl (by kernel_rfl) (by kernel_rfl) (by kernel_rfl) (by kernel_rfl) (fun _ _ _ h => h) (by assumption) ?_
              simp only [List.set_cons_zero, List.set_cons_succ]
              refine hr_take (i := 45) rfl rfl (by kernel_rfl) (by kernel_rfl) (by kernel_rfl) (by kernel_rfl) (fun _ _ _ h => h) (v := ?_) ?_ (by assumption) ?_
              rotate_left
              focus (intro wS hSw; (try dsimp only at hSw); go_simp; (try with_reducible rfl))
              simp only [List.set_cons_zero, List.set_cons_succ]
              refine hr_take (i := 46) rfl rfl (by kernel_rfl) (by kernel_rfl) (by kernel_rfl) (by kernel_rfl) (fun _ _ _ h => h) (v := ?_) ?_ (by assumption) ?_
              rotate_left
              focus (intro wS hSw; (try dsimp only at hSw); go_simp; (try with_reducible rfl))
              simp only [List.set_cons_zero, List.set_cons_succ]
              refine hr_done (by kernel_rfl) ?_
              go_wp2_with fail
              go_roundw
              case rel => exact ⟨i + 1, by omega, by go_num, hgq.drew⟩
              case measure => simp [intOf]; omega
              -->3
            · have hd2 : decide (g i = f i) = false := by simpa using hgf
              obtain ⟨hedge, hbl⟩ := (HT2.out i hlt (fun h => hiT h.2)).resolve_left hgf
              have hE2 : ((i : Int) == (T : Int)) = true := by simp; omega
              have hd3 : decide (g i = blank (f i).fg (f i).bg (f i).fl) = true := decide_eq_true hbl
              clear hedge hbl hgf
              --<4
              go_wp2_with fail
              refine hr_start (S := (fun w' => w'.cell? ⟨b3, 0, none⟩ = some (.slice (some ⟨kg, og, none⟩) n cap') ∧ w'.cell? ⟨b3, 1, none⟩ = some (.bool wb) ∧ w'.cell? ⟨b3, 2, none⟩ = some (.int .i64 dir) ∧ w'.cell? ⟨b3, 3, none⟩ = some (.bool ex) ∧ w'.cell? ⟨w.heap.size, 0, none⟩ = some (.slice (some ⟨bf, of_, none⟩) n cap) ∧ w'.cell? ⟨w.heap.size, 1, none⟩ = some (.bool wb) ∧ w'.cell? ⟨w.heap.size, 2, none⟩ = some (.int .i64 dir) ∧ w'.cell? ⟨w.heap.size, 3, none⟩ = some (.bool ex) ∧ w'.cell? ⟨w.heap.size + 1, 0, none⟩ = some (.int .i64 fg) ∧ w'.cell? ⟨w.heap.size + 1, 1, none⟩ = some (.int .i64 bg) ∧ w'.cell? ⟨w.heap.size + 1, 2, none⟩ = some (.int .i64 fl) ∧ w'.cell? ⟨kg, og + i * 7, none⟩ = some (.int .i64 (g i).r) ∧ w'.cell? ⟨kg, og + i * 7 + 1, none⟩ = some (.int .i64 (g i).m0) ∧ w'.cell? ⟨kg, og + i * 7 + 2, none⟩ = some (.int .i64 (g i).m1) ∧ w'.cell? ⟨kg, og + i * 7 + 3, none⟩ = some (.int .i64 (g i).w) ∧ w'.cell? ⟨kg, og + i * 7 + 4, none⟩ = some (.int .i64 (g i).fg) ∧ w'.cell? ⟨kg, og + i * 7 + 5, none⟩ = some (.int .i64 (g i).bg) ∧ w'.cell? ⟨kg, og + i * 7 + 6, none⟩ = some (.int .i64 (g i).fl) ∧ w'.cell? ⟨bf, of_ + i * 7, none⟩ = some (.int .i64 (f i).r) ∧ w'.cell? ⟨bf, of_ + i * 7 + 1, none⟩ = some (.int .i64 (f i).m0) ∧ w'.cell? ⟨bf, of_ + i * 7 + 2, none⟩ = some (.int .i64 (f i).m1) ∧ w'.cell? ⟨bf, of_ + i * 7 + 3, none⟩ = some (.int .i64 (f i).w) ∧ w'.cell? ⟨bf, of_ + i * 7 + 4, none⟩ = some (.int .i64 (f i).fg) ∧ w'.cell? ⟨bf, of_ + i * 7 + 5, none⟩ = some (.int .i64 (f i).bg) ∧ w'.cell? ⟨bf, of_ + i * 7 + 6, none⟩ = some (.int .i64 (f i).fl))) (by kernel_rfl) rfl ?_ (fun hHeld => ?_)
              · ((try dsimp only); go_simp)
              refine hr_take (i := 0) rfl rfl (by kernel_rfl) (by kernel_rfl) (by kernel_rfl) (by kernel_rfl) (fun _ _ _ h => h) (v := ?_) ?_ (by assumption) ?_
              rotate_left
              focus (intro wS hSw; (try dsimp only at hSw); go_simp; (try with_reducible rfl))
              simp only [List.set_cons_zero, List.set_cons_succ]
              refine hr_take (i := 1) rfl rfl (by kernel_rfl) (by kernel_rfl) (by kernel_rfl) (by kernel_rfl) (fun _ _ _ h => h) (v := ?_) ?_ (by assumption) ?_
              rotate_left
              focus (intro wS hSw; (try dsimp only at hSw); go_simp; (try with_reducible rfl))
              simp only [List.set_cons_zero, List.set_cons_succ]
              refine hr_skip (i := 2) rfl rfl (by kernel_rfl) (by kernel_rfl) (by kernel_rfl) (by kernel_rfl) (fun _ _ _ h => h) (by assumption) ?_
              simp only [List.set_cons_zero, List.set_cons_succ]
              refine hr_skip (i := 3) rfl rfl (by kernel_rfl) (by kernel_rfl) (by kernel_rfl) (by kernel_rfl) (fun _ _ _ h => h) (by assumption) ?_
              simp only [List.set_cons_zero, List.set_cons_succ]
              refine hr_skip (i := 4) rfl rfl (by kernel_rfl) (by kernel_rfl) (by kernel_rfl) (by kernel_rfl) (fun _ _ _ h => h) (by assumption) ?_
              simp only [List.set_cons_zero, List.set_cons_succ]
              refine hr_skip (i := 5) rfl rfl (by kernel_rfl) (by kernel_rfl) (by kernel_rfl) (by kernel_rfl) (fun _ _ _ h => h) (by assumption) ?_
              simp only [List.set_cons_zero, List.set_cons_succ]
              refine hr_skip (i := 6) rfl rfl (by kernel_rfl) (by kernel_rfl) (by kernel_rfl) (by kernel_rfl) (fun _ _ _ h => h) (by assumption) ?_
              simp only [List.set_cons_zero, List.set_cons_succ]
              refine hr_skip (i := 7) rfl rfl (by kernel_rfl) (by kernel_rfl) (by kernel_rfl) (by kernel_rfl) (fun _ _ _ h => h) (by assumption) ?_
              simp only [List.set_cons_zero, List.set_cons_succ]
              refine hr_skip (i := 8) rfl rfl (by kernel_rfl) (by kernel_rfl) (by kernel_rfl) (by kernel_rfl) (fun _ _ _ h => h) (by assumption) ?_
              simp only [List.set_cons_zero, List.set_cons_succ]
              refine hr_skip (i := 9) rfl rfl (by kernel_rfl) (by kernel_rfl) (by kernel_rfl) (by kernel_rfl) (fun _ _ _ h => h) (by assumption) ?_
              simp only [List.set_cons_zero, List.set_cons_succ]
              refine hr_take (i := 10) rfl rfl (by kernel_rfl) (by kernel_rfl) (by kernel_rfl) (by kernel_rfl) (fun _ _ _ h => h) (v := ?_) ?_ (by assumption) ?_
              rotate_left
              focus (intro wS hSw; (try dsimp only at hSw); go_simp; (try with_reducible rfl))
              simp only [List.set_cons_zero, List.set_cons_succ]
              refine hr_take (i := 11) rfl rfl (by kernel_rfl) (by kernel_rfl) (by kernel_rfl) (by kernel_rfl) (fun _ _ _ h => h) (v := ?_) ?_ (by assumption) ?_
              rotate_left
              focus (intro wS hSw; (try dsimp only at hSw); go_simp; (try with_reducible rfl))
              simp only [List.set_cons_zero, List.set_cons_succ]
              refine hr_take (i := 12) rfl rfl (by kernel_rfl) (by kernel_rfl) (by kernel_rfl) (by kernel_rfl) (fun _ _ _ h => h) (v := ?_) ?_ (by assumption) ?_
              rotate_left
              focus (intro wS hSw; (try dsimp only at hSw); go_simp; (try with_reducible rfl))
              simp only [List.set_cons_zero, List.set_cons_succ]
              refine hr_take (i := 13) rfl rfl (by kernel_rfl) (by kernel_rfl) (by kernel_rfl) (by kernel_rfl) (fun _ _ _ h => h) (v := ?_) ?_ (by assumption) ?_
              rotate_left
              focus (intro wS hSw; (try dsimp only at hSw); go_simp; (try with_reducible rfl))
              simp only [List.set_cons_zero, List.set_cons_succ]
              refine hr_take (i := 14) rfl rfl (by kernel_rfl) (by kernel_rfl) (by kernel_rfl) (by kernel_rfl) (fun _ _ _ h => h) (v := ?_) ?_ (by assumption) ?_
              rotate_left
              focus (intro wS hSw; (try dsimp only at hSw); go_simp; (try with_reducible rfl))
              simp only [List.set_cons_zero, List.set_cons_succ]
              refine hr_take (i := 15) rfl rfl (by kernel_rfl) (by kernel_rfl) (by kernel_rfl) (by kernel_rfl) (fun _ _ _ h => h) (v := ?_) ?_ (by assumption) ?_
              rotate_left
              focus (intro wS hSw; (try dsimp only at hSw); go_simp; (try with_reducible rfl))
              simp only [List.set_cons_zero, List.set_cons_succ]
              refine hr_take (i := 16) rfl rfl (by kernel_rfl) (by kernel_rfl) (by kernel_rfl) (by kernel_rfl) (fun _ _ _ h => h) (v := ?_) ?_ (by assumption) ?_
              rotate_left
              focus (intro wS hSw; (try dsimp only at hSw); go_simp; (try with_reducible rfl))
              simp only [List.set_cons_zero, List.set_cons_succ]
              refine hr_take (i := 17) rfl rfl (by kernel_rfl) (by kernel_rfl) (by kernel_rfl) (by kernel_rfl) (fun _ _ _ h => h) (v := ?_) ?_ (by assumption) ?_
              rotate_left
              focus (intro wS hSw; (try dsimp only at hSw); go_simp; (try with_reducible rfl))
              simp only [List.set_cons_zero, List.set_cons_succ]
              refine hr_take (i := 18) rfl rfl (by kernel_rfl) (by kernel_rfl) (by kernel_rfl) (by kernel_rfl) (fun _ _ _ h => h) (v := ?_) ?_ (by assumption) ?_
              rotate_left
              focus (intro wS hSw; (try dsimp only at hSw); go_simp; (try with_reducible rfl))
              simp only [List.set_cons_zero, List.set_cons_succ]
              refine hr_take (i := 19) rfl rfl (by kernel_rfl) (by kernel_rfl) (by kernel_rfl) (by kernel_rfl) (fun _ _ _ h => h) (v := ?_) ?_ (by assumption) ?_
              rotate_left
              focus (intro wS hSw; (try dsimp only at hSw); go_simp; (try with_reducible rfl))
              simp only [List.set_cons_zero, List.set_cons_succ]
              refine hr_take (i := 20) rfl rfl (by kernel_rfl) (by kernel_rfl) (by kernel_rfl) (by kernel_rfl) (fun _ _ _ h => h) (v := ?_) ?_ (by assumption) ?_
              rotate_left
              focus (intro wS hSw; (try dsimp only at hSw); go_simp; (try with_reducible rfl))
              simp only [List.set_cons_zero, List.set_cons_succ]
              refine hr_take (i := 21) rfl rfl (by kernel_rfl) (by kernel_rfl) (by kernel_rfl) (by kernel_rfl) (fun _ _ _ h => h) (v := ?_) ?_ (by assumption) ?_
              rotate_left
              focus (intro wS hSw; (try dsimp only at hSw); go_simp; (try with_reducible rfl))
              simp only [List.set_cons_zero, List.set_cons_succ]
              refine hr_take (i := 22) rfl rfl (by kernel_rfl) (by kernel_rfl) (by kernel_rfl) (by kernel_rfl) (fun _ _ _ h => h) (v := ?_) ?_ (by assumption) ?_
              rotate_left
              focus (intro wS hSw; (try dsimp only at hSw); go_simp; (try with_reducible rfl))
              simp only [List.set_cons_zero, List.set_cons_succ]
              refine hr_take (i := 23) rfl rfl (by kernel_rfl) (by kernel_rfl) (by kernel_rfl) (by kernel_rfl) (fun _ _ _ h => h) (v := ?_) ?_ (by assumption) ?_
              rotate_left
              focus (intro wS hSw; (try dsimp only at hSw); go_simp; (try with_reducible rfl))
              simp only [List.set_cons_zero, List.set_cons_succ]
              refine hr_take (i := 24) rfl rfl (by kernel_rfl) (by kernel_rfl) (by kernel_rfl) (by kernel_rfl) (fun _ _ _ h => h) (v := ?_) ?_ (by assumption) ?_
              rotate_left
              focus (intro wS hSw; (try dsimp only at hSw); go_simp; (try with_reducible rfl))
              simp only [List.set_cons_zero, List.set_cons_succ]
              refine hr_take (i := 25) rfl rfl (by kernel_rfl) (by kernel_rfl) (by kernel_rfl) (by kernel_rfl) (fun _ _ _ h => h) (v := ?_) ?_ (by assumption) ?_
              rotate_left
              focus (intro wS hSw; (try dsimp only at hSw); go_simp; (try with_reducible rfl))
              simp only [List.set_cons_zero, List.set_cons_succ]
              refine hr_take (i := 26) rfl rfl (by kernel_rfl) (by kernel_rfl) (by kernel_rfl) (by kernel_rfl) (fun _ _ _ h => h) (v := ?_) ?_ (by assumption) ?_
              rotate_left
              focus (intro wS hSw; (try dsimp only at hSw); go_simp; (try with_reducible rfl))
              simp only [List.set_cons_zero, List.set_cons_succ]
              refine hr_take (i := 27) rfl rfl (by kernel_rfl) (by kernel_rfl) (by kernel_rfl) (by kernel_rfl) (fun _ _ _ h => h) (v := ?_) ?_ (by assumption) ?_
              rotate_left
              focus (intro wS hSw; (try dsimp only at hSw); go_simp; (try with_reducible rfl))
              simp only [List.set_cons_zero, List.set_cons_succ]
              refine hr_take (i := 28) rfl rfl (by kernel_rfl) (by kernel_rfl) (by kernel_rfl) (by kernel_rfl) (fun _ _ _ h => h) (v := ?_) ?_ (by assumption) ?_
              rotate_left
              focus (intro wS hSw; (try dsimp only at hSw); go_simp; (try with_reducible rfl))
              simp only [List.set_cons_zero, List.set_cons_succ]
              refine hr_take (i := 29) rfl rfl (by kernel_rfl) (by kernel_rfl) (by kernel_rfl) (by kernel_rfl) (fun _ _ _ h => h) (v := ?_) ?_ (by assumption) ?_
              rotate_left
              focus (intro wS hSw; (try dsimp only at hSw); go_simp; (try with_reducible rfl))
              simp only [List.set_cons_zero, List.set_cons_succ]
              refine hr_take (i := 30) rfl rfl (by kernel_rfl) (by kernel_rfl) (by kernel_rfl) (by kernel_rfl) (fun _ _ _ h => h) (v := ?_) ?_ (by assumption) ?_
              rotate_left
              focus (intro wS hSw; (try dsimp only at hSw); go_simp; (try with_reducible rfl))
              simp only [List.set_cons_zero, List.set_cons_succ]
              refine hr_take (i := 31) rfl rfl (by kernel_rfl) (by kernel_rfl) (by kernel_rfl) (by kernel_rfl) (fun _ _ _ h => h) (v := ?_) ?_ (by assumption) ?_
              rotate_left
              focus (intro wS hSw; (try dsimp only at hSw); go_simp; (try with_reducible rfl))
              simp only [List.set_cons_zero, List.set_cons_succ]
              refine hr_take (i := 32) rfl rfl (by kernel_rfl) (by kernel_rfl) (by kernel_rfl) (by kernel_rfl) (fun _ _ _ h => h) (v := ?_) ?_ (by assumption) ?_
              rotate_left
              focus (intro wS hSw; (try dsimp only at hSw); go_simp; (try with_reducible rfl))
              simp only [List.set_cons_zero, List.set_cons_succ]
              refine hr_take (i := 33) rfl rfl (by kernel_rfl) (by kernel_rfl) (by kernel_rfl) (by kernel_rfl) (fun _ _ _ h => h) (v := ?_) ?_ (by assumption) ?_
              rotate_left
              focus (intro wS hSw; (try dsimp only at hSw); go_simp; (try with_reducible rfl))
              simp only [List.set_cons_zero, List.set_cons_succ]
              refine hr_take (i := 34) rfl rfl (by kernel_rfl) (by kernel_rfl) (by kernel_rfl) (by kernel_rfl) (fun _ _ _ h => h) (v := ?_) ?_ (by assumption) ?_
              rotate_left
              focus (intro wS hSw; (try dsimp only at hSw); go_simp; (try with_reducible rfl))
              simp only [List.set_cons_zero, List.set_cons_succ]
              refine hr_take (i := 35) rfl rfl (by kernel_rfl) (by kernel_rfl) (by kernel_rfl) (by kernel_rfl) (fun _ _ _ h => h) (v := ?_) ?_ (by assumption) ?_
              rotate_left
              focus (intro wS hSw; (try dsimp only at hSw); go_simp; (try with_reducible rfl))
              simp only [List.set_cons_zero, List.set_cons_succ]
              refine hr_take (i := 36) rfl rfl (by kernel_rfl) (by kernel_rfl) (by kernel_rfl) (by kernel_rfl) (fun _ _ _ h => h) (v := ?_) ?_ (by assumption) ?_
              rotate_left
              focus (intro wS hSw; (try dsimp only at hSw); go_simp; (try with_reducible rfl))
              simp only [List.set_cons_zero, List.set_cons_succ]
              refine hr_take (i := 37) rfl rfl (by kernel_rfl) (by kernel_rfl) (by kernel_rfl) (by kernel_rfl) (fun _ _ _ h => h) (v := ?_) ?_ (by assumption) ?_
              rotate_left
              focus (intro wS hSw; (try dsimp only at hSw); go_simp; (try with_reducible rfl))
              simp only [List.set_cons_zero, List.set_cons_succ]
              refine hr_take (i := 38) rfl rfl (by kernel_rfl) (by kernel_rfl) (by kernel_rfl) (by kernel_rfl) (fun _ _ _ h => h) (v := ?_) ?_ (by assumption) ?_
              rotate_left
              focus (intro wS hSw; (try dsimp only at hSw); go_simp; (try with_reducible rfl))
              simp only [List.set_cons_zero, List.set_cons_succ]
              refine hr_take (i := 39) rfl rfl (by kernel_rfl) (by kernel_rfl) (by kernel_rfl) (by kernel_rfl) (fun _ _ _ h => h) (v := ?_) ?_ (by assumption) ?_
              rotate_left
              focus (intro wS hSw; (try dsimp only at hSw); go_simp; (try with_reducible rfl))
              simp only [List.set_cons_zero, List.set_cons_succ]
              refine hr_take (i := 40) rfl rfl (by kernel_rfl) (by kernel_rfl) (by kernel_rfl) (by kernel_rfl) (fun _ _ _ h => h) (v := ?_) ?_ (by assumption) ?_
              rotate_left
              focus (intro wS hSw; (try dsimp only at hSw); go_simp; (try with_reducible rfl))
              simp only [List.set_cons_zero, List.set_cons_succ]
              refine hr_take (i := 41) rfl rfl (by kernel_rfl) (by kernel_rfl) (by kernel_rfl) (by kernel_rfl) (fun _ _ _ h => h) (v := ?_) ?_ (by assumption) ?_
              rotate_left
              focus (intro wS hSw; (try dsimp only at hSw); go_simp; (try with_reducible rfl))
              simp only [List.set_cons_zero, List.set_cons_succ]
              refine hr_op (i := 42) rfl rfl (by kernel_rfl) (by kernel_rfl) (fun K hK => ?_)
              go_simp
              ((with_reducible refine (blank_c _ _ _ _).mono ?_); rintro e wq ⟨rfl, X8, d8, rfl⟩)
              (try go_wp2_with fail)
              refine hK.out _ _ ?_ (fun hHeld => ?_)
              · ((try dsimp only); go_simp)
              clear hK K
              simp only [List.set_cons_zero, List.set_cons_succ]
              refine hr_take (i := 43) rfl rfl (by kernel_rfl) (by kernel_rfl) (by kernel_rfl) (by kernel_rfl) (fun _ _ _ h => h) (v := ?_) ?_ (by assumption) ?_
              rotate_left
              focus (intro wS hSw; (try dsimp only at hSw); go_simp; (try with_reducible rfl))
              simp only [List.set_cons_zero, List.set_cons_succ]
              refine hr_take (i := 44) rfl rfl (by kernel_rfl) (by kernel_rfl) (by kernel_rfl) (by kernel_rfl) (fun _ _ _ h => h) (v := ?_) ?_ (by assumption) ?_
              rotate_left
              focus (intro wS hSw; (try dsimp only at hSw); go_simp; (try with_reducible rfl))
              simp only [List.set_cons_zero, List.set_cons_succ]
              refine hr_take (i := 45) rfl rfl (by kernel_rfl) (by kernel_rfl) (by kernel_rfl) (by kernel_rfl) (fun _ _ _ h => h) (v := ?_) ?_ (by assumption) ?_
              rotate_left
              focus (intro wS hSw; (try dsimp only at hSw); go_simp; (try with_reducible rfl))
              simp only [List.set_cons_zero, List.set_cons_succ]
              refine hr_take (i := 46) rfl rfl (by kernel_rfl) (by kernel_rfl) (by kernel_rfl) (by kernel_rfl) (fun _ _ _ h => h) (v := ?_) ?_ (by assumption) ?_
              rotate_left
              focus (intro wS hSw; (try dsimp only at hSw); go_simp; (try with_reducible rfl))
              simp only [List.set_cons_zero, List.set_cons_succ]
              refine hr_done (by kernel_rfl) ?_
              go_wp2_with fail
              go_roundw
              case rel => exact ⟨i + 1, by omega, by go_num, hgq.grow hgq.size _ _⟩
              case measure => simp [intOf]; omega
              -->4
        · have hA : decide (F ≤ i) = false := by simpa using hFi
          have hE2 : ((i : Int) == (T : Int)) = false := by simp; omega
          by_cases hiF : i + 1 = F
          · have hE1 : ((i : Int) == (F : Int) - 1) = true := by simp; omega
            by_cases hgf : g i = f i
            · have hd2 : decide (g i = f i) = true := by simpa using hgf
              clear hgf hiF
              --<5
              go_wp2_with fail
              refine hr_start (S := (fun w' => w'.cell? ⟨b3, 0, none⟩ = some (.slice (some ⟨kg, og, none⟩) n cap') ∧ w'.cell? ⟨b3, 1, none⟩ = some (.bool wb) ∧ w'.cell? ⟨b3, 2, none⟩ = some (.int .i64 dir) ∧ w'.cell? ⟨b3, 3, none⟩ = some (.bool ex) ∧ w'.cell? ⟨w.heap.size, 0, none⟩ = some (.slice (some ⟨bf, of_, none⟩) n cap) ∧ w'.cell? ⟨w.heap.size, 1, none⟩ = some (.bool wb) ∧ w'.cell? ⟨w.heap.size, 2, none⟩ = some (.int .i64 dir) ∧ w'.cell? ⟨w.heap.size, 3, none⟩ = some (.bool ex) ∧ w'.cell? ⟨w.heap.size + 1, 0, none⟩ = some (.int .i64 fg) ∧ w'.cell? ⟨w.heap.size + 1, 1, none⟩ = some (.int .i64 bg) ∧ w'.cell? ⟨w.heap.size + 1, 2, none⟩ = some (.int .i64 fl) ∧ w'.cell? ⟨kg, og + i * 7, none⟩ = some (.int .i64 (g i).r) ∧ w'.cell? ⟨kg, og + i * 7 + 1, none⟩ = some (.int .i64 (g i).m0) ∧ w'.cell? ⟨kg, og + i * 7 + 2, none⟩ = some (.int .i64 (g i).m1) ∧ w'.cell? ⟨kg, og + i * 7 + 3, none⟩ = some (.int .i64 (g i).w) ∧ w'.cell? ⟨kg, og + i * 7 + 4, none⟩ = some (.int .i64 (g i).fg) ∧ w'.cell? ⟨kg, og + i * 7 + 5, none⟩ = some (.int .i64 (g i).bg) ∧ w'.cell? ⟨kg, og + i * 7 + 6, none⟩ = some (.int .i64 (g i).fl) ∧ w'.cell? ⟨bf, of_ + i * 7, none⟩ = some (.int .i64 (f i).r) ∧ w'.cell? ⟨bf, of_ + i * 7 + 1, none⟩ = some (.int .i64 (f i).m0) ∧ w'.cell? ⟨bf, of_ + i * 7 + 2, none⟩ = some (.int .i64 (f i).m1) ∧ w'.cell? ⟨bf, of_ + i * 7 + 3, none⟩ = some (.int .i64 (f i).w) ∧ w'.cell? ⟨bf, of_ + i * 7 + 4, none⟩ = some (.int .i64 (f i).fg) ∧ w'.cell? ⟨bf, of_ + i * 7 + 5, none⟩ = some (.int .i64 (f i).bg) ∧ w'.cell? ⟨bf, of_ + i * 7 + 6, none⟩ = some (.int .i64 (f i).fl))) (by kernel_rfl) rfl ?_ (fun hHeld => ?_)
              · ((try dsimp only); go_simp)
              refine hr_take (i := 0) rfl rfl (by kernel_rfl) (by kernel_rfl) (by kernel_rfl) (by kernel_rfl) (fun _ _ _ h => h) (v := ?_) ?_ (by assumption) ?_
              rotate_left
              focus (intro wS hSw; (try dsimp only at hSw); go_simp; (try with_reducible rfl))
              simp only [List.set_cons_zero, List.set_cons_succ]
              refine hr_take (i := 1) rfl rfl (by kernel_rfl) (by kernel_rfl) (by kernel_rfl) (by kernel_rfl) (fun _ _ _ h => h) (v := ?_) ?_ (by assumption) ?_
              rotate_left
              focus (intro wS hSw; (try dsimp only at hSw); go_simp; (try with_reducible rfl))
              simp only [List.set_cons_zero, List.set_cons_succ]
              refine hr_skip (i := 2) rfl rfl (by kernel_rfl) (by kernel_rfl) (by kernel_rfl) (by kernel_rfl) (fun _ _ _ h => h) (by assumption) ?_
              simp only [List.set_cons_zero, List.set_cons_succ]
              refine hr_skip (i := 3) rfl rfl (by kernel_rfl) (by kernel_rfl) (by kernel_rfl) (by kernel_rfl) (fun _ _ _ h => h) (by assumption) ?_
              simp only [List.set_cons_zero, List.set_cons_succ]
              refine hr_skip (i := 4) rfl rfl (by kernel_rfl) (by kernel_rfl) (by kernel_rfl) (by kernel_rfl) (fun _ _ _ h => h) (by assumption) ?_
              simp only [List.set_cons_zero, List.set_cons_succ]
              refine hr_skip (i := 5) rfl rfl (by kernel_rfl) (by kernel_rfl) (by kernel_rfl) (by kernel_rfl) (fun _ _ _ h => h) (by assumption) ?_
              simp only [List.set_cons_zero, List.set_cons_succ]
              refine hr_skip (i := 6) rfl rfl (by kernel_rfl) (by kernel_rfl) (by kernel_rfl) (by kernel_rfl) (fun _ _ _ h => h) (by assumption) ?_
              simp only [List.set_cons_zero, List.set_cons_succ]
              refine hr_skip (i := 7) rfl rfl (by kernel_rfl) (by kernel_rfl) (by kernel_rfl) (by kernel_rfl) (fun _ _ _ h => h) (by assumption) ?_
              simp only [List.set_cons_zero, List.set_cons_succ]
              refine hr_skip (i := 8) rfl rfl (by kernel_rfl) (by kernel_rfl) (by kernel_rfl) (by kernel_rfl) (fun _ _ _ h => h) (by assumption) ?_
              simp only [List.set_cons_zero, List.set_cons_succ]
              refine hr_skip (i := 9) rfl rfl (by kernel_rfl) (by kernel_rfl) (by kernel_rfl) (by kernel_rfl) (fun _ _ _ h => h) (by assumption) ?_
              simp only [List.set_cons_zero, List.set_cons_succ]
              refine hr_take (i := 10) rfl rfl (by kernel_rfl) (by kernel_rfl) (by kernel_rfl) (by kernel_rfl) (fun _ _ _ h => h) (v := ?_) ?_ (by assumption) ?_
              rotate_left
              focus (intro wS hSw; (try dsimp only at hSw); go_simp; (try with_reducible rfl))
              simp only [List.set_cons_zero, List.set_cons_succ]
              refine hr_take (i := 11) rfl rfl (by kernel_rfl) (by kernel_rfl) (by kernel_rfl) (by kernel_rfl) (fun _ _ _ h => h) (v := ?_) ?_ (by assumption) ?_
              rotate_left
              focus (intro wS hSw; (try dsimp only at hSw); go_simp; (try with_reducible rfl))
              simp only [List.set_cons_zero, List.set_cons_succ]
              refine hr_take (i := 12) rfl rfl (by kernel_rfl) (by kernel_rfl) (by kernel_rfl) (by kernel_rfl) (fun _ _ _ h => h) (v := ?_) ?_ (by assumption) ?_
              rotate_left
              focus (intro wS hSw; (try dsimp only at hSw); go_simp; (try with_reducible rfl))
              simp only [List.set_cons_zero, List.set_cons_succ]
              refine hr_take (i := 13) rfl rfl (by kernel_rfl) (by kernel_rfl) (by kernel_rfl) (by kernel_rfl) (fun _ _ _ h => h) (v := ?_) ?_ (by assumption) ?_
              rotate_left
              focus (intro wS hSw; (try dsimp only at hSw); go_simp; (try with_reducible rfl))
              simp only [List.set_cons_zero, List.set_cons_succ]
              refine hr_take (i := 14) rfl rfl (by kernel_rfl) (by kernel_rfl) (by kernel_rfl) (by kernel_rfl) (fun _ _ _ h => h) (v := ?_) ?_ (by assumption) ?_
              rotate_left
              focus (intro wS hSw; (try dsimp only at hSw); go_simp; (try with_reducible rfl))
              simp only [List.set_cons_zero, List.set_cons_succ]
              refine hr_take (i := 15) rfl rfl (by kernel_rfl) (by kernel_rfl) (by kernel_rfl) (by kernel_rfl) (fun _ _ _ h => h) (v := ?_) ?_ (by assumption) ?_
              rotate_left
              focus (intro wS hSw; (try dsimp only at hSw); go_simp; (try with_reducible rfl))
              simp only [List.set_cons_zero, List.set_cons_succ]
              refine hr_take (i := 16) rfl rfl (by kernel_rfl) (by kernel_rfl) (by kernel_rfl) (by kernel_rfl) (fun _ _ _ h => h) (v := ?_) ?_ (by assumption) ?_
              rotate_left
              focus (intro wS hSw; (try dsimp only at hSw); go_simp; (try with_reducible rfl))
              simp only [List.set_cons_zero, List.set_cons_succ]
              refine hr_take (i := 17) rfl rfl (by kernel_rfl) (by kernel_rfl) (by kernel_rfl) (by kernel_rfl) (fun _ _ _ h => h) (v := ?_) ?_ (by assumption) ?_
              rotate_left
              focus (intro wS hSw; (try dsimp only at hSw); go_simp; (try with_reducible rfl))
              simp only [List.set_cons_zero, List.set_cons_succ]
              refine hr_take (i := 18) rfl rfl (by kernel_rfl) (by kernel_rfl) (by kernel_rfl) (by kernel_rfl) (fun _ _ _ h => h) (v := ?_) ?_ (by assumption) ?_
              rotate_left
              focus (intro wS hSw; (try dsimp only at hSw); go_simp; (try with_reducible rfl))
              simp only [List.set_cons_zero, List.set_cons_succ]
              refine hr_take (i := 19) rfl rfl (by kernel_rfl) (by kernel_rfl) (by kernel_rfl) (by kernel_rfl) (fun _ _ _ h => h) (v := ?_) ?_ (by assumption) ?_
              rotate_left
              focus (intro wS hSw; (try dsimp only at hSw); go_simp; (try with_reducible rfl))
              simp only [List.set_cons_zero, List.set_cons_succ]
              refine hr_take (i := 20) rfl rfl (by kernel_rfl) (by kernel_rfl) (by kernel_rfl) (by kernel_rfl) (fun _ _ _ h => h) (v := ?_) ?_ (by assumption) ?_
              rotate_left
              focus (intro wS hSw; (try dsimp only at hSw); go_simp; (try with_reducible rfl))
              simp only [List.set_cons_zero, List.set_cons_succ]
              refine hr_take (i := 21) rfl rfl (by kernel_rfl) (by kernel_rfl) (by kernel_rfl) (by kernel_rfl) (fun _ _ _ h => h) (v := ?_) ?_ (by assumption) ?_
              rotate_left
              focus (intro wS hSw; (try dsimp only at hSw); go_simp; (try with_reducible rfl))
              simp only [List.set_cons_zero, List.set_cons_succ]
              refine hr_take (i := 22) rfl rfl (by kernel_rfl) (by kernel_rfl) (by kernel_rfl) (by kernel_rfl) (fun _ _ _ h => h) (v := ?_) ?_ (by assumption) ?_
              rotate_left
              focus (intro wS hSw; (try dsimp only at hSw); go_simp; (try with_reducible rfl))
              simp only [List.set_cons_zero, List.set_cons_succ]
              refine hr_take (i := 23) rfl rfl (by kernel_rfl) (by kernel_rfl) (by kernel_rfl) (by kernel_rfl) (fun _ _ _ h => h) (v := ?_) ?_ (by assumption) ?_
              rotate_left
              focus (intro wS hSw; (try dsimp only at hSw); go_simp; (try with_reducible rfl))
              simp only [List.set_cons_zero, List.set_cons_succ]
              refine hr_take (i := 24) rfl rfl (by kernel_rfl) (by kernel_rfl) (by kernel_rfl) (by kernel_rfl) (fun _ _ _ h => h) (v := ?_) ?_ (by assumption) ?_
              rotate_left
              focus (intro wS hSw; (try dsimp only at hSw); go_simp; (try with_reducible rfl))
              simp only [List.set_cons_zero, List.set_cons_succ]
              refine hr_take (i := 25) rfl rfl (by kernel_rfl) (by kernel_rfl) (by kernel_rfl) (by kernel_rfl) (fun _ _ _ h => h) (v := ?_) ?_ (by assumption) ?_
              rotate_left
              focus (intro wS hSw; (try dsimp only at hSw); go_simp; (try with_reducible rfl))
              simp only [List.set_cons_zero, List.set_cons_succ]
              refine hr_take (i := 26) rfl rfl (by kernel_rfl) (by kernel_rfl) (by kernel_rfl) (by kernel_rfl) (fun _ _ _ h => h) (v := ?_) ?_ (by assumption) ?_
              rotate_left
              focus (intro wS hSw; (try dsimp only at hSw); go_simp; (try with_reducible rfl))
              simp only [List.set_cons_zero, List.set_cons_succ]
              refine hr_take (i := 27) rfl rfl (by kernel_rfl) (by kernel_rfl) (by kernel_rfl) (by kernel_rfl) (fun _ _ _ h => h) (v := ?_) ?_ (by assumption) ?_
              rotate_left
              focus (intro wS hSw; (try dsimp only at hSw); go_simp; (try with_reducible rfl))
              simp only [List.set_cons_zero, List.set_cons_succ]
              refine hr_skip (i := 28) rfl rfl (by kernel_rfl) (by kernel_rfl) (by kernel_rfl) (by kernel_rfl) (fun _ _ _ h => h) (by assumption) ?_
              simp only [List.set_cons_zero, List.set_cons_succ]
              refine hr_skip (i := 29) rfl rfl (by kernel_rfl) (by kernel_rfl) (by kernel_rfl) (by kernel_rfl) (fun _ _ _ h => h) (by assumption) ?_
              simp only [List.set_cons_zero, List.set_cons_succ]
              refine hr_skip (i := 30) rfl rfl (by kernel_rfl) (by kernel_rfl) (by kernel_rfl) (by kernel_rfl) (fun _ _ _ h => h) (by assumption) ?_
              simp only [List.set_cons_zero, List.set_cons_succ]
              refine hr_skip (i := 31) rfl rfl (by kernel_rfl) (by kernel_rfl) (by kernel_rfl) (by kernel_rfl) (fun _ _ _ h => h) (by assumption) ?_
              simp only [List.set_cons_zero, List.set_cons_succ]
              refine hr_skip (i := 32) rfl rfl (by kernel_rfl) (by kernel_rfl) (by kernel_rfl) (by kernel_rfl) (fun _ _ _ h => h) (by assumption) ?_
              simp only [List.set_cons_zero, List.set_cons_succ]
              refine hr_skip (i := 33) rfl rfl (by kernel_rfl) (by kernel_rfl) (by kernel_rfl) (by kernel_rfl) (fun _ _ _ h => h) (by assumption) ?_
              simp only [List.set_cons_zero, List.set_cons_succ]
              refine hr_skip (i := 34) rfl rfl (by kernel_rfl) (by kernel_rfl) (by kernel_rfl) (by kernel_rfl) (fun _ _ _ h => h) (by assumption) ?_
              simp only [List.set_cons_zero, List.set_cons_succ]
              refine hr_skip (i := 35) rfl rfl (by kernel_rfl) (by kernel_rfl) (by kernel_rfl) (by kernel_rfl) (fun _ _ _ h => h) (by assumption) ?_
              simp only [List.set_cons_zero, List.set_cons_succ]
              refine hr_skip (i := 36) rfl rfl (by kernel_rfl) (by kernel_rfl) (by kernel_rfl) (by kernel_rfl) (fun _ _ _ h => h) (by assumption) ?_
              simp only [List.set_cons_zero, List.set_cons_succ]
              refine hr_skip (i := 37) rfl rfl (by kernel_rfl) (by kernel_rfl) (by kernel_rfl) (by kernel_rfl) (fun _ _ _ h => h) (by assumption) ?_
              simp only [List.set_cons_zero, List.set_cons_succ]
              refine hr_skip (i := 38) rfl rfl (by kernel_rfl) (by kernel_rfl) (by kernel_rfl) (by kernel_rfl) (fun _ _ _ h => h) (by assumption) ?_
              simp only [List.set_cons_zero, List.set_cons_succ]
              refine hr_skip (i := 39) rfl rfl (by kernel_rfl) (by kernel_rfl) (by kernel_rfl) (by kernel_rfl) (fun _ _ _ h => h) (by assumption) ?_
              simp only [List.set_cons_zero, List.set_cons_succ]
              refine hr_skip (i := 40) rfl rfl (by kernel_rfl) (by kernel_rfl) (by kernel_rfl) (by kernel_rfl) (fun _ _ _ h => h) (by assumption) ?_
              simp only [List.set_cons_zero, List.set_cons_succ]
              refine hr_skip (i := 41) rfl rfl (by kernel_rfl) (by kernel_rfl) (by kernel_rfl) (by kernel_rfl) (fun _ _ _ h => h) (by assumption) ?_
              simp only [List.set_cons_zero, List.set_cons_succ]
              refine hr_skip (i := 42) rfl rfl (by kernel_rfl) (by kernel_rfl) (by kernel_rfl) (by kernel_rfl) (fun _ _ _ h => h) (by assumption) ?_
              simp only [List.set_cons_zero, List.set_cons_succ]
              refine hr_skip (i := 43) rfl rfl (by kernel_rfl) (by kernel_rfl) (by kernel_rfl) (by kernel_rfl) (fun _ _ _ h => h) (by assumption) ?_
              simp only [List.set_cons_zero, List.set_cons_succ]
              refine hr_skip (i := 44) rfl rfl (by kernel_rfl) (by kernel_rfl) (by kernel_rfl) (by kernel_rfl) (fun _ _ _ h => h) (by assumption) ?_
              simp only [List.set_cons_zero, List.set_cons_succ]
              refine hr_take (i := 45) rfl rfl (by kernel_rfl) (by kernel_rfl) (by kernel_rfl) (by kernel_rfl) (fun _ _ _ h => h) (v := ?_) ?_ (by assumption) ?_
              rotate_left
              focus (intro wS hSw; (try dsimp only at hSw); go_simp; (try with_reducible rfl))
              simp only [List.set_cons_zero, List.set_cons_succ]
              refine hr_take (i := 46) rfl rfl (by kernel_rfl) (by kernel_rfl) (by kernel_rfl) (by kernel_rfl) (fun _ _ _ h => h) (v := ?_) ?_ (by assumption) ?_
              rotate_left
              focus (intro wS hSw; (try dsimp only at hSw); go_simp; (try with_reducible rfl))
              simp only [List.set_cons_zero, List.set_cons_succ]
              refine hr_done (by kernel_rfl) ?_
              go_wp2_with fail
              go_roundw
              case rel => exact ⟨i + 1, by omega, by go_num, hgq.drew⟩
              case measure => simp [intOf]; omega
              -->5
            · have hd2 : decide (g i = f i) = false := by simpa using hgf
              obtain ⟨hedge, hbl⟩ := (HT2.out i hlt (fun h => hFi h.1)).resolve_left hgf
              have hd3 : decide (g i = blank (f i).fg (f i).bg (f i).fl) = true := decide_eq_true hbl
              clear hedge hbl hgf hiF
              --<6
              go_wp2_with fail
              refine hr_start (S := (fun w' => w'.cell? ⟨b3, 0, none⟩ = some (.slice (some ⟨kg, og, none⟩) n cap') ∧ w'.cell? ⟨b3, 1, none⟩ = some (.bool wb) ∧ w'.cell? ⟨b3, 2, none⟩ = some (.int .i64 dir) ∧ w'.cell? ⟨b3, 3, none⟩ = some (.bool ex) ∧ w'.cell? ⟨w.heap.size, 0, none⟩ = some (.slice (some ⟨bf, of_, none⟩) n cap) ∧ w'.cell? ⟨w.heap.size, 1, none⟩ = some (.bool wb) ∧ w'.cell? ⟨w.heap.size, 2, none⟩ = some (.int .i64 dir) ∧ w'.cell? ⟨w.heap.size, 3, none⟩ = some (.bool ex) ∧ w'.cell? ⟨w.heap.size + 1, 0, none⟩ = some (.int .i64 fg) ∧ w'.cell? ⟨w.heap.size + 1, 1, none⟩ = some (.int .i64 bg) ∧ w'.cell? ⟨w.heap.size + 1, 2, none⟩ = some (.int .i64 fl) ∧ w'.cell? ⟨kg, og + i * 7, none⟩ = some (.int .i64 (g i).r) ∧ w'.cell? ⟨kg, og + i * 7 + 1, none⟩ = some (.int .i64 (g i).m0) ∧ w'.cell? ⟨kg, og + i * 7 + 2, none⟩ = some (.int .i64 (g i).m1) ∧ w'.cell? ⟨kg, og + i * 7 + 3, none⟩ = some (.int .i64 (g i).w) ∧ w'.cell? ⟨kg, og + i * 7 + 4, none⟩ = some (.int .i64 (g i).fg) ∧ w'.cell? ⟨kg, og + i * 7 + 5, none⟩ = some (.int .i64 (g i).bg) ∧ w'.cell? ⟨kg, og + i * 7 + 6, none⟩ = some (.int .i64 (g i).fl) ∧ w'.cell? ⟨bf, of_ + i * 7, none⟩ = some (.int .i64 (f i).r) ∧ w'.cell? ⟨bf, of_ + i * 7 + 1, none⟩ = some (.int .i64 (f i).m0) ∧ w'.cell? ⟨bf, of_ + i * 7 + 2, none⟩ = some (.int .i64 (f i).m1) ∧ w'.cell? ⟨bf, of_ + i * 7 + 3, none⟩ = some (.int .i64 (f i).w) ∧ w'.cell? ⟨bf, of_ + i * 7 + 4, none⟩ = some (.int .i64 (f i).fg) ∧ w'.cell? ⟨bf, of_ + i * 7 + 5, none⟩ = some (.int .i64 (f i).bg) ∧ w'.cell? ⟨bf, of_ + i * 7 + 6, none⟩ = some (.int .i64 (f i).fl))) (by kernel_rfl) rfl ?_ (fun hHeld => ?_)
              · ((try dsimp only); go_simp)
              refine hr_take (i := 0) rfl rfl (by kernel_rfl) (by kernel_rfl) (by kernel_rfl) (by kernel_rfl) (fun _ _ _ h => h) (v := ?_) ?_ (by assumption) ?_
              rotate_left
              focus (intro wS hSw; (try dsimp only at hSw); go_simp; (try with_reducible rfl))
              simp only [List.set_cons_zero, List.set_cons_succ]
              refine hr_take (i := 1) rfl rfl (by kernel_rfl) (by kernel_rfl) (by kernel_rfl) (by kernel_rfl) (fun _ _ _ h => h) (v := ?_) ?_ (by assumption) ?_
              rotate_left
              focus (intro wS hSw; (try dsimp only at hSw); go_simp; (try with_reducible rfl))
              simp only [List.set_cons_zero, List.set_cons_succ]
              refine hr_skip (i := 2) rfl rfl (by kernel_rfl) (by kernel_rfl) (by kernel_rfl) (by kernel_rfl) (fun _ _ _ h => h) (by assumption) ?_
              simp only [List.set_cons_zero, List.set_cons_succ]
              refine hr_skip (i := 3) rfl rfl (by kernel_rfl) (by kernel_rfl) (by kernel_rfl) (by kernel_rfl) (fun _ _ _ h => h) (by assumption) ?_
              simp only [List.set_cons_zero, List.set_cons_succ]
              refine hr_skip (i := 4) rfl rfl (by kernel_rfl) (by kernel_rfl) (by kernel_rfl) (by kernel_rfl) (fun _ _ _ h => h) (by assumption) ?_
              simp only [List.set_cons_zero, List.set_cons_succ]
              refine hr_skip (i := 5) rfl rfl (by kernel_rfl) (by kernel_rfl) (by kernel_rfl) (by kernel_rfl) (fun _ _ _ h => h) (by assumption) ?_
              simp only [List.set_cons_zero, List.set_cons_succ]
              refine hr_skip (i := 6) rfl rfl (by kernel_rfl) (by kernel_rfl) (by kernel_rfl) (by kernel_rfl) (fun _ _ _ h => h) (by assumption) ?_
              simp only [List.set_cons_zero, List.set_cons_succ]
              refine hr_skip (i := 7) rfl rfl (by kernel_rfl) (by kernel_rfl) (by kernel_rfl) (by kernel_rfl) (fun _ _ _ h => h) (by assumption) ?_
              simp only [List.set_cons_zero, List.set_cons_succ]
              refine hr_skip (i := 8) rfl rfl (by kernel_rfl) (by kernel_rfl) (by kernel_rfl) (by kernel_rfl) (fun _ _ _ h => h) (by assumption) ?_
              simp only [List.set_cons_zero, List.set_cons_succ]
              refine hr_skip (i := 9) rfl rfl (by kernel_rfl) (by kernel_rfl) (by kernel_rfl) (by kernel_rfl) (fun _ _ _ h => h) (by assumption) ?_
              simp only [List.set_cons_zero, List.set_cons_succ]
              refine hr_take (i := 10) rfl rfl (by kernel_rfl) (by kernel_rfl) (by kernel_rfl) (by kernel_rfl) (fun _ _ _ h => h) (v := ?_) ?_ (by assumption) ?_
              rotate_left
              focus (intro wS hSw; (try dsimp only at hSw); go_simp; (try with_reducible rfl))
              simp only [List.set_cons_zero, List.set_cons_succ]
              refine hr_take (i := 11) rfl rfl (by kernel_rfl) (by kernel_rfl) (by kernel_rfl) (by kernel_rfl) (fun _ _ _ h => h) (v := ?_) ?_ (by assumption) ?_
              rotate_left
              focus (intro wS hSw; (try dsimp only at hSw); go_simp; (try with_reducible rfl))
              simp only [List.set_cons_zero, List.set_cons_succ]
              refine hr_take (i := 12) rfl rfl (by kernel_rfl) (by kernel_rfl) (by kernel_rfl) (by kernel_rfl) (fun _ _ _ h => h) (v := ?_) ?_ (by assumption) ?_
              rotate_left
              focus (intro wS hSw; (try dsimp only at hSw); go_simp; (try with_reducible rfl))
              simp only [List.set_cons_zero, List.set_cons_succ]
              refine hr_take (i := 13) rfl rfl (by kernel_rfl) (by kernel_rfl) (by kernel_rfl) (by kernel_rfl) (fun _ _ _ h => h) (v := ?_) ?_ (by assumption) ?_
              rotate_left
              focus (intro wS hSw; (try dsimp only at hSw); go_simp; (try with_reducible rfl))
              simp only [List.set_cons_zero, List.set_cons_succ]
              refine hr_take (i := 14) rfl rfl (by kernel_rfl) (by kernel_rfl) (by kernel_rfl) (by kernel_rfl) (fun _ _ _ h => h) (v := ?_) ?_ (by assumption) ?_
              rotate_left
              focus (intro wS hSw; (try dsimp only at hSw); go_simp; (try with_reducible rfl))
              simp only [List.set_cons_zero, List.set_cons_succ]
              refine hr_take (i := 15) rfl rfl (by kernel_rfl) (by kernel_rfl) (by kernel_rfl) (by kernel_rfl) (fun _ _ _ h => h) (v := ?_) ?_ (by assumption) ?_
              rotate_left
              focus (intro wS hSw; (try dsimp only at hSw); go_simp; (try with_reducible rfl))
              simp only [List.set_cons_zero, List.set_cons_succ]
              refine hr_take (i := 16) rfl rfl (by kernel_rfl) (by kernel_rfl) (by kernel_rfl) (by kernel_rfl) (fun _ _ _ h => h) (v := ?_) ?_ (by assumption) ?_
              rotate_left
              focus (intro wS hSw; (try dsimp only at hSw); go_simp; (try with_reducible rfl))
              simp only [List.set_cons_zero, List.set_cons_succ]
              refine hr_take (i := 17) rfl rfl (by kernel_rfl) (by kernel_rfl) (by kernel_rfl) (by kernel_rfl) (fun _ _ _ h => h) (v := ?_) ?_ (by assumption) ?_
              rotate_left
              focus (intro wS hSw; (try dsimp only at hSw); go_simp; (try with_reducible rfl))
              simp only [List.set_cons_zero, List.set_cons_succ]
              refine hr_take (i := 18) rfl rfl (by kernel_rfl) (by kernel_rfl) (by kernel_rfl) (by kernel_rfl) (fun _ _ _ h => h) (v := ?_) ?_ (by assumption) ?_
              rotate_left
              focus (intro wS hSw; (try dsimp only at hSw); go_simp; (try with_reducible rfl))
              simp only [List.set_cons_zero, List.set_cons_succ]
              refine hr_take (i := 19) rfl rfl (by kernel_rfl) (by kernel_rfl) (by kernel_rfl) (by kernel_rfl) (fun _ _ _ h => h) (v := ?_) ?_ (by assumption) ?_
              rotate_left
              focus (intro wS hSw; (try dsimp only at hSw); go_simp; (try with_reducible rfl))
              simp only [List.set_cons_zero, List.set_cons_succ]
              refine hr_take (i := 20) rfl rfl (by kernel_rfl) (by kernel_rfl) (by kernel_rfl) (by kernel_rfl) (fun _ _ _ h => h) (v := ?_) ?_ (by assumption) ?_
              rotate_left
              focus (intro wS hSw; (try dsimp only at hSw); go_simp; (try with_reducible rfl))
              simp only [List.set_cons_zero, List.set_cons_succ]
              refine hr_take (i := 21) rfl rfl (by kernel_rfl) (by kernel_rfl) (by kernel_rfl) (by kernel_rfl) (fun _ _ _ h => h) (v := ?_) ?_ (by assumption) ?_
              rotate_left
              focus (intro wS hSw; (try dsimp only at hSw); go_simp; (try with_reducible rfl))
              simp only [List.set_cons_zero, List.set_cons_succ]
              refine hr_take (i := 22) rfl rfl (by kernel_rfl) (by kernel_rfl) (by kernel_rfl) (by kernel_rfl) (fun _ _ _ h => h) (v := ?_) ?_ (by assumption) ?_
              rotate_left
              focus (intro wS hSw; (try dsimp only at hSw); go_simp; (try with_reducible rfl))
              simp only [List.set_cons_zero, List.set_cons_succ]
              refine hr_take (i := 23) rfl rfl (by kernel_rfl) (by kernel_rfl) (by kernel_rfl) (by kernel_rfl) (fun _ _ _ h => h) (v := ?_) ?_ (by assumption) ?_
              rotate_left
              focus (intro wS hSw; (try dsimp only at hSw); go_simp; (try with_reducible rfl))
              simp only [List.set_cons_zero, List.set_cons_succ]
              refine hr_take (i := 24) rfl rfl (by kernel_rfl) (by kernel_rfl) (by kernel_rfl) (by kernel_rfl) (fun _ _ _ h => h) (v := ?_) ?_ (by assumption) ?_
              rotate_left
              focus (intro wS hSw; (try dsimp only at hSw); go_simp; (try with_reducible rfl))
              simp only [List.set_cons_zero, List.set_cons_succ]
              refine hr_take (i := 25) rfl rfl (by kernel_rfl) (by kernel_rfl) (by kernel_rfl) (by kernel_rfl) (fun _ _ _ h => h) (v := ?_) ?_ (by assumption) ?_
              rotate_left
              focus (intro wS hSw; (try dsimp only at hSw); go_simp; (try with_reducible rfl))
              simp only [List.set_cons_zero, List.set_cons_succ]
              refine hr_take (i := 26) rfl rfl (by kernel_rfl) (by kernel_rfl) (by kernel_rfl) (by kernel_rfl) (fun _ _ _ h => h) (v := ?_) ?_ (by assumption) ?_
              rotate_left
              focus (intro wS hSw; (try dsimp only at hSw); go_simp; (try with_reducible rfl))
              simp only [List.set_cons_zero, List.set_cons_succ]
              refine hr_take (i := 27) rfl rfl (by kernel_rfl) (by kernel_rfl) (by kernel_rfl) (by kernel_rfl) (fun _ _ _ h => h) (v := ?_) ?_ (by assumption) ?_
              rotate_left
              focus (intro wS hSw; (try dsimp only at hSw); go_simp; (try with_reducible rfl))
              simp only [List.set_cons_zero, List.set_cons_succ]
              refine hr_take (i := 28) rfl rfl (by kernel_rfl) (by kernel_rfl) (by kernel_rfl) (by kernel_rfl) (fun _ _ _ h => h) (v := ?_) ?_ (by assumption) ?_
              rotate_left
              focus (intro wS hSw; (try dsimp only at hSw); go_simp; (try with_reducible rfl))
              simp only [List.set_cons_zero, List.set_cons_succ]
              refine hr_take (i := 29) rfl rfl (by kernel_rfl) (by kernel_rfl) (by kernel_rfl) (by kernel_rfl) (fun _ _ _ h => h) (v := ?_) ?_ (by assumption) ?_
              rotate_left
              focus (intro wS hSw; (try dsimp only at hSw); go_simp; (try with_reducible rfl))
              simp only [List.set_cons_zero, List.set_cons_succ]
              refine hr_take (i := 30) rfl rfl (by kernel_rfl) (by kernel_rfl) (by kernel_rfl) (by kernel_rfl) (fun _ _ _ h => h) (v := ?_) ?_ (by assumption) ?_
              rotate_left
              focus (intro wS hSw; (try dsimp only at hSw); go_simp; (try with_reducible rfl))
              simp only [List.set_cons_zero, List.set_cons_succ]
              refine hr_take (i := 31) rfl rfl (by kernel_rfl) (by kernel_rfl) (by kernel_rfl) (by kernel_rfl) (fun _ _ _ h => h) (v := ?_) ?_ (by assumption) ?_
              rotate_left
              focus (intro wS hSw; (try dsimp only at hSw); go_simp; (try with_reducible rfl))
              simp only [List.set_cons_zero, List.set_cons_succ]
              refine hr_take (i := 32) rfl rfl (by kernel_rfl) (by kernel_rfl) (by kernel_rfl) (by kernel_rfl) (fun _ _ _ h => h) (v := ?_) ?_ (by assumption) ?_
              rotate_left
              focus (intro wS hSw; (try dsimp only at hSw); go_simp; (try with_reducible rfl))
              simp only [List.set_cons_zero, List.set_cons_succ]
              refine hr_take (i := 33) rfl rfl (by kernel_rfl) (by kernel_rfl) (by kernel_rfl) (by kernel_rfl) (fun _ _ _ h => h) (v := ?_) ?_ (by assumption) ?_
              rotate_left
              focus (intro wS hSw; (try dsimp only at hSw); go_simp; (try with_reducible rfl))
              simp only [List.set_cons_zero, List.set_cons_succ]
              refine hr_take (i := 34) rfl rfl (by kernel_rfl) (by kernel_rfl) (by kernel_rfl) (by kernel_rfl) (fun _ _ _ h => h) (v := ?_) ?_ (by assumption) ?_
              rotate_left
              focus (intro wS hSw; (try dsimp only at hSw); go_simp; (try with_reducible rfl))
              simp only [List.set_cons_zero, List.set_cons_succ]
              refine hr_take (i := 35) rfl rfl (by kernel_rfl) (by kernel_rfl) (by kernel_rfl) (by kernel_rfl) (fun _ _ _ h => h) (v := ?_) ?_ (by assumption) ?_
              rotate_left
              focus (intro wS hSw; (try dsimp only at hSw); go_simp; (try with_reducible rfl))
              simp only [List.set_cons_zero, List.set_cons_succ]
              refine hr_take (i := 36) rfl rfl (by kernel_rfl) (by kernel_rfl) (by kernel_rfl) (by kernel_rfl) (fun _ _ _ h => h) (v := ?_) ?_ (by assumption) ?_
              rotate_left
              focus (intro wS hSw; (try dsimp only at hSw); go_simp; (try with_reducible rfl))
              simp only [List.set_cons_zero, List.set_cons_succ]
              refine hr_take (i := 37) rfl rfl (by kernel_rfl) (by kernel_rfl) (by kernel_rfl) (by kernel_rfl) (fun _ _ _ h => h) (v := ?_) ?_ (by assumption) ?_
              rotate_left
              focus (intro wS hSw; (try dsimp only at hSw); go_simp; (try with_reducible rfl))
              simp only [List.set_cons_zero, List.set_cons_succ]
              refine hr_take (i := 38) rfl rfl (by kernel_rfl) (by kernel_rfl) (by kernel_rfl) (by kernel_rfl) (fun _ _ _ h => h) (v := ?_) ?_ (by assumption) ?_
              rotate_left
              focus (intro wS hSw; (try dsimp only at hSw); go_simp; (try with_reducible rfl))
              simp only [List.set_cons_zero, List.set_cons_succ]
              refine hr_take (i := 39) rfl rfl (by kernel_rfl) (by kernel_rfl) (by kernel_rfl) (by kernel_rfl) (fun _ _ _ h => h) (v := ?_) ?_ (by assumption) ?_
              rotate_left
              focus (intro wS hSw; (try dsimp only at hSw); go_simp; (try with_reducible rfl))
              simp only [List.set_cons_zero, List.set_cons_succ]
              refine hr_take (i := 40) rfl rfl (by kernel_rfl) (by kernel_rfl) (by kernel_rfl) (by kernel_rfl) (fun _ _ _ h => h) (v := ?_) ?_ (by assumption) ?_
              rotate_left
              focus (intro wS hSw; (try dsimp only at hSw); go_simp; (try with_reducible rfl))
              simp only [List.set_cons_zero, List.set_cons_succ]
              refine hr_take (i := 41) rfl rfl (by kernel_rfl) (by kernel_rfl) (by kernel_rfl) (by kernel_rfl) (fun _ _ _ h => h) (v := ?_) ?_ (by assumption) ?_
              rotate_left
              focus (intro wS hSw; (try dsimp only at hSw); go_simp; (try with_reducible rfl))
              simp only [List.set_cons_zero, List.set_cons_succ]
              refine hr_op (i := 42) rfl rfl (by kernel_rfl) (by kernel_rfl) (fun K hK => ?_)
              go_simp
              ((with_reducible refine (blank_c _ _ _ _).mono ?_); rintro e wq ⟨rfl, X8, d8, rfl⟩)
              (try go_wp2_with fail)
              refine hK.out _ _ ?_ (fun hHeld => ?_)
              · ((try dsimp only); go_simp)
              clear hK K
              simp only [List.set_cons_zero, List.set_cons_succ]
              refine hr_take (i := 43) rfl rfl (by kernel_rfl) (by kernel_rfl) (by kernel_rfl) (by kernel_rfl) (fun _ _ _ h => h) (v := ?_) ?_ (by assumption) ?_
              rotate_left
              focus (intro wS hSw; (try dsimp only at hSw); go_simp; (try with_reducible rfl))
              simp only [List.set_cons_zero, List.set_cons_succ]
              refine hr_take (i := 44) rfl rfl (by kernel_rfl) (by kernel_rfl) (by kernel_rfl) (by kernel_rfl) (fun _ _ _ h => h) (v := ?_) ?_ (by assumption) ?_
              rotate_left
              focus (intro wS hSw; (try dsimp only at hSw); go_simp; (try with_reducible rfl))
              simp only [List.set_cons_zero, List.set_cons_succ]
              refine hr_take (i := 45) rfl rfl (by kernel_rfl) (by kernel_rfl) (by kernel_rfl) (by kernel_rfl) (fun _ _ _ h => h) (v := ?_) ?_ (by assumption) ?_
              rotate_left
              focus (intro wS hSw; (try dsimp only at hSw); go_simp; (try with_reducible rfl))
              simp only [List.set_cons_zero, List.set_cons_succ]
              refine hr_take (i := 46) rfl rfl (by kernel_rfl) (by kernel_rfl) (by kernel_rfl) (by kernel_rfl) (fun _ _ _ h => h) (v := ?_) ?_ (by assumption) ?_
              rotate_left
              focus (intro wS hSw; (try dsimp only at hSw); go_simp; (try with_reducible rfl))
              simp only [List.set_cons_zero, List.set_cons_succ]
              refine hr_done (by kernel_rfl) ?_
              go_wp2_with fail
              go_roundw
              case rel => exact ⟨i + 1, by omega, by go_num, hgq.grow hgq.size _ _⟩
              case measure => simp [intOf]; omega
              -->6
          · have hE1 : ((i : Int) == (F : Int) - 1) = false := by simp; omega
            have hgf : g i = f i := by
              rcases HT2.out i hlt (fun h => hFi h.1) with h | ⟨h | h, _⟩
              · exact h
              · exact absurd h hiF
              · omega
            have hd2 : decide (g i = f i) = true := by simpa using hgf
            clear hgf
            --<7
            go_wp2_with fail
            refine hr_start (S := (fun w' => w'.cell? ⟨b3, 0, none⟩ = some (.slice (some ⟨kg, og, none⟩) n cap') ∧ w'.cell? ⟨b3, 1, none⟩ = some (.bool wb) ∧ w'.cell? ⟨b3, 2, none⟩ = some (.int .i64 dir) ∧ w'.cell? ⟨b3, 3, none⟩ = some (.bool ex) ∧ w'.cell? ⟨w.heap.size, 0, none⟩ = some (.slice (some ⟨bf, of_, none⟩) n cap) ∧ w'.cell? ⟨w.heap.size, 1, none⟩ = some (.bool wb) ∧ w'.cell? ⟨w.heap.size, 2, none⟩ = some (.int .i64 dir) ∧ w'.cell? ⟨w.heap.size, 3, none⟩ = some (.bool ex) ∧ w'.cell? ⟨w.heap.size + 1, 0, none⟩ = some (.int .i64 fg) ∧ w'.cell? ⟨w.heap.size + 1, 1, none⟩ = some (.int .i64 bg) ∧ w'.cell? ⟨w.heap.size + 1, 2, none⟩ = some (.int .i64 fl) ∧ w'.cell? ⟨kg, og + i * 7, none⟩ = some (.int .i64 (g i).r) ∧ w'.cell? ⟨kg, og + i * 7 + 1, none⟩ = some (.int .i64 (g i).m0) ∧ w'.cell? ⟨kg, og + i * 7 + 2, none⟩ = some (.int .i64 (g i).m1) ∧ w'.cell? ⟨kg, og + i * 7 + 3, none⟩ = some (.int .i64 (g i).w) ∧ w'.cell? ⟨kg, og + i * 7 + 4, none⟩ = some (.int .i64 (g i).fg) ∧ w'.cell? ⟨kg, og + i * 7 + 5, none⟩ = some (.int .i64 (g i).bg) ∧ w'.cell? ⟨kg, og + i * 7 + 6, none⟩ = some (.int .i64 (g i).fl) ∧ w'.cell? ⟨bf, of_ + i * 7, none⟩ = some (.int .i64 (f i).r) ∧ w'.cell? ⟨bf, of_ + i * 7 + 1, none⟩ = some (.int .i64 (f i).m0) ∧ w'.cell? ⟨bf, of_ + i * 7 + 2, none⟩ = some (.int .i64 (f i).m1) ∧ w'.cell? ⟨bf, of_ + i * 7 + 3, none⟩ = some (.int .i64 (f i).w) ∧ w'.cell? ⟨bf, of_ + i * 7 + 4, none⟩ = some (.int .i64 (f i).fg) ∧ w'.cell? ⟨bf, of_ + i * 7 + 5, none⟩ = some (.int .i64 (f i).bg) ∧ w'.cell? ⟨bf, of_ + i * 7 + 6, none⟩ = some (.int .i64 (f i).fl))) (by kernel_rfl) rfl ?_ (fun hHeld => ?_)
            · ((try dsimp only); go_simp)
            refine hr_take (i := 0) rfl rfl (by kernel_rfl) (by kernel_rfl) (by kernel_rfl) (by kernel_rfl) (fun _ _ _ h => h) (v := ?_) ?_ (by assumption) ?_
            rotate_left
            focus (intro wS hSw; (try dsimp only at hSw); go_simp; (try with_reducible rfl))
            simp only [List.set_cons_zero, List.set_cons_succ]
            refine hr_take (i := 1) rfl rfl (by kernel_rfl) (by kernel_rfl) (by kernel_rfl) (by kernel_rfl) (fun _ _ _ h => h) (v := ?_) ?_ (by assumption) ?_
            rotate_left
            focus (intro wS hSw; (try dsimp only at hSw); go_simp; (try with_reducible rfl))
            simp only [List.set_cons_zero, List.set_cons_succ]
            refine hr_skip (i := 2) rfl rfl (by kernel_rfl) (by kernel_rfl) (by kernel_rfl) (by kernel_rfl) (fun _ _ _ h => h) (by assumption) ?_
            simp only [List.set_cons_zero, List.set_cons_succ]
            refine hr_skip (i := 3) rfl rfl (by kernel_rfl) (by kernel_rfl) (by kernel_rfl) (by kernel_rfl) (fun _ _ _ h => h) (by assumption) ?_
            simp only [List.set_cons_zero, List.set_cons_succ]
            refine hr_skip (i := 4) rfl rfl (by kernel_rfl) (by kernel_rfl) (by kernel_rfl) (by kernel_rfl) (fun _ _ _ h => h) (by assumption) ?_
            simp only [List.set_cons_zero, List.set_cons_succ]
            refine hr_skip (i := 5) rfl rfl (by kernel_rfl) (by kernel_rfl) (by kernel_rfl) (by kernel_rfl) (fun _ _ _ h => h) (by assumption) ?_
            simp only [List.set_cons_zero, List.set_cons_succ]
            refine hr_skip (i := 6) rfl rfl (by kernel_rfl) (by kernel_rfl) (by kernel_rfl) (by kernel_rfl) (fun _ _ _ h => h) (by assumption) ?_
            simp only [List.set_cons_zero, List.set_cons_succ]
            refine hr_skip (i := 7) rfl rfl (by kernel_rfl) (by kernel_rfl) (by kernel_rfl) (by kernel_rfl) (fun _ _ _ h => h) (by assumption) ?_
            simp only [List.set_cons_zero, List.set_cons_succ]
            refine hr_skip (i := 8) rfl rfl (by kernel_rfl) (by kernel_rfl) (by kernel_rfl) (by kernel_rfl) (fun _ _ _ h => h) (by assumption) ?_
            simp only [List.set_cons_zero, List.set_cons_succ]
            refine hr_skip (i := 9) rfl rfl (by kernel_rfl) (by kernel_rfl) (by kernel_rfl) (by kernel_rfl) (fun _ _ _ h => h) (by assumption) ?_
            simp only [List.set_cons_zero, List.set_cons_succ]
            refine hr_take (i := 10) rfl rfl (by kernel_rfl) (by kernel_rfl) (by kernel_rfl) (by kernel_rfl) (fun _ _ _ h => h) (v := ?_) ?_ (by assumption) ?_
            rotate_left
            focus (intro wS hSw; (try dsimp only at hSw); go_simp; (try with_reducible rfl))
            simp only [List.set_cons_zero, List.set_cons_succ]
            refine hr_take (i := 11) rfl rfl (by kernel_rfl) (by kernel_rfl) (by kernel_rfl) (by kernel_rfl) (fun _ _ _ h => h) (v := ?_) ?_ (by assumption) ?_
            rotate_left
            focus (intro wS hSw; (try dsimp only at hSw); go_simp; (try with_reducible rfl))
            simp only [List.set_cons_zero, List.set_cons_succ]
            refine hr_take (i := 12) rfl rfl (by kernel_rfl) (by kernel_rfl) (by kernel_rfl) (by kernel_rfl) (fun _ _ _ h => h) (v := ?_) ?_ (by assumption) ?_
            rotate_left
            focus (intro wS hSw; (try dsimp only at hSw); go_simp; (try with_reducible rfl))
            simp only [List.set_cons_zero, List.set_cons_succ]
            refine hr_take (i := 13) rfl rfl (by kernel_rfl) (by kernel_rfl) (by kernel_rfl) (by kernel_rfl) (fun _ _ _ h => h) (v := ?_) ?_ (by assumption) ?_
            rotate_left
            focus (intro wS hSw; (try dsimp only at hSw); go_simp; (try with_reducible rfl))
            simp only [List.set_cons_zero, List.set_cons_succ]
            refine hr_take (i := 14) rfl rfl (by kernel_rfl) (by kernel_rfl) (by kernel_rfl) (by kernel_rfl) (fun _ _ _ h => h) (v := ?_) ?_ (by assumption) ?_
            rotate_left
            focus (intro wS hSw; (try dsimp only at hSw); go_simp; (try with_reducible rfl))
            simp only [List.set_cons_zero, List.set_cons_succ]
            refine hr_take (i := 15) rfl rfl (by kernel_rfl) (by kernel_rfl) (by kernel_rfl) (by kernel_rfl) (fun _ _ _ h => h) (v := ?_) ?_ (by assumption) ?_
            rotate_left
            focus (intro wS hSw; (try dsimp only at hSw); go_simp; (try with_reducible rfl))
            simp only [List.set_cons_zero, List.set_cons_succ]
            refine hr_take (i := 16) rfl rfl (by kernel_rfl) (by kernel_rfl) (by kernel_rfl) (by kernel_rfl) (fun _ _ _ h => h) (v := ?_) ?_ (by assumption) ?_
            rotate_left
            focus (intro wS hSw; (try dsimp only at hSw); go_simp; (try with_reducible rfl))
            simp only [List.set_cons_zero, List.set_cons_succ]
            refine hr_take (i := 17) rfl rfl (by kernel_rfl) (by kernel_rfl) (by kernel_rfl) (by kernel_rfl) (fun _ _ _ h => h) (v := ?_) ?_ (by assumption) ?_
            rotate_left
            focus (intro wS hSw; (try dsimp only at hSw); go_simp; (try with_reducible rfl))
            simp only [List.set_cons_zero, List.set_cons_succ]
            refine hr_take (i := 18) rfl rfl (by kernel_rfl) (by kernel_rfl) (by kernel_rfl) (by kernel_rfl) (fun _ _ _ h => h) (v := ?_) ?_ (by assumption) ?_
            rotate_left
            focus (intro wS hSw; (try dsimp only at hSw); go_simp; (try with_reducible rfl))
            simp only [List.set_cons_zero, List.set_cons_succ]
            refine hr_take (i := 19) rfl rfl (by kernel_rfl) (by kernel_rfl) (by kernel_rfl) (by kernel_rfl) (fun _ _ _ h => h) (v := ?_) ?_ (by assumption) ?_
            rotate_left
            focus (intro wS hSw; (try dsimp only at hSw); go_simp; (try with_reducible rfl))
            simp only [List.set_cons_zero, List.set_cons_succ]
            refine hr_take (i := 20) rfl rfl (by kernel_rfl) (by kernel_rfl) (by kernel_rfl) (by kernel_rfl) (fun _ _ _ h => h) (v := ?_) ?_ (by assumption) ?_
            rotate_left
            focus (intro wS hSw; (try dsimp only at hSw); go_simp; (try with_reducible rfl))
            simp only [List.set_cons_zero, List.set_cons_succ]
            refine hr_take (i := 21) rfl rfl (by kernel_rfl) (by kernel_rfl) (by kernel_rfl) (by kernel_rfl) (fun _ _ _ h => h) (v := ?_) ?_ (by assumption) ?_
            rotate_left
            focus (intro wS hSw; (try dsimp only at hSw); go_simp; (try with_reducible rfl))
            simp only [List.set_cons_zero, List.set_cons_succ]
            refine hr_take (i := 22) rfl rfl (by kernel_rfl) (by kernel_rfl) (by kernel_rfl) (by kernel_rfl) (fun _ _ _ h => h) (v := ?_) ?_ (by assumption) ?_
            rotate_left
            focus (intro wS hSw; (try dsimp only at hSw); go_simp; (try with_reducible rfl))
            simp only [List.set_cons_zero, List.set_cons_succ]
            refine hr_take (i := 23) rfl rfl (by kernel_rfl) (by kernel_rfl) (by kernel_rfl) (by kernel_rfl) (fun _ _ _ h => h) (v := ?_) ?_ (by assumption) ?_
            rotate_left
            focus (intro wS hSw; (try dsimp only at hSw); go_simp; (try with_reducible rfl))
            simp only [List.set_cons_zero, List.set_cons_succ]
            refine hr_take (i := 24) rfl rfl (by kernel_rfl) (by kernel_rfl) (by kernel_rfl) (by kernel_rfl) (fun _ _ _ h => h) (v := ?_) ?_ (by assumption) ?_
            rotate_left
            focus (intro wS hSw; (try dsimp only at hSw); go_simp; (try with_reducible rfl))
            simp only [List.set_cons_zero, List.set_cons_succ]
            refine hr_take (i := 25) rfl rfl (by kernel_rfl) (by kernel_rfl) (by kernel_rfl) (by kernel_rfl) (fun _ _ _ h => h) (v := ?_) ?_ (by assumption) ?_
            rotate_left
            focus (intro wS hSw; (try dsimp only at hSw); go_simp; (try with_reducible rfl))
            simp only [List.set_cons_zero, List.set_cons_succ]
            refine hr_take (i := 26) rfl rfl (by kernel_rfl) (by kernel_rfl) (by kernel_rfl) (by kernel_rfl) (fun _ _ _ h => h) (v := ?_) ?_ (by assumption) ?_
            rotate_left
            focus (intro wS hSw; (try dsimp only at hSw); go_simp; (try with_reducible rfl))
            simp only [List.set_cons_zero, List.set_cons_succ]
            refine hr_take (i := 27) rfl rfl (by kernel_rfl) (by kernel_rfl) (by kernel_rfl) (by kernel_rfl) (fun _ _ _ h => h) (v := ?_) ?_ (by assumption) ?_
            rotate_left
            focus (intro wS hSw; (try dsimp only at hSw); go_simp; (try with_reducible rfl))
            simp only [List.set_cons_zero, List.set_cons_succ]
            refine hr_skip (i := 28) rfl rfl (by kernel_rfl) (by kernel_rfl) (by kernel_rfl) (by kernel_rfl) (fun _ _ _ h => h) (by assumption) ?_
            simp only [List.set_cons_zero, List.set_cons_succ]
            refine hr_skip (i := 29) rfl rfl (by kernel_rfl) (by kernel_rfl) (by kernel_rfl) (by kernel_rfl) (fun _ _ _ h => h) (by assumption) ?_
            simp only [List.set_cons_zero, List.set_cons_succ]
            refine hr_skip (i := 30) rfl rfl (by kernel_rfl) (by kernel_rfl) (by kernel_rfl) (by kernel_rfl) (fun _ _ _ h => h) (by assumption) ?_
            simp only [List.set_cons_zero, List.set_cons_succ]
            refine hr_skip (i := 31) rfl rfl (by kernel_rfl) (by kernel_rfl) (by kernel_rfl) (by kernel_rfl) (fun _ _ _ h => h) (by assumption) ?_
            simp only [List.set_cons_zero, List.set_cons_succ]
            refine hr_skip (i := 32) rfl rfl (by kernel_rfl) (by kernel_rfl) (by kernel_rfl) (by kernel_rfl) (fun _ _ _ h => h) (by assumption) ?_
            simp only [List.set_cons_zero, List.set_cons_succ]
            refine hr_skip (i := 33) rfl rfl (by kernel_rfl) (by kernel_rfl) (by kernel_rfl) (by kernel_rfl) (fun _ _ _ h => h) (by assumption) ?_
            simp only [List.set_cons_zero, List.set_cons_succ]
            refine hr_skip (i := 34) rfl rfl (by kernel_rfl) (by kernel_rfl) (by kernel_rfl) (by kernel_rfl) (fun _ _ _ h => h) (by assumption) ?_
            simp only [List.set_cons_zero, List.set_cons_succ]
            refine hr_skip (i := 35) rfl rfl (by kernel_rfl) (by kernel_rfl) (by kernel_rfl) (by kernel_rfl) (fun _ _ _ h => h) (by assumption) ?_
            simp only [List.set_cons_zero, List.set_cons_succ]
            refine hr_skip (i := 36) rfl rfl (by kernel_rfl) (by kernel_rfl) (by kernel_rfl) (by kernel_rfl) (fun _ _ _ h => h) (by assumption) ?_
            simp only [List.set_cons_zero, List.set_cons_succ]
            refine hr_skip (i := 37) rfl rfl (by kernel_rfl) (by kernel_rfl) (by kernel_rfl) (by kernel_rfl) (fun _ _ _ h => h) (by assumption) ?_
            simp only [List.set_cons_zero, List.set_cons_succ]
            refine hr_skip (i := 38) rfl rfl (by kernel_rfl) (by kernel_rfl) (by kernel_rfl) (by kernel_rfl) (fun _ _ _ h => h) (by assumption) ?_
            simp only [List.set_cons_zero, List.set_cons_succ]
            refine hr_skip (i := 39) rfl rfl (by kernel_rfl) (by kernel_rfl) (by kernel_rfl) (by kernel_rfl) (fun _ _ _ h => h) (by assumption) ?_
            simp only [List.set_cons_zero, List.set_cons_succ]
            refine hr_skip (i := 40) rfl rfl (by kernel_rfl) (by kernel_rfl) (by kernel_rfl) (by kernel_rfl) (fun _ _ _ h => h) (by assumption) ?_
            simp only [List.set_cons_zero, List.set_cons_succ]
            refine hr_skip (i := 41) rfl rfl (by kernel_rfl) (by kernel_rfl) (by kernel_rfl) (by kernel_rfl) (fun _ _ _ h => h) (by assumption) ?_
            simp only [List.set_cons_zero, List.set_cons_succ]
            refine hr_skip (i := 42) rfl rfl (by kernel_rfl) (by kernel_rfl) (by kernel_rfl) (by kernel_rfl) (fun _ _ _ h => h) (by assumption) ?_
            simp only [List.set_cons_zero, List.set_cons_succ]
            refine hr_skip (i := 43) rfl rfl (by kernel_rfl) (by kernel_rfl) (by kernel_rfl) (by kernel_rfl) (fun _ _ _ h => h) (by assumption) ?_
            simp only [List.set_cons_zero, List.set_cons_succ]
            refine hr_skip (i := 44) rfl rfl (by kernel_rfl) (by kernel_rfl) (by kernel_rfl) (by kernel_rfl) (fun _ _ _ h => h) (by assumption) ?_
            simp only [List.set_cons_zero, List.set_cons_succ]
            refine hr_take (i := 45) rfl rfl (by kernel_rfl) (by kernel_rfl) (by kernel_rfl) (by kernel_rfl) (fun _ _ _ h => h) (v := ?_) ?_ (by assumption) ?_
            rotate_left
            focus (intro wS hSw; (try dsimp only at hSw); go_simp; (try with_reducible rfl))
            simp only [List.set_cons_zero, List.set_cons_succ]
            refine hr_take (i := 46) rfl rfl (by kernel_rfl) (by kernel_rfl) (by kernel_rfl) (by kernel_rfl) (fun _ _ _ h => h) (v := ?_) ?_ (by assumption) ?_
            rotate_left
            focus (intro wS hSw; (try dsimp only at hSw); go_simp; (try with_reducible rfl))
            simp only [List.set_cons_zero, List.set_cons_succ]
            refine hr_done (by kernel_rfl) ?_
            go_wp2_with fail
            go_roundw
            case rel => exact ⟨i + 1, by omega, by go_num, hgq.drew⟩
            case measure => simp [intOf]; omega
            -->7
        -->1
      · obtain rfl : i = n := by omega
        clear HT1 HT2
        go_wp2_with fail
        refine hr_start (S := (fun w' => w'.cell? ⟨b3, 0, none⟩ = some (.slice (some ⟨kg, og, none⟩) i cap') ∧ w'.cell? ⟨b3, 1, none⟩ = some (.bool wb) ∧ w'.cell? ⟨b3, 2, none⟩ = some (.int .i64 dir) ∧ w'.cell? ⟨b3, 3, none⟩ = some (.bool ex) ∧ w'.cell? ⟨w.heap.size + 1, 0, none⟩ = some (.int .i64 fg) ∧ w'.cell? ⟨w.heap.size + 1, 1, none⟩ = some (.int .i64 bg) ∧ w'.cell? ⟨w.heap.size + 1, 2, none⟩ = some (.int .i64 fl))) (by kernel_rfl) rfl ?_ (fun hHeld => ?_)
        · ((try dsimp only); go_simp)
        refine hr_take (i := 0) rfl rfl (by kernel_rfl) (by kernel_rfl) (by kernel_rfl) (by kernel_rfl) (fun _ _ _ h => h) (v := ?_) ?_ (by assumption) ?_
        rotate_left
        focus (intro wS hSw; (try dsimp only at hSw); go_simp; (try with_reducible rfl))
        simp only [List.set_cons_zero, List.set_cons_succ]
        refine hr_take (i := 1) rfl rfl (by kernel_rfl) (by kernel_rfl) (by kernel_rfl) (by kernel_rfl) (fun _ _ _ h => h) (v := ?_) ?_ (by assumption) ?_
        rotate_left
        focus (intro wS hSw; (try dsimp only at hSw); go_simp; (try with_reducible rfl))
        simp only [List.set_cons_zero, List.set_cons_succ]
        refine hr_take (i := 2) rfl rfl (by kernel_rfl) (by kernel_rfl) (by kernel_rfl) (by kernel_rfl) (fun _ _ _ h => h) (v := ?_) ?_ (by assumption) ?_
        rotate_left
        focus (intro wS hSw; (try dsimp only at hSw); go_simp; (try with_reducible rfl))
        simp only [List.set_cons_zero, List.set_cons_succ]
        refine hr_take (i := 3) rfl rfl (by kernel_rfl) (by kernel_rfl) (by kernel_rfl) (by kernel_rfl) (fun _ _ _ h => h) (v := ?_) ?_ (by assumption) ?_
        rotate_left
        focus (intro wS hSw; (try dsimp only at hSw); go_simp; (try with_reducible rfl))
        simp only [List.set_cons_zero, List.set_cons_succ]
        refine hr_take (i := 4) rfl rfl (by kernel_rfl) (by kernel_rfl) (by kernel_rfl) (by kernel_rfl) (fun _ _ _ h => h) (v := ?_) ?_ (by assumption) ?_
        rotate_left
        focus (intro wS hSw; (try dsimp only at hSw); go_simp; (try with_reducible rfl))
        simp only [List.set_cons_zero, List.set_cons_succ]
        refine hr_take (i := 5) rfl rfl (by kernel_rfl) (by kernel_rfl) (by kernel_rfl) (by kernel_rfl) (fun _ _ _ h => h) (v := ?_) ?_ (by assumption) ?_
        rotate_left
        focus (intro wS hSw; (try dsimp only at hSw); go_simp; (try with_reducible rfl))
        simp only [List.set_cons_zero, List.set_cons_succ]
        refine hr_take (i := 7) rfl rfl (by kernel_rfl) (by kernel_rfl) (by kernel_rfl) (by kernel_rfl) (fun _ _ _ h => h) (v := ?_) ?_ (by assumption) ?_
        rotate_left
        focus (intro wS hSw; (try dsimp only at hSw); go_simp; (try with_reducible rfl))
        simp only [List.set_cons_zero, List.set_cons_succ]
        refine hr_op (i := 6) rfl rfl (by kernel_rfl) (by kernel_rfl) (fun K hK => ?_)
        go_simp
        ((with_reducible refine (HE _ (hrg.below (by (repeat (first | (with_reducible exact Below.refl _ _) | (with_reducible assumption) | (with_reducible refine Below.grow ?_ ?_ _ _) | (with_reducible refine Below.drewN' ?_ _) | (with_reducible refine Below.drew ?_) | (with_reducible refine Below.alloc ?_ ?_ _) | (with_reducible refine Below.setCell ?_ ?_ _) | omega | (focus (simp; done)) | (focus (simp; omega)))))) hgs).mono ?_); rintro e wp ⟨B2, cap2, rfl, ⟨X6, d6, rfl⟩, hr6⟩; replace hr6 : Rd (wr.grow X6 d6) _ _ _ := hr6)
        (try go_wp2_with fail)
        refine hK.out _ _ ?_ (fun hHeld => ?_)
        · ((try dsimp only); go_simp)
        clear hK K
        simp only [List.set_cons_zero, List.set_cons_succ]
        refine hr_op (i := 8) rfl rfl (by kernel_rfl) (by kernel_rfl) (fun K hK => ?_)
        go_simp
        ((with_reducible refine (same_c B2 i cap2 h wb dir ex (some ⟨kg, og, none⟩) i cap' g wb dir ex _ (hr6.below (by (repeat (first | (with_reducible exact Below.refl _ _) | (with_reducible assumption) | (with_reducible refine Below.grow ?_ ?_ _ _) | (with_reducible refine Below.drewN' ?_ _) | (with_reducible refine Below.drew ?_) | (with_reducible refine Below.alloc ?_ ?_ _) | (with_reducible refine Below.setCell ?_ ?_ _) | omega | (focus (simp; done)) | (focus (simp; omega)))))) (hrg.below (by (repeat (first | (with_reducible exact Below.refl _ _) | (with_reducible assumption) | (with_reducible refine Below.grow ?_ ?_ _ _) | (with_reducible refine Below.drewN' ?_ _) | (with_reducible refine Below.drew ?_) | (with_reducible refine Below.alloc ?_ ?_ _) | (with_reducible refine Below.setCell ?_ ?_ _) | omega | (focus (simp; done)) | (focus (simp; omega)))))) (by omega) (by omega)).mono ?_); rintro e ws ⟨rfl, X7, d7, rfl⟩)
        (try go_wp2_with fail)
        refine hK.out _ _ ?_ (fun hHeld => ?_)
        · ((try dsimp only); go_simp)
        clear hK K
        simp only [List.set_cons_zero, List.set_cons_succ]
        refine hr_take (i := 9) rfl rfl (by kernel_rfl) (by kernel_rfl) (by kernel_rfl) (by kernel_rfl) (fun _ _ _ h => h) (v := ?_) ?_ (by assumption) ?_
        rotate_left
        focus (intro wS hSw; (try dsimp only at hSw); go_simp; (try with_reducible rfl))
        simp only [List.set_cons_zero, List.set_cons_succ]
        refine hr_take (i := 10) rfl rfl (by kernel_rfl) (by kernel_rfl) (by kernel_rfl) (by kernel_rfl) (fun _ _ _ h => h) (v := ?_) ?_ (by assumption) ?_
        rotate_left
        focus (intro wS hSw; (try dsimp only at hSw); go_simp; (try with_reducible rfl))
        simp only [List.set_cons_zero, List.set_cons_succ]
        refine hr_done (by kernel_rfl) ?_
        go_wp2_with fail
        go_ret
        exact ⟨rfl, (Below.toGrow (by repeat (first | (with_reducible exact Below.refl _ _) | (with_reducible assumption) | (with_reducible refine Below.grow ?_ ?_ _ _) | (with_reducible refine Below.drewN' ?_ _) | (with_reducible refine Below.drew ?_) | (with_reducible refine Below.alloc ?_ ?_ _) | (with_reducible refine Below.setCell ?_ ?_ _) | omega | (focus (simp; done)) | (focus (simp; omega)))))⟩

theorem erases_law (A : Option Addr) (n cap : Nat) (f : Nat → Cl) (wb : Bool) (dir : Int) (ex : Bool) (a b fg bg fl : Int) (w : World) (hr : Rd w A n f) :
    Calls Try.prog 6 #[.agg #[.slice A n cap, .bool wb, .int .i64 dir, .bool ex], .int .i64 a, .int .i64 b, .agg #[.int .i64 fg, .int .i64 bg, .int .i64 fl]] w fun e w' => e = .returned (.bool true) ∧ Grew w w' := by
  by_cases hn : n ≤ 300
  · cases hs : saneB n f dir
    · exact erases_insane A n cap f wb dir ex a b fg bg fl w hr hn hs
    · exact erases_sane A n cap f wb dir ex a b fg bg fl w hr hn hs
  · exact erases_long A n cap wb dir ex a b fg bg fl w (by omega)
end Go.Proofs.Ytpnadnjcacaibaa.Row
