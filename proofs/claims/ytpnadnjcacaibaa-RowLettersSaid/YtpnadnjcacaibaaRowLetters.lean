/- Walk of lapwinglaw08.RowLetters. -/
import Derived.Test.YtpnadnjcacaibaaRowJ
import Derived.Test.YtpnadnjcacaibaaRowW
namespace Go.Proofs.Ytpnadnjcacaibaa.Row
open Go.RowKit

theorem lettersL_append (f : Nat → Cl) (a i j : Nat) : lettersL f a i ++ lettersL f (a + i) j = lettersL f a (i + j) := by
  induction j with
  | zero => simp [lettersL]
  | succ j ih =>
    show lettersL f a i ++ (lettersL f (a + i) j ++ lettersOf (f (a + i + j))) = lettersL f a (i + j) ++ lettersOf (f (a + (i + j)))
    rw [← List.append_assoc, ih, Nat.add_assoc]
theorem lettersOf_len {c : Cl} (h : fitsB c = true) : ((lettersOf c).length : Int) = (if 0 < c.w then 1 else 0) + ((if (c.m0 != 0) = true then 1 else 0) + (if (c.m1 != 0) = true then 1 else 0)) := by
  have := fits_iff.1 h
  unfold lettersOf
  by_cases hw : c.w = 0
  · have hr : c.r = 0 := by omega
    have h0 : c.m0 = 0 := by by_cases e : c.m0 = 0; exact e; exact absurd hr (this.2.2.1 e)
    have h1 : c.m1 = 0 := this.2.2.2.2.2.2.2.2.1 h0
    simp [hw, h0, h1]
  · have hw' : 0 < c.w := by omega
    rw [if_neg hw, if_pos hw']
    by_cases h0 : c.m0 = 0
    · by_cases h1 : c.m1 = 0 <;> simp [h0, h1]
    · by_cases h1 : c.m1 = 0 <;> simp [h0, h1]
theorem lenF_prop {n : Nat} {f : Nat → Cl} {dir : Int} (hs : saneB n f dir = true) : ∃ K : Nat, lenF f n = K ∧ K ≤ n ∧ (K ≠ 0 → (f (K - 1)).r ≠ 0 ∨ (f (K - 1)).w = 0 ∨ decide ((f (K - 1)).fg = 0 ∧ (f (K - 1)).bg = 0 ∧ (f (K - 1)).fl = 0) = false) := by
  have h : ∀ k, k ≤ n → ∃ K : Nat, lenF f k = K ∧ K ≤ n ∧ (K ≠ 0 → (f (K - 1)).r ≠ 0 ∨ (f (K - 1)).w = 0 ∨ decide ((f (K - 1)).fg = 0 ∧ (f (K - 1)).bg = 0 ∧ (f (K - 1)).fl = 0) = false) := fun k => by
    induction k with
    | zero => exact fun _ => ⟨0, rfl, by omega, fun h => absurd rfl h⟩
    | succ k ih =>
      intro hk
      have hf := fits_iff.1 (fits_of_sane hs (i := k) (by omega))
      have hl := lost_not.1 (lost_of_sane hs (i := k) (by omega))
      by_cases hb : hasB (f k) = true
      · by_cases h2 : (f k).w = 2
        · have h3 : k + 1 ≠ n ∧ (f (k + 1)).w = 0 := by
            by_cases e : k + 1 = n
            · exact absurd (.inr ⟨h2, .inl e⟩) hl
            · by_cases e' : (f (k + 1)).w = 0
              · exact ⟨e, e'⟩
              · exact absurd (.inr ⟨h2, .inr e'⟩) hl
          refine ⟨k + 2, by simp only [lenF]; rw [if_pos hb, h2]; omega, by omega, fun _ => .inr (.inl ?_)⟩
          exact h3.2
        · refine ⟨k + 1, by simp only [lenF]; rw [if_pos hb]; omega, by omega, fun _ => ?_⟩
          show (f k).r ≠ 0 ∨ (f k).w = 0 ∨ decide ((f k).fg = 0 ∧ (f k).bg = 0 ∧ (f k).fl = 0) = false
          unfold hasB at hb
          rw [Bool.or_eq_true] at hb
          rcases hb with hb | hb
          · exact .inl (of_decide_eq_false (by rwa [Bool.not_eq_true'] at hb))
          · exact .inr (.inr (by rwa [Bool.not_eq_true'] at hb))
      · obtain ⟨K, h1, h2, h3⟩ := ih (by omega)
        exact ⟨K, by simp only [lenF]; rw [if_neg hb]; exact h1, h2, h3⟩
  exact h n (Nat.le_refl n)
theorem ownI_new (w : World) (base b : Nat) (hb : b = w.heap.size) (h : base ≤ w.heap.size) : OwnI (w.alloc (.cells #[] 3)) base 3 (.slice (some ⟨b, 0, none⟩) 0 0) [] := by
  subst hb
  unfold OwnI World.ownsRow
  exact ⟨rfl, .inr ⟨w.heap.size, 0, #[], rfl, h, heap_alloc_new w _, by simp, by simp, by simp, by simp⟩⟩

set_option maxRecDepth 100000 in
set_option maxHeartbeats 2000000 in
theorem letters_long (A : Option Addr) (n cap : Nat) (wb : Bool) (dir : Int) (ex : Bool) (a b : Int) (w : World) (hn : 300 < n) : Calls Try.prog 11 #[.agg #[.slice A n cap, .bool wb, .int .i64 dir, .bool ex], .int .i64 a, .int .i64 b] w fun e w' => e = .returned (.bool true) ∧ Grew w w' := by
  have hn' : 300 < (n : Int) := by omega
  go_enter Try.func11, Try.ntmps11
  go_wp2_with (first | (go_at_call 14; refine (awake_c _).mono ?_; rintro e w1 ⟨rfl, XA, dA, rfl⟩))
  go_ret
  exact ⟨rfl, (Below.toGrow (by repeat (first | (with_reducible exact Below.refl _ _) | (with_reducible assumption) | (with_reducible refine Below.grow ?_ ?_ _ _) | (with_reducible refine Below.drewN' ?_ _) | (with_reducible refine Below.drew ?_) | (with_reducible refine Below.alloc ?_ ?_ _) | (with_reducible refine Below.setCell ?_ ?_ _) | omega | (focus (simp; done)) | (focus (simp; omega)))))⟩
set_option maxRecDepth 100000 in
set_option maxHeartbeats 2000000 in
theorem letters_insane (A : Option Addr) (n cap : Nat) (f : Nat → Cl) (wb : Bool) (dir : Int) (ex : Bool) (a b : Int) (w : World) (hr : Rd w A n f) (hn : n ≤ 300) (hs : saneB n f dir = false) : Calls Try.prog 11 #[.agg #[.slice A n cap, .bool wb, .int .i64 dir, .bool ex], .int .i64 a, .int .i64 b] w fun e w' => e = .returned (.bool true) ∧ Grew w w' := by
  go_enter Try.func11, Try.ntmps11
  go_wp2_with (first | (go_at_call 14; refine (awake_c _).mono ?_; rintro e w1 ⟨rfl, XA, dA, rfl⟩) | (go_at_call 15; refine (sane_c A n cap f wb dir ex _ (hr.below (by (repeat (first | (with_reducible exact Below.refl _ _) | (with_reducible assumption) | (with_reducible refine Below.grow ?_ ?_ _ _) | (with_reducible refine Below.drewN' ?_ _) | (with_reducible refine Below.drew ?_) | (with_reducible refine Below.alloc ?_ ?_ _) | (with_reducible refine Below.setCell ?_ ?_ _) | omega | (focus (simp; done)) | (focus (simp; omega)))))) (by omega)).mono ?_; rintro e w1 ⟨rfl, X1, d1, rfl⟩))
  go_ret
  exact ⟨rfl, (Below.toGrow (by repeat (first | (with_reducible exact Below.refl _ _) | (with_reducible assumption) | (with_reducible refine Below.grow ?_ ?_ _ _) | (with_reducible refine Below.drewN' ?_ _) | (with_reducible refine Below.drew ?_) | (with_reducible refine Below.alloc ?_ ?_ _) | (with_reducible refine Below.setCell ?_ ?_ _) | omega | (focus (simp; done)) | (focus (simp; omega)))))⟩

set_option maxRecDepth 100000 in
set_option maxHeartbeats 4000000 in
theorem letters_sane (A : Option Addr) (n cap : Nat) (f : Nat → Cl) (wb : Bool) (dir : Int) (ex : Bool) (a b : Int) (w : World) (hr : Rd w A n f) (hcap : n ≤ cap) (hn : n ≤ 300) (hs : saneB n f dir = true) : Calls Try.prog 11 #[.agg #[.slice A n cap, .bool wb, .int .i64 dir, .bool ex], .int .i64 a, .int .i64 b] w fun e w' => e = .returned (.bool true) ∧ Grew w w' := by
  have hn1 := (sane_len hs).1
  obtain ⟨i3, hi3, hz3, hs3, hb3⟩ := info_parts int_info
  obtain ⟨bf, of_, rfl, hbf, hcf⟩ := hr (by omega)
  clear hcf
  have HI3 := Lib.hid hi3
  have HZ3 := Lib.hid hz3
  have HS3 := Lib.hid hs3
  have HB3 := Lib.hid hb3
  have HSN := Lib.hid hs
  have HRD := Lib.hid hr
  have HCP := Lib.hid hcap
  clear hi3 hz3 hs3 hb3
  have hnp := neq_pen
  have hand : bits .and .i64 a 65535 = a % 65536 := and_mask 16 (by omega) a
  have handb : bits .and .i64 b 65535 = b % 65536 := and_mask 16 (by omega) b
  have hp0 : 0 ≤ a % 65536 := by omega
  have hp1 : 0 ≤ b % 65536 := by omega
  obtain ⟨X, hX⟩ : ∃ k : Nat, a % 65536 % ((n : Int) + 1) = (k : Int) := ⟨(a % 65536 % ((n : Int) + 1)).toNat, (Int.toNat_of_nonneg (Int.emod_nonneg _ (by omega))).symm⟩
  obtain ⟨Y, hY⟩ : ∃ k : Nat, b % 65536 % ((n : Int) + 1) = (k : Int) := ⟨(b % 65536 % ((n : Int) + 1)).toNat, (Int.toNat_of_nonneg (Int.emod_nonneg _ (by omega))).symm⟩
  have hXn : X ≤ n := by
    have := Int.emod_lt_of_pos (a % 65536) (show (0 : Int) < (n : Int) + 1 by omega)
    omega
  have hYn : Y ≤ n := by
    have := Int.emod_lt_of_pos (b % 65536) (show (0 : Int) < (n : Int) + 1 by omega)
    omega
  go_enter Try.func11, Try.ntmps11
  go_wp2_with fail
  generalize hw0 : w.alloc _ = w0
  have hbw : Below w.heap.size w w0 := by rw [← hw0]; (repeat (first | (with_reducible exact Below.refl _ _) | (with_reducible assumption) | (with_reducible refine Below.grow ?_ ?_ _ _) | (with_reducible refine Below.drewN' ?_ _) | (with_reducible refine Below.drew ?_) | (with_reducible refine Below.alloc ?_ ?_ _) | (with_reducible refine Below.setCell ?_ ?_ _) | omega | (focus (simp; done)) | (focus (simp; omega))))
  have hB1 : Blk w0 w.heap.size 24 #[.slice (some ⟨bf, of_, none⟩) n cap, .bool wb, .int .i64 dir, .bool ex] := by rw [← hw0]; exact Blk.new _ _ _
  clear hw0
  obtain ⟨r0, r1, r2, r3, rf, rl⟩ := hB1.facts4
  refine (awake_c _).mono ?_
  rintro e w1 ⟨rfl, hg⟩
  replace hg := hg.below
  replace hbw := hbw.trans (hg.mono hbw.size); replace hB1 := hB1.below hg hB1.lt; clear r0 r1 r2 r3 rf rl; obtain ⟨r0, r1, r2, r3, rf, rl⟩ := hB1.facts4; clear hg
  go_wp2_with fail
  refine (sane_c (some ⟨bf, of_, none⟩) n cap f wb dir ex _ (hr.below hbw) (by omega)).mono ?_
  rintro e w2 ⟨rfl, hg⟩
  replace hg := hg.below
  replace hbw := hbw.trans (hg.mono hbw.size); replace hB1 := hB1.below hg hB1.lt; clear r0 r1 r2 r3 rf rl; obtain ⟨r0, r1, r2, r3, rf, rl⟩ := hB1.facts4; clear hg
  clear hr hcap
  go_upto_region 7 with fail
  simp only [hX, hY]
  clear hX hY hand handb hp0 hp1 hs
  rcases Nat.lt_trichotomy X Y with hXY | hXY | hXY
  · have hloI : (0 : Int) ≤ X := by omega
    have hxyI : ¬ Y < X := by omega
    go_wp2_with fail
    generalize hw3 : w2.alloc _ = w3
    have hg : Below w2.heap.size w2 w3 := by rw [← hw3]; (repeat (first | (with_reducible exact Below.refl _ _) | (with_reducible assumption) | (with_reducible refine Below.grow ?_ ?_ _ _) | (with_reducible refine Below.drewN' ?_ _) | (with_reducible refine Below.drew ?_) | (with_reducible refine Below.alloc ?_ ?_ _) | (with_reducible refine Below.setCell ?_ ?_ _) | omega | (focus (simp; done)) | (focus (simp; omega))))
    have hv0 : OwnI w3 w.heap.size 3 (.slice (some ⟨w2.heap.size, 0, none⟩) 0 0) [] := by rw [← hw3]; exact ownI_new w2 w.heap.size _ rfl hbw.size
    have hs3 : w2.heap.size < w3.heap.size := by rw [← hw3]; simp
    clear hw3
    replace hbw := hbw.trans (hg.mono hbw.size); replace hB1 := hB1.below hg hB1.lt; clear r0 r1 r2 r3 rf rl; obtain ⟨r0, r1, r2, r3, rf, rl⟩ := hB1.facts4; clear hg
    refine (letters_any (some ⟨bf, of_, none⟩) n cap f wb dir ex 0 X 0 X _ (HRD.out.below hbw) HSN.out HCP.out (by omega) (by omega)).mono ?_
    rintro e w4 ⟨x1, rfl, hg, hx⟩
    replace hv0 := hv0.below hg (Nat.le_refl _)
    replace hx := hx.rd
    rw [Nat.sub_zero] at hx
    replace hbw := hbw.trans (hg.mono hbw.size); replace hB1 := hB1.below hg hB1.lt; clear r0 r1 r2 r3 rf rl; obtain ⟨r0, r1, r2, r3, rf, rl⟩ := hB1.facts4; clear hg
    have q1 := lettersL_le f 0 X
    have q2 := lettersL_le f X (Y - X)
    have q3 := lettersL_le f Y (n - Y)
    have HV := Lib.hid hv0
    have HX := Lib.hid hx
    have HBZ := Lib.hid hbw
    have HBB := Lib.hid hB1
    clear hv0 hx hbw hB1
    go_wp2_with (at_builtin; refine wpList_append_ints rfl _ _ _ rfl w.heap.size 3 i3 rfl HI3.out HZ3.out HS3.out HB3.out _ _ [] (lettersL f 0 X) rfl rfl HV.out HX.out (by simp only [List.length_nil]; omega) HBZ.out.size ?_; intro v2 w5 hv2 hgb hor; have hbw := below_own HBZ.out hgb (fun g hg => (HV.out.lt hg).1) HBZ.out.size; have hB1 := HBB.out.gb hgb (HV.out.ne_ HBB.out (by decide)); clear hgb hor HV HX HBZ HBB r0 r1 r2 r3 rf rl; obtain ⟨r0, r1, r2, r3, rf, rl⟩ := hB1.facts4)
    rw [List.nil_append] at hv2
    refine (letters_any (some ⟨bf, of_, none⟩) n cap f wb dir ex X Y X Y _ (HRD.out.below hbw) HSN.out HCP.out (by omega) (by omega)).mono ?_
    rintro e w6 ⟨x2, rfl, hg, hx⟩
    have hsz := hbw.size
    replace hv2 := hv2.below hg (Nat.le_refl _)
    replace hx := hx.rd
    replace hbw := hbw.trans (hg.mono hbw.size); replace hB1 := hB1.below hg hB1.lt; clear r0 r1 r2 r3 rf rl; obtain ⟨r0, r1, r2, r3, rf, rl⟩ := hB1.facts4; clear hg
    have HV := Lib.hid hv2
    have HX := Lib.hid hx
    have HBZ := Lib.hid hbw
    have HBB := Lib.hid hB1
    clear hv2 hx hbw hB1 hsz
    go_wp2_with (at_builtin; refine wpList_append_ints rfl _ _ _ rfl w.heap.size 3 i3 rfl HI3.out HZ3.out HS3.out HB3.out _ _ (lettersL f 0 X) (lettersL f X (Y - X)) rfl rfl HV.out HX.out (by omega) HBZ.out.size ?_; intro v3 w7 hv3 hgb hor; have hbw := below_own HBZ.out hgb (fun g hg => (HV.out.lt hg).1) HBZ.out.size; have hB1 := HBB.out.gb hgb (HV.out.ne_ HBB.out (by decide)); clear hgb hor HV HX HBZ HBB r0 r1 r2 r3 rf rl; obtain ⟨r0, r1, r2, r3, rf, rl⟩ := hB1.facts4)
    rw [show lettersL f 0 X ++ lettersL f X (Y - X) = lettersL f 0 Y from by rw [show lettersL f X (Y - X) = lettersL f (0 + X) (Y - X) by rw [Nat.zero_add], lettersL_append, show X + (Y - X) = Y by omega]] at hv3
    have q4 := lettersL_le f 0 Y
    refine (letters_any (some ⟨bf, of_, none⟩) n cap f wb dir ex Y n Y n _ (HRD.out.below hbw) HSN.out HCP.out (by omega) (by omega)).mono ?_
    rintro e w8 ⟨x3, rfl, hg, hx⟩
    replace hv3 := hv3.below hg (Nat.le_refl _)
    replace hx := hx.rd
    replace hbw := hbw.trans (hg.mono hbw.size); replace hB1 := hB1.below hg hB1.lt; clear r0 r1 r2 r3 rf rl; obtain ⟨r0, r1, r2, r3, rf, rl⟩ := hB1.facts4; clear hg
    have HV := Lib.hid hv3
    have HX := Lib.hid hx
    have HBZ := Lib.hid hbw
    have HBB := Lib.hid hB1
    clear hv3 hx hbw hB1
    go_wp2_with (at_builtin; refine wpList_append_ints rfl _ _ _ rfl w.heap.size 3 i3 rfl HI3.out HZ3.out HS3.out HB3.out _ _ (lettersL f 0 Y) (lettersL f Y (n - Y)) rfl rfl HV.out HX.out (by omega) HBZ.out.size ?_; intro v4 w9 hv4 hgb hor; have hbw := below_own HBZ.out hgb (fun g hg => (HV.out.lt hg).1) HBZ.out.size; have hB1 := HBB.out.gb hgb (HV.out.ne_ HBB.out (by decide)); clear hgb hor HV HX HBZ HBB r0 r1 r2 r3 rf rl; obtain ⟨r0, r1, r2, r3, rf, rl⟩ := hB1.facts4)
    rw [show lettersL f 0 Y ++ lettersL f Y (n - Y) = lettersL f 0 n from by rw [show lettersL f Y (n - Y) = lettersL f (0 + Y) (n - Y) by rw [Nat.zero_add], lettersL_append, show Y + (n - Y) = n by omega]] at hv4
    have hrl := hv4.rd
    clear hv4 q1 q2 q3 q4 hloI
    obtain ⟨A4, c4, rfl, hcl⟩ := hrl
    have hrl : RdI w9 (.slice A4 (lettersL f 0 n).length c4) (lettersL f 0 n) := ⟨A4, c4, rfl, hcl⟩
    clear hcl
    obtain ⟨K, hK, hKn, hKP⟩ := lenF_prop HSN.out
    have HKP := Lib.hid hKP
    clear hKP
    go_loopw [14, 15] (fun v i wz => ∃ k : Nat, k ≤ n ∧ i = .int .i64 k ∧ v = .int .i64 ((lettersL f 0 k).length : Int) ∧ Below w9.heap.size w9 wz) (fun _ i _ => n - (intOf i).toNat)
    case atStart => exact ⟨0, Nat.zero_le _, rfl, rfl, Below.refl _ _⟩
    case round =>
      obtain ⟨k, hk, rfl, rfl, hbz⟩ := hrel
      have hg := hbz
      replace hrl := hrl.below hg
      replace hbw := hbw.trans (hg.mono hbw.size); replace hB1 := hB1.below hg hB1.lt; clear r0 r1 r2 r3 rf rl; obtain ⟨r0, r1, r2, r3, rf, rl⟩ := hB1.facts4; clear hg
      by_cases hlt : k < n
      · --<1
        obtain ⟨b', o', e1, hbl, hcf⟩ := HRD.out.below hbw (by omega)
        injection e1 with e1
        injection e1 with e1 e2
        subst e1 e2
        have hck := hcf k hlt
        have hfz := lettersOf_len (fits_of_sane HSN.out (i := k) (by omega))
        have hle := lettersL_le f 0 k
        have HL : Hid ((lettersL f 0 (k + 1)).length = (lettersL f 0 k).length + (lettersOf (f k)).length) := by
          show (lettersL f 0 k ++ lettersOf (f (0 + k))).length = _
          rw [Nat.zero_add, List.length_append]
        have HFZ := Lib.hid hfz
        generalize (lettersOf (f k)).length = ln at *
        generalize (lettersL f 0 k).length = l1 at *
        clear hfz
        generalize f k = cl at *
        obtain ⟨R, m0, m1, W, fg, bg, fl⟩ := cl
        obtain ⟨c0, c1, c2, c3, c4_, c5, c6⟩ := hck
        simp only at c0 c1 c2 c3 c4_ c5 c6
        clear hcf
        have hltI : (k : Int) < (n : Int) := by omega
        have hws := hbz.size
        go_wp2_with fail
        all_goals
          go_roundw
          case rel => exact ⟨k + 1, by omega, by go_num, by (rename_i t1 t2 t3; have hz := HFZ.out; have hy := HL.out; clear HFZ HL; simp only [t2, t3] at hz; (first | rw [if_pos t1] at hz | rw [if_neg (by omega)] at hz); simp at hz; rw [hy]; congr 1; omega), by (repeat (first | (with_reducible exact Below.refl _ _) | (with_reducible assumption) | (with_reducible refine Below.grow ?_ ?_ _ _) | (with_reducible refine Below.drewN' ?_ _) | (with_reducible refine Below.drew ?_) | (with_reducible refine Below.alloc ?_ ?_ _) | (with_reducible refine Below.setCell ?_ ?_ _) | omega | (focus (simp; done)) | (focus (simp; omega))))⟩
          case measure => simp [intOf]; omega
        -->1
      · obtain rfl : k = n := by omega
        go_wp2_with fail
        have hle := lettersL_le f 0 k
        refine (length_c (some ⟨bf, of_, none⟩) k cap f wb dir ex _ (HRD.out.below hbw) HSN.out).mono ?_
        rintro e w11 ⟨rfl, hg⟩
        rw [hK]
        have HKE := Lib.hid hK
        clear hK
        replace hrl := hrl.below hg
        replace hbw := hbw.trans (hg.mono hbw.size); replace hB1 := hB1.below hg hB1.lt; clear r0 r1 r2 r3 rf rl; obtain ⟨r0, r1, r2, r3, rf, rl⟩ := hB1.facts4; clear hg
        rcases K with _ | j
        · go_wp2_with fail
          refine (letters_any (some ⟨bf, of_, none⟩) k cap f wb dir ex 0 k 0 k _ (HRD.out.below hbw) HSN.out HCP.out (by omega) (by omega)).mono ?_
          rintro e w12 ⟨x4, rfl, hg, hx⟩
          replace hx := hx.rd
          rw [Nat.sub_zero] at hx
          replace hrl := hrl.below hg
          replace hbw := hbw.trans (hg.mono hbw.size); replace hB1 := hB1.below hg hB1.lt; clear r0 r1 r2 r3 rf rl; obtain ⟨r0, r1, r2, r3, rf, rl⟩ := hB1.facts4; clear hg
          go_wp2_with fail
          refine (ints_c _ _ (lettersL f 0 k) (lettersL f 0 k) _ hrl hx (by omega) (by omega)).mono ?_
          rintro e w13 ⟨rfl, hg⟩
          replace hg := hg.below w12.heap.size
          rw [decide_eq_true (rfl : lettersL f 0 k = lettersL f 0 k)]
          replace hbw := hbw.trans (hg.mono hbw.size); replace hB1 := hB1.below hg hB1.lt; clear r0 r1 r2 r3 rf rl; obtain ⟨r0, r1, r2, r3, rf, rl⟩ := hB1.facts4; clear hg
          go_wp2_with fail
          go_ret
          exact ⟨rfl, hbw.toGrow⟩
        · have ej : ((j + 1 : Nat) : Int) = (j : Int) + 1 := by omega
          rw [ej]
          have hkp := HKP.out (by omega)
          rw [show j + 1 - 1 = j by omega] at hkp
          have j1 : (j : Int) < k := by omega
          have j2 : j < k := by omega
          have j3 : ((j : Int) + 1 == 0) = false := by simp; omega
          clear ej
          go_wp2_with fail
          refine (letters_any (some ⟨bf, of_, none⟩) k cap f wb dir ex 0 k 0 k _ (HRD.out.below hbw) HSN.out HCP.out (by omega) (by omega)).mono ?_
          rintro e w12 ⟨x4, rfl, hg, hx⟩
          replace hx := hx.rd
          rw [Nat.sub_zero] at hx
          replace hrl := hrl.below hg
          replace hbw := hbw.trans (hg.mono hbw.size); replace hB1 := hB1.below hg hB1.lt; clear r0 r1 r2 r3 rf rl; obtain ⟨r0, r1, r2, r3, rf, rl⟩ := hB1.facts4; clear hg
          go_wp2_with fail
          refine (ints_c _ _ (lettersL f 0 k) (lettersL f 0 k) _ hrl hx (by omega) (by omega)).mono ?_
          rintro e w13 ⟨rfl, hg⟩
          replace hg := hg.below w12.heap.size
          rw [decide_eq_true (rfl : lettersL f 0 k = lettersL f 0 k)]
          replace hbw := hbw.trans (hg.mono hbw.size); replace hB1 := hB1.below hg hB1.lt; clear r0 r1 r2 r3 rf rl; obtain ⟨r0, r1, r2, r3, rf, rl⟩ := hB1.facts4; clear hg
          obtain ⟨b', o', e1, hbl, hcf⟩ := HRD.out.below hbw (by omega)
          injection e1 with e1
          injection e1 with e1 e2
          subst e1 e2
          obtain ⟨c0, c1, c2, c3, c4_, c5, c6⟩ := hcf j (by omega)
          clear hcf
          by_cases hR : (f j).r = 0
          · have hR' : ((f j).r != 0) = false := by simpa using hR
            by_cases hW : (f j).w = 0
            · have hW' : ((f j).w == 0) = true := by simpa using hW
              clear hkp hR hW
              go_wp2_with fail
              go_ret
              exact ⟨rfl, hbw.toGrow⟩
            · have hW' : ((f j).w == 0) = false := by simpa using hW
              have hP : decide ((f j).fg = 0 ∧ (f j).bg = 0 ∧ (f j).fl = 0) = false := (hkp.resolve_left (fun h => h hR)).resolve_left hW
              clear hkp hR hW
              go_wp2_with fail
              go_ret
              exact ⟨rfl, hbw.toGrow⟩
          · have hR' : ((f j).r != 0) = true := by simpa using hR
            clear hkp hR
            go_wp2_with fail
            go_ret
            exact ⟨rfl, hbw.toGrow⟩
  · subst hXY
    have hloI : (0 : Int) ≤ X := by omega
    have hxyI : ¬ X < X := by omega
    go_wp2_with fail
    generalize hw3 : w2.alloc _ = w3
    have hg : Below w2.heap.size w2 w3 := by rw [← hw3]; (repeat (first | (with_reducible exact Below.refl _ _) | (with_reducible assumption) | (with_reducible refine Below.grow ?_ ?_ _ _) | (with_reducible refine Below.drewN' ?_ _) | (with_reducible refine Below.drew ?_) | (with_reducible refine Below.alloc ?_ ?_ _) | (with_reducible refine Below.setCell ?_ ?_ _) | omega | (focus (simp; done)) | (focus (simp; omega))))
    have hv0 : OwnI w3 w.heap.size 3 (.slice (some ⟨w2.heap.size, 0, none⟩) 0 0) [] := by rw [← hw3]; exact ownI_new w2 w.heap.size _ rfl hbw.size
    have hs3 : w2.heap.size < w3.heap.size := by rw [← hw3]; simp
    clear hw3
    replace hbw := hbw.trans (hg.mono hbw.size); replace hB1 := hB1.below hg hB1.lt; clear r0 r1 r2 r3 rf rl; obtain ⟨r0, r1, r2, r3, rf, rl⟩ := hB1.facts4; clear hg
    refine (letters_any (some ⟨bf, of_, none⟩) n cap f wb dir ex 0 X 0 X _ (HRD.out.below hbw) HSN.out HCP.out (by omega) (by omega)).mono ?_
    rintro e w4 ⟨x1, rfl, hg, hx⟩
    replace hv0 := hv0.below hg (Nat.le_refl _)
    replace hx := hx.rd
    rw [Nat.sub_zero] at hx
    replace hbw := hbw.trans (hg.mono hbw.size); replace hB1 := hB1.below hg hB1.lt; clear r0 r1 r2 r3 rf rl; obtain ⟨r0, r1, r2, r3, rf, rl⟩ := hB1.facts4; clear hg
    have q1 := lettersL_le f 0 X
    have q2 := lettersL_le f X (X - X)
    have q3 := lettersL_le f X (n - X)
    have HV := Lib.hid hv0
    have HX := Lib.hid hx
    have HBZ := Lib.hid hbw
    have HBB := Lib.hid hB1
    clear hv0 hx hbw hB1
    go_wp2_with (at_builtin; refine wpList_append_ints rfl _ _ _ rfl w.heap.size 3 i3 rfl HI3.out HZ3.out HS3.out HB3.out _ _ [] (lettersL f 0 X) rfl rfl HV.out HX.out (by simp only [List.length_nil]; omega) HBZ.out.size ?_; intro v2 w5 hv2 hgb hor; have hbw := below_own HBZ.out hgb (fun g hg => (HV.out.lt hg).1) HBZ.out.size; have hB1 := HBB.out.gb hgb (HV.out.ne_ HBB.out (by decide)); clear hgb hor HV HX HBZ HBB r0 r1 r2 r3 rf rl; obtain ⟨r0, r1, r2, r3, rf, rl⟩ := hB1.facts4)
    rw [List.nil_append] at hv2
    refine (letters_any (some ⟨bf, of_, none⟩) n cap f wb dir ex X X X X _ (HRD.out.below hbw) HSN.out HCP.out (by omega) (by omega)).mono ?_
    rintro e w6 ⟨x2, rfl, hg, hx⟩
    have hsz := hbw.size
    replace hv2 := hv2.below hg (Nat.le_refl _)
    replace hx := hx.rd
    replace hbw := hbw.trans (hg.mono hbw.size); replace hB1 := hB1.below hg hB1.lt; clear r0 r1 r2 r3 rf rl; obtain ⟨r0, r1, r2, r3, rf, rl⟩ := hB1.facts4; clear hg
    have HV := Lib.hid hv2
    have HX := Lib.hid hx
    have HBZ := Lib.hid hbw
    have HBB := Lib.hid hB1
    clear hv2 hx hbw hB1 hsz
    go_wp2_with (at_builtin; refine wpList_append_ints rfl _ _ _ rfl w.heap.size 3 i3 rfl HI3.out HZ3.out HS3.out HB3.out _ _ (lettersL f 0 X) (lettersL f X (X - X)) rfl rfl HV.out HX.out (by omega) HBZ.out.size ?_; intro v3 w7 hv3 hgb hor; have hbw := below_own HBZ.out hgb (fun g hg => (HV.out.lt hg).1) HBZ.out.size; have hB1 := HBB.out.gb hgb (HV.out.ne_ HBB.out (by decide)); clear hgb hor HV HX HBZ HBB r0 r1 r2 r3 rf rl; obtain ⟨r0, r1, r2, r3, rf, rl⟩ := hB1.facts4)
    rw [show lettersL f 0 X ++ lettersL f X (X - X) = lettersL f 0 X from by rw [show lettersL f X (X - X) = lettersL f (0 + X) (X - X) by rw [Nat.zero_add], lettersL_append, show X + (X - X) = X by omega]] at hv3
    have q4 := lettersL_le f 0 X
    refine (letters_any (some ⟨bf, of_, none⟩) n cap f wb dir ex X n X n _ (HRD.out.below hbw) HSN.out HCP.out (by omega) (by omega)).mono ?_
    rintro e w8 ⟨x3, rfl, hg, hx⟩
    replace hv3 := hv3.below hg (Nat.le_refl _)
    replace hx := hx.rd
    replace hbw := hbw.trans (hg.mono hbw.size); replace hB1 := hB1.below hg hB1.lt; clear r0 r1 r2 r3 rf rl; obtain ⟨r0, r1, r2, r3, rf, rl⟩ := hB1.facts4; clear hg
    have HV := Lib.hid hv3
    have HX := Lib.hid hx
    have HBZ := Lib.hid hbw
    have HBB := Lib.hid hB1
    clear hv3 hx hbw hB1
    go_wp2_with (at_builtin; refine wpList_append_ints rfl _ _ _ rfl w.heap.size 3 i3 rfl HI3.out HZ3.out HS3.out HB3.out _ _ (lettersL f 0 X) (lettersL f X (n - X)) rfl rfl HV.out HX.out (by omega) HBZ.out.size ?_; intro v4 w9 hv4 hgb hor; have hbw := below_own HBZ.out hgb (fun g hg => (HV.out.lt hg).1) HBZ.out.size; have hB1 := HBB.out.gb hgb (HV.out.ne_ HBB.out (by decide)); clear hgb hor HV HX HBZ HBB r0 r1 r2 r3 rf rl; obtain ⟨r0, r1, r2, r3, rf, rl⟩ := hB1.facts4)
    rw [show lettersL f 0 X ++ lettersL f X (n - X) = lettersL f 0 n from by rw [show lettersL f X (n - X) = lettersL f (0 + X) (n - X) by rw [Nat.zero_add], lettersL_append, show X + (n - X) = n by omega]] at hv4
    have hrl := hv4.rd
    clear hv4 q1 q2 q3 q4 hloI
    obtain ⟨A4, c4, rfl, hcl⟩ := hrl
    have hrl : RdI w9 (.slice A4 (lettersL f 0 n).length c4) (lettersL f 0 n) := ⟨A4, c4, rfl, hcl⟩
    clear hcl
    obtain ⟨K, hK, hKn, hKP⟩ := lenF_prop HSN.out
    have HKP := Lib.hid hKP
    clear hKP
    go_loopw [14, 15] (fun v i wz => ∃ k : Nat, k ≤ n ∧ i = .int .i64 k ∧ v = .int .i64 ((lettersL f 0 k).length : Int) ∧ Below w9.heap.size w9 wz) (fun _ i _ => n - (intOf i).toNat)
    case atStart => exact ⟨0, Nat.zero_le _, rfl, rfl, Below.refl _ _⟩
    case round =>
      obtain ⟨k, hk, rfl, rfl, hbz⟩ := hrel
      have hg := hbz
      replace hrl := hrl.below hg
      replace hbw := hbw.trans (hg.mono hbw.size); replace hB1 := hB1.below hg hB1.lt; clear r0 r1 r2 r3 rf rl; obtain ⟨r0, r1, r2, r3, rf, rl⟩ := hB1.facts4; clear hg
      by_cases hlt : k < n
      · --<1
        obtain ⟨b', o', e1, hbl, hcf⟩ := HRD.out.below hbw (by omega)
        injection e1 with e1
        injection e1 with e1 e2
        subst e1 e2
        have hck := hcf k hlt
        have hfz := lettersOf_len (fits_of_sane HSN.out (i := k) (by omega))
        have hle := lettersL_le f 0 k
        have HL : Hid ((lettersL f 0 (k + 1)).length = (lettersL f 0 k).length + (lettersOf (f k)).length) := by
          show (lettersL f 0 k ++ lettersOf (f (0 + k))).length = _
          rw [Nat.zero_add, List.length_append]
        have HFZ := Lib.hid hfz
        generalize (lettersOf (f k)).length = ln at *
        generalize (lettersL f 0 k).length = l1 at *
        clear hfz
        generalize f k = cl at *
        obtain ⟨R, m0, m1, W, fg, bg, fl⟩ := cl
        obtain ⟨c0, c1, c2, c3, c4_, c5, c6⟩ := hck
        simp only at c0 c1 c2 c3 c4_ c5 c6
        clear hcf
        have hltI : (k : Int) < (n : Int) := by omega
        have hws := hbz.size
        go_wp2_with fail
        all_goals
          go_roundw
          case rel => exact ⟨k + 1, by omega, by go_num, by (rename_i t1 t2 t3; have hz := HFZ.out; have hy := HL.out; clear HFZ HL; simp only [t2, t3] at hz; (first | rw [if_pos t1] at hz | rw [if_neg (by omega)] at hz); simp at hz; rw [hy]; congr 1; omega), by (repeat (first | (with_reducible exact Below.refl _ _) | (with_reducible assumption) | (with_reducible refine Below.grow ?_ ?_ _ _) | (with_reducible refine Below.drewN' ?_ _) | (with_reducible refine Below.drew ?_) | (with_reducible refine Below.alloc ?_ ?_ _) | (with_reducible refine Below.setCell ?_ ?_ _) | omega | (focus (simp; done)) | (focus (simp; omega))))⟩
          case measure => simp [intOf]; omega
        -->1
      · obtain rfl : k = n := by omega
        go_wp2_with fail
        have hle := lettersL_le f 0 k
        refine (length_c (some ⟨bf, of_, none⟩) k cap f wb dir ex _ (HRD.out.below hbw) HSN.out).mono ?_
        rintro e w11 ⟨rfl, hg⟩
        rw [hK]
        have HKE := Lib.hid hK
        clear hK
        replace hrl := hrl.below hg
        replace hbw := hbw.trans (hg.mono hbw.size); replace hB1 := hB1.below hg hB1.lt; clear r0 r1 r2 r3 rf rl; obtain ⟨r0, r1, r2, r3, rf, rl⟩ := hB1.facts4; clear hg
        rcases K with _ | j
        · go_wp2_with fail
          refine (letters_any (some ⟨bf, of_, none⟩) k cap f wb dir ex 0 k 0 k _ (HRD.out.below hbw) HSN.out HCP.out (by omega) (by omega)).mono ?_
          rintro e w12 ⟨x4, rfl, hg, hx⟩
          replace hx := hx.rd
          rw [Nat.sub_zero] at hx
          replace hrl := hrl.below hg
          replace hbw := hbw.trans (hg.mono hbw.size); replace hB1 := hB1.below hg hB1.lt; clear r0 r1 r2 r3 rf rl; obtain ⟨r0, r1, r2, r3, rf, rl⟩ := hB1.facts4; clear hg
          go_wp2_with fail
          refine (ints_c _ _ (lettersL f 0 k) (lettersL f 0 k) _ hrl hx (by omega) (by omega)).mono ?_
          rintro e w13 ⟨rfl, hg⟩
          replace hg := hg.below w12.heap.size
          rw [decide_eq_true (rfl : lettersL f 0 k = lettersL f 0 k)]
          replace hbw := hbw.trans (hg.mono hbw.size); replace hB1 := hB1.below hg hB1.lt; clear r0 r1 r2 r3 rf rl; obtain ⟨r0, r1, r2, r3, rf, rl⟩ := hB1.facts4; clear hg
          go_wp2_with fail
          go_ret
          exact ⟨rfl, hbw.toGrow⟩
        · have ej : ((j + 1 : Nat) : Int) = (j : Int) + 1 := by omega
          rw [ej]
          have hkp := HKP.out (by omega)
          rw [show j + 1 - 1 = j by omega] at hkp
          have j1 : (j : Int) < k := by omega
          have j2 : j < k := by omega
          have j3 : ((j : Int) + 1 == 0) = false := by simp; omega
          clear ej
          go_wp2_with fail
          refine (letters_any (some ⟨bf, of_, none⟩) k cap f wb dir ex 0 k 0 k _ (HRD.out.below hbw) HSN.out HCP.out (by omega) (by omega)).mono ?_
          rintro e w12 ⟨x4, rfl, hg, hx⟩
          replace hx := hx.rd
          rw [Nat.sub_zero] at hx
          replace hrl := hrl.below hg
          replace hbw := hbw.trans (hg.mono hbw.size); replace hB1 := hB1.below hg hB1.lt; clear r0 r1 r2 r3 rf rl; obtain ⟨r0, r1, r2, r3, rf, rl⟩ := hB1.facts4; clear hg
          go_wp2_with fail
          refine (ints_c _ _ (lettersL f 0 k) (lettersL f 0 k) _ hrl hx (by omega) (by omega)).mono ?_
          rintro e w13 ⟨rfl, hg⟩
          replace hg := hg.below w12.heap.size
          rw [decide_eq_true (rfl : lettersL f 0 k = lettersL f 0 k)]
          replace hbw := hbw.trans (hg.mono hbw.size); replace hB1 := hB1.below hg hB1.lt; clear r0 r1 r2 r3 rf rl; obtain ⟨r0, r1, r2, r3, rf, rl⟩ := hB1.facts4; clear hg
          obtain ⟨b', o', e1, hbl, hcf⟩ := HRD.out.below hbw (by omega)
          injection e1 with e1
          injection e1 with e1 e2
          subst e1 e2
          obtain ⟨c0, c1, c2, c3, c4_, c5, c6⟩ := hcf j (by omega)
          clear hcf
          by_cases hR : (f j).r = 0
          · have hR' : ((f j).r != 0) = false := by simpa using hR
            by_cases hW : (f j).w = 0
            · have hW' : ((f j).w == 0) = true := by simpa using hW
              clear hkp hR hW
              go_wp2_with fail
              go_ret
              exact ⟨rfl, hbw.toGrow⟩
            · have hW' : ((f j).w == 0) = false := by simpa using hW
              have hP : decide ((f j).fg = 0 ∧ (f j).bg = 0 ∧ (f j).fl = 0) = false := (hkp.resolve_left (fun h => h hR)).resolve_left hW
              clear hkp hR hW
              go_wp2_with fail
              go_ret
              exact ⟨rfl, hbw.toGrow⟩
          · have hR' : ((f j).r != 0) = true := by simpa using hR
            clear hkp hR
            go_wp2_with fail
            go_ret
            exact ⟨rfl, hbw.toGrow⟩
  · have hloI : (0 : Int) ≤ Y := by omega
    have hxyI : ¬ X < Y := by omega
    go_wp2_with fail
    generalize hw3 : w2.alloc _ = w3
    have hg : Below w2.heap.size w2 w3 := by rw [← hw3]; (repeat (first | (with_reducible exact Below.refl _ _) | (with_reducible assumption) | (with_reducible refine Below.grow ?_ ?_ _ _) | (with_reducible refine Below.drewN' ?_ _) | (with_reducible refine Below.drew ?_) | (with_reducible refine Below.alloc ?_ ?_ _) | (with_reducible refine Below.setCell ?_ ?_ _) | omega | (focus (simp; done)) | (focus (simp; omega))))
    have hv0 : OwnI w3 w.heap.size 3 (.slice (some ⟨w2.heap.size, 0, none⟩) 0 0) [] := by rw [← hw3]; exact ownI_new w2 w.heap.size _ rfl hbw.size
    have hs3 : w2.heap.size < w3.heap.size := by rw [← hw3]; simp
    clear hw3
    replace hbw := hbw.trans (hg.mono hbw.size); replace hB1 := hB1.below hg hB1.lt; clear r0 r1 r2 r3 rf rl; obtain ⟨r0, r1, r2, r3, rf, rl⟩ := hB1.facts4; clear hg
    refine (letters_any (some ⟨bf, of_, none⟩) n cap f wb dir ex 0 Y 0 Y _ (HRD.out.below hbw) HSN.out HCP.out (by omega) (by omega)).mono ?_
    rintro e w4 ⟨x1, rfl, hg, hx⟩
    replace hv0 := hv0.below hg (Nat.le_refl _)
    replace hx := hx.rd
    rw [Nat.sub_zero] at hx
    replace hbw := hbw.trans (hg.mono hbw.size); replace hB1 := hB1.below hg hB1.lt; clear r0 r1 r2 r3 rf rl; obtain ⟨r0, r1, r2, r3, rf, rl⟩ := hB1.facts4; clear hg
    have q1 := lettersL_le f 0 Y
    have q2 := lettersL_le f Y (X - Y)
    have q3 := lettersL_le f X (n - X)
    have HV := Lib.hid hv0
    have HX := Lib.hid hx
    have HBZ := Lib.hid hbw
    have HBB := Lib.hid hB1
    clear hv0 hx hbw hB1
    go_wp2_with (at_builtin; refine wpList_append_ints rfl _ _ _ rfl w.heap.size 3 i3 rfl HI3.out HZ3.out HS3.out HB3.out _ _ [] (lettersL f 0 Y) rfl rfl HV.out HX.out (by simp only [List.length_nil]; omega) HBZ.out.size ?_; intro v2 w5 hv2 hgb hor; have hbw := below_own HBZ.out hgb (fun g hg => (HV.out.lt hg).1) HBZ.out.size; have hB1 := HBB.out.gb hgb (HV.out.ne_ HBB.out (by decide)); clear hgb hor HV HX HBZ HBB r0 r1 r2 r3 rf rl; obtain ⟨r0, r1, r2, r3, rf, rl⟩ := hB1.facts4)
    rw [List.nil_append] at hv2
    refine (letters_any (some ⟨bf, of_, none⟩) n cap f wb dir ex Y X Y X _ (HRD.out.below hbw) HSN.out HCP.out (by omega) (by omega)).mono ?_
    rintro e w6 ⟨x2, rfl, hg, hx⟩
    have hsz := hbw.size
    replace hv2 := hv2.below hg (Nat.le_refl _)
    replace hx := hx.rd
    replace hbw := hbw.trans (hg.mono hbw.size); replace hB1 := hB1.below hg hB1.lt; clear r0 r1 r2 r3 rf rl; obtain ⟨r0, r1, r2, r3, rf, rl⟩ := hB1.facts4; clear hg
    have HV := Lib.hid hv2
    have HX := Lib.hid hx
    have HBZ := Lib.hid hbw
    have HBB := Lib.hid hB1
    clear hv2 hx hbw hB1 hsz
    go_wp2_with (at_builtin; refine wpList_append_ints rfl _ _ _ rfl w.heap.size 3 i3 rfl HI3.out HZ3.out HS3.out HB3.out _ _ (lettersL f 0 Y) (lettersL f Y (X - Y)) rfl rfl HV.out HX.out (by omega) HBZ.out.size ?_; intro v3 w7 hv3 hgb hor; have hbw := below_own HBZ.out hgb (fun g hg => (HV.out.lt hg).1) HBZ.out.size; have hB1 := HBB.out.gb hgb (HV.out.ne_ HBB.out (by decide)); clear hgb hor HV HX HBZ HBB r0 r1 r2 r3 rf rl; obtain ⟨r0, r1, r2, r3, rf, rl⟩ := hB1.facts4)
    rw [show lettersL f 0 Y ++ lettersL f Y (X - Y) = lettersL f 0 X from by rw [show lettersL f Y (X - Y) = lettersL f (0 + Y) (X - Y) by rw [Nat.zero_add], lettersL_append, show Y + (X - Y) = X by omega]] at hv3
    have q4 := lettersL_le f 0 X
    refine (letters_any (some ⟨bf, of_, none⟩) n cap f wb dir ex X n X n _ (HRD.out.below hbw) HSN.out HCP.out (by omega) (by omega)).mono ?_
    rintro e w8 ⟨x3, rfl, hg, hx⟩
    replace hv3 := hv3.below hg (Nat.le_refl _)
    replace hx := hx.rd
    replace hbw := hbw.trans (hg.mono hbw.size); replace hB1 := hB1.below hg hB1.lt; clear r0 r1 r2 r3 rf rl; obtain ⟨r0, r1, r2, r3, rf, rl⟩ := hB1.facts4; clear hg
    have HV := Lib.hid hv3
    have HX := Lib.hid hx
    have HBZ := Lib.hid hbw
    have HBB := Lib.hid hB1
    clear hv3 hx hbw hB1
    go_wp2_with (at_builtin; refine wpList_append_ints rfl _ _ _ rfl w.heap.size 3 i3 rfl HI3.out HZ3.out HS3.out HB3.out _ _ (lettersL f 0 X) (lettersL f X (n - X)) rfl rfl HV.out HX.out (by omega) HBZ.out.size ?_; intro v4 w9 hv4 hgb hor; have hbw := below_own HBZ.out hgb (fun g hg => (HV.out.lt hg).1) HBZ.out.size; have hB1 := HBB.out.gb hgb (HV.out.ne_ HBB.out (by decide)); clear hgb hor HV HX HBZ HBB r0 r1 r2 r3 rf rl; obtain ⟨r0, r1, r2, r3, rf, rl⟩ := hB1.facts4)
    rw [show lettersL f 0 X ++ lettersL f X (n - X) = lettersL f 0 n from by rw [show lettersL f X (n - X) = lettersL f (0 + X) (n - X) by rw [Nat.zero_add], lettersL_append, show X + (n - X) = n by omega]] at hv4
    have hrl := hv4.rd
    clear hv4 q1 q2 q3 q4 hloI
    obtain ⟨A4, c4, rfl, hcl⟩ := hrl
    have hrl : RdI w9 (.slice A4 (lettersL f 0 n).length c4) (lettersL f 0 n) := ⟨A4, c4, rfl, hcl⟩
    clear hcl
    obtain ⟨K, hK, hKn, hKP⟩ := lenF_prop HSN.out
    have HKP := Lib.hid hKP
    clear hKP
    go_loopw [14, 15] (fun v i wz => ∃ k : Nat, k ≤ n ∧ i = .int .i64 k ∧ v = .int .i64 ((lettersL f 0 k).length : Int) ∧ Below w9.heap.size w9 wz) (fun _ i _ => n - (intOf i).toNat)
    case atStart => exact ⟨0, Nat.zero_le _, rfl, rfl, Below.refl _ _⟩
    case round =>
      obtain ⟨k, hk, rfl, rfl, hbz⟩ := hrel
      have hg := hbz
      replace hrl := hrl.below hg
      replace hbw := hbw.trans (hg.mono hbw.size); replace hB1 := hB1.below hg hB1.lt; clear r0 r1 r2 r3 rf rl; obtain ⟨r0, r1, r2, r3, rf, rl⟩ := hB1.facts4; clear hg
      by_cases hlt : k < n
      · --<1
        obtain ⟨b', o', e1, hbl, hcf⟩ := HRD.out.below hbw (by omega)
        injection e1 with e1
        injection e1 with e1 e2
        subst e1 e2
        have hck := hcf k hlt
        have hfz := lettersOf_len (fits_of_sane HSN.out (i := k) (by omega))
        have hle := lettersL_le f 0 k
        have HL : Hid ((lettersL f 0 (k + 1)).length = (lettersL f 0 k).length + (lettersOf (f k)).length) := by
          show (lettersL f 0 k ++ lettersOf (f (0 + k))).length = _
          rw [Nat.zero_add, List.length_append]
        have HFZ := Lib.hid hfz
        generalize (lettersOf (f k)).length = ln at *
        generalize (lettersL f 0 k).length = l1 at *
        clear hfz
        generalize f k = cl at *
        obtain ⟨R, m0, m1, W, fg, bg, fl⟩ := cl
        obtain ⟨c0, c1, c2, c3, c4_, c5, c6⟩ := hck
        simp only at c0 c1 c2 c3 c4_ c5 c6
        clear hcf
        have hltI : (k : Int) < (n : Int) := by omega
        have hws := hbz.size
        go_wp2_with fail
        all_goals
          go_roundw
          case rel => exact ⟨k + 1, by omega, by go_num, by (rename_i t1 t2 t3; have hz := HFZ.out; have hy := HL.out; clear HFZ HL; simp only [t2, t3] at hz; (first | rw [if_pos t1] at hz | rw [if_neg (by omega)] at hz); simp at hz; rw [hy]; congr 1; omega), by (repeat (first | (with_reducible exact Below.refl _ _) | (with_reducible assumption) | (with_reducible refine Below.grow ?_ ?_ _ _) | (with_reducible refine Below.drewN' ?_ _) | (with_reducible refine Below.drew ?_) | (with_reducible refine Below.alloc ?_ ?_ _) | (with_reducible refine Below.setCell ?_ ?_ _) | omega | (focus (simp; done)) | (focus (simp; omega))))⟩
          case measure => simp [intOf]; omega
        -->1
      · obtain rfl : k = n := by omega
        go_wp2_with fail
        have hle := lettersL_le f 0 k
        refine (length_c (some ⟨bf, of_, none⟩) k cap f wb dir ex _ (HRD.out.below hbw) HSN.out).mono ?_
        rintro e w11 ⟨rfl, hg⟩
        rw [hK]
        have HKE := Lib.hid hK
        clear hK
        replace hrl := hrl.below hg
        replace hbw := hbw.trans (hg.mono hbw.size); replace hB1 := hB1.below hg hB1.lt; clear r0 r1 r2 r3 rf rl; obtain ⟨r0, r1, r2, r3, rf, rl⟩ := hB1.facts4; clear hg
        rcases K with _ | j
        · go_wp2_with fail
          refine (letters_any (some ⟨bf, of_, none⟩) k cap f wb dir ex 0 k 0 k _ (HRD.out.below hbw) HSN.out HCP.out (by omega) (by omega)).mono ?_
          rintro e w12 ⟨x4, rfl, hg, hx⟩
          replace hx := hx.rd
          rw [Nat.sub_zero] at hx
          replace hrl := hrl.below hg
          replace hbw := hbw.trans (hg.mono hbw.size); replace hB1 := hB1.below hg hB1.lt; clear r0 r1 r2 r3 rf rl; obtain ⟨r0, r1, r2, r3, rf, rl⟩ := hB1.facts4; clear hg
          go_wp2_with fail
          refine (ints_c _ _ (lettersL f 0 k) (lettersL f 0 k) _ hrl hx (by omega) (by omega)).mono ?_
          rintro e w13 ⟨rfl, hg⟩
          replace hg := hg.below w12.heap.size
          rw [decide_eq_true (rfl : lettersL f 0 k = lettersL f 0 k)]
          replace hbw := hbw.trans (hg.mono hbw.size); replace hB1 := hB1.below hg hB1.lt; clear r0 r1 r2 r3 rf rl; obtain ⟨r0, r1, r2, r3, rf, rl⟩ := hB1.facts4; clear hg
          go_wp2_with fail
          go_ret
          exact ⟨rfl, hbw.toGrow⟩
        · have ej : ((j + 1 : Nat) : Int) = (j : Int) + 1 := by omega
          rw [ej]
          have hkp := HKP.out (by omega)
          rw [show j + 1 - 1 = j by omega] at hkp
          have j1 : (j : Int) < k := by omega
          have j2 : j < k := by omega
          have j3 : ((j : Int) + 1 == 0) = false := by simp; omega
          clear ej
          go_wp2_with fail
          refine (letters_any (some ⟨bf, of_, none⟩) k cap f wb dir ex 0 k 0 k _ (HRD.out.below hbw) HSN.out HCP.out (by omega) (by omega)).mono ?_
          rintro e w12 ⟨x4, rfl, hg, hx⟩
          replace hx := hx.rd
          rw [Nat.sub_zero] at hx
          replace hrl := hrl.below hg
          replace hbw := hbw.trans (hg.mono hbw.size); replace hB1 := hB1.below hg hB1.lt; clear r0 r1 r2 r3 rf rl; obtain ⟨r0, r1, r2, r3, rf, rl⟩ := hB1.facts4; clear hg
          go_wp2_with fail
          refine (ints_c _ _ (lettersL f 0 k) (lettersL f 0 k) _ hrl hx (by omega) (by omega)).mono ?_
          rintro e w13 ⟨rfl, hg⟩
          replace hg := hg.below w12.heap.size
          rw [decide_eq_true (rfl : lettersL f 0 k = lettersL f 0 k)]
          replace hbw := hbw.trans (hg.mono hbw.size); replace hB1 := hB1.below hg hB1.lt; clear r0 r1 r2 r3 rf rl; obtain ⟨r0, r1, r2, r3, rf, rl⟩ := hB1.facts4; clear hg
          obtain ⟨b', o', e1, hbl, hcf⟩ := HRD.out.below hbw (by omega)
          injection e1 with e1
          injection e1 with e1 e2
          subst e1 e2
          obtain ⟨c0, c1, c2, c3, c4_, c5, c6⟩ := hcf j (by omega)
          clear hcf
          by_cases hR : (f j).r = 0
          · have hR' : ((f j).r != 0) = false := by simpa using hR
            by_cases hW : (f j).w = 0
            · have hW' : ((f j).w == 0) = true := by simpa using hW
              clear hkp hR hW
              go_wp2_with fail
              go_ret
              exact ⟨rfl, hbw.toGrow⟩
            · have hW' : ((f j).w == 0) = false := by simpa using hW
              have hP : decide ((f j).fg = 0 ∧ (f j).bg = 0 ∧ (f j).fl = 0) = false := (hkp.resolve_left (fun h => h hR)).resolve_left hW
              clear hkp hR hW
              go_wp2_with fail
              go_ret
              exact ⟨rfl, hbw.toGrow⟩
          · have hR' : ((f j).r != 0) = true := by simpa using hR
            clear hkp hR
            go_wp2_with fail
            go_ret
            exact ⟨rfl, hbw.toGrow⟩

theorem letters_law (A : Option Addr) (n cap : Nat) (f : Nat → Cl) (wb : Bool) (dir : Int) (ex : Bool) (a b : Int) (w : World) (hr : Rd w A n f) (hcap : n ≤ cap) : Calls Try.prog 11 #[.agg #[.slice A n cap, .bool wb, .int .i64 dir, .bool ex], .int .i64 a, .int .i64 b] w fun e w' => e = .returned (.bool true) ∧ Grew w w' := by
  by_cases hn : n ≤ 300
  · cases hs : saneB n f dir
    · exact letters_insane A n cap f wb dir ex a b w hr hn hs
    · exact letters_sane A n cap f wb dir ex a b w hr hcap hn hs
  · exact letters_long A n cap wb dir ex a b w (by omega)
end Go.Proofs.Ytpnadnjcacaibaa.Row
