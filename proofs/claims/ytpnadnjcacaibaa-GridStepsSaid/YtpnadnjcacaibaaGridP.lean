/- Walk of lapwinglaw09.GridSteps: plain laws first. -/
import Derived.Test.YtpnadnjcacaibaaGridN
namespace Go.Proofs.Ytpnadnjcacaibaa.Row
open Go.RowKit
attribute [local go_sem] Nat.add_assoc Nat.add_pos_iff_pos_or_pos lt_add_r2 le_add_r2
/-- the rows after i steps up -/
def StepU (F : Nat → Rw) (t b m i : Nat) (U : Nat → Rw) : Prop :=
  ∀ j, (j < t ∨ b ≤ j → U j = F j) ∧ (t ≤ j → j < b - i → U j = F (j + i)) ∧ (t ≤ j → b - i ≤ j → j < b → ∃ B, U j = newRw B m 0 0 0)
theorem stepU_zero (F : Nat → Rw) (t b m : Nat) : StepU F t b m 0 F := fun j => ⟨fun _ => rfl, fun _ _ => rfl, fun _ h1 h2 => by omega⟩
theorem stepU_next {F U : Nat → Rw} {t b m i : Nat} {B : Nat → Nat} (h : StepU F t b m i U) (hi : t + i < b) : StepU F t b m (i + 1) (layG (mvG U t 1 (b - t - 1)) (b - 1) 1 B m 0 0 0) := by
  intro j
  have hl : layG (mvG U t 1 (b - t - 1)) (b - 1) 1 B m 0 0 0 j = if b - 1 ≤ j ∧ j < b - 1 + 1 then newRw (B (j - (b - 1))) m 0 0 0 else if t ≤ j ∧ j < t + (b - t - 1) then U (j + 1) else U j := rfl
  refine ⟨fun h1 => ?_, fun h1 h2 => ?_, fun h0 h1 h2 => ?_⟩
  · rw [hl, if_neg (by omega), if_neg (by omega)]
    exact (h j).1 h1
  · rw [hl, if_neg (by omega), if_pos (by omega), (h (j + 1)).2.1 (by omega) (by omega)]
    congr 1
    omega
  · rw [hl]
    by_cases e : b - 1 ≤ j ∧ j < b - 1 + 1
    · rw [if_pos e]
      exact ⟨_, rfl⟩
    · rw [if_neg e, if_pos (by omega)]
      exact (h (j + 1)).2.2 (by omega) (by omega) (by omega)
theorem newRw_same (b b' m : Nat) : sameRw (newRw b m 0 0 0) (newRw b' m 0 0 0) = true := sameRw_iff.2 ⟨rfl, fun _ _ => rfl, rfl, rfl, rfl⟩
theorem sameL_listG {n : Nat} {F G : Nat → Rw} (h : ∀ i, i < n → sameRw (F i) (G i) = true) : sameL (listG n F) (listG n G) = true :=
  sameL_iff.2 ⟨by rw [listG_len, listG_len], fun i h1 h2 => by rw [listG_at, listG_at]; exact h i (by rwa [listG_len] at h1)⟩
theorem steps_same {F U : Nat → Rw} {t b m q n : Nat} {B : Nat → Nat} (h : StepU F t b m q U) (hq : t + q ≤ b) : sameL (listG n (layG (mvG F t q (b - t - q)) (b - q) q B m 0 0 0)) (listG n U) = true := by
  refine sameL_listG fun j _ => ?_
  have hl : layG (mvG F t q (b - t - q)) (b - q) q B m 0 0 0 j = if b - q ≤ j ∧ j < b - q + q then newRw (B (j - (b - q))) m 0 0 0 else if t ≤ j ∧ j < t + (b - t - q) then F (j + q) else F j := rfl
  rw [hl]
  by_cases h1 : b - q ≤ j ∧ j < b - q + q
  · rw [if_pos h1]
    obtain ⟨B', e⟩ := (h j).2.2 (by omega) (by omega) (by omega)
    rw [e]
    exact newRw_same _ _ _
  · rw [if_neg h1]
    by_cases h2 : t ≤ j ∧ j < t + (b - t - q)
    · rw [if_pos h2, (h j).2.1 (by omega) (by omega)]
      exact sameRow_refl _
    · rw [if_neg h2, (h j).1 (by omega)]
      exact sameRow_refl _
theorem listG_succ (n : Nat) (f : Nat → Rw) : listG (n + 1) f = listG n f ++ [f n] := by simp [listG, List.range_succ]
theorem listG_part (n : Nat) (F : Nat → Rw) (t b : Nat) (hb : b ≤ n) : ((listG n F).drop t).take (b - t) = listG (b - t) (fun i => F (t + i)) := by
  apply List.ext_getElem?
  intro i
  by_cases h : i < b - t
  · rw [listG_get h, List.getElem?_take_of_lt h, List.getElem?_drop, listG_get (by omega)]
  · rw [List.getElem?_eq_none (by rw [List.length_take]; omega), List.getElem?_eq_none (by rw [listG_len]; omega)]
set_option maxRecDepth 100000 in
set_option maxHeartbeats 8000000 in
theorem steps_in (x : Value) (a b c : Int) (L : List Rw) (w : World) (hx : RdR0 w x L) (hl : L.length ≤ maxLen) (h1 : fewB L = true) (h3 : gsaneB L = true) :
    Calls Try.prog 9 #[x, .int .i64 a, .int .i64 b, .int .i64 c] w fun e w' => e = .returned (.bool true) ∧ Grew w w' := by
  obtain ⟨n, F, rfl⟩ : ∃ n F, L = listG n F := ⟨_, _, listG_of L zeroRw⟩
  obtain ⟨A, cap, rfl, hc⟩ := hx.1.len
  obtain ⟨hln, -, -⟩ := gsane_iff.1 h3
  have hll := (few_iff.1 h1).1
  have HL := Lib.hid hl
  have HLL : Hid ((listG n F).length ≤ 5000) := by show _ ≤ _; omega
  rw [listG_len] at hc hln hll hx ⊢
  have HX0 := Lib.hid hx
  have HX := Lib.hid (hx.few h1)
  have HS := Lib.hid h3
  clear hx hl
  obtain ⟨i3, hi3, hz3, hs3, hb3⟩ := row_parts
  have HI3 := Lib.hid hi3
  have HZ3 := Lib.hid hz3
  have HS3 := Lib.hid hs3
  have HB3_ := Lib.hid hb3
  clear hi3 hz3 hs3 hb3
  have hand1 : bits .and .i64 a 65535 = a % 65536 := and_mask 16 (by omega) a
  have hand2 : bits .and .i64 b 65535 = b % 65536 := and_mask 16 (by omega) b
  have hand3 : bits .and .i64 c 65535 = c % 65536 := and_mask 16 (by omega) c
  have hand4 : bits .and .i64 c 255 = c % 256 := and_mask 8 (by omega) c
  obtain ⟨t, ht⟩ : ∃ q : Nat, a % 65536 % (n : Int) = (q : Int) := ⟨(a % 65536 % (n : Int)).toNat, (Int.toNat_of_nonneg (Int.emod_nonneg _ (by omega))).symm⟩
  have htn : t < n := by
    have := Int.emod_lt_of_pos (a % 65536) (show (0 : Int) < n by omega)
    omega
  obtain ⟨u, hu⟩ : ∃ q : Nat, b % 65536 % ((n : Int) - t) = (q : Int) := ⟨(b % 65536 % ((n : Int) - t)).toNat, (Int.toNat_of_nonneg (Int.emod_nonneg _ (by omega))).symm⟩
  have hun : t + 1 + u ≤ n := by
    have := Int.emod_lt_of_pos (b % 65536) (show (0 : Int) < (n : Int) - t by omega)
    omega
  obtain ⟨e, he⟩ : ∃ e : Nat, (t : Int) + 1 + u = (e : Int) := ⟨t + 1 + u, by omega⟩
  obtain ⟨q, hq⟩ : ∃ q : Nat, c % 65536 % ((e : Int) - t + 1) = (q : Int) := ⟨(c % 65536 % ((e : Int) - t + 1)).toNat, (Int.toNat_of_nonneg (Int.emod_nonneg _ (by omega))).symm⟩
  have hqn : t + q ≤ e := by
    have := Int.emod_lt_of_pos (c % 65536) (show (0 : Int) < (e : Int) - t + 1 by omega)
    omega
  have hte : t < e := by omega
  have hen : e ≤ n := by omega
  have hnI : ¬ (n : Int) = 0 := by omega
  have hnN : ¬ n = 0 := by omega
  go_enter Try.func9, Try.ntmps9
  go_upto_region 5 with (first | (go_at_call 37; refine (awake9_c _).mono ?_; rintro e w1 ⟨rfl, XA, dA, rfl⟩) | (go_at_call 20; (with_reducible refine (few_c (.slice A n cap) (listG n F) _ (HX0.out.below (by (repeat (first | (with_reducible exact Below.refl _ _) | (with_reducible assumption) | (with_reducible refine Below.grow ?_ ?_ _ _) | (with_reducible refine Below.drewN' ?_ _) | (with_reducible refine Below.drew ?_) | (with_reducible refine Below.alloc ?_ ?_ _) | (with_reducible refine Below.setCell ?_ ?_ _) | omega | (focus (simp; done)) | (focus (simp; omega)))))) HL.out).mono ?_); rintro e w1 ⟨rfl, rfl⟩) | (go_at_call 38; refine (gsane_c (.slice A n cap) (listG n F) _ (HX.out.below (by (repeat (first | (with_reducible exact Below.refl _ _) | (with_reducible assumption) | (with_reducible refine Below.grow ?_ ?_ _ _) | (with_reducible refine Below.drewN' ?_ _) | (with_reducible refine Below.drew ?_) | (with_reducible refine Below.alloc ?_ ?_ _) | (with_reducible refine Below.setCell ?_ ?_ _) | omega | (focus (simp; done)) | (focus (simp; omega)))))) HLL.out).mono ?_; rintro e w1 ⟨rfl, XS, dS, rfl⟩))
  generalize hw7 : World.alloc _ _ = w7
  have hb7 : Below w.heap.size w w7 := by rw [← hw7]; (repeat (first | (with_reducible exact Below.refl _ _) | (with_reducible assumption) | (with_reducible refine Below.grow ?_ ?_ _ _) | (with_reducible refine Below.drewN' ?_ _) | (with_reducible refine Below.drew ?_) | (with_reducible refine Below.alloc ?_ ?_ _) | (with_reducible refine Below.setCell ?_ ?_ _) | omega | (focus (simp; done)) | (focus (simp; omega))))
  have hBg : Blk w7 (w.heap.size + (XA.size + XS.size)) 60 #[.slice A n cap] := by rw [← hw7]; exact Blk.new_at (by simp [go_sem])
  clear hw7
  generalize w.heap.size + (XA.size + XS.size) = bg at hBg ⊢
  have HBG := Lib.hid hBg
  have r0 := hBg.cell 0
  have rl := hBg.lt
  simp only [List.getElem?_toArray, List.getElem?_cons_zero] at r0
  clear hBg
  go_upto_region 9 with fail
  simp only [ht, hq]
  clear hand1 hand2 hand3 ht hu he hq hun hnI hnN
  go_wp2_with fail
  refine (up_f (.slice A n cap) n F t e q q 0 0 0 _ (HX.out.below hb7) HS.out (by decide) hte hen (by omega)).mono ?_
  rintro e8 w8 ⟨g8, c8, v8, B8, rfl, hg, hc8, hr8, hv8, -⟩
  have hb8 := hb7.trans (hg.mono hb7.size)
  have HBG8 := Lib.hid (HBG.out.below hg HBG.out.lt)
  have HR8 := Lib.hid hr8
  have HV8 := Lib.hid hv8
  obtain ⟨m, hm⟩ : ∃ m, m = (F 0).n := ⟨_, rfl⟩
  obtain ⟨U, hU⟩ : ∃ U, U = layG (mvG F t q (e - t - q)) (e - q) q B8 (F 0).n 0 0 0 := ⟨_, rfl⟩
  rw [← hU] at HR8
  have HU := Lib.hid hU
  have HM := Lib.hid hm
  clear r0 rl hg hr8 hv8 hb7 hU hm HBG
  go_upto_region 10 with fail
  generalize hw9 : w8.alloc _ = w9
  have hg9 : Below w8.heap.size w8 w9 := by rw [← hw9]; (repeat (first | (with_reducible exact Below.refl _ _) | (with_reducible assumption) | (with_reducible refine Below.grow ?_ ?_ _ _) | (with_reducible refine Below.drewN' ?_ _) | (with_reducible refine Below.drew ?_) | (with_reducible refine Below.alloc ?_ ?_ _) | (with_reducible refine Below.setCell ?_ ?_ _) | omega | (focus (simp; done)) | (focus (simp; omega))))
  have hB9 : Blk w9 w8.heap.size 60 #[.slice (some ⟨g8, 0, none⟩) n c8] := by rw [← hw9]; exact Blk.new _ _ _
  clear hw9
  have hb9 := Lib.hid (hb8.trans (hg9.mono hb8.size))
  have HR9 := Lib.hid (HR8.out.below hg9)
  have HV9 := Lib.hid (HV8.out.below hg9)
  have HB9 := Lib.hid hB9
  have HBG9 := Lib.hid (HBG8.out.below hg9 HBG8.out.lt)
  have HX9 := Lib.hid (HX.out.below hb9.out)
  have r0 := HBG9.out.cell 0
  have rl := HBG9.out.lt
  simp only [List.getElem?_toArray, List.getElem?_cons_zero] at r0
  clear hB9 hg9 hb8 HR8 HV8 HBG8
  go_upto_region 13 with fail
  generalize hw10 : w9.alloc _ = w10
  have hg10 : Below w9.heap.size w9 w10 := by rw [← hw10]; (repeat (first | (with_reducible exact Below.refl _ _) | (with_reducible assumption) | (with_reducible refine Below.grow ?_ ?_ _ _) | (with_reducible refine Below.drewN' ?_ _) | (with_reducible refine Below.drew ?_) | (with_reducible refine Below.alloc ?_ ?_ _) | (with_reducible refine Below.setCell ?_ ?_ _) | omega | (focus (simp; done)) | (focus (simp; omega))))
  have hB10 : Blk w10 w9.heap.size 60 #[.slice A n cap] := by rw [← hw10]; exact Blk.new _ _ _
  have hs10 : w10.heap.size = w9.heap.size + 1 := by rw [← hw10]; simp
  clear hw10 r0 rl
  go_wp2_with fail
  go_loopw [18, 19] (fun v i wz => ∃ (j : Nat) (A1 : Option Addr) (c1 : Nat) (U1 : Nat → Rw) (P : Nat → Prop), j ≤ q ∧ i = .int .i64 j ∧ Below w9.heap.size w9 wz ∧ Blk wz w9.heap.size 60 #[.slice A1 n c1] ∧ RdR wz (.slice A1 n c1) (listG n U1) ∧ gsaneB (listG n U1) = true ∧ StepU F t e m j U1 ∧ (U1 0).n = m ∧ OwnX encR wz (w9.heap.size + 1) 24 v (listG j (fun i => F (t + i))) ∧ Ft P (.slice A1 n c1) (listG n U1) ∧ (∀ g, v.ownBlock = some g → ¬ P g) ∧ ¬ P w9.heap.size) (fun _ i _ => q - (intOf i).toNat)
  case atStart => exact ⟨0, A, cap, F, (· < w9.heap.size), Nat.zero_le _, rfl, hg10, hB10, HX9.out.below hg10, HS.out, stepU_zero _ _ _ _, HM.out.symm, OwnX.nil _ _ _, HX9.out.ft, (fun g h => by cases h), by omega⟩
  case round =>
    obtain ⟨j, A1, c1, U1, P, hj, rfl, hbz, hBz, hrz, hsz, hst, hn1, hv, hft, hP1, hP2⟩ := hrel
    by_cases hlt : j < q
    · have hltI : (j : Int) < q := by omega
      have r0 := hBz.cell 0
      have rl := hBz.lt
      simp only [List.getElem?_toArray, List.getElem?_cons_zero] at r0
      have HBz := Lib.hid hBz
      have HV := Lib.hid hv
      have HFT := Lib.hid hft
      have HST := Lib.hid hst
      clear hBz hst hft
      go_wp2_with fail
      refine (up_f (.slice A1 n c1) n U1 t e 1 1 0 0 0 _ hrz hsz (by decide) hte hen (by omega)).mono ?_
      rintro e1 w1 ⟨g1, d1, v1, B1, rfl, hg, hd1, hr1, hv1, hft1⟩
      have hbz1 := hbz.trans (hg.mono hbz.size)
      have hB1 := HBz.out.below hg HBz.out.lt
      have HV1 := Lib.hid (HV.out.below hg (Nat.le_refl _))
      have hwr : w9.heap.size < wr.heap.size := HBz.out.lt
      have hgs := hg.size
      rw [hn1] at hr1 hft1
      obtain ⟨hf1, hf2⟩ := hft1 P HFT.out
      have hne : ∀ b, since P wr.heap.size b → b ≠ w9.heap.size := fun b hb e0 => by
        subst e0
        rcases hb with h | h
        · exact hP2 h
        · omega
      clear r0 rl hft1 hg
      have r0 := hB1.cell 0
      have rl := hB1.lt
      have rf := hB1.frozen
      simp only [List.getElem?_toArray, List.getElem?_cons_zero] at r0
      go_upto_region 17 with fail
      generalize hw3 : World.alloc _ _ = w3
      have hs3 : w3.heap.size = w1.heap.size + 1 := by rw [← hw3]; simp
      have hb3 : Below w9.heap.size w9 w3 := by rw [← hw3]; (repeat (first | (with_reducible exact Below.refl _ _) | (with_reducible assumption) | (with_reducible refine Below.grow ?_ ?_ _ _) | (with_reducible refine Below.drewN' ?_ _) | (with_reducible refine Below.drew ?_) | (with_reducible refine Below.alloc ?_ ?_ _) | (with_reducible refine Below.setCell ?_ ?_ _) | omega | (focus (simp; done)) | (focus (simp; omega))))
      have hB3 : Blk w3 w9.heap.size 60 #[.slice (some ⟨g1, 0, none⟩) n d1] := by rw [← hw3]; exact (hB1.set_ 0 _).alloc _
      have he3 : ∀ b, b ≠ w9.heap.size → b < w1.heap.size → w3.heap[b]? = w1.heap[b]? := fun b hb hb' => by
        rw [← hw3, Below.heap_alloc _ _ _ (by simpa using hb'), Below.heap_setCell _ _ _ _ (fun e0 => hb e0)]
      clear hw3
      have hr3 := hr1.of_ft hf1 (by omega) (fun b hb hb' => he3 b (hne b hb) hb')
      have hv3 := hv1.of_ft hf2 (by omega) (fun b hb hb' => he3 b (hne b hb) hb')
      have HV3 := Lib.hid (HV1.out.of (fun g hg => he3 g (by have := (HV1.out.lt hg).1; omega) (HV1.out.lt hg).2))
      have HVL := Lib.hid (fun g (hg : u18.ownBlock = some g) => (HV.out.lt hg))
      clear r0 rl rf hB1 hr1 hv1 HV1
      have HLA : Hid ((listG j (fun i => F (t + i))).length + (listG 1 (fun i => U1 (t + i))).length ≤ maxLen) := by show _ ≤ _; unfold maxLen; rw [listG_len, listG_len]; omega
      have HLC : Hid (((listG j (fun i => F (t + i))).length + (listG 1 (fun i => U1 (t + i))).length) * 48 ≤ 140737488355328) := by show _ ≤ _; rw [listG_len, listG_len]; omega
      have HLD : Hid (w9.heap.size + 1 ≤ w3.heap.size) := by show _ ≤ _; omega
      go_wp2_with (at_builtin; go_loud (refine wpList_append_X encR rfl _ _ _ rfl (w9.heap.size + 1) 24 48 i3 _ rfl HI3.out HZ3.out HS3.out HB3_.out rfl _ _ (listG j (fun i => F (t + i))) (listG 1 (fun i => U1 (t + i))) rfl rfl HV3.out hv3.1 HLA.out HLC.out HLD.out ?_); intro v4 w4 hv4 hgb hor)
      rw [show listG 1 (fun i => U1 (t + i)) = [F (t + j)] by rw [← (HST.out t).2.1 (by omega) (by omega)]; rfl, ← listG_succ] at hv4
      have hb4 := below_ownx hb3 hgb (fun g hg => by have := (HVL.out g hg).1; omega) (by omega)
      have hB4 := hB3.gb hgb (HV3.out.ne_ hB3 (by decide))
      have hgg := hgb.size
      have hr4 : RdR w4 (.slice (some ⟨g1, 0, none⟩) n d1) (listG n (layG (mvG U1 t 1 (e - t - 1)) (e - 1) 1 B1 m 0 0 0)) := hr3.of_ft hf1 hgg (fun b hb hb' => hgb.block b hb' (fun e0 => by
        rcases hb with h | h
        · exact hP1 b e0.symm h
        · have := (HVL.out b e0.symm).2
          omega))
      have hf4 : Ft (fun b => since P wr.heap.size b ∧ b < w3.heap.size) (.slice (some ⟨g1, 0, none⟩) n d1) (listG n (layG (mvG U1 t 1 (e - t - 1)) (e - 1) 1 B1 m 0 0 0)) := hf1.and hr3.ft
      have hs4 := up_gsane (t := t) (b := e) (q := 1) (B := B1) (fg := 0) (bg := 0) (fl := 0) hsz (by omega) hen (by decide)
      have hn4 := lay_n0 (t := t) (b := e) (q := 1) (B := B1) (fg := 0) (bg := 0) (fl := 0) hsz (by omega) hen
      rw [hn1] at hs4 hn4
      go_wp2_with fail
      go_roundw
      case rel => exact ⟨j + 1, _, _, _, _, by omega, by go_num, hb4, hB4, hr4, hs4, stepU_next HST.out (by omega), hn4, hv4, hf4, (fun g hg h => by
        rcases hor with e0 | e0
        · rw [e0] at hg
          have h5 := (HVL.out g hg).2
          rcases h.1 with h6 | h6
          · exact hP1 g hg h6
          · omega
        · rw [e0] at hg
          injection hg with hg
          omega), (fun h => hne _ h.1 rfl)⟩
      case measure => simp [intOf]; omega
    · obtain rfl : q = j := by omega
      obtain ⟨wo, rfl⟩ : ∃ wo : World, wo = wr := ⟨_, rfl⟩
      have hbo := Lib.hid (hb9.out.trans (hbz.mono hb9.out.size))
      have HXo := Lib.hid (HX9.out.below hbz)
      have HBGo := Lib.hid (HBG9.out.below hbz HBG9.out.lt)
      have HBAo := Lib.hid (HB9.out.below hbz HB9.out.lt)
      have HBOo := Lib.hid hBz
      have HGo := Lib.hid (HV9.out.below hbz)
      have HRo := Lib.hid (HR9.out.below hbz)
      have HTo : Hid (RdR wo u18 (listG q (fun i => F (t + i)))) := ⟨hv.rd, fun r hr => by
        obtain ⟨i, hi, rfl⟩ := listG_mem.1 hr
        exact HXo.out.2 _ (listG_mem.2 ⟨t + i, by omega, rfl⟩)⟩
      have HOo := Lib.hid hrz
      have HSM := Lib.hid (steps_same (n := n) (B := B8) hst hqn)
      have r0 := HBGo.out.cell 0
      have rl := HBGo.out.lt
      simp only [List.getElem?_toArray, List.getElem?_cons_zero] at r0
      clear hBz hrz hsz hst hn1 hv hft hP1 hP2 hbz
      go_wp2_with fail
      refine (up_f (.slice A n cap) n F t e (e - t) _ 0 0 0 _ HXo.out HS.out (by decide) hte hen (by omega)).mono ?_
      rintro e2 w18 ⟨g2, c2, v2, B2, rfl, hg, hc2, hr2, hv2, -⟩
      have HC : Hid (∀ y, t ≤ y → y < e → ∃ B, layG (mvG F t (e - t) (e - t - (e - t))) (e - (e - t)) (e - t) B2 (F 0).n 0 0 0 y = newRw B m 0 0 0) := fun y h1 h2 => by
        unfold layG
        rw [if_pos (by omega), ← HM.out]
        exact ⟨_, rfl⟩
      generalize layG (mvG F t (e - t) (e - t - (e - t))) (e - (e - t)) (e - t) B2 (F 0).n 0 0 0 = C at hr2 HC
      have hb18 := Lib.hid (hbo.out.trans (hg.mono hbo.out.size))
      have HX18 := Lib.hid (HXo.out.below hg)
      have HBA18 := Lib.hid (HBAo.out.below hg HBAo.out.lt)
      have HBO18 := Lib.hid (HBOo.out.below hg HBOo.out.lt)
      have HG18 := Lib.hid (HGo.out.below hg)
      have HR18 := Lib.hid (HRo.out.below hg)
      have HT18 := Lib.hid (HTo.out.below hg)
      have HO18 := Lib.hid (HOo.out.below hg)
      have HC18 := Lib.hid hr2
      have HA18 := Lib.hid hv2
      clear r0 rl hr2 hv2 hg hand4 HXo HBGo HBAo HBOo HGo HRo HTo HOo
      go_upto_region 19 with fail
      generalize hw19 : w18.alloc _ = w19
      have hg : Below w18.heap.size w18 w19 := by rw [← hw19]; (repeat (first | (with_reducible exact Below.refl _ _) | (with_reducible assumption) | (with_reducible refine Below.grow ?_ ?_ _ _) | (with_reducible refine Below.drewN' ?_ _) | (with_reducible refine Below.drew ?_) | (with_reducible refine Below.alloc ?_ ?_ _) | (with_reducible refine Below.setCell ?_ ?_ _) | omega | (focus (simp; done)) | (focus (simp; omega))))
      have hBc : Blk w19 w18.heap.size 60 #[.slice (some ⟨g2, 0, none⟩) n c2] := by rw [← hw19]; exact Blk.new _ _ _
      clear hw19
      have hb19 := Lib.hid (hb18.out.trans (hg.mono hb18.out.size))
      have HX19 := Lib.hid (HX18.out.below hg)
      have HBA19 := Lib.hid (HBA18.out.below hg HBA18.out.lt)
      have HBO19 := Lib.hid (HBO18.out.below hg HBO18.out.lt)
      have HG19 := Lib.hid (HG18.out.below hg)
      have HR19 := Lib.hid (HR18.out.below hg)
      have HT19 := Lib.hid (HT18.out.below hg)
      have HO19 := Lib.hid (HO18.out.below hg)
      have HC19 := Lib.hid (HC18.out.below hg)
      have HA19 := Lib.hid (HA18.out.below hg)
      have HBC := Lib.hid hBc
      have r0 := hBc.cell 0
      have rl := hBc.lt
      simp only [List.getElem?_toArray, List.getElem?_cons_zero] at r0
      clear hBc hg hb18 HX18 HBA18 HBO18 HG18 HR18 HT18 HO18 HC18 HA18
      have HQ : Hid (1 ≤ m ∧ m ≤ 4096) := by
        obtain ⟨z1, z2, -⟩ := sane_iff.1 ((gsane_wd HS.out).2.2 0 (by omega)).2
        rw [← HM.out] at z1 z2
        exact ⟨z1, z2⟩
      obtain ⟨bx, ox, rfl, hbxl, -, -⟩ := HX19.out.at_ (k := 0) (by rw [listG_len]; omega)
      go_upto_region 22 with fail
      clear r0 rl
      go_wp2_with fail
      go_loopw [24] (fun i wz => ∃ y : Nat, t ≤ y ∧ y ≤ e ∧ i = .int .i64 y ∧ Below w19.heap.size w19 wz) (fun i _ => e - (intOf i).toNat)
      case atStart => exact ⟨t, Nat.le_refl _, by omega, rfl, Below.refl _ _⟩
      case round =>
        obtain ⟨y, hy0, hy, rfl, hb⟩ := hrel
        by_cases hlt2 : y < e
        · have hlt2I : (y : Int) < e := by omega
          have hyn : (y : Int) < n := by omega
          have hn0 : 0 < n := by omega
          have hynN : y < n := by omega
          have hBc := HBC.out.below hb HBC.out.lt
          have r0 := hBc.cell 0
          have rl := hBc.lt
          simp only [List.getElem?_toArray, List.getElem?_cons_zero] at r0
          obtain ⟨hatc, hokc, hgcl⟩ := rdR_atG (HC19.out.below hb) hynN
          obtain ⟨hatx, -, hbxl2⟩ := rdR_atG (HX19.out.below hb) (show 0 < n by omega)
          rw [Nat.zero_mul, Nat.add_zero] at hatx
          obtain ⟨y0, -, -, -⟩ := hatx
          rw [← HM.out] at y0
          generalize (F 0).A = A00 at y0
          generalize (F 0).cap = cap00 at y0
          obtain ⟨BC, hCy⟩ := HC.out y hy0 hlt2
          rw [hCy] at hatc hokc
          have HU8 : Hid (∃ B, newRw BC m 0 0 0 = newRw B m 0 0 0) := ⟨_, rfl⟩
          obtain ⟨zc, hzc⟩ : ∃ z, z = newRw BC m 0 0 0 := ⟨_, rfl⟩
          rw [← hzc] at hatc hokc
          have HU := Lib.hid hzc
          have HOKC := Lib.hid hokc
          obtain ⟨p0, p1, p2, p3⟩ := hatc
          simp only [Nat.zero_add] at p0 p1 p2 p3
          have hbs := hb.size
          clear hBc hokc hCy hzc HU8
          go_upto_region 24 with fail
          refine hr_start (S := (fun w' => w'.cell? ⟨w18.heap.size, 0, none⟩ = some (.slice (some ⟨g2, 0, none⟩) n c2) ∧ w'.cell? ⟨bx, ox, none⟩ = some (.slice A00 m cap00) ∧ w'.cell? ⟨g2, y * 4, none⟩ = some (.slice zc.A zc.n zc.cap) ∧ w'.cell? ⟨g2, y * 4 + 1, none⟩ = some (.bool zc.wb) ∧ w'.cell? ⟨g2, y * 4 + 2, none⟩ = some (.int .i64 zc.dir) ∧ w'.cell? ⟨g2, y * 4 + 3, none⟩ = some (.bool zc.ex))) (by kernel_rfl) rfl ?_ (fun hHeld => ?_)
          · ((try dsimp only); go_simp)
          refine hr_take (i := 0) rfl rfl (by kernel_rfl) (by kernel_rfl) (by kernel_rfl) (by kernel_rfl) (fun _ _ _ h => h) (v := ?_) ?_ (by assumption) ?_
          rotate_left
          focus (intro wS hSw; (try dsimp only at hSw); go_simp; (try with_reducible rfl))
          simp only [List.set_cons_zero, List.set_cons_succ]
          refine hr_take (i := 1) rfl rfl (by kernel_rfl) (by kernel_rfl) (by kernel_rfl) (by kernel_rfl) (fun _ _ _ h => h) (v := ?_) ?_ (by assumption) ?_
          rotate_left
          focus (intro wS hSw; (try dsimp only at hSw); go_simp; (try with_reducible rfl))
          simp only [List.set_cons_zero, List.set_cons_succ]
          refine hr_take (i := 2) rfl rfl (by kernel_rfl) (by kernel_rfl) (by kernel_rfl) (by kernel_rfl) (fun _ _ _ h => h) (v := ?_) ?_ (by assumption) ?_
          rotate_left
          focus (intro wS hSw; (try dsimp only at hSw); go_simp; (try with_reducible rfl))
          simp only [List.set_cons_zero, List.set_cons_succ]
          refine hr_take (i := 3) rfl rfl (by kernel_rfl) (by kernel_rfl) (by kernel_rfl) (by kernel_rfl) (fun _ _ _ h => h) (v := ?_) ?_ (by assumption) ?_
          rotate_left
          focus (intro wS hSw; (try dsimp only at hSw); go_simp; (try with_reducible rfl))
          simp only [List.set_cons_zero, List.set_cons_succ]
          refine hr_take (i := 4) rfl rfl (by kernel_rfl) (by kernel_rfl) (by kernel_rfl) (by kernel_rfl) (fun _ _ _ h => h) (v := ?_) ?_ (by assumption) ?_
          rotate_left
          focus (intro wS hSw; (try dsimp only at hSw); go_simp; (try with_reducible rfl))
          simp only [List.set_cons_zero, List.set_cons_succ]
          refine hr_take (i := 5) rfl rfl (by kernel_rfl) (by kernel_rfl) (by kernel_rfl) (by kernel_rfl) (fun _ _ _ h => h) (v := ?_) ?_ (by assumption) ?_
          rotate_left
          focus (intro wS hSw; (try dsimp only at hSw); go_simp; (try with_reducible rfl))
          simp only [List.set_cons_zero, List.set_cons_succ]
          refine hr_take (i := 6) rfl rfl (by kernel_rfl) (by kernel_rfl) (by kernel_rfl) (by kernel_rfl) (fun _ _ _ h => h) (v := ?_) ?_ (by assumption) ?_
          rotate_left
          focus (intro wS hSw; (try dsimp only at hSw); go_simp; (try with_reducible rfl))
          simp only [List.set_cons_zero, List.set_cons_succ]
          refine hr_take (i := 7) rfl rfl (by kernel_rfl) (by kernel_rfl) (by kernel_rfl) (by kernel_rfl) (fun _ _ _ h => h) (v := ?_) ?_ (by assumption) ?_
          rotate_left
          focus (intro wS hSw; (try dsimp only at hSw); go_simp; (try with_reducible rfl))
          simp only [List.set_cons_zero, List.set_cons_succ]
          refine hr_take (i := 8) rfl rfl (by kernel_rfl) (by kernel_rfl) (by kernel_rfl) (by kernel_rfl) (fun _ _ _ h => h) (v := ?_) ?_ (by assumption) ?_
          rotate_left
          focus (intro wS hSw; (try dsimp only at hSw); go_simp; (try with_reducible rfl))
          simp only [List.set_cons_zero, List.set_cons_succ]
          refine hr_take (i := 9) rfl rfl (by kernel_rfl) (by kernel_rfl) (by kernel_rfl) (by kernel_rfl) (fun _ _ _ h => h) (v := ?_) ?_ (by assumption) ?_
          rotate_left
          focus (intro wS hSw; (try dsimp only at hSw); go_simp; (try with_reducible rfl))
          simp only [List.set_cons_zero, List.set_cons_succ]
          refine hr_take (i := 10) rfl rfl (by kernel_rfl) (by kernel_rfl) (by kernel_rfl) (by kernel_rfl) (fun _ _ _ h => h) (v := ?_) ?_ (by assumption) ?_
          rotate_left
          focus (intro wS hSw; (try dsimp only at hSw); go_simp; (try with_reducible rfl))
          simp only [List.set_cons_zero, List.set_cons_succ]
          refine hr_op (i := 11) rfl rfl (by kernel_rfl) (by kernel_rfl) (fun K hK => ?_)
          go_simp
          ((with_reducible refine (new8_c _ m 0 0 0 _ (by have := HQ.out; omega)).mono ?_); rintro e wq ⟨r8, rfl, hg8, hok8, hn8, hf8, hwb8, hd8, he8⟩; obtain ⟨X9, d9, rfl⟩ := Below.toGrow hg8; (try simp only [World.grow_grow] at hok8); (try simp only [Array.append_assoc] at hok8); (try simp only [World.grow_drew] at hok8); have H8S : Hid (sameRw zc r8 = true) := same_new8 HU.out hn8 hf8 hwb8 hd8 he8; have HOK8 := Lib.hid hok8; clear hg8 hok8 hn8 hf8 hwb8 hd8 he8)
          (try go_wp2_with fail)
          refine hK.out _ _ ?_ (fun hHeld => ?_)
          · ((try dsimp only); go_simp)
          clear hK K
          simp only [List.set_cons_zero, List.set_cons_succ]
          refine hr_op (i := 12) rfl rfl (by kernel_rfl) (by kernel_rfl) (fun K hK => ?_)
          go_simp
          ((with_reducible refine (samer_c zc r8 _ (HOKC.out.below (by (repeat (first | (with_reducible exact Below.refl _ _) | (with_reducible assumption) | (with_reducible refine Below.grow ?_ ?_ _ _) | (with_reducible refine Below.drewN' ?_ _) | (with_reducible refine Below.drew ?_) | (with_reducible refine Below.alloc ?_ ?_ _) | (with_reducible refine Below.setCell ?_ ?_ _) | omega | (focus (simp; done)) | (focus (simp; omega)))))) (HOK8.out.below (by (repeat (first | (with_reducible exact Below.refl _ _) | (with_reducible assumption) | (with_reducible refine Below.grow ?_ ?_ _ _) | (with_reducible refine Below.drewN' ?_ _) | (with_reducible refine Below.drew ?_) | (with_reducible refine Below.alloc ?_ ?_ _) | (with_reducible refine Below.setCell ?_ ?_ _) | omega | (focus (simp; done)) | (focus (simp; omega))))))).mono ?_); rw [H8S.out]; rintro e wq ⟨rfl, X10, d10, rfl⟩)
          (try go_wp2_with fail)
          refine hK.out _ _ ?_ (fun hHeld => ?_)
          · ((try dsimp only); go_simp)
          clear hK K
          simp only [List.set_cons_zero, List.set_cons_succ]
          refine hr_take (i := 13) rfl rfl (by kernel_rfl) (by kernel_rfl) (by kernel_rfl) (by kernel_rfl) (fun _ _ _ h => h) (v := ?_) ?_ (by assumption) ?_
          rotate_left
          focus (intro wS hSw; (try dsimp only at hSw); go_simp; (try with_reducible rfl))
          simp only [List.set_cons_zero, List.set_cons_succ]
          refine hr_done (by kernel_rfl) ?_
          go_wp2_with fail
          go_roundw
          case rel => exact ⟨y + 1, by omega, by omega, by go_num, by (repeat (first | (with_reducible exact Below.refl _ _) | (with_reducible assumption) | (with_reducible refine Below.grow ?_ ?_ _ _) | (with_reducible refine Below.drewN' ?_ _) | (with_reducible refine Below.drew ?_) | (with_reducible refine Below.alloc ?_ ?_ _) | (with_reducible refine Below.setCell ?_ ?_ _) | omega | (focus (simp; done)) | (focus (simp; omega))))⟩
          case measure => simp [intOf]; omega
        · obtain rfl : e = y := by omega
          obtain ⟨wo2, rfl⟩ : ∃ wo : World, wo = wr := ⟨_, rfl⟩
          have hBA := HBA19.out.below hb HBA19.out.lt
          have hBO := HBO19.out.below hb HBO19.out.lt
          have HX20 := Lib.hid (HX19.out.below hb)
          have HG20 := Lib.hid (HG19.out.below hb)
          have HR20 := Lib.hid (HR19.out.below hb)
          have HT20 := Lib.hid (HT19.out.below hb)
          have HO20 := Lib.hid (HO19.out.below hb)
          have HA20 := Lib.hid (HA19.out.below hb)
          have r0 := hBA.cell 0
          have rl := hBA.lt
          have s0 := hBO.cell 0
          have sl := hBO.lt
          simp only [List.getElem?_toArray, List.getElem?_cons_zero] at r0 s0
          have hbe := hb19.out.trans (hb.mono hb19.out.size)
          clear hBA hBO hb
          obtain ⟨A4, -, hrun, hcut⟩ := slice2 (E := encR) (P := Try.prog) 36 24 Try.underlying36 (by kernel_rfl) (some ⟨bx, ox, none⟩) n cap t e (by omega) hen hc
          have HL4 : Hid (RdR wo2 (.slice A4 (e - t) (cap - t)) (listG (e - t) (fun i => F (t + i)))) := by
            rw [← listG_part n F t e hen]
            exact ⟨hcut _ _ HX20.out.1, fun r hr => HX20.out.2 r (List.mem_of_mem_drop (List.mem_of_mem_take hr))⟩
          clear hcut
          have hsm := HSM.out
          rw [HM.out, ← HU.out] at hsm
          have HSM2 := Lib.hid hsm
          have hlf : ∀ (k : Nat) (G : Nat → Rw), k ≤ n → (listG k G).length ≤ maxLen := fun k G hk => by rw [listG_len]; unfold maxLen; omega
          have HLF := Lib.hid hlf
          have hbes := hbe.size
          have h5 : q ≤ n := by omega
          have h6 : e - t ≤ n := by omega
          clear hsm hlf
          go_wp2_with (first | (go_at_call 30; (with_reducible refine (sameL_c (.slice (some ⟨g8, 0, none⟩) n c8) (.slice A1 n c1) (listG n U) (listG n U1) _ (HR20.out.below (by (repeat (first | (with_reducible exact Below.refl _ _) | (with_reducible assumption) | (with_reducible refine Below.grow ?_ ?_ _ _) | (with_reducible refine Below.drewN' ?_ _) | (with_reducible refine Below.drew ?_) | (with_reducible refine Below.alloc ?_ ?_ _) | (with_reducible refine Below.setCell ?_ ?_ _) | omega | (focus (simp; done)) | (focus (simp; omega)))))) (HO20.out.below (by (repeat (first | (with_reducible exact Below.refl _ _) | (with_reducible assumption) | (with_reducible refine Below.grow ?_ ?_ _ _) | (with_reducible refine Below.drewN' ?_ _) | (with_reducible refine Below.drew ?_) | (with_reducible refine Below.alloc ?_ ?_ _) | (with_reducible refine Below.setCell ?_ ?_ _) | omega | (focus (simp; done)) | (focus (simp; omega)))))) (HLF.out n U (Nat.le_refl _)) (HLF.out n U1 (Nat.le_refl _))).mono ?_); rw [HSM2.out]; rintro e wq ⟨rfl, Y1, k1, rfl⟩) | (go_at_call 30; (with_reducible refine (sameL_c v8 u18 (listG q (fun i => F (t + i))) (listG q (fun i => F (t + i))) _ (HG20.out.below (by (repeat (first | (with_reducible exact Below.refl _ _) | (with_reducible assumption) | (with_reducible refine Below.grow ?_ ?_ _ _) | (with_reducible refine Below.drewN' ?_ _) | (with_reducible refine Below.drew ?_) | (with_reducible refine Below.alloc ?_ ?_ _) | (with_reducible refine Below.setCell ?_ ?_ _) | omega | (focus (simp; done)) | (focus (simp; omega)))))) (HT20.out.below (by (repeat (first | (with_reducible exact Below.refl _ _) | (with_reducible assumption) | (with_reducible refine Below.grow ?_ ?_ _ _) | (with_reducible refine Below.drewN' ?_ _) | (with_reducible refine Below.drew ?_) | (with_reducible refine Below.alloc ?_ ?_ _) | (with_reducible refine Below.setCell ?_ ?_ _) | omega | (focus (simp; done)) | (focus (simp; omega)))))) (HLF.out q _ h5) (HLF.out q _ h5)).mono ?_); rw [sameL_refl]; rintro e wq ⟨rfl, Y2, k2, rfl⟩) | (go_at_call 30; (with_reducible refine (sameL_c v2 (.slice A4 (e - t) (cap - t)) (listG (e - t) (fun i => F (t + i))) (listG (e - t) (fun i => F (t + i))) _ (HA20.out.below (by (repeat (first | (with_reducible exact Below.refl _ _) | (with_reducible assumption) | (with_reducible refine Below.grow ?_ ?_ _ _) | (with_reducible refine Below.drewN' ?_ _) | (with_reducible refine Below.drew ?_) | (with_reducible refine Below.alloc ?_ ?_ _) | (with_reducible refine Below.setCell ?_ ?_ _) | omega | (focus (simp; done)) | (focus (simp; omega)))))) (HL4.out.below (by (repeat (first | (with_reducible exact Below.refl _ _) | (with_reducible assumption) | (with_reducible refine Below.grow ?_ ?_ _ _) | (with_reducible refine Below.drewN' ?_ _) | (with_reducible refine Below.drew ?_) | (with_reducible refine Below.alloc ?_ ?_ _) | (with_reducible refine Below.setCell ?_ ?_ _) | omega | (focus (simp; done)) | (focus (simp; omega)))))) (HLF.out _ _ h6) (HLF.out _ _ h6)).mono ?_); rw [sameL_refl]; rintro e wq ⟨rfl, Y3, k3, rfl⟩))
          go_ret
          exact ⟨rfl, (Below.toGrow (by repeat (first | (with_reducible exact Below.refl _ _) | (with_reducible assumption) | (with_reducible refine Below.grow ?_ ?_ _ _) | (with_reducible refine Below.drewN' ?_ _) | (with_reducible refine Below.drew ?_) | (with_reducible refine Below.alloc ?_ ?_ _) | (with_reducible refine Below.setCell ?_ ?_ _) | omega | (focus (simp; done)) | (focus (simp; omega)))))⟩
theorem steps_law (x : Value) (a b c : Int) (L : List Rw) (w : World) (hx : RdR0 w x L) (hl : L.length ≤ maxLen) :
    Calls Try.prog 9 #[x, .int .i64 a, .int .i64 b, .int .i64 c] w fun e w' => e = .returned (.bool true) ∧ Grew w w' := by
  by_cases h : fewB L = true ∧ gsaneB L = true
  · exact steps_in x a b c L w hx hl h.1 h.2
  · exact steps_out x a b c L w hx hl h
end Go.Proofs.Ytpnadnjcacaibaa.Row
