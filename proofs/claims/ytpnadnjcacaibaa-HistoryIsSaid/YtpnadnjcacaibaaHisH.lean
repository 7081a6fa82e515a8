/- Walk of lapwinglaw10.HistoryIs. -/
import Derived.Test.YtpnadnjcacaibaaHisG
namespace Go.Proofs.Ytpnadnjcacaibaa.Row
open Go.RowKit
attribute [local go_sem] Nat.add_assoc Nat.add_pos_iff_pos_or_pos lt_add_r2 le_add_r2
set_option maxRecDepth 100000 in
set_option maxHeartbeats 4000000 in
theorem his_out1 (x y z : Value) (c k : Int) (L M G : List Rw) (w : World) (hx : RdR0 w x L) (hy : RdR0 w y M) (hz : RdR0 w z G) (hl : L.length ≤ maxLen) (hm : M.length ≤ maxLen) (hg : G.length ≤ maxLen) (h1 : fewB L = false) : Calls Try.prog 10 #[.agg #[x, .int .i64 c], y, z, .int .i64 k] w fun e w' => e = .returned (.bool true) ∧ Grew w w' := by
  obtain ⟨A, cap, rfl, hc⟩ := hx.1.len
  obtain ⟨A2, cap2, rfl, hc2⟩ := hy.1.len
  obtain ⟨A3, cap3, rfl, hc3⟩ := hz.1.len
  have HX0 := Lib.hid hx
  have HY0 := Lib.hid hy
  have HZ0 := Lib.hid hz
  have HL := Lib.hid hl
  have HM := Lib.hid hm
  have HGL := Lib.hid hg
  have HF1 := Lib.hid h1
  clear h1 hx hy hz hl hm hg
  generalize hn : L.length = n at hc HX0 ⊢
  generalize hn2 : M.length = n2 at hc2 HY0 ⊢
  generalize hn3 : G.length = n3 at hc3 HZ0 ⊢
  clear hn hn2 hn3
  go_enter Try.func10, Try.ntmps10
  go_wp2_with (first | (go_at_call 19; refine (awake10_c _).mono ?_; rintro e w1 ⟨rfl, XA, dA, rfl⟩) | (go_at_call 20; (with_reducible refine (few_c (.slice A n cap) L _ (HX0.out.below (by (repeat (first | (with_reducible exact Below.refl _ _) | (with_reducible assumption) | (with_reducible refine Below.grow ?_ ?_ _ _) | (with_reducible refine Below.drewN' ?_ _) | (with_reducible refine Below.drew ?_) | (with_reducible refine Below.alloc ?_ ?_ _) | (with_reducible refine Below.setCell ?_ ?_ _) | omega | (focus (simp; done)) | (focus (simp; omega)))))) HL.out).mono ?_); rw [HF1.out]; rintro e w1 ⟨rfl, rfl⟩))
  go_ret
  exact ⟨rfl, (Below.toGrow (by repeat (first | (with_reducible exact Below.refl _ _) | (with_reducible assumption) | (with_reducible refine Below.grow ?_ ?_ _ _) | (with_reducible refine Below.drewN' ?_ _) | (with_reducible refine Below.drew ?_) | (with_reducible refine Below.alloc ?_ ?_ _) | (with_reducible refine Below.setCell ?_ ?_ _) | omega | (focus (simp; done)) | (focus (simp; omega)))))⟩
set_option maxRecDepth 100000 in
set_option maxHeartbeats 4000000 in
theorem his_out2 (x y z : Value) (c k : Int) (L M G : List Rw) (w : World) (hx : RdR0 w x L) (hy : RdR0 w y M) (hz : RdR0 w z G) (hl : L.length ≤ maxLen) (hm : M.length ≤ maxLen) (hg : G.length ≤ maxLen) (h1 : fewB L = true) (h2 : fewB M = false) : Calls Try.prog 10 #[.agg #[x, .int .i64 c], y, z, .int .i64 k] w fun e w' => e = .returned (.bool true) ∧ Grew w w' := by
  obtain ⟨A, cap, rfl, hc⟩ := hx.1.len
  obtain ⟨A2, cap2, rfl, hc2⟩ := hy.1.len
  obtain ⟨A3, cap3, rfl, hc3⟩ := hz.1.len
  have HX0 := Lib.hid hx
  have HY0 := Lib.hid hy
  have HZ0 := Lib.hid hz
  have HL := Lib.hid hl
  have HM := Lib.hid hm
  have HGL := Lib.hid hg
  have HF1 := Lib.hid h1
  have HF2 := Lib.hid h2
  clear h1 h2 hx hy hz hl hm hg
  generalize hn : L.length = n at hc HX0 ⊢
  generalize hn2 : M.length = n2 at hc2 HY0 ⊢
  generalize hn3 : G.length = n3 at hc3 HZ0 ⊢
  clear hn hn2 hn3
  go_enter Try.func10, Try.ntmps10
  go_wp2_with (first | (go_at_call 19; refine (awake10_c _).mono ?_; rintro e w1 ⟨rfl, XA, dA, rfl⟩) | (go_at_call 20; (with_reducible refine (few_c (.slice A n cap) L _ (HX0.out.below (by (repeat (first | (with_reducible exact Below.refl _ _) | (with_reducible assumption) | (with_reducible refine Below.grow ?_ ?_ _ _) | (with_reducible refine Below.drewN' ?_ _) | (with_reducible refine Below.drew ?_) | (with_reducible refine Below.alloc ?_ ?_ _) | (with_reducible refine Below.setCell ?_ ?_ _) | omega | (focus (simp; done)) | (focus (simp; omega)))))) HL.out).mono ?_); rw [HF1.out]; rintro e w1 ⟨rfl, rfl⟩) | (go_at_call 20; (with_reducible refine (few_c (.slice A2 n2 cap2) M _ (HY0.out.below (by (repeat (first | (with_reducible exact Below.refl _ _) | (with_reducible assumption) | (with_reducible refine Below.grow ?_ ?_ _ _) | (with_reducible refine Below.drewN' ?_ _) | (with_reducible refine Below.drew ?_) | (with_reducible refine Below.alloc ?_ ?_ _) | (with_reducible refine Below.setCell ?_ ?_ _) | omega | (focus (simp; done)) | (focus (simp; omega)))))) HM.out).mono ?_); rw [HF2.out]; rintro e w1 ⟨rfl, rfl⟩))
  go_ret
  exact ⟨rfl, (Below.toGrow (by repeat (first | (with_reducible exact Below.refl _ _) | (with_reducible assumption) | (with_reducible refine Below.grow ?_ ?_ _ _) | (with_reducible refine Below.drewN' ?_ _) | (with_reducible refine Below.drew ?_) | (with_reducible refine Below.alloc ?_ ?_ _) | (with_reducible refine Below.setCell ?_ ?_ _) | omega | (focus (simp; done)) | (focus (simp; omega)))))⟩
set_option maxRecDepth 100000 in
set_option maxHeartbeats 4000000 in
theorem his_out3 (x y z : Value) (c k : Int) (L M G : List Rw) (w : World) (hx : RdR0 w x L) (hy : RdR0 w y M) (hz : RdR0 w z G) (hl : L.length ≤ maxLen) (hm : M.length ≤ maxLen) (hg : G.length ≤ maxLen) (h1 : fewB L = true) (h2 : fewB M = true) (h3 : fewB G = false) : Calls Try.prog 10 #[.agg #[x, .int .i64 c], y, z, .int .i64 k] w fun e w' => e = .returned (.bool true) ∧ Grew w w' := by
  obtain ⟨A, cap, rfl, hc⟩ := hx.1.len
  obtain ⟨A2, cap2, rfl, hc2⟩ := hy.1.len
  obtain ⟨A3, cap3, rfl, hc3⟩ := hz.1.len
  have HX0 := Lib.hid hx
  have HY0 := Lib.hid hy
  have HZ0 := Lib.hid hz
  have HL := Lib.hid hl
  have HM := Lib.hid hm
  have HGL := Lib.hid hg
  have HF1 := Lib.hid h1
  have HF2 := Lib.hid h2
  have HF3 := Lib.hid h3
  clear h1 h2 h3 hx hy hz hl hm hg
  generalize hn : L.length = n at hc HX0 ⊢
  generalize hn2 : M.length = n2 at hc2 HY0 ⊢
  generalize hn3 : G.length = n3 at hc3 HZ0 ⊢
  clear hn hn2 hn3
  go_enter Try.func10, Try.ntmps10
  go_wp2_with (first | (go_at_call 19; refine (awake10_c _).mono ?_; rintro e w1 ⟨rfl, XA, dA, rfl⟩) | (go_at_call 20; (with_reducible refine (few_c (.slice A n cap) L _ (HX0.out.below (by (repeat (first | (with_reducible exact Below.refl _ _) | (with_reducible assumption) | (with_reducible refine Below.grow ?_ ?_ _ _) | (with_reducible refine Below.drewN' ?_ _) | (with_reducible refine Below.drew ?_) | (with_reducible refine Below.alloc ?_ ?_ _) | (with_reducible refine Below.setCell ?_ ?_ _) | omega | (focus (simp; done)) | (focus (simp; omega)))))) HL.out).mono ?_); rw [HF1.out]; rintro e w1 ⟨rfl, rfl⟩) | (go_at_call 20; (with_reducible refine (few_c (.slice A2 n2 cap2) M _ (HY0.out.below (by (repeat (first | (with_reducible exact Below.refl _ _) | (with_reducible assumption) | (with_reducible refine Below.grow ?_ ?_ _ _) | (with_reducible refine Below.drewN' ?_ _) | (with_reducible refine Below.drew ?_) | (with_reducible refine Below.alloc ?_ ?_ _) | (with_reducible refine Below.setCell ?_ ?_ _) | omega | (focus (simp; done)) | (focus (simp; omega)))))) HM.out).mono ?_); rw [HF2.out]; rintro e w1 ⟨rfl, rfl⟩) | (go_at_call 20; (with_reducible refine (few_c (.slice A3 n3 cap3) G _ (HZ0.out.below (by (repeat (first | (with_reducible exact Below.refl _ _) | (with_reducible assumption) | (with_reducible refine Below.grow ?_ ?_ _ _) | (with_reducible refine Below.drewN' ?_ _) | (with_reducible refine Below.drew ?_) | (with_reducible refine Below.alloc ?_ ?_ _) | (with_reducible refine Below.setCell ?_ ?_ _) | omega | (focus (simp; done)) | (focus (simp; omega)))))) HGL.out).mono ?_); rw [HF3.out]; rintro e w1 ⟨rfl, rfl⟩))
  go_ret
  exact ⟨rfl, (Below.toGrow (by repeat (first | (with_reducible exact Below.refl _ _) | (with_reducible assumption) | (with_reducible refine Below.grow ?_ ?_ _ _) | (with_reducible refine Below.drewN' ?_ _) | (with_reducible refine Below.drew ?_) | (with_reducible refine Below.alloc ?_ ?_ _) | (with_reducible refine Below.setCell ?_ ?_ _) | omega | (focus (simp; done)) | (focus (simp; omega)))))⟩
set_option maxRecDepth 100000 in
set_option maxHeartbeats 4000000 in
theorem his_in (x y z : Value) (c k : Int) (L M G : List Rw) (w : World) (hx : RdR0 w x L) (hy : RdR0 w y M) (hz : RdR0 w z G) (hl : L.length ≤ maxLen) (hm : M.length ≤ maxLen) (hg : G.length ≤ maxLen) (h1 : fewB L = true) (h2 : fewB M = true) (h3 : fewB G = true) : Calls Try.prog 10 #[.agg #[x, .int .i64 c], y, z, .int .i64 k] w fun e w' => e = .returned (.bool true) ∧ Grew w w' := by
  obtain ⟨A, cap, rfl, hc⟩ := hx.1.len
  obtain ⟨A2, cap2, rfl, hc2⟩ := hy.1.len
  obtain ⟨A3, cap3, rfl, hc3⟩ := hz.1.len
  have HX0 := Lib.hid hx
  have HY0 := Lib.hid hy
  have HZ0 := Lib.hid hz
  have HL := Lib.hid hl
  have HM := Lib.hid hm
  have HGL := Lib.hid hg
  have HF1 := Lib.hid h1
  have HF2 := Lib.hid h2
  have HF3 := Lib.hid h3
  have HX := Lib.hid (hx.few h1)
  have HY := Lib.hid (hy.few h2)
  have HZ := Lib.hid (hz.few h3)
  have hl1 := (few_iff.1 h1).1
  have hm1 := (few_iff.1 h2).1
  have hg1 := (few_iff.1 h3).1
  have HLL : Hid (L.length ≤ 5000) := by show _ ≤ _; omega
  have HLM : Hid (M.length ≤ 5000) := by show _ ≤ _; omega
  have HLG : Hid (G.length ≤ 5000) := by show _ ≤ _; omega
  obtain ⟨s, hs⟩ : ∃ s, hsaneB L c = s := ⟨_, rfl⟩
  obtain ⟨s2, hs2⟩ : ∃ s2, (hsaneB L c && gsaneB G) = s2 := ⟨_, rfl⟩
  obtain ⟨st, hst⟩ : ∃ st : Nat, (st : Int) = (L.length : Int) - max 0 (min k L.length) := ⟨((L.length : Int) - max 0 (min k L.length)).toNat, by omega⟩
  obtain ⟨q, hq⟩ : ∃ q : Nat, (q : Int) = max 0 (min k L.length) := ⟨(max 0 (min k (L.length : Int))).toNat, by omega⟩
  have HS := Lib.hid hs
  have HS2 := Lib.hid hs2
  have HST := Lib.hid hst
  have HQ := Lib.hid hq
  obtain ⟨r, hr⟩ : ∃ r, r = atR L c k := ⟨_, rfl⟩
  obtain ⟨bb, hbb⟩ : ∃ b, b = atB L c k := ⟨_, rfl⟩
  have HRA : Hid (∀ (wv : World) (xv : Value), RdR wv xv L → r.ok wv) := fun wv xv h => by rw [hr]; exact atR_ok c k h
  have HRE := Lib.hid hr
  have HBE := Lib.hid hbb
  clear hr hbb
  clear h1 h2 h3 hx hy hz hl hm hg hs hs2 hst hq
  generalize hn : L.length = n at hc HX0 HX hl1 ⊢
  generalize hn2 : M.length = n2 at hc2 HY0 HY hm1 ⊢
  generalize hn3 : G.length = n3 at hc3 HZ0 HZ hg1 ⊢
  have HN := Lib.hid hn
  have HN2 := Lib.hid hn2
  have HN3 := Lib.hid hn3
  clear hn hn2 hn3
  go_enter Try.func10, Try.ntmps10
  go_upto_region 4 with (first | (go_at_call 19; refine (awake10_c _).mono ?_; rintro e w1 ⟨rfl, XA, dA, rfl⟩) | (go_at_call 20; (with_reducible refine (few_c (.slice A n cap) L _ (HX0.out.below (by (repeat (first | (with_reducible exact Below.refl _ _) | (with_reducible assumption) | (with_reducible refine Below.grow ?_ ?_ _ _) | (with_reducible refine Below.drewN' ?_ _) | (with_reducible refine Below.drew ?_) | (with_reducible refine Below.alloc ?_ ?_ _) | (with_reducible refine Below.setCell ?_ ?_ _) | omega | (focus (simp; done)) | (focus (simp; omega)))))) HL.out).mono ?_); rw [HF1.out]; rintro e w1 ⟨rfl, rfl⟩) | (go_at_call 20; (with_reducible refine (few_c (.slice A2 n2 cap2) M _ (HY0.out.below (by (repeat (first | (with_reducible exact Below.refl _ _) | (with_reducible assumption) | (with_reducible refine Below.grow ?_ ?_ _ _) | (with_reducible refine Below.drewN' ?_ _) | (with_reducible refine Below.drew ?_) | (with_reducible refine Below.alloc ?_ ?_ _) | (with_reducible refine Below.setCell ?_ ?_ _) | omega | (focus (simp; done)) | (focus (simp; omega)))))) HM.out).mono ?_); rw [HF2.out]; rintro e w1 ⟨rfl, rfl⟩) | (go_at_call 20; (with_reducible refine (few_c (.slice A3 n3 cap3) G _ (HZ0.out.below (by (repeat (first | (with_reducible exact Below.refl _ _) | (with_reducible assumption) | (with_reducible refine Below.grow ?_ ?_ _ _) | (with_reducible refine Below.drewN' ?_ _) | (with_reducible refine Below.drew ?_) | (with_reducible refine Below.alloc ?_ ?_ _) | (with_reducible refine Below.setCell ?_ ?_ _) | omega | (focus (simp; done)) | (focus (simp; omega)))))) HGL.out).mono ?_); rw [HF3.out]; rintro e w1 ⟨rfl, rfl⟩))
  generalize hw3 : World.grow _ _ _ = w3
  have hb3 : Below w.heap.size w w3 := by rw [← hw3]; (repeat (first | (with_reducible exact Below.refl _ _) | (with_reducible assumption) | (with_reducible refine Below.grow ?_ ?_ _ _) | (with_reducible refine Below.drewN' ?_ _) | (with_reducible refine Below.drew ?_) | (with_reducible refine Below.alloc ?_ ?_ _) | (with_reducible refine Below.setCell ?_ ?_ _) | omega | (focus (simp; done)) | (focus (simp; omega))))
  have hB4 : Blk w3 w.heap.size 38 #[.slice A n cap, .int .i64 c] := by rw [← hw3]; exact (Blk.new _ _ _).grow _ _
  clear hw3
  have HW3 := Lib.hid hb3
  have HBK3 := Lib.hid hB4
  clear hb3 hB4
  obtain ⟨hbk_0, hbk_1, hbk_f, hbk_l⟩ := HBK3.out.facts2
  go_wp2_with fail
  refine (ours_c A n cap c _).mono ?_
  rintro e4 w4 ⟨rfl, hg⟩
  replace hg := hg.below
  clear hbk_0 hbk_1 hbk_f hbk_l
  have HW4 := Lib.hid (HW3.out.trans (hg.mono HW3.out.size))
  have HBK4 := Lib.hid (HBK3.out.below hg HBK3.out.lt)
  clear HW3 HBK3 hg
  obtain ⟨hbk_0, hbk_1, hbk_f, hbk_l⟩ := HBK4.out.facts2
  go_upto_region 5 with fail
  generalize hwg : World.alloc _ _ = w5
  have hg : Below w4.heap.size w4 w5 := by rw [← hwg]; (repeat (first | (with_reducible exact Below.refl _ _) | (with_reducible assumption) | (with_reducible refine Below.grow ?_ ?_ _ _) | (with_reducible refine Below.drewN' ?_ _) | (with_reducible refine Below.drew ?_) | (with_reducible refine Below.alloc ?_ ?_ _) | (with_reducible refine Below.setCell ?_ ?_ _) | omega | (focus (simp; done)) | (focus (simp; omega))))
  have hBn : Blk w5 w4.heap.size 41 #[.slice A n cap, .int .i64 c] := by rw [← hwg]; exact Blk.new _ _ _
  clear hwg
  clear hbk_0 hbk_1 hbk_f hbk_l
  have HW5 := Lib.hid (HW4.out.trans (hg.mono HW4.out.size))
  have HBK5 := Lib.hid (HBK4.out.below hg HBK4.out.lt)
  clear HW4 HBK4 hg
  have HBO5 := Lib.hid hBn
  clear hBn
  obtain ⟨hbk_0, hbk_1, hbk_f, hbk_l⟩ := HBK5.out.facts2
  obtain ⟨hbo_0, hbo_1, hbo_f, hbo_l⟩ := HBO5.out.facts2
  go_wp2_with fail
  refine (take_any (.slice A n cap) c k L st s _ (HX.out.below HW5.out) HLL.out HS.out HST.out).mono ?_
  rintro e6 w6 ⟨v1, x1, rfl, hg, hv1, hx1⟩
  obtain ⟨A5, c5, rfl, hc5⟩ := hv1.1.len
  clear hbk_0 hbk_1 hbk_f hbk_l hbo_0 hbo_1 hbo_f hbo_l
  have HW6 := Lib.hid (HW5.out.trans (hg.mono HW5.out.size))
  have HBK6 := Lib.hid (HBK5.out.below hg HBK5.out.lt)
  have HBO6 := Lib.hid (HBO5.out.below hg HBO5.out.lt)
  clear HW5 HBK5 HBO5 hg
  have HV16 := Lib.hid hv1
  have HX16 := Lib.hid hx1
  clear hv1 hx1
  obtain ⟨hbk_0, hbk_1, hbk_f, hbk_l⟩ := HBK6.out.facts2
  obtain ⟨hbo_0, hbo_1, hbo_f, hbo_l⟩ := HBO6.out.facts2
  go_upto_region 6 with fail
  generalize hwg : World.alloc _ _ = w7
  have hg : Below w6.heap.size w6 w7 := by rw [← hwg]; (repeat (first | (with_reducible exact Below.refl _ _) | (with_reducible assumption) | (with_reducible refine Below.grow ?_ ?_ _ _) | (with_reducible refine Below.drewN' ?_ _) | (with_reducible refine Below.drew ?_) | (with_reducible refine Below.alloc ?_ ?_ _) | (with_reducible refine Below.setCell ?_ ?_ _) | omega | (focus (simp; done)) | (focus (simp; omega))))
  have hBn : Blk w7 w6.heap.size 41 #[.slice A5 (hL s (L.take st)).length c5, .int .i64 (hC s c)] := by rw [← hwg]; exact Blk.new _ _ _
  clear hwg
  clear hbk_0 hbk_1 hbk_f hbk_l hbo_0 hbo_1 hbo_f hbo_l
  have HW7 := Lib.hid (HW6.out.trans (hg.mono HW6.out.size))
  have HBK7 := Lib.hid (HBK6.out.below hg HBK6.out.lt)
  have HBO7 := Lib.hid (HBO6.out.below hg HBO6.out.lt)
  have HV17 := Lib.hid (HV16.out.below hg)
  have HX17 := Lib.hid (HX16.out.below hg)
  clear HW6 HBK6 HBO6 HV16 HX16 hg
  have HBA7 := Lib.hid hBn
  clear hBn
  obtain ⟨hbk_0, hbk_1, hbk_f, hbk_l⟩ := HBK7.out.facts2
  obtain ⟨hbo_0, hbo_1, hbo_f, hbo_l⟩ := HBO7.out.facts2
  obtain ⟨hba_0, hba_1, hba_f, hba_l⟩ := HBA7.out.facts2
  go_wp2_with fail
  refine (take10_any (.slice A n cap) c k L st s _ (HX.out.below HW7.out) HLL.out HS.out HST.out).mono ?_
  rintro e8 w8 ⟨v2, x2, rfl, hg, hv2, hx2⟩
  obtain ⟨A6, c6, rfl, hc6⟩ := hv2.1.len
  clear hbk_0 hbk_1 hbk_f hbk_l hbo_0 hbo_1 hbo_f hbo_l hba_0 hba_1 hba_f hba_l
  have HW8 := Lib.hid (HW7.out.trans (hg.mono HW7.out.size))
  have HBK8 := Lib.hid (HBK7.out.below hg HBK7.out.lt)
  have HBO8 := Lib.hid (HBO7.out.below hg HBO7.out.lt)
  have HBA8 := Lib.hid (HBA7.out.below hg HBA7.out.lt)
  have HV18 := Lib.hid (HV17.out.below hg)
  have HX18 := Lib.hid (HX17.out.below hg)
  clear HW7 HBK7 HBO7 HBA7 HV17 HX17 hg
  have HV28 := Lib.hid hv2
  have HX28 := Lib.hid hx2
  clear hv2 hx2
  obtain ⟨hbk_0, hbk_1, hbk_f, hbk_l⟩ := HBK8.out.facts2
  obtain ⟨hbo_0, hbo_1, hbo_f, hbo_l⟩ := HBO8.out.facts2
  obtain ⟨hba_0, hba_1, hba_f, hba_l⟩ := HBA8.out.facts2
  go_upto_region 7 with fail
  generalize hwg : World.alloc _ _ = w9
  have hg : Below w8.heap.size w8 w9 := by rw [← hwg]; (repeat (first | (with_reducible exact Below.refl _ _) | (with_reducible assumption) | (with_reducible refine Below.grow ?_ ?_ _ _) | (with_reducible refine Below.drewN' ?_ _) | (with_reducible refine Below.drew ?_) | (with_reducible refine Below.alloc ?_ ?_ _) | (with_reducible refine Below.setCell ?_ ?_ _) | omega | (focus (simp; done)) | (focus (simp; omega))))
  have hBn : Blk w9 w8.heap.size 38 #[.slice A6 (hL s (L.take st)).length c6, .int .i64 (hC s c)] := by rw [← hwg]; exact Blk.new _ _ _
  clear hwg
  clear hbk_0 hbk_1 hbk_f hbk_l hbo_0 hbo_1 hbo_f hbo_l hba_0 hba_1 hba_f hba_l
  have HW9 := Lib.hid (HW8.out.trans (hg.mono HW8.out.size))
  have HBK9 := Lib.hid (HBK8.out.below hg HBK8.out.lt)
  have HBO9 := Lib.hid (HBO8.out.below hg HBO8.out.lt)
  have HBA9 := Lib.hid (HBA8.out.below hg HBA8.out.lt)
  have HV19 := Lib.hid (HV18.out.below hg)
  have HX19 := Lib.hid (HX18.out.below hg)
  have HV29 := Lib.hid (HV28.out.below hg)
  have HX29 := Lib.hid (HX28.out.below hg)
  clear HW8 HBK8 HBO8 HBA8 HV18 HX18 HV28 HX28 hg
  have HBB9 := Lib.hid hBn
  clear hBn
  obtain ⟨hbk_0, hbk_1, hbk_f, hbk_l⟩ := HBK9.out.facts2
  obtain ⟨hbo_0, hbo_1, hbo_f, hbo_l⟩ := HBO9.out.facts2
  obtain ⟨hba_0, hba_1, hba_f, hba_l⟩ := HBA9.out.facts2
  obtain ⟨hbb_0, hbb_1, hbb_f, hbb_l⟩ := HBB9.out.facts2
  go_wp2_with fail
  refine (at_any (.slice A n cap) c k L _ (HX.out.below HW9.out) HLL.out).mono ?_
  rintro e10 w10 ⟨he, hg⟩
  rw [← HRE.out, ← HBE.out] at he
  subst he
  replace hg := hg.below
  clear hbk_0 hbk_1 hbk_f hbk_l hbo_0 hbo_1 hbo_f hbo_l hba_0 hba_1 hba_f hba_l hbb_0 hbb_1 hbb_f hbb_l
  have HW10 := Lib.hid (HW9.out.trans (hg.mono HW9.out.size))
  have HBK10 := Lib.hid (HBK9.out.below hg HBK9.out.lt)
  have HBO10 := Lib.hid (HBO9.out.below hg HBO9.out.lt)
  have HBA10 := Lib.hid (HBA9.out.below hg HBA9.out.lt)
  have HBB10 := Lib.hid (HBB9.out.below hg HBB9.out.lt)
  have HV110 := Lib.hid (HV19.out.below hg)
  have HX110 := Lib.hid (HX19.out.below hg)
  have HV210 := Lib.hid (HV29.out.below hg)
  have HX210 := Lib.hid (HX29.out.below hg)
  clear HW9 HBK9 HBO9 HBA9 HBB9 HV19 HX19 HV29 HX29 hg
  obtain ⟨hbk_0, hbk_1, hbk_f, hbk_l⟩ := HBK10.out.facts2
  obtain ⟨hbo_0, hbo_1, hbo_f, hbo_l⟩ := HBO10.out.facts2
  obtain ⟨hba_0, hba_1, hba_f, hba_l⟩ := HBA10.out.facts2
  obtain ⟨hbb_0, hbb_1, hbb_f, hbb_l⟩ := HBB10.out.facts2
  go_upto_region 8 with fail
  generalize hwg : World.alloc _ _ = w11
  have hg : Below w10.heap.size w10 w11 := by rw [← hwg]; (repeat (first | (with_reducible exact Below.refl _ _) | (with_reducible assumption) | (with_reducible refine Below.grow ?_ ?_ _ _) | (with_reducible refine Below.drewN' ?_ _) | (with_reducible refine Below.drew ?_) | (with_reducible refine Below.alloc ?_ ?_ _) | (with_reducible refine Below.setCell ?_ ?_ _) | omega | (focus (simp; done)) | (focus (simp; omega))))
  have hBn : Blk w11 w10.heap.size 24 #[.slice r.A r.n r.cap, .bool r.wb, .int .i64 r.dir, .bool r.ex] := by rw [← hwg]; exact Blk.new _ _ _
  clear hwg
  clear hbk_0 hbk_1 hbk_f hbk_l hbo_0 hbo_1 hbo_f hbo_l hba_0 hba_1 hba_f hba_l hbb_0 hbb_1 hbb_f hbb_l
  have HW11 := Lib.hid (HW10.out.trans (hg.mono HW10.out.size))
  have HBK11 := Lib.hid (HBK10.out.below hg HBK10.out.lt)
  have HBO11 := Lib.hid (HBO10.out.below hg HBO10.out.lt)
  have HBA11 := Lib.hid (HBA10.out.below hg HBA10.out.lt)
  have HBB11 := Lib.hid (HBB10.out.below hg HBB10.out.lt)
  have HV111 := Lib.hid (HV110.out.below hg)
  have HX111 := Lib.hid (HX110.out.below hg)
  have HV211 := Lib.hid (HV210.out.below hg)
  have HX211 := Lib.hid (HX210.out.below hg)
  clear HW10 HBK10 HBO10 HBA10 HBB10 HV110 HX110 HV210 HX210 hg
  have HBC11 := Lib.hid hBn
  clear hBn
  obtain ⟨hbk_0, hbk_1, hbk_f, hbk_l⟩ := HBK11.out.facts2
  obtain ⟨hbo_0, hbo_1, hbo_f, hbo_l⟩ := HBO11.out.facts2
  obtain ⟨hba_0, hba_1, hba_f, hba_l⟩ := HBA11.out.facts2
  obtain ⟨hbb_0, hbb_1, hbb_f, hbb_l⟩ := HBB11.out.facts2
  obtain ⟨hbc_0, hbc_1, hbc_2, hbc_3, hbc_f, hbc_l⟩ := HBC11.out.facts4
  go_wp2_with fail
  refine (at10_any (.slice A n cap) c k L _ (HX.out.below HW11.out) HLL.out).mono ?_
  rintro e12 w12 ⟨he, hg⟩
  rw [← HRE.out, ← HBE.out] at he
  subst he
  replace hg := hg.below
  clear hbk_0 hbk_1 hbk_f hbk_l hbo_0 hbo_1 hbo_f hbo_l hba_0 hba_1 hba_f hba_l hbb_0 hbb_1 hbb_f hbb_l hbc_0 hbc_1 hbc_2 hbc_3 hbc_f hbc_l
  have HW12 := Lib.hid (HW11.out.trans (hg.mono HW11.out.size))
  have HBK12 := Lib.hid (HBK11.out.below hg HBK11.out.lt)
  have HBO12 := Lib.hid (HBO11.out.below hg HBO11.out.lt)
  have HBA12 := Lib.hid (HBA11.out.below hg HBA11.out.lt)
  have HBB12 := Lib.hid (HBB11.out.below hg HBB11.out.lt)
  have HBC12 := Lib.hid (HBC11.out.below hg HBC11.out.lt)
  have HV112 := Lib.hid (HV111.out.below hg)
  have HX112 := Lib.hid (HX111.out.below hg)
  have HV212 := Lib.hid (HV211.out.below hg)
  have HX212 := Lib.hid (HX211.out.below hg)
  clear HW11 HBK11 HBO11 HBA11 HBB11 HBC11 HV111 HX111 HV211 HX211 hg
  obtain ⟨hbk_0, hbk_1, hbk_f, hbk_l⟩ := HBK12.out.facts2
  obtain ⟨hbo_0, hbo_1, hbo_f, hbo_l⟩ := HBO12.out.facts2
  obtain ⟨hba_0, hba_1, hba_f, hba_l⟩ := HBA12.out.facts2
  obtain ⟨hbb_0, hbb_1, hbb_f, hbb_l⟩ := HBB12.out.facts2
  obtain ⟨hbc_0, hbc_1, hbc_2, hbc_3, hbc_f, hbc_l⟩ := HBC12.out.facts4
  go_upto_region 9 with fail
  generalize hwg : World.alloc _ _ = w13
  have hg : Below w12.heap.size w12 w13 := by rw [← hwg]; (repeat (first | (with_reducible exact Below.refl _ _) | (with_reducible assumption) | (with_reducible refine Below.grow ?_ ?_ _ _) | (with_reducible refine Below.drewN' ?_ _) | (with_reducible refine Below.drew ?_) | (with_reducible refine Below.alloc ?_ ?_ _) | (with_reducible refine Below.setCell ?_ ?_ _) | omega | (focus (simp; done)) | (focus (simp; omega))))
  have hBn : Blk w13 w12.heap.size 24 #[.slice r.A r.n r.cap, .bool r.wb, .int .i64 r.dir, .bool r.ex] := by rw [← hwg]; exact Blk.new _ _ _
  clear hwg
  clear hbk_0 hbk_1 hbk_f hbk_l hbo_0 hbo_1 hbo_f hbo_l hba_0 hba_1 hba_f hba_l hbb_0 hbb_1 hbb_f hbb_l hbc_0 hbc_1 hbc_2 hbc_3 hbc_f hbc_l
  have HW13 := Lib.hid (HW12.out.trans (hg.mono HW12.out.size))
  have HBK13 := Lib.hid (HBK12.out.below hg HBK12.out.lt)
  have HBO13 := Lib.hid (HBO12.out.below hg HBO12.out.lt)
  have HBA13 := Lib.hid (HBA12.out.below hg HBA12.out.lt)
  have HBB13 := Lib.hid (HBB12.out.below hg HBB12.out.lt)
  have HBC13 := Lib.hid (HBC12.out.below hg HBC12.out.lt)
  have HV113 := Lib.hid (HV112.out.below hg)
  have HX113 := Lib.hid (HX112.out.below hg)
  have HV213 := Lib.hid (HV212.out.below hg)
  have HX213 := Lib.hid (HX212.out.below hg)
  clear HW12 HBK12 HBO12 HBA12 HBB12 HBC12 HV112 HX112 HV212 HX212 hg
  have HBD13 := Lib.hid hBn
  clear hBn
  have HOK := Lib.hid (HRA.out _ _ (HX.out.below HW13.out))
  have HX13 := Lib.hid (HX.out.below HW13.out)
  have HY13 := Lib.hid (HY.out.below HW13.out)
  have HZ13 := Lib.hid (HZ.out.below HW13.out)
  have hst1 : (L.take st).length ≤ 60 := by rw [List.length_take]; have := HN.out; omega
  have hst2 : (L.drop st).length ≤ 60 := by rw [List.length_drop]; have := HN.out; omega
  have HLN1 : Hid ((hL s (L.take st)).length ≤ maxLen) := by show _ ≤ _; have := hL_len s (L.take st); unfold maxLen; omega
  have HLN2 : Hid ((hL s (L.drop st)).length ≤ maxLen) := by show _ ≤ _; have := hL_len s (L.drop st); unfold maxLen; omega
  have HLN3 : Hid ((hL s (pushL L c.toNat M)).length ≤ maxLen) := by
    show _ ≤ _
    have h1 := hL_len s (pushL L c.toNat M)
    have h2 : (pushL L c.toNat M).length ≤ L.length + M.length := by
      unfold pushL
      have := List.length_filter_le saneRw M
      rw [List.length_drop, List.length_append]
      omega
    have := HN.out
    have := HN2.out
    unfold maxLen
    omega
  have HLN4 : Hid ((hL s2 (winL L G q)).length ≤ maxLen) := by
    show _ ≤ _
    have h1 := hL_len s2 (winL L G q)
    have h2 : (winL L G q).length ≤ G.length := by unfold winL; rw [List.length_take]; omega
    have := HN3.out
    unfold maxLen
    omega
  have HKK1 : Hid (((hC s c == hC s c) && sameL (hL s (L.take st)) (hL s (L.take st))) = true) := by show _ = _; rw [sameL_refl, beq_self_eq_true]; rfl
  have HKK3 : Hid (((hC s c == hC s c) && sameL (hL s (pushL L c.toNat M)) (hL s (pushL L c.toNat M))) = true) := by show _ = _; rw [sameL_refl, beq_self_eq_true]; rfl
  obtain ⟨ce, hce⟩ : ∃ ce, (if s = true then cellsL L else 0) = ce := ⟨_, rfl⟩
  obtain ⟨nk, hnk⟩ : ∃ nk, max 0 (min k 200) = nk := ⟨_, rfl⟩
  have HKK5 : Hid (((nk == nk) && sameL [] []) = true) := by show _ = _; rw [sameL_refl, beq_self_eq_true]; rfl
  have HCE := Lib.hid hce
  have HNE := Lib.hid hnk
  have hws13 := HW13.out.size
  clear hst1 hst2 hce hnk
  obtain ⟨hba_0, hba_1, hba_f, hba_l⟩ := HBA13.out.facts2
  obtain ⟨hbb_0, hbb_1, hbb_f, hbb_l⟩ := HBB13.out.facts2
  obtain ⟨hbc_0, hbc_1, hbc_2, hbc_3, hbc_f, hbc_l⟩ := HBC13.out.facts4
  obtain ⟨hbd_0, hbd_1, hbd_2, hbd_3, hbd_f, hbd_l⟩ := HBD13.out.facts4
  refine hr_start (S := (fun w' => w'.cell? ⟨w6.heap.size, 0, none⟩ = some (.slice A5 (hL s (L.take st)).length c5) ∧ w'.cell? ⟨w6.heap.size, 1, none⟩ = some (.int .i64 (hC s c)) ∧ w'.cell? ⟨w8.heap.size, 0, none⟩ = some (.slice A6 (hL s (L.take st)).length c6) ∧ w'.cell? ⟨w8.heap.size, 1, none⟩ = some (.int .i64 (hC s c)) ∧ w'.cell? ⟨w10.heap.size, 0, none⟩ = some (.slice r.A r.n r.cap) ∧ w'.cell? ⟨w10.heap.size, 1, none⟩ = some (.bool r.wb) ∧ w'.cell? ⟨w10.heap.size, 2, none⟩ = some (.int .i64 r.dir) ∧ w'.cell? ⟨w10.heap.size, 3, none⟩ = some (.bool r.ex) ∧ w'.cell? ⟨w12.heap.size, 0, none⟩ = some (.slice r.A r.n r.cap) ∧ w'.cell? ⟨w12.heap.size, 1, none⟩ = some (.bool r.wb) ∧ w'.cell? ⟨w12.heap.size, 2, none⟩ = some (.int .i64 r.dir) ∧ w'.cell? ⟨w12.heap.size, 3, none⟩ = some (.bool r.ex))) (by kernel_rfl) rfl ?_ (fun hHeld => ?_)
  · ((try dsimp only); go_simp)
  refine hr_take (i := 0) rfl rfl (by kernel_rfl) (by kernel_rfl) (by kernel_rfl) (by kernel_rfl) (fun _ _ _ h => h) (v := ?_) ?_ (by assumption) ?_
  rotate_left
  focus (intro wS hSw; (try dsimp only at hSw); go_simp; (try with_reducible rfl))
  simp only [List.set_cons_zero, List.set_cons_succ]
  refine hr_take (i := 2) rfl rfl (by kernel_rfl) (by kernel_rfl) (by kernel_rfl) (by kernel_rfl) (fun _ _ _ h => h) (v := ?_) ?_ (by assumption) ?_
  rotate_left
  focus (intro wS hSw; (try dsimp only at hSw); go_simp; (try with_reducible rfl))
  simp only [List.set_cons_zero, List.set_cons_succ]
  refine hr_op (i := 1) rfl rfl (by kernel_rfl) (by kernel_rfl) (fun K hK => ?_)
  go_simp
  ((with_reducible refine (theirs_c _ _ _ _ _).mono ?_); rintro e wq ⟨rfl, XT1, dT1, rfl⟩)
  (try go_wp2_with fail)
  refine hK.out _ _ ?_ (fun hHeld => ?_)
  · ((try dsimp only); go_simp)
  clear hK K
  simp only [List.set_cons_zero, List.set_cons_succ]
  refine hr_op (i := 3) rfl rfl (by kernel_rfl) (by kernel_rfl) (fun K hK => ?_)
  go_simp
  ((with_reducible refine (sameK_c (.slice A5 (hL s (L.take st)).length c5) (.slice A6 (hL s (L.take st)).length c6) (hC s c) (hC s c) (hL s (L.take st)) (hL s (L.take st)) _ (HV113.out.below (by (repeat (first | (with_reducible exact Below.refl _ _) | (with_reducible assumption) | (with_reducible refine Below.grow ?_ ?_ _ _) | (with_reducible refine Below.drewN' ?_ _) | (with_reducible refine Below.drew ?_) | (with_reducible refine Below.alloc ?_ ?_ _) | (with_reducible refine Below.setCell ?_ ?_ _) | omega | (focus (simp; done)) | (focus (simp; omega)))))) (HV213.out.below (by (repeat (first | (with_reducible exact Below.refl _ _) | (with_reducible assumption) | (with_reducible refine Below.grow ?_ ?_ _ _) | (with_reducible refine Below.drewN' ?_ _) | (with_reducible refine Below.drew ?_) | (with_reducible refine Below.alloc ?_ ?_ _) | (with_reducible refine Below.setCell ?_ ?_ _) | omega | (focus (simp; done)) | (focus (simp; omega)))))) HLN1.out HLN1.out).mono ?_); rw [HKK1.out]; rintro e wq ⟨rfl, XK1, dK1, rfl⟩)
  (try go_wp2_with fail)
  refine hK.out _ _ ?_ (fun hHeld => ?_)
  · ((try dsimp only); go_simp)
  clear hK K
  simp only [List.set_cons_zero, List.set_cons_succ]
  refine hr_take (i := 4) rfl rfl (by kernel_rfl) (by kernel_rfl) (by kernel_rfl) (by kernel_rfl) (fun _ _ _ h => h) (v := ?_) ?_ (by assumption) ?_
  rotate_left
  focus (intro wS hSw; (try dsimp only at hSw); go_simp; (try with_reducible rfl))
  simp only [List.set_cons_zero, List.set_cons_succ]
  refine hr_take (i := 5) rfl rfl (by kernel_rfl) (by kernel_rfl) (by kernel_rfl) (by kernel_rfl) (fun _ _ _ h => h) (v := ?_) ?_ (by assumption) ?_
  rotate_left
  focus (intro wS hSw; (try dsimp only at hSw); go_simp; (try with_reducible rfl))
  simp only [List.set_cons_zero, List.set_cons_succ]
  refine hr_take (i := 6) rfl rfl (by kernel_rfl) (by kernel_rfl) (by kernel_rfl) (by kernel_rfl) (fun _ _ _ h => h) (v := ?_) ?_ (by assumption) ?_
  rotate_left
  focus (intro wS hSw; (try dsimp only at hSw); go_simp; (try with_reducible rfl))
  simp only [List.set_cons_zero, List.set_cons_succ]
  refine hr_take (i := 7) rfl rfl (by kernel_rfl) (by kernel_rfl) (by kernel_rfl) (by kernel_rfl) (fun _ _ _ h => h) (v := ?_) ?_ (by assumption) ?_
  rotate_left
  focus (intro wS hSw; (try dsimp only at hSw); go_simp; (try with_reducible rfl))
  simp only [List.set_cons_zero, List.set_cons_succ]
  refine hr_op (i := 8) rfl rfl (by kernel_rfl) (by kernel_rfl) (fun K hK => ?_)
  go_simp
  ((with_reducible refine (sameL_c x1 x2 (hL s (L.drop st)) (hL s (L.drop st)) _ (HX113.out.below (by (repeat (first | (with_reducible exact Below.refl _ _) | (with_reducible assumption) | (with_reducible refine Below.grow ?_ ?_ _ _) | (with_reducible refine Below.drewN' ?_ _) | (with_reducible refine Below.drew ?_) | (with_reducible refine Below.alloc ?_ ?_ _) | (with_reducible refine Below.setCell ?_ ?_ _) | omega | (focus (simp; done)) | (focus (simp; omega)))))) (HX213.out.below (by (repeat (first | (with_reducible exact Below.refl _ _) | (with_reducible assumption) | (with_reducible refine Below.grow ?_ ?_ _ _) | (with_reducible refine Below.drewN' ?_ _) | (with_reducible refine Below.drew ?_) | (with_reducible refine Below.alloc ?_ ?_ _) | (with_reducible refine Below.setCell ?_ ?_ _) | omega | (focus (simp; done)) | (focus (simp; omega)))))) HLN2.out HLN2.out).mono ?_); rw [sameL_refl]; rintro e wq ⟨rfl, XL1, dL1, rfl⟩)
  (try go_wp2_with fail)
  refine hK.out _ _ ?_ (fun hHeld => ?_)
  · ((try dsimp only); go_simp)
  clear hK K
  simp only [List.set_cons_zero, List.set_cons_succ]
  refine hr_take (i := 9) rfl rfl (by kernel_rfl) (by kernel_rfl) (by kernel_rfl) (by kernel_rfl) (fun _ _ _ h => h) (v := ?_) ?_ (by assumption) ?_
  rotate_left
  focus (intro wS hSw; (try dsimp only at hSw); go_simp; (try with_reducible rfl))
  simp only [List.set_cons_zero, List.set_cons_succ]
  refine hr_take (i := 10) rfl rfl (by kernel_rfl) (by kernel_rfl) (by kernel_rfl) (by kernel_rfl) (fun _ _ _ h => h) (v := ?_) ?_ (by assumption) ?_
  rotate_left
  focus (intro wS hSw; (try dsimp only at hSw); go_simp; (try with_reducible rfl))
  simp only [List.set_cons_zero, List.set_cons_succ]
  refine hr_take (i := 11) rfl rfl (by kernel_rfl) (by kernel_rfl) (by kernel_rfl) (by kernel_rfl) (fun _ _ _ h => h) (v := ?_) ?_ (by assumption) ?_
  rotate_left
  focus (intro wS hSw; (try dsimp only at hSw); go_simp; (try with_reducible rfl))
  simp only [List.set_cons_zero, List.set_cons_succ]
  refine hr_take (i := 12) rfl rfl (by kernel_rfl) (by kernel_rfl) (by kernel_rfl) (by kernel_rfl) (fun _ _ _ h => h) (v := ?_) ?_ (by assumption) ?_
  rotate_left
  focus (intro wS hSw; (try dsimp only at hSw); go_simp; (try with_reducible rfl))
  simp only [List.set_cons_zero, List.set_cons_succ]
  refine hr_take (i := 13) rfl rfl (by kernel_rfl) (by kernel_rfl) (by kernel_rfl) (by kernel_rfl) (fun _ _ _ h => h) (v := ?_) ?_ (by assumption) ?_
  rotate_left
  focus (intro wS hSw; (try dsimp only at hSw); go_simp; (try with_reducible rfl))
  simp only [List.set_cons_zero, List.set_cons_succ]
  refine hr_op (i := 14) rfl rfl (by kernel_rfl) (by kernel_rfl) (fun K hK => ?_)
  go_simp
  ((with_reducible refine (samer_c r r _ (HOK.out.below (by (repeat (first | (with_reducible exact Below.refl _ _) | (with_reducible assumption) | (with_reducible refine Below.grow ?_ ?_ _ _) | (with_reducible refine Below.drewN' ?_ _) | (with_reducible refine Below.drew ?_) | (with_reducible refine Below.alloc ?_ ?_ _) | (with_reducible refine Below.setCell ?_ ?_ _) | omega | (focus (simp; done)) | (focus (simp; omega)))))) (HOK.out.below (by (repeat (first | (with_reducible exact Below.refl _ _) | (with_reducible assumption) | (with_reducible refine Below.grow ?_ ?_ _ _) | (with_reducible refine Below.drewN' ?_ _) | (with_reducible refine Below.drew ?_) | (with_reducible refine Below.alloc ?_ ?_ _) | (with_reducible refine Below.setCell ?_ ?_ _) | omega | (focus (simp; done)) | (focus (simp; omega))))))).mono ?_); rw [sameRow_refl]; rintro e wq ⟨rfl, XR1, dR1, rfl⟩)
  (try go_wp2_with fail)
  refine hK.out _ _ ?_ (fun hHeld => ?_)
  · ((try dsimp only); go_simp)
  clear hK K
  simp only [List.set_cons_zero, List.set_cons_succ]
  refine hr_take (i := 15) rfl rfl (by kernel_rfl) (by kernel_rfl) (by kernel_rfl) (by kernel_rfl) (fun _ _ _ h => h) (v := ?_) ?_ (by assumption) ?_
  rotate_left
  focus (intro wS hSw; (try dsimp only at hSw); go_simp; (try with_reducible rfl))
  simp only [List.set_cons_zero, List.set_cons_succ]
  refine hr_take (i := 16) rfl rfl (by kernel_rfl) (by kernel_rfl) (by kernel_rfl) (by kernel_rfl) (fun _ _ _ h => h) (v := ?_) ?_ (by assumption) ?_
  rotate_left
  focus (intro wS hSw; (try dsimp only at hSw); go_simp; (try with_reducible rfl))
  simp only [List.set_cons_zero, List.set_cons_succ]
  refine hr_take (i := 17) rfl rfl (by kernel_rfl) (by kernel_rfl) (by kernel_rfl) (by kernel_rfl) (fun _ _ _ h => h) (v := ?_) ?_ (by assumption) ?_
  rotate_left
  focus (intro wS hSw; (try dsimp only at hSw); go_simp; (try with_reducible rfl))
  simp only [List.set_cons_zero, List.set_cons_succ]
  refine hr_take (i := 18) rfl rfl (by kernel_rfl) (by kernel_rfl) (by kernel_rfl) (by kernel_rfl) (fun _ _ _ h => h) (v := ?_) ?_ (by assumption) ?_
  rotate_left
  focus (intro wS hSw; (try dsimp only at hSw); go_simp; (try with_reducible rfl))
  simp only [List.set_cons_zero, List.set_cons_succ]
  refine hr_take (i := 19) rfl rfl (by kernel_rfl) (by kernel_rfl) (by kernel_rfl) (by kernel_rfl) (fun _ _ _ h => h) (v := ?_) ?_ (by assumption) ?_
  rotate_left
  focus (intro wS hSw; (try dsimp only at hSw); go_simp; (try with_reducible rfl))
  simp only [List.set_cons_zero, List.set_cons_succ]
  refine hr_take (i := 20) rfl rfl (by kernel_rfl) (by kernel_rfl) (by kernel_rfl) (by kernel_rfl) (fun _ _ _ h => h) (v := ?_) ?_ (by assumption) ?_
  rotate_left
  focus (intro wS hSw; (try dsimp only at hSw); go_simp; (try with_reducible rfl))
  simp only [List.set_cons_zero, List.set_cons_succ]
  refine hr_take (i := 21) rfl rfl (by kernel_rfl) (by kernel_rfl) (by kernel_rfl) (by kernel_rfl) (fun _ _ _ h => h) (v := ?_) ?_ (by assumption) ?_
  rotate_left
  focus (intro wS hSw; (try dsimp only at hSw); go_simp; (try with_reducible rfl))
  simp only [List.set_cons_zero, List.set_cons_succ]
  refine hr_done (by kernel_rfl) ?_
  clear hba_0 hba_1 hba_f hba_l hbb_0 hbb_1 hbb_f hbb_l hbc_0 hbc_1 hbc_2 hbc_3 hbc_f hbc_l hbd_0 hbd_1 hbd_2 hbd_3 hbd_f hbd_l
  go_upto_region 11 with fail
  generalize hwg : World.grow _ _ _ = w14
  have hg : Below w13.heap.size w13 w14 := by rw [← hwg]; (repeat (first | (with_reducible exact Below.refl _ _) | (with_reducible assumption) | (with_reducible refine Below.grow ?_ ?_ _ _) | (with_reducible refine Below.drewN' ?_ _) | (with_reducible refine Below.drew ?_) | (with_reducible refine Below.alloc ?_ ?_ _) | (with_reducible refine Below.setCell ?_ ?_ _) | omega | (focus (simp; done)) | (focus (simp; omega))))
  clear hwg
  have HW14 := Lib.hid (HW13.out.trans (hg.mono HW13.out.size))
  have HBK14 := Lib.hid (HBK13.out.below hg HBK13.out.lt)
  have HBO14 := Lib.hid (HBO13.out.below hg HBO13.out.lt)
  have HX14 := Lib.hid (HX13.out.below hg)
  have HY14 := Lib.hid (HY13.out.below hg)
  have HZ14 := Lib.hid (HZ13.out.below hg)
  have hws14 := HW14.out.size
  have hk := Below.refl w14.heap.size w14
  clear hg
  obtain ⟨hbk_0, hbk_1, hbk_f, hbk_l⟩ := HBK14.out.facts2
  obtain ⟨hbo_0, hbo_1, hbo_f, hbo_l⟩ := HBO14.out.facts2
  refine hr_start (S := (fun w' => w'.cell? ⟨w.heap.size, 0, none⟩ = some (.slice A n cap) ∧ w'.cell? ⟨w.heap.size, 1, none⟩ = some (.int .i64 c) ∧ w'.cell? ⟨w4.heap.size, 0, none⟩ = some (.slice A n cap) ∧ w'.cell? ⟨w4.heap.size, 1, none⟩ = some (.int .i64 c))) (by kernel_rfl) rfl ?_ (fun hHeld => ?_)
  · ((try dsimp only); go_simp)
  refine hr_take (i := 0) rfl rfl (by kernel_rfl) (by kernel_rfl) (by kernel_rfl) (by kernel_rfl) (fun _ _ _ h => h) (v := ?_) ?_ (by assumption) ?_
  rotate_left
  focus (intro wS hSw; (try dsimp only at hSw); go_simp; (try with_reducible rfl))
  simp only [List.set_cons_zero, List.set_cons_succ]
  refine hr_take (i := 1) rfl rfl (by kernel_rfl) (by kernel_rfl) (by kernel_rfl) (by kernel_rfl) (fun _ _ _ h => h) (v := ?_) ?_ (by assumption) ?_
  rotate_left
  focus (intro wS hSw; (try dsimp only at hSw); go_simp; (try with_reducible rfl))
  simp only [List.set_cons_zero, List.set_cons_succ]
  refine hr_take (i := 2) rfl rfl (by kernel_rfl) (by kernel_rfl) (by kernel_rfl) (by kernel_rfl) (fun _ _ _ h => h) (v := ?_) ?_ (by assumption) ?_
  rotate_left
  focus (intro wS hSw; (try dsimp only at hSw); go_simp; (try with_reducible rfl))
  simp only [List.set_cons_zero, List.set_cons_succ]
  refine hr_take (i := 3) rfl rfl (by kernel_rfl) (by kernel_rfl) (by kernel_rfl) (by kernel_rfl) (fun _ _ _ h => h) (v := ?_) ?_ (by assumption) ?_
  rotate_left
  focus (intro wS hSw; (try dsimp only at hSw); go_simp; (try with_reducible rfl))
  simp only [List.set_cons_zero, List.set_cons_succ]
  refine hr_take (i := 6) rfl rfl (by kernel_rfl) (by kernel_rfl) (by kernel_rfl) (by kernel_rfl) (fun _ _ _ h => h) (v := ?_) ?_ (by assumption) ?_
  rotate_left
  focus (intro wS hSw; (try dsimp only at hSw); go_simp; (try with_reducible rfl))
  simp only [List.set_cons_zero, List.set_cons_succ]
  refine hr_take (i := 7) rfl rfl (by kernel_rfl) (by kernel_rfl) (by kernel_rfl) (by kernel_rfl) (fun _ _ _ h => h) (v := ?_) ?_ (by assumption) ?_
  rotate_left
  focus (intro wS hSw; (try dsimp only at hSw); go_simp; (try with_reducible rfl))
  simp only [List.set_cons_zero, List.set_cons_succ]
  refine hr_op (i := 4) rfl rfl (by kernel_rfl) (by kernel_rfl) (fun K hK => ?_)
  go_simp
  ((with_reducible refine (push_any (.slice A n cap) (.slice A2 n2 cap2) c L M s _ (HX14.out.below (by (repeat (first | (with_reducible exact Below.refl _ _) | (with_reducible assumption) | (with_reducible refine Below.grow ?_ ?_ _ _) | (with_reducible refine Below.drewN' ?_ _) | (with_reducible refine Below.drew ?_) | (with_reducible refine Below.alloc ?_ ?_ _) | (with_reducible refine Below.setCell ?_ ?_ _) | omega | (focus (simp; done)) | (focus (simp; omega)))))) (HY14.out.below (by (repeat (first | (with_reducible exact Below.refl _ _) | (with_reducible assumption) | (with_reducible refine Below.grow ?_ ?_ _ _) | (with_reducible refine Below.drewN' ?_ _) | (with_reducible refine Below.drew ?_) | (with_reducible refine Below.alloc ?_ ?_ _) | (with_reducible refine Below.setCell ?_ ?_ _) | omega | (focus (simp; done)) | (focus (simp; omega)))))) HLL.out HLM.out HS.out).mono ?_); rintro e w15 ⟨v5, rfl, hg, hv⟩; obtain ⟨A7, c7, rfl, hc7⟩ := hv.1.len; have HV5 := Lib.hid hv; have hk := (show Below w14.heap.size w14 w15 from (Below.trans (by (repeat (first | (with_reducible exact Below.refl _ _) | (with_reducible assumption) | (with_reducible refine Below.grow ?_ ?_ _ _) | (with_reducible refine Below.drewN' ?_ _) | (with_reducible refine Below.drew ?_) | (with_reducible refine Below.alloc ?_ ?_ _) | (with_reducible refine Below.setCell ?_ ?_ _) | omega | (focus (simp; done)) | (focus (simp; omega))))) (hg.mono (by (first | omega | (simp; omega) | (simp; done)))))); have hks := hk.size; clear hv hg hbk_0 hbk_1 hbk_f hbk_l hbo_0 hbo_1 hbo_f hbo_l; obtain ⟨hbk_0, hbk_1, hbk_f, hbk_l⟩ := (HBK14.out.below hk HBK14.out.lt).facts2; obtain ⟨hbo_0, hbo_1, hbo_f, hbo_l⟩ := (HBO14.out.below hk HBO14.out.lt).facts2)
  (try go_wp2_with fail)
  refine hK.out _ _ ?_ (fun hHeld => ?_)
  · ((try dsimp only); go_simp)
  clear hK K
  simp only [List.set_cons_zero, List.set_cons_succ]
  refine hr_op (i := 5) rfl rfl (by kernel_rfl) (by kernel_rfl) (fun K hK => ?_)
  go_simp
  ((with_reducible refine (theirs_c _ _ _ _ _).mono ?_); rintro e wq ⟨rfl, XT2, dT2, rfl⟩)
  (try go_wp2_with fail)
  refine hK.out _ _ ?_ (fun hHeld => ?_)
  · ((try dsimp only); go_simp)
  clear hK K
  simp only [List.set_cons_zero, List.set_cons_succ]
  refine hr_op (i := 8) rfl rfl (by kernel_rfl) (by kernel_rfl) (fun K hK => ?_)
  go_simp
  ((with_reducible refine (push10_any (.slice A n cap) (.slice A2 n2 cap2) c L M s _ (HX14.out.below (by (repeat (first | (with_reducible exact Below.refl _ _) | (with_reducible assumption) | (with_reducible refine Below.grow ?_ ?_ _ _) | (with_reducible refine Below.drewN' ?_ _) | (with_reducible refine Below.drew ?_) | (with_reducible refine Below.alloc ?_ ?_ _) | (with_reducible refine Below.setCell ?_ ?_ _) | omega | (focus (simp; done)) | (focus (simp; omega)))))) (HY14.out.below (by (repeat (first | (with_reducible exact Below.refl _ _) | (with_reducible assumption) | (with_reducible refine Below.grow ?_ ?_ _ _) | (with_reducible refine Below.drewN' ?_ _) | (with_reducible refine Below.drew ?_) | (with_reducible refine Below.alloc ?_ ?_ _) | (with_reducible refine Below.setCell ?_ ?_ _) | omega | (focus (simp; done)) | (focus (simp; omega)))))) HLL.out HLM.out HS.out).mono ?_); rintro e w16 ⟨v6, rfl, hg, hv⟩; obtain ⟨A8, c8, rfl, hc8⟩ := hv.1.len; have HV6 := Lib.hid hv; replace HV5 := Lib.hid (HV5.out.below (Below.trans (by (repeat (first | (with_reducible exact Below.refl _ _) | (with_reducible assumption) | (with_reducible refine Below.grow ?_ ?_ _ _) | (with_reducible refine Below.drewN' ?_ _) | (with_reducible refine Below.drew ?_) | (with_reducible refine Below.alloc ?_ ?_ _) | (with_reducible refine Below.setCell ?_ ?_ _) | omega | (focus (simp; done)) | (focus (simp; omega))))) (hg.mono (by (first | omega | (simp; omega) | (simp; done)))))); have hk := (show Below w14.heap.size w14 w16 from (Below.trans (by (repeat (first | (with_reducible exact Below.refl _ _) | (with_reducible assumption) | (with_reducible refine Below.grow ?_ ?_ _ _) | (with_reducible refine Below.drewN' ?_ _) | (with_reducible refine Below.drew ?_) | (with_reducible refine Below.alloc ?_ ?_ _) | (with_reducible refine Below.setCell ?_ ?_ _) | omega | (focus (simp; done)) | (focus (simp; omega))))) (hg.mono (by (first | omega | (simp; omega) | (simp; done)))))); have hks := hk.size; clear hv hg hbk_0 hbk_1 hbk_f hbk_l hbo_0 hbo_1 hbo_f hbo_l; obtain ⟨hbk_0, hbk_1, hbk_f, hbk_l⟩ := (HBK14.out.below hk HBK14.out.lt).facts2; obtain ⟨hbo_0, hbo_1, hbo_f, hbo_l⟩ := (HBO14.out.below hk HBO14.out.lt).facts2)
  (try go_wp2_with fail)
  refine hK.out _ _ ?_ (fun hHeld => ?_)
  · ((try dsimp only); go_simp)
  clear hK K
  simp only [List.set_cons_zero, List.set_cons_succ]
  refine hr_op (i := 9) rfl rfl (by kernel_rfl) (by kernel_rfl) (fun K hK => ?_)
  go_simp
  ((with_reducible refine (sameK_c (.slice A7 (hL s (pushL L c.toNat M)).length c7) (.slice A8 (hL s (pushL L c.toNat M)).length c8) (hC s c) (hC s c) (hL s (pushL L c.toNat M)) (hL s (pushL L c.toNat M)) _ (HV5.out.below (by (repeat (first | (with_reducible exact Below.refl _ _) | (with_reducible assumption) | (with_reducible refine Below.grow ?_ ?_ _ _) | (with_reducible refine Below.drewN' ?_ _) | (with_reducible refine Below.drew ?_) | (with_reducible refine Below.alloc ?_ ?_ _) | (with_reducible refine Below.setCell ?_ ?_ _) | omega | (focus (simp; done)) | (focus (simp; omega)))))) (HV6.out.below (by (repeat (first | (with_reducible exact Below.refl _ _) | (with_reducible assumption) | (with_reducible refine Below.grow ?_ ?_ _ _) | (with_reducible refine Below.drewN' ?_ _) | (with_reducible refine Below.drew ?_) | (with_reducible refine Below.alloc ?_ ?_ _) | (with_reducible refine Below.setCell ?_ ?_ _) | omega | (focus (simp; done)) | (focus (simp; omega)))))) HLN3.out HLN3.out).mono ?_); rw [HKK3.out]; rintro e wq ⟨rfl, XK2, dK2, rfl⟩)
  (try go_wp2_with fail)
  refine hK.out _ _ ?_ (fun hHeld => ?_)
  · ((try dsimp only); go_simp)
  clear hK K
  simp only [List.set_cons_zero, List.set_cons_succ]
  refine hr_take (i := 10) rfl rfl (by kernel_rfl) (by kernel_rfl) (by kernel_rfl) (by kernel_rfl) (fun _ _ _ h => h) (v := ?_) ?_ (by assumption) ?_
  rotate_left
  focus (intro wS hSw; (try dsimp only at hSw); go_simp; (try with_reducible rfl))
  simp only [List.set_cons_zero, List.set_cons_succ]
  refine hr_take (i := 11) rfl rfl (by kernel_rfl) (by kernel_rfl) (by kernel_rfl) (by kernel_rfl) (fun _ _ _ h => h) (v := ?_) ?_ (by assumption) ?_
  rotate_left
  focus (intro wS hSw; (try dsimp only at hSw); go_simp; (try with_reducible rfl))
  simp only [List.set_cons_zero, List.set_cons_succ]
  refine hr_take (i := 12) rfl rfl (by kernel_rfl) (by kernel_rfl) (by kernel_rfl) (by kernel_rfl) (fun _ _ _ h => h) (v := ?_) ?_ (by assumption) ?_
  rotate_left
  focus (intro wS hSw; (try dsimp only at hSw); go_simp; (try with_reducible rfl))
  simp only [List.set_cons_zero, List.set_cons_succ]
  refine hr_take (i := 13) rfl rfl (by kernel_rfl) (by kernel_rfl) (by kernel_rfl) (by kernel_rfl) (fun _ _ _ h => h) (v := ?_) ?_ (by assumption) ?_
  rotate_left
  focus (intro wS hSw; (try dsimp only at hSw); go_simp; (try with_reducible rfl))
  simp only [List.set_cons_zero, List.set_cons_succ]
  refine hr_take (i := 14) rfl rfl (by kernel_rfl) (by kernel_rfl) (by kernel_rfl) (by kernel_rfl) (fun _ _ _ h => h) (v := ?_) ?_ (by assumption) ?_
  rotate_left
  focus (intro wS hSw; (try dsimp only at hSw); go_simp; (try with_reducible rfl))
  simp only [List.set_cons_zero, List.set_cons_succ]
  refine hr_take (i := 15) rfl rfl (by kernel_rfl) (by kernel_rfl) (by kernel_rfl) (by kernel_rfl) (fun _ _ _ h => h) (v := ?_) ?_ (by assumption) ?_
  rotate_left
  focus (intro wS hSw; (try dsimp only at hSw); go_simp; (try with_reducible rfl))
  simp only [List.set_cons_zero, List.set_cons_succ]
  refine hr_take (i := 17) rfl rfl (by kernel_rfl) (by kernel_rfl) (by kernel_rfl) (by kernel_rfl) (fun _ _ _ h => h) (v := ?_) ?_ (by assumption) ?_
  rotate_left
  focus (intro wS hSw; (try dsimp only at hSw); go_simp; (try with_reducible rfl))
  simp only [List.set_cons_zero, List.set_cons_succ]
  refine hr_take (i := 18) rfl rfl (by kernel_rfl) (by kernel_rfl) (by kernel_rfl) (by kernel_rfl) (fun _ _ _ h => h) (v := ?_) ?_ (by assumption) ?_
  rotate_left
  focus (intro wS hSw; (try dsimp only at hSw); go_simp; (try with_reducible rfl))
  simp only [List.set_cons_zero, List.set_cons_succ]
  refine hr_take (i := 19) rfl rfl (by kernel_rfl) (by kernel_rfl) (by kernel_rfl) (by kernel_rfl) (fun _ _ _ h => h) (v := ?_) ?_ (by assumption) ?_
  rotate_left
  focus (intro wS hSw; (try dsimp only at hSw); go_simp; (try with_reducible rfl))
  simp only [List.set_cons_zero, List.set_cons_succ]
  refine hr_take (i := 20) rfl rfl (by kernel_rfl) (by kernel_rfl) (by kernel_rfl) (by kernel_rfl) (fun _ _ _ h => h) (v := ?_) ?_ (by assumption) ?_
  rotate_left
  focus (intro wS hSw; (try dsimp only at hSw); go_simp; (try with_reducible rfl))
  simp only [List.set_cons_zero, List.set_cons_succ]
  refine hr_op (i := 16) rfl rfl (by kernel_rfl) (by kernel_rfl) (fun K hK => ?_)
  go_simp
  ((with_reducible refine (win_any (.slice A n cap) (.slice A3 n3 cap3) c k L G q s2 _ (HX14.out.below (by (repeat (first | (with_reducible exact Below.refl _ _) | (with_reducible assumption) | (with_reducible refine Below.grow ?_ ?_ _ _) | (with_reducible refine Below.drewN' ?_ _) | (with_reducible refine Below.drew ?_) | (with_reducible refine Below.alloc ?_ ?_ _) | (with_reducible refine Below.setCell ?_ ?_ _) | omega | (focus (simp; done)) | (focus (simp; omega)))))) (HZ14.out.below (by (repeat (first | (with_reducible exact Below.refl _ _) | (with_reducible assumption) | (with_reducible refine Below.grow ?_ ?_ _ _) | (with_reducible refine Below.drewN' ?_ _) | (with_reducible refine Below.drew ?_) | (with_reducible refine Below.alloc ?_ ?_ _) | (with_reducible refine Below.setCell ?_ ?_ _) | omega | (focus (simp; done)) | (focus (simp; omega)))))) HLL.out HLG.out HS2.out HQ.out).mono ?_); rintro e w17 ⟨v7, rfl, hg, hv⟩; have HV7 := Lib.hid hv; have hk := (show Below w14.heap.size w14 w17 from (Below.trans (by (repeat (first | (with_reducible exact Below.refl _ _) | (with_reducible assumption) | (with_reducible refine Below.grow ?_ ?_ _ _) | (with_reducible refine Below.drewN' ?_ _) | (with_reducible refine Below.drew ?_) | (with_reducible refine Below.alloc ?_ ?_ _) | (with_reducible refine Below.setCell ?_ ?_ _) | omega | (focus (simp; done)) | (focus (simp; omega))))) (hg.mono (by (first | omega | (simp; omega) | (simp; done)))))); have hks := hk.size; clear hv hg hbk_0 hbk_1 hbk_f hbk_l hbo_0 hbo_1 hbo_f hbo_l; obtain ⟨hbk_0, hbk_1, hbk_f, hbk_l⟩ := (HBK14.out.below hk HBK14.out.lt).facts2; obtain ⟨hbo_0, hbo_1, hbo_f, hbo_l⟩ := (HBO14.out.below hk HBO14.out.lt).facts2)
  (try go_wp2_with fail)
  refine hK.out _ _ ?_ (fun hHeld => ?_)
  · ((try dsimp only); go_simp)
  clear hK K
  simp only [List.set_cons_zero, List.set_cons_succ]
  refine hr_op (i := 21) rfl rfl (by kernel_rfl) (by kernel_rfl) (fun K hK => ?_)
  go_simp
  ((with_reducible refine (win10_any (.slice A n cap) (.slice A3 n3 cap3) c k L G q s2 _ (HX14.out.below (by (repeat (first | (with_reducible exact Below.refl _ _) | (with_reducible assumption) | (with_reducible refine Below.grow ?_ ?_ _ _) | (with_reducible refine Below.drewN' ?_ _) | (with_reducible refine Below.drew ?_) | (with_reducible refine Below.alloc ?_ ?_ _) | (with_reducible refine Below.setCell ?_ ?_ _) | omega | (focus (simp; done)) | (focus (simp; omega)))))) (HZ14.out.below (by (repeat (first | (with_reducible exact Below.refl _ _) | (with_reducible assumption) | (with_reducible refine Below.grow ?_ ?_ _ _) | (with_reducible refine Below.drewN' ?_ _) | (with_reducible refine Below.drew ?_) | (with_reducible refine Below.alloc ?_ ?_ _) | (with_reducible refine Below.setCell ?_ ?_ _) | omega | (focus (simp; done)) | (focus (simp; omega)))))) HLL.out HLG.out HS2.out HQ.out).mono ?_); rintro e w18 ⟨v8, rfl, hg, hv⟩; have HV8 := Lib.hid hv; replace HV7 := Lib.hid (HV7.out.below (Below.trans (by (repeat (first | (with_reducible exact Below.refl _ _) | (with_reducible assumption) | (with_reducible refine Below.grow ?_ ?_ _ _) | (with_reducible refine Below.drewN' ?_ _) | (with_reducible refine Below.drew ?_) | (with_reducible refine Below.alloc ?_ ?_ _) | (with_reducible refine Below.setCell ?_ ?_ _) | omega | (focus (simp; done)) | (focus (simp; omega))))) (hg.mono (by (first | omega | (simp; omega) | (simp; done)))))); have hk := (show Below w14.heap.size w14 w18 from (Below.trans (by (repeat (first | (with_reducible exact Below.refl _ _) | (with_reducible assumption) | (with_reducible refine Below.grow ?_ ?_ _ _) | (with_reducible refine Below.drewN' ?_ _) | (with_reducible refine Below.drew ?_) | (with_reducible refine Below.alloc ?_ ?_ _) | (with_reducible refine Below.setCell ?_ ?_ _) | omega | (focus (simp; done)) | (focus (simp; omega))))) (hg.mono (by (first | omega | (simp; omega) | (simp; done)))))); have hks := hk.size; clear hv hg hbk_0 hbk_1 hbk_f hbk_l hbo_0 hbo_1 hbo_f hbo_l; obtain ⟨hbk_0, hbk_1, hbk_f, hbk_l⟩ := (HBK14.out.below hk HBK14.out.lt).facts2; obtain ⟨hbo_0, hbo_1, hbo_f, hbo_l⟩ := (HBO14.out.below hk HBO14.out.lt).facts2)
  (try go_wp2_with fail)
  refine hK.out _ _ ?_ (fun hHeld => ?_)
  · ((try dsimp only); go_simp)
  clear hK K
  simp only [List.set_cons_zero, List.set_cons_succ]
  refine hr_op (i := 22) rfl rfl (by kernel_rfl) (by kernel_rfl) (fun K hK => ?_)
  go_simp
  ((with_reducible refine (sameL_c v7 v8 (hL s2 (winL L G q)) (hL s2 (winL L G q)) _ (HV7.out.below (by (repeat (first | (with_reducible exact Below.refl _ _) | (with_reducible assumption) | (with_reducible refine Below.grow ?_ ?_ _ _) | (with_reducible refine Below.drewN' ?_ _) | (with_reducible refine Below.drew ?_) | (with_reducible refine Below.alloc ?_ ?_ _) | (with_reducible refine Below.setCell ?_ ?_ _) | omega | (focus (simp; done)) | (focus (simp; omega)))))) (HV8.out.below (by (repeat (first | (with_reducible exact Below.refl _ _) | (with_reducible assumption) | (with_reducible refine Below.grow ?_ ?_ _ _) | (with_reducible refine Below.drewN' ?_ _) | (with_reducible refine Below.drew ?_) | (with_reducible refine Below.alloc ?_ ?_ _) | (with_reducible refine Below.setCell ?_ ?_ _) | omega | (focus (simp; done)) | (focus (simp; omega)))))) HLN4.out HLN4.out).mono ?_); rw [sameL_refl]; rintro e wq ⟨rfl, XL2, dL2, rfl⟩)
  (try go_wp2_with fail)
  refine hK.out _ _ ?_ (fun hHeld => ?_)
  · ((try dsimp only); go_simp)
  clear hK K
  simp only [List.set_cons_zero, List.set_cons_succ]
  refine hr_take (i := 23) rfl rfl (by kernel_rfl) (by kernel_rfl) (by kernel_rfl) (by kernel_rfl) (fun _ _ _ h => h) (v := ?_) ?_ (by assumption) ?_
  rotate_left
  focus (intro wS hSw; (try dsimp only at hSw); go_simp; (try with_reducible rfl))
  simp only [List.set_cons_zero, List.set_cons_succ]
  refine hr_take (i := 24) rfl rfl (by kernel_rfl) (by kernel_rfl) (by kernel_rfl) (by kernel_rfl) (fun _ _ _ h => h) (v := ?_) ?_ (by assumption) ?_
  rotate_left
  focus (intro wS hSw; (try dsimp only at hSw); go_simp; (try with_reducible rfl))
  simp only [List.set_cons_zero, List.set_cons_succ]
  refine hr_take (i := 25) rfl rfl (by kernel_rfl) (by kernel_rfl) (by kernel_rfl) (by kernel_rfl) (fun _ _ _ h => h) (v := ?_) ?_ (by assumption) ?_
  rotate_left
  focus (intro wS hSw; (try dsimp only at hSw); go_simp; (try with_reducible rfl))
  simp only [List.set_cons_zero, List.set_cons_succ]
  refine hr_take (i := 27) rfl rfl (by kernel_rfl) (by kernel_rfl) (by kernel_rfl) (by kernel_rfl) (fun _ _ _ h => h) (v := ?_) ?_ (by assumption) ?_
  rotate_left
  focus (intro wS hSw; (try dsimp only at hSw); go_simp; (try with_reducible rfl))
  simp only [List.set_cons_zero, List.set_cons_succ]
  refine hr_op (i := 26) rfl rfl (by kernel_rfl) (by kernel_rfl) (fun K hK => ?_)
  go_simp
  ((with_reducible refine (cells_any (.slice A n cap) c L s _ (HX14.out.below (by (repeat (first | (with_reducible exact Below.refl _ _) | (with_reducible assumption) | (with_reducible refine Below.grow ?_ ?_ _ _) | (with_reducible refine Below.drewN' ?_ _) | (with_reducible refine Below.drew ?_) | (with_reducible refine Below.alloc ?_ ?_ _) | (with_reducible refine Below.setCell ?_ ?_ _) | omega | (focus (simp; done)) | (focus (simp; omega)))))) HLL.out HS.out).mono ?_); rw [HCE.out]; rintro e wq ⟨rfl, XC1, dC1, rfl⟩)
  (try go_wp2_with fail)
  refine hK.out _ _ ?_ (fun hHeld => ?_)
  · ((try dsimp only); go_simp)
  clear hK K
  simp only [List.set_cons_zero, List.set_cons_succ]
  refine hr_op (i := 28) rfl rfl (by kernel_rfl) (by kernel_rfl) (fun K hK => ?_)
  go_simp
  ((with_reducible refine (cells10_any (.slice A n cap) c L s _ (HX14.out.below (by (repeat (first | (with_reducible exact Below.refl _ _) | (with_reducible assumption) | (with_reducible refine Below.grow ?_ ?_ _ _) | (with_reducible refine Below.drewN' ?_ _) | (with_reducible refine Below.drew ?_) | (with_reducible refine Below.alloc ?_ ?_ _) | (with_reducible refine Below.setCell ?_ ?_ _) | omega | (focus (simp; done)) | (focus (simp; omega)))))) HLL.out HS.out).mono ?_); rw [HCE.out]; rintro e wq ⟨rfl, XC2, dC2, rfl⟩)
  (try go_wp2_with fail)
  refine hK.out _ _ ?_ (fun hHeld => ?_)
  · ((try dsimp only); go_simp)
  clear hK K
  simp only [List.set_cons_zero, List.set_cons_succ]
  refine hr_take (i := 29) rfl rfl (by kernel_rfl) (by kernel_rfl) (by kernel_rfl) (by kernel_rfl) (fun _ _ _ h => h) (v := ?_) ?_ (by assumption) ?_
  rotate_left
  focus (intro wS hSw; (try dsimp only at hSw); go_simp; (try with_reducible rfl))
  simp only [List.set_cons_zero, List.set_cons_succ]
  refine hr_take (i := 30) rfl rfl (by kernel_rfl) (by kernel_rfl) (by kernel_rfl) (by kernel_rfl) (fun _ _ _ h => h) (v := ?_) ?_ (by assumption) ?_
  rotate_left
  focus (intro wS hSw; (try dsimp only at hSw); go_simp; (try with_reducible rfl))
  simp only [List.set_cons_zero, List.set_cons_succ]
  refine hr_take (i := 31) rfl rfl (by kernel_rfl) (by kernel_rfl) (by kernel_rfl) (by kernel_rfl) (fun _ _ _ h => h) (v := ?_) ?_ (by assumption) ?_
  rotate_left
  focus (intro wS hSw; (try dsimp only at hSw); go_simp; (try with_reducible rfl))
  simp only [List.set_cons_zero, List.set_cons_succ]
  refine hr_take (i := 32) rfl rfl (by kernel_rfl) (by kernel_rfl) (by kernel_rfl) (by kernel_rfl) (fun _ _ _ h => h) (v := ?_) ?_ (by assumption) ?_
  rotate_left
  focus (intro wS hSw; (try dsimp only at hSw); go_simp; (try with_reducible rfl))
  simp only [List.set_cons_zero, List.set_cons_succ]
  refine hr_take (i := 34) rfl rfl (by kernel_rfl) (by kernel_rfl) (by kernel_rfl) (by kernel_rfl) (fun _ _ _ h => h) (v := ?_) ?_ (by assumption) ?_
  rotate_left
  focus (intro wS hSw; (try dsimp only at hSw); go_simp; (try with_reducible rfl))
  simp only [List.set_cons_zero, List.set_cons_succ]
  refine hr_op (i := 33) rfl rfl (by kernel_rfl) (by kernel_rfl) (fun K hK => ?_)
  go_simp
  ((with_reducible refine (hsane_c (.slice A n cap) c L _ (HX14.out.below (by (repeat (first | (with_reducible exact Below.refl _ _) | (with_reducible assumption) | (with_reducible refine Below.grow ?_ ?_ _ _) | (with_reducible refine Below.drewN' ?_ _) | (with_reducible refine Below.drew ?_) | (with_reducible refine Below.alloc ?_ ?_ _) | (with_reducible refine Below.setCell ?_ ?_ _) | omega | (focus (simp; done)) | (focus (simp; omega)))))) HLL.out).mono ?_); rw [HS.out]; rintro e wq ⟨rfl, XS1, dS1, rfl⟩)
  (try go_wp2_with fail)
  refine hK.out _ _ ?_ (fun hHeld => ?_)
  · ((try dsimp only); go_simp)
  clear hK K
  simp only [List.set_cons_zero, List.set_cons_succ]
  refine hr_op (i := 35) rfl rfl (by kernel_rfl) (by kernel_rfl) (fun K hK => ?_)
  go_simp
  ((with_reducible refine (sane10_c (.slice A n cap) c L _ (HX14.out.below (by (repeat (first | (with_reducible exact Below.refl _ _) | (with_reducible assumption) | (with_reducible refine Below.grow ?_ ?_ _ _) | (with_reducible refine Below.drewN' ?_ _) | (with_reducible refine Below.drew ?_) | (with_reducible refine Below.alloc ?_ ?_ _) | (with_reducible refine Below.setCell ?_ ?_ _) | omega | (focus (simp; done)) | (focus (simp; omega)))))) HLL.out).mono ?_); rw [HS.out]; rintro e wq ⟨rfl, XS2, dS2, rfl⟩)
  (try go_wp2_with fail)
  refine hK.out _ _ ?_ (fun hHeld => ?_)
  · ((try dsimp only); go_simp)
  clear hK K
  simp only [List.set_cons_zero, List.set_cons_succ]
  refine hr_take (i := 36) rfl rfl (by kernel_rfl) (by kernel_rfl) (by kernel_rfl) (by kernel_rfl) (fun _ _ _ h => h) (v := ?_) ?_ (by assumption) ?_
  rotate_left
  focus (intro wS hSw; (try dsimp only at hSw); go_simp; (try with_reducible rfl))
  simp only [List.set_cons_zero, List.set_cons_succ]
  refine hr_take (i := 37) rfl rfl (by kernel_rfl) (by kernel_rfl) (by kernel_rfl) (by kernel_rfl) (fun _ _ _ h => h) (v := ?_) ?_ (by assumption) ?_
  rotate_left
  focus (intro wS hSw; (try dsimp only at hSw); go_simp; (try with_reducible rfl))
  simp only [List.set_cons_zero, List.set_cons_succ]
  refine hr_take (i := 38) rfl rfl (by kernel_rfl) (by kernel_rfl) (by kernel_rfl) (by kernel_rfl) (fun _ _ _ h => h) (v := ?_) ?_ (by assumption) ?_
  rotate_left
  focus (intro wS hSw; (try dsimp only at hSw); go_simp; (try with_reducible rfl))
  simp only [List.set_cons_zero, List.set_cons_succ]
  refine hr_take (i := 39) rfl rfl (by kernel_rfl) (by kernel_rfl) (by kernel_rfl) (by kernel_rfl) (fun _ _ _ h => h) (v := ?_) ?_ (by assumption) ?_
  rotate_left
  focus (intro wS hSw; (try dsimp only at hSw); go_simp; (try with_reducible rfl))
  simp only [List.set_cons_zero, List.set_cons_succ]
  refine hr_take (i := 42) rfl rfl (by kernel_rfl) (by kernel_rfl) (by kernel_rfl) (by kernel_rfl) (fun _ _ _ h => h) (v := ?_) ?_ (by assumption) ?_
  rotate_left
  focus (intro wS hSw; (try dsimp only at hSw); go_simp; (try with_reducible rfl))
  simp only [List.set_cons_zero, List.set_cons_succ]
  refine hr_op (i := 40) rfl rfl (by kernel_rfl) (by kernel_rfl) (fun K hK => ?_)
  go_simp
  ((with_reducible refine (hnew_c k _).mono ?_); rw [HNE.out]; rintro e wq ⟨rfl, XN1, dN1, rfl⟩)
  (try go_wp2_with fail)
  refine hK.out _ _ ?_ (fun hHeld => ?_)
  · ((try dsimp only); go_simp)
  clear hK K
  simp only [List.set_cons_zero, List.set_cons_succ]
  refine hr_op (i := 41) rfl rfl (by kernel_rfl) (by kernel_rfl) (fun K hK => ?_)
  go_simp
  ((with_reducible refine (theirs_c _ _ _ _ _).mono ?_); rintro e wq ⟨rfl, XT3, dT3, rfl⟩)
  (try go_wp2_with fail)
  refine hK.out _ _ ?_ (fun hHeld => ?_)
  · ((try dsimp only); go_simp)
  clear hK K
  simp only [List.set_cons_zero, List.set_cons_succ]
  refine hr_op (i := 43) rfl rfl (by kernel_rfl) (by kernel_rfl) (fun K hK => ?_)
  go_simp
  ((with_reducible refine (new10_c k _).mono ?_); rw [HNE.out]; rintro e wq ⟨rfl, XN2, dN2, rfl⟩)
  (try go_wp2_with fail)
  refine hK.out _ _ ?_ (fun hHeld => ?_)
  · ((try dsimp only); go_simp)
  clear hK K
  simp only [List.set_cons_zero, List.set_cons_succ]
  refine hr_op (i := 44) rfl rfl (by kernel_rfl) (by kernel_rfl) (fun K hK => ?_)
  go_simp
  ((with_reducible refine (sameK_c (.slice none 0 0) (.slice none 0 0) nk nk [] [] _ (RdR.nil _ _ _) (RdR.nil _ _ _) (Nat.zero_le _) (Nat.zero_le _)).mono ?_); rw [HKK5.out]; rintro e wq ⟨rfl, XK3, dK3, rfl⟩)
  (try go_wp2_with fail)
  refine hK.out _ _ ?_ (fun hHeld => ?_)
  · ((try dsimp only); go_simp)
  clear hK K
  simp only [List.set_cons_zero, List.set_cons_succ]
  refine hr_take (i := 45) rfl rfl (by kernel_rfl) (by kernel_rfl) (by kernel_rfl) (by kernel_rfl) (fun _ _ _ h => h) (v := ?_) ?_ (by assumption) ?_
  rotate_left
  focus (intro wS hSw; (try dsimp only at hSw); go_simp; (try with_reducible rfl))
  simp only [List.set_cons_zero, List.set_cons_succ]
  refine hr_take (i := 46) rfl rfl (by kernel_rfl) (by kernel_rfl) (by kernel_rfl) (by kernel_rfl) (fun _ _ _ h => h) (v := ?_) ?_ (by assumption) ?_
  rotate_left
  focus (intro wS hSw; (try dsimp only at hSw); go_simp; (try with_reducible rfl))
  simp only [List.set_cons_zero, List.set_cons_succ]
  refine hr_done (by kernel_rfl) ?_
  go_wp2_with fail
  go_ret
  have hbf := HW14.out.trans (hk.mono HW14.out.size)
  have hbfs := hbf.size
  exact ⟨rfl, (Below.toGrow (by repeat (first | (with_reducible exact Below.refl _ _) | (with_reducible assumption) | (with_reducible refine Below.grow ?_ ?_ _ _) | (with_reducible refine Below.drewN' ?_ _) | (with_reducible refine Below.drew ?_) | (with_reducible refine Below.alloc ?_ ?_ _) | (with_reducible refine Below.setCell ?_ ?_ _) | omega | (focus (simp; done)) | (focus (simp; omega)))))⟩
theorem his_law (x y z : Value) (c k : Int) (L M G : List Rw) (w : World) (hx : RdR0 w x L) (hy : RdR0 w y M) (hz : RdR0 w z G) (hl : L.length ≤ maxLen) (hm : M.length ≤ maxLen) (hg : G.length ≤ maxLen) : Calls Try.prog 10 #[.agg #[x, .int .i64 c], y, z, .int .i64 k] w fun e w' => e = .returned (.bool true) ∧ Grew w w' := by
  cases h1 : fewB L
  · exact his_out1 x y z c k L M G w hx hy hz hl hm hg h1
  · cases h2 : fewB M
    · exact his_out2 x y z c k L M G w hx hy hz hl hm hg h1 h2
    · cases h3 : fewB G
      · exact his_out3 x y z c k L M G w hx hy hz hl hm hg h1 h2 h3
      · exact his_in x y z c k L M G w hx hy hz hl hm hg h1 h2 h3
end Go.Proofs.Ytpnadnjcacaibaa.Row
