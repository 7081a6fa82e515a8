/- lapwinglaw15.ScreenKeeps: what leaves at the top. -/
import Derived.Test.YtlchffkabpfjpaaScrM
namespace Go.Proofs.Ytlchffkabpfjpaa.Scr
open Go.RowKit Go.Proofs.Ytlchffkabpfjpaa.Row
attribute [local go_sem ↓] scr_load_pre scr_store_pre doc_load_pre
attribute [local go_sem] scr_cell scr_frozen doc_cell doc_frozen
theorem keep_5000 {S6 : Sn} {w : World} {a k : Nat} {kp : Int} (h1 : (a : Int) ≤ 60) (h2 : (k : Int) ≤ 1000) (h3 : (S6.s.kn : Int) = min ((a : Int) + k) kp) (hr : S6.rd w) : S6.L.length ≤ 5000 := by
  have := rd_kn hr
  omega
theorem keep_hs {S6 : Sn} {S : Sn} {k : Nat} (hm : S6.md = S.md.up k) (h : S.md.Ok) (hk : (k : Int) = max 0 (min (k : Int) (S.s.B - S.s.T))) : hsaneB S6.L S6.s.kp = true := by
  have : S6.md.Ok := hm ▸ h.up (by have ht : 0 ≤ S.s.T := h.cf.t0; have hb : S.s.T < S.s.B := h.cf.tb; show S.s.T.toNat + k ≤ S.s.B.toNat; omega)
  have h2 := this.hs
  rw [← hs_ct]
  exact h2
theorem keep_lt {kp M : Int} {k j : Nat} (hM : (if kp < (k : Int) then kp else (k : Int)) = M) (h : (j : Int) < M) : j < k ∧ (j : Int) < kp := by
  split at hM <;> omega
theorem keep_le {k : Nat} {T B : Int} (h : (k : Int) ≤ B - T) (h0 : 0 ≤ T) : (k : Int) ≤ B := by omega
theorem keep_row {S6 : Sn} {s : Sc} {F : Nat → Rw} {zs : List Int} {L : List Rw} {k j : Nat} (hm : S6.md = (Sn.md ⟨s, F, zs, L⟩).up k) (h : (Sn.md ⟨s, F, zs, L⟩).Ok) (hT : s.T = 0) (hk : (k : Int) ≤ s.B) (hj : j < k) (hc : (j : Int) < s.kp) :
    ∃ r : Rw, S6.L[S6.L.length - 1 - j]? = some r ∧ ct r = ct (F (k - 1 - j)) ∧ j < S6.L.length := by
  have h1 := kept_at h hT hk hj hc
  have h2 := kept_len h hT hk
  rw [← hm] at h1 h2
  have h3 : (S6.L.map ct)[(S6.L.map ct).length - 1 - j]? = some (ct (F (k - 1 - j))) := h1
  have h4 : ((S6.L.map ct).length : Int) = min (((L.map ct).length : Int) + k) s.kp := h2
  rw [List.length_map] at h3 h4
  rw [List.getElem?_map] at h3
  obtain ⟨r, e1, e2⟩ := Option.map_eq_some_iff.1 h3
  exact ⟨r, e1, e2, by omega⟩
theorem keep_ix {k j n : Nat} {B H : Int} (h1 : (k : Int) ≤ B) (h2 : B ≤ H) (h3 : (n : Int) = H) (h4 : j < k) (h5 : H ≤ 1000) : ∃ i : Nat, k - 1 - j = i ∧ i < n ∧ (k : Int) - 1 - (j : Int) = (i : Int) ∧ wrap64 ((k : Int) - 1) = (k : Int) - 1 ∧ wrap64 (i : Int) = (i : Int) ∧ IntKind.i64.wrap ((k : Int) - 1) = (k : Int) - 1 ∧ IntKind.i64.wrap (i : Int) = (i : Int) := ⟨k - 1 - j, rfl, by omega, by omega, IntWalk.wrap64_in _ (by omega), IntWalk.wrap64_in _ (by omega), IntWalk.i64_in _ (by omega), IntWalk.i64_in _ (by omega)⟩
theorem keep_w {S : Sn} (h : S.md.Ok) : max 1 (min S.s.W 4096) = (S.s.W.toNat : Int) := by
  obtain ⟨-, -, w1, w2, -⟩ := h.cf
  dsimp only [Sn.md] at w1 w2
  omega
theorem keep_want {S6 : Sn} {s : Sc} {F : Nat → Rw} {zs : List Int} {L : List Rw} {k : Nat} (hm : S6.md = (Sn.md ⟨s, F, zs, L⟩).up k) (_ : (Sn.md ⟨s, F, zs, L⟩).Ok) (hT : s.T = 0) (hk : (k : Int) ≤ s.B) (j : Nat) : ct (S6.F j) = wantC (Sn.md ⟨s, F, zs, L⟩) k j := by
  have h := congrFun (congrArg Md.G hm) j
  exact h.trans (up_at (m := Sn.md ⟨s, F, zs, L⟩) hT hk j)
theorem keep_jk {s : Sc} {F : Nat → Rw} {zs : List Int} {L : List Rw} {k j n : Nat} (h : (Sn.md ⟨s, F, zs, L⟩).Ok) (hk : (k : Int) ≤ s.B) (hj : j < n) (hn : s.H = (n : Int)) (hg : n = s.gn) : wrap64 ((j : Int) + (k : Int)) = (j : Int) + (k : Int) ∧ ((j : Int) + (k : Int) < s.B → j + k < s.gn) := by
  obtain ⟨f1, f2, w1, w2, t0, tb, bh, -, -, -, -, -, -⟩ := h.cf
  dsimp only [Sn.md] at f2 bh
  exact ⟨IntWalk.wrap64_in _ (by omega), fun h => by omega⟩
theorem keep_sets {B g : Nat} {a w : World} {u v x y : Value} (h : Below B a w) (hg : B ≤ g) : Below B a ((((w.setCell ⟨g, 0, none⟩ u).setCell ⟨g, 1, none⟩ v).setCell ⟨g, 2, none⟩ x).setCell ⟨g, 3, none⟩ y) :=
  (((h.setCell hg u).setCell hg v).setCell hg x).setCell hg y
theorem keep_sblk {g : Nat} {w : World} {r R : Rw} (h : Blk w g 49 #[.slice r.A r.n r.cap, .bool r.wb, .int .i64 r.dir, .bool r.ex]) : Blk ((((w.setCell ⟨g, 0, none⟩ (.slice R.A R.n R.cap)).setCell ⟨g, 1, none⟩ (.bool R.wb)).setCell ⟨g, 2, none⟩ (.int .i64 R.dir)).setCell ⟨g, 3, none⟩ (.bool R.ex)) g 49 #[.slice R.A R.n R.cap, .bool R.wb, .int .i64 R.dir, .bool R.ex] :=
  (((h.set_ 0 _).set_ 1 _).set_ 2 _).set_ 3 _
theorem keep_okr {s : Sc} {F : Nat → Rw} {zs : List Int} {L : List Rw} {w : World} {j : Nat} (h : Sn.rd ⟨s, F, zs, L⟩ w) (hj : j < s.gn) : (F j).ok w := h.1.2 _ (List.mem_map.2 ⟨j, List.mem_range.2 hj, rfl⟩)
theorem keep_way2 {s : Sc} {F : Nat → Rw} {zs : List Int} {L : List Rw} {k j : Nat} (h : ¬ s.B ≤ (j : Int)) (h2 : (j : Int) + k < s.B) : wantC (Sn.md ⟨s, F, zs, L⟩) k j = ct (F (j + k)) := (if_neg h).trans (if_pos h2)
theorem keep_way3 {s : Sc} {F : Nat → Rw} {zs : List Int} {L : List Rw} {k j : Nat} (hO : (Sn.md ⟨s, F, zs, L⟩).Ok) (h : ¬ s.B ≤ (j : Int)) (h2 : ¬ (j : Int) + k < s.B) : wantC (Sn.md ⟨s, F, zs, L⟩) k j = newC s.W.toNat 0 s.bg 0 := by
  have := hO.nW
  refine ((if_neg h).trans (if_neg h2)).trans ?_
  show newC ((Sn.md ⟨s, F, zs, L⟩).G 0).n _ _ _ = _
  rw [show ((Sn.md ⟨s, F, zs, L⟩).G 0).n = s.W.toNat by dsimp only [Sn.md] at this ⊢; omega]
  rfl
theorem keep_wrapn {m : Md} {n j : Nat} (h : j < n) (h2 : m.H = (n : Int)) (hO : m.Ok) : wrap64 ((j : Int) + 1) = (j : Int) + 1 := by
  have h1 := hO.cf.h2
  exact IntWalk.wrap64_in _ (by omega)
theorem keep_n0 {s : Sc} {F : Nat → Rw} {zs : List Int} {L : List Rw} {n : Nat} (h : (Sn.md ⟨s, F, zs, L⟩).Ok) (hn : n = s.gn) : 0 < n := by
  have := h.nH
  have h1 := h.cf.h1
  dsimp only [Sn.md] at this h1
  omega
theorem keep_sn {S6 : Sn} {s : Sc} {F : Nat → Rw} {zs : List Int} {L : List Rw} {k : Nat} (hm : S6.md = (Sn.md ⟨s, F, zs, L⟩).up k) (h : (Sn.md ⟨s, F, zs, L⟩).Ok) (hk : (k : Int) ≤ s.B) (hT : s.T = 0) (hn : 0 < S6.s.gn) : saneRw (S6.F 0) = true := by
  have hO : S6.md.Ok := hm ▸ h.up (by show s.T.toNat + k ≤ s.B.toNat; omega)
  exact hO.rows hn
theorem keep_wrap {k j : Nat} (h : j < k) (h2 : (k : Int) ≤ 1000) : wrap64 ((j : Int) + 1) = (j : Int) + 1 := IntWalk.wrap64_in _ (by omega)
theorem keep_meas {k j : Nat} (h : j < k) : k - (intOf (.int .i64 ((j : Int) + 1))).toNat < k - (intOf (.int .i64 (j : Int))).toNat := by
  simp [intOf]
  omega
theorem keep_nums {a k n : Nat} {kp : Int} (h1 : (a : Int) ≤ 60) (h2 : (k : Int) ≤ 1000) (h3 : (n : Int) = min ((a : Int) + k) kp) : wrap64 ((a : Int) + k) = (a : Int) + k ∧ (if kp < (a : Int) + k then kp else (a : Int) + k) = (n : Int) := by
  refine ⟨IntWalk.wrap64_in _ (by omega), ?_⟩
  split <;> omega
set_option maxRecDepth 100000 in
set_option maxHeartbeats 4000000 in
theorem keeps_top (s : Sc) (F : Nat → Rw) (zs : List Int) (L : List Rw) (z : Int) (w : World) (hr : Sn.rd ⟨s, F, zs, L⟩ w) (hg0 : RdR0 w (.slice s.gA s.gn s.gc) (listG s.gn F)) (hk0 : RdR0 w (.slice s.kA s.kn s.kc) L) (hW1 : s.W ≤ 9223372036854775807) (hW2 : -9223372036854775808 ≤ s.W) (h1 : few15 (listG s.gn F) L s.tn = true) (h2 : (Sn.md ⟨s, F, zs, L⟩).Ok) (hT : s.T = 0) : Calls Try.prog 4 #[.agg #[.slice s.gA s.gn s.gc, .int .i64 s.x, .int .i64 s.y, .bool s.wr, .bool s.og, .int .i64 s.fg, .int .i64 s.bg, .int .i64 s.fl, .int .u8 s.g0, .int .u8 s.g1, .int .u8 s.g2, .int .u8 s.g3, .int .i64 s.gl, .int .i64 s.gr, .int .i64 s.on, .int .i64 s.H, .int .i64 s.W, .int .i64 s.T, .int .i64 s.B, .slice s.tA s.tn s.tc, .int .i64 s.tw, .slice s.kA s.kn s.kc, .int .i64 s.kp, .int .i64 s.dir, .bool s.ex], .int .i64 z] w fun e w' => e = .returned (.bool true) ∧ Grew w w' := by
  have HSN := Lib.hid (Md.sane_iff.2 h2)
  have HO := Lib.hid h2
  obtain ⟨f1, f2, w1, w2, t0, tb, bh, -, -, -, -, -, -⟩ := h2.cf
  dsimp only [Sn.md] at f1 f2 t0 tb bh
  have HT := Lib.hid hT
  clear h2 w1 w2 hT
  have hand : bits .and .i64 z 65535 = z % 65536 := and_mask 16 (by omega) z
  have HKS := Lib.hid (show (s.kn : Int) ≤ 60 by have := few15_facts hr h1; omega)
  have hfw := few15_facts hr h1; have HGL := Lib.hid (show (listG s.gn F).length ≤ maxLen by rw [listG_len]; unfold maxLen; omega); have HKL := Lib.hid (show L.length ≤ maxLen by unfold maxLen; omega); have HG5 := Lib.hid (show s.gn ≤ 5000 by omega); have HL5 := Lib.hid (show L.length ≤ 5000 by omega); have HZ5 := Lib.hid (show zs.length ≤ 65536 by omega); have HW1 := Lib.hid hW1; have HW2 := Lib.hid hW2; have HF := Lib.hid h1; clear hfw; go_enter Try.func4, Try.ntmps4; go_upto_region 1 with fail; generalize hW : w.alloc _ = W; have HD : Hid (DBlk W w.heap.size s) := Lib.hid (by rw [← hW]; exact Blk.new _ _ _); have hbW : Below w.heap.size w W := (by rw [← hW]; exact (Below.refl _ _).alloc (Nat.le_refl _) _); have HR := Lib.hid (hr.below hbW); have HG0 := Lib.hid (hg0.below hbW); have HK0 := Lib.hid (hk0.below hbW); have HBW := Lib.hid hbW; clear hW hr hbW h1 hW1 hW2 hg0 hk0
  go_upto_region 5 with (first | ((with_reducible refine (awake15_c _).mono ?_); rintro e w0 ⟨rfl, hg0⟩; replace hg0 := hg0.below; have HD0 := Lib.hid (Blk.below HD.out hg0 HD.out.lt)) | (refine wpList_doc_load HD0.out rfl rfl rfl ?_) | (refine wpList_doc_load_w HD1.out rfl (by rfl) rfl ?_) | (refine wpList_doc_load HD3.out rfl rfl rfl ?_) | ((with_reducible refine (few15_c s (listG s.gn F) L _ (HG0.out.below hg0) (HK0.out.below hg0) HGL.out HKL.out).mono ?_); rw [HF.out]; rintro e w1 ⟨rfl, hg1⟩; replace hg1 := hg1.below; have HD1 := Lib.hid (Blk.below HD0.out hg1 HD0.out.lt); have HR1 := Lib.hid ((HR.out.below hg0).below hg1)) | ((with_reducible refine (ours15_c s _).mono ?_); rintro e w2 ⟨rfl, hg2⟩; replace hg2 := hg2.below; have HD2 := Lib.hid (Blk.below HD1.out hg2 HD1.out.lt); have HR2 := Lib.hid (HR1.out.below hg2)) | ((with_reducible refine (sane_c ⟨s, F, zs, L⟩ _ HR2.out HG5.out HL5.out HZ5.out HW1.out HW2.out).mono ?_); rw [HSN.out]; rintro e w3 ⟨rfl, hg3⟩; replace hg3 := hg3.below; have HD3 := Lib.hid (Blk.below HD2.out hg3 HD2.out.lt); have HR3 := Lib.hid (HR2.out.below hg3)) | ((with_reducible refine (ours15_c s _).mono ?_); rintro e w4 ⟨rfl, hg4⟩; replace hg4 := hg4.below) | (refine wpList_scr_store s ⟨_, Blk.new _ _ _, rfl⟩ rfl rfl rfl rfl rfl ?_))
  generalize hW5 : World.setRow _ _ _ = W5
  have HD4 : DBlk w4 w.heap.size s := Blk.below HD3.out hg4 HD3.out.lt
  have hA : Below w4.heap.size w4 W5 := by rw [← hW5]; exact below_row ((Below.refl _ _).alloc (Nat.le_refl _) _) (Nat.le_refl _) _
  have hX : SBlk W5 w4.heap.size s := by rw [← hW5]; exact setRow_heap _ _ _ _ _ _ (Blk.new _ _ _)
  have hzx : w.heap.size < w4.heap.size := HD4.lt
  have HD5 := Lib.hid (show DBlk W5 w.heap.size s from Blk.below HD4 hA HD4.lt)
  have HR5 := Lib.hid ((HR3.out.below hg4).below hA)
  have HB5 : Hid (Below w.heap.size w W5) := by
    have hb0 := HBW.out.trans (hg0.mono HBW.out.size)
    have hb1 := hb0.trans (hg1.mono hb0.size)
    have hb2 := hb1.trans (hg2.mono hb1.size)
    have hb3 := hb2.trans (hg3.mono hb2.size)
    have hb4 := hb3.trans (hg4.mono hb3.size)
    exact Lib.hid (hb4.trans (hA.mono hb4.size))
  clear hW5 HD4 hA HBW hg0 hg1 hg2 hg3 hg4 HD HD0 HD1 HD2 HD3 HR HR1 HR2 HR3 HG0 HK0 HGL HKL HG5 HL5 HZ5 HW1 HW2 HF HSN
  generalize w4.heap.size = gx at *
  have HX := Lib.hid hX
  have xS := SBlk.isScr hX
  have xL := SBlk.cells hX
  clear hX
  go_upto_region 6 with fail
  generalize hkv : z % 65536 % (s.B - s.T + 1) = kv
  obtain ⟨k, hk⟩ : ∃ k : Nat, kv = (k : Int) := ⟨kv.toNat, by have := Int.emod_nonneg (z % 65536) (show s.B - s.T + 1 ≠ 0 by omega); omega⟩
  have hkb : (k : Int) ≤ s.B - s.T := by have := Int.emod_lt_of_pos (z % 65536) (show 0 < s.B - s.T + 1 by omega); omega
  subst hk
  have HK1 := Lib.hid (show (k : Int) ≤ 1000 by omega)
  have HKM : Hid ((k : Int) = max 0 (min (k : Int) (s.B - s.T))) := Lib.hid (by omega)
  clear hkv
  go_upto_region 7 with (first | (refine wpList_scr_load HX.out rfl rfl rfl ?_) | ((with_reducible refine (Scroll_up ⟨s, F, zs, L⟩ (k : Int) k _ HO.out HR5.out (by omega) HKM.out).mono ?_); rintro e w6 ⟨S6, rfl, hg6, hr6, hm6, -⟩) | (refine wpList_scr_store S6.s ⟨_, Blk.new _ _ _, rfl⟩ rfl rfl rfl rfl rfl ?_))
  generalize hW7 : World.setRow _ _ _ = W7
  have hA7 : Below w6.heap.size w6 W7 := by rw [← hW7]; exact below_row ((Below.refl _ _).alloc (Nat.le_refl _) _) (Nat.le_refl _) _
  have hT7 : SBlk W7 w6.heap.size S6.s := by rw [← hW7]; exact setRow_heap _ _ _ _ _ _ (Blk.new _ _ _)
  have HD7 := Lib.hid (show DBlk W7 w.heap.size s from Blk.below (Blk.below HD5.out hg6 HD5.out.lt) hA7 (Blk.lt (Blk.below HD5.out hg6 HD5.out.lt)))
  have HX7 := Lib.hid (show SBlk W7 gx s from Blk.below (Blk.below HX.out hg6 HX.out.lt) hA7 (Blk.lt (Blk.below HX.out hg6 HX.out.lt)))
  have HB7 : Hid (Below w.heap.size w W7) := by
    have h := HB5.out.trans (hg6.mono HB5.out.size)
    exact Lib.hid (h.trans (hA7.mono h.size))
  have hmd : (Sn.md ⟨s, F, zs, L⟩).T = 0 := HT.out
  have HUP := Lib.hid hm6
  have hkn : (S6.s.kn : Int) = min ((s.kn : Int) + k) s.kp := by
    have e1 := rd_kn hr6
    have e2 : s.kn = L.length := rd_kn HR5.out
    have h := kept_len HO.out hmd (k := k) (by show (k : Int) ≤ s.B; omega)
    rw [← HUP.out] at h
    have h' : ((S6.L.map ct).length : Int) = min (((L.map ct).length : Int) + k) s.kp := h
    simp only [List.length_map] at h'
    omega
  have HL6 := Lib.hid (keep_5000 HKS.out HK1.out hkn hr6)
  have HH6 := Lib.hid (keep_hs HUP.out HO.out HKM.out)
  have HR7 := Lib.hid (show S6.rd W7 by
    rw [← hW7]
    exact (hr6.below ((Below.refl _ _).alloc (Nat.le_refl _) _)).keep (hr6.ft.mono fun b hb => Nat.ne_of_lt hb) (Keeps.row _ _ (fun h => h rfl)))
  have HX5 := Lib.hid ((HR5.out.below hg6).below hA7)
  have HT7 := Lib.hid hT7
  have tS := SBlk.isScr hT7
  have tL := SBlk.cells hT7
  have xS7 := SBlk.isScr HX7.out
  have xL7 := SBlk.cells HX7.out
  have HKN := Lib.hid hkn
  clear hmd hW7 xS xL hT7 hg6 hr6 hm6 hkn hA7
  generalize w6.heap.size = gt at *
  have hT' : (s.T == 0) = true := by simpa using HT.out
  obtain ⟨hw10, hc10⟩ := keep_nums HKS.out HK1.out HKN.out
  go_upto_region 13 with fail
  clear hw10 hc10 tS tL
  obtain ⟨M, hM⟩ : ∃ M : Int, (if s.kp < (k : Int) then s.kp else (k : Int)) = M := ⟨_, rfl⟩
  rw [show (s.T != 0) = false from by simpa using HT.out]
  generalize (.agg #[.slice s.gA s.gn s.gc, .int .i64 s.x, .int .i64 s.y, .bool s.wr, .bool s.og, .int .i64 s.fg, .int .i64 s.bg, .int .i64 s.fl, .int .u8 s.g0, .int .u8 s.g1, .int .u8 s.g2, .int .u8 s.g3, .int .i64 s.gl, .int .i64 s.gr, .int .i64 s.on, .int .i64 s.H, .int .i64 s.W, .int .i64 s.T, .int .i64 s.B, .slice s.tA s.tn s.tc, .int .i64 s.tw, .slice s.kA s.kn s.kc, .int .i64 s.kp, .int .i64 s.dir, .bool s.ex] : Value) = V0
  generalize (.agg #[.slice S6.s.gA S6.s.gn S6.s.gc, .int .i64 S6.s.x, .int .i64 S6.s.y, .bool S6.s.wr, .bool S6.s.og, .int .i64 S6.s.fg, .int .i64 S6.s.bg, .int .i64 S6.s.fl, .int .u8 S6.s.g0, .int .u8 S6.s.g1, .int .u8 S6.s.g2, .int .u8 S6.s.g3, .int .i64 S6.s.gl, .int .i64 S6.s.gr, .int .i64 S6.s.on, .int .i64 S6.s.H, .int .i64 S6.s.W, .int .i64 S6.s.T, .int .i64 S6.s.B, .slice S6.s.tA S6.s.tn S6.s.tc, .int .i64 S6.s.tw, .slice S6.s.kA S6.s.kn S6.s.kc, .int .i64 S6.s.kp, .int .i64 S6.s.dir, .bool S6.s.ex] : Value) = V6
  go_loopw [10] (fun i wz => ∃ j : Nat, j ≤ k ∧ i = .int .i64 j ∧ Below W7.heap.size W7 wz) (fun i _ => k - (intOf i).toNat)
  case atStart => exact ⟨0, Nat.zero_le _, rfl, Below.refl _ _⟩
  case round =>
    obtain ⟨j, hj, rfl, hbz⟩ := hrel
    have qT : SBlk _ gt S6.s := Blk.below HT7.out hbz (Blk.lt HT7.out)
    have qX : SBlk _ gx s := Blk.below HX7.out hbz (Blk.lt HX7.out)
    have qD : DBlk _ w.heap.size s := Blk.below HD7.out hbz (Blk.lt HD7.out)
    have tS := SBlk.isScr qT
    have tL := SBlk.cells qT
    have xS := SBlk.isScr qX
    have xL := SBlk.cells qX
    have dS := DBlk.isDoc qD
    have dL := DBlk.cells qD
    by_cases hjM : (j : Int) < M
    · obtain ⟨hjk, hjp⟩ := keep_lt hM hjM
      obtain ⟨r, hr, hrc, hjl⟩ := keep_row HUP.out HO.out HT.out (show (k : Int) ≤ s.B from keep_le hkb t0) hjk hjp
      have HRR := Lib.hid hr
      have HRC := Lib.hid hrc
      have HJL := Lib.hid hjl
      have HRT := Lib.hid (HR7.out.below hbz).2.2
      clear hr hrc hjl
      go_upto_region 16 with (go_at_call 14; (with_reducible refine (at_yes (.slice S6.s.kA S6.s.kn S6.s.kc) S6.s.kp S6.L j r _ HRT.out HL6.out HH6.out HJL.out HRR.out).mono ?_); rintro e w8 ⟨rfl, hg8⟩; replace hg8 := hg8.below)
      generalize hW9 : World.alloc _ _ = W9
      have hg9 : Below w8.heap.size w8 W9 := by rw [← hW9]; exact (Below.refl _ _).alloc (Nat.le_refl _) _
      have hB9 : Blk W9 w8.heap.size 49 #[.slice r.A r.n r.cap, .bool r.wb, .int .i64 r.dir, .bool r.ex] := by rw [← hW9]; exact Blk.new _ _ _
      have hbz9 := (hbz.trans (hg8.mono hbz.size))
      replace hbz9 := hbz9.trans (hg9.mono hbz9.size)
      have HOR := Lib.hid (((HRT.out.2 r (List.mem_of_getElem? HRR.out)).below hg8).below hg9)
      have qD9 : DBlk W9 w.heap.size s := Blk.below HD7.out hbz9 (Blk.lt HD7.out)
      obtain ⟨i, hi, hin, hiI, hk1, hk2, hk3, hk4⟩ := keep_ix (keep_le hkb t0) bh HO.out.nH hjk f2
      have hRG := (HX5.out.below hbz9).1
      obtain ⟨bg, og, eA⟩ : ∃ bg og, s.gA = some ⟨bg, og, none⟩ := by
        obtain ⟨b, o, e, _⟩ := hRG.at_ (show i < (listG s.gn F).length by rw [listG_len]; exact hin)
        exact ⟨b, o, e⟩
      have dS9 := DBlk.isDoc qD9
      have dL9 := DBlk.cells qD9
      dsimp only at hRG
      rw [eA] at dL9 hRG
      obtain ⟨⟨r0, r1, r2, r3⟩, hof, lb⟩ := rdR_row hRG (j := i) hin
      have hinI : (i : Int) < s.gn := Int.ofNat_lt.2 hin
      have hsr : sameRw r (F i) = true := sameRw_of (by rw [HRC.out, hi])
      have HSAME : Hid (∀ w', Below W9.heap.size W9 w' → Calls Try.prog 15 #[.agg #[.slice r.A r.n r.cap, .bool r.wb, .int .i64 r.dir, .bool r.ex], .agg #[.slice (F i).A (F i).n (F i).cap, .bool (F i).wb, .int .i64 (F i).dir, .bool (F i).ex]] w' fun e w'' => e = .returned (.bool true) ∧ Grew w' w'') := Lib.hid fun w' hb => by
        have h := samer_c r (F i) w' (HOR.out.below hb) (hof.below hb)
        rwa [hsr] at h
      obtain ⟨q0, q1, q2, q3, qf, ql⟩ := hB9.facts4
      have ld := Blk.lt qD9
      clear hsr hof hRG eA hi tS tL xS xL dS dL qT qX qD qD9 hB9 hW9
      go_upto_region 16 with fail
      (refine wp_region_grew (by kernel_rfl) (by kernel_rfl) ?_; (repeat (quiet_step (((go_at_call 15; first | exact Calls.grew_add (HSAME.out _ ((Below.refl _ _).grow (Nat.le_refl _) _ _)) | exact Calls.grew_of (HSAME.out _ ((Below.refl _ _).grow (Nat.le_refl _) _ _))))))); refine wpQuiet_nil ?_; rintro _ ⟨⟨Xq, dq⟩, rfl⟩)
      have hjw := keep_wrap hjk HK1.out
      have HJK := Lib.hid hjk
      clear r0 r1 r2 r3 q0 q1 q2 q3 qf ql ld hk1 hk2 hk3 hk4 hinI hin hiI lb hM HSAME hjM hjk hjp HJL HRR HRC hg8 hg9 HOR HRT hbz xS7 xL7 hT' hkb f1 f2 t0 tb bh hand hzx
      go_wp2_with fail
      go_roundw
      case rel => exact ⟨j + 1, HJK.out, by rw [hjw]; rfl, hbz9.grow hbz9.size _ _⟩
      case measure =>
        rw [hjw]
        exact keep_meas HJK.out
    · obtain ⟨wo, rfl⟩ : ∃ wo, wo = wr := ⟨_, rfl⟩
      have HKB : Hid ((k : Int) ≤ s.B) := Lib.hid (keep_le hkb t0)
      clear hkb
      go_upto_region 19 with fail
      generalize (Value.int .i64 (j : Int)) = vj
      have HT8 := Lib.hid (Blk.below HT7.out hbz (Blk.lt HT7.out))
      have HD8 := Lib.hid (Blk.below HD7.out hbz (Blk.lt HD7.out))
      have HX8 := Lib.hid (Blk.below HX7.out hbz (Blk.lt HX7.out))
      have HR8 := Lib.hid (HR7.out.below hbz)
      have HX9 := Lib.hid (HX5.out.below hbz)
      have HB8 := Lib.hid (HB7.out.trans (hbz.mono HB7.out.size))
      clear xS7 xL7 xS xL dS dL hbz hM hjM hj HT7 HD7 HX7 HR7 HX5 HB7 hT' hand HK1 HKS hzx HKM HL6 HH6 HKN HR5 HX HD5 HB5
      obtain ⟨n, hn⟩ : ∃ n, n = s.gn := ⟨_, rfl⟩
      have hnH : s.H = (n : Int) := by rw [hn]; exact HO.out.nH.symm
      have HNH := Lib.hid hnH
      have hn6 : S6.s.gn = n := (congrArg Md.n HUP.out).trans hn.symm
      have HN6 := Lib.hid hn6
      have HN := Lib.hid hn
      clear hnH hn6 hn
      go_loopw [13] (fun i wz => ∃ j : Nat, j ≤ n ∧ i = .int .i64 j ∧ Below wo.heap.size wo wz) (fun i _ => n - (intOf i).toNat)
      case atStart => exact ⟨0, Nat.zero_le _, rfl, Below.refl _ _⟩
      case round =>
        obtain ⟨j, hj, rfl, hbz⟩ := hrel
        have qT : SBlk _ gt S6.s := Blk.below HT8.out hbz (Blk.lt HT8.out)
        have qX : SBlk _ gx s := Blk.below HX8.out hbz (Blk.lt HX8.out)
        have qD : DBlk _ w.heap.size s := Blk.below HD8.out hbz (Blk.lt HD8.out)
        have tS := SBlk.isScr qT
        have tL := SBlk.cells qT
        have xS := SBlk.isScr qX
        have xL := SBlk.cells qX
        have dS := DBlk.isDoc qD
        have dL := DBlk.cells qD
        rw [HNH.out] at xL
        by_cases hjn : j < n
        · have hjI : (j : Int) < (n : Int) := Int.ofNat_lt.2 hjn
          have HBZ := Lib.hid hbz
          have HQ : Hid (max 1 (min s.W 4096) = (s.W.toNat : Int)) := Lib.hid (keep_w (S := ⟨s, F, zs, L⟩) HO.out)
          clear f1 f2 t0 tb bh hbz
          go_upto_region 22 with (go_at_call 16; (with_reducible refine (new8_c s.W s.W.toNat 0 s.bg 0 _ HQ.out).mono ?_); rintro e w8 ⟨r, rfl, hg8, hrok, hrx⟩; have HRX := Lib.hid hrx; clear hrx)
          generalize hW9 : World.alloc _ _ = W9
          have hg9 : Below w8.heap.size w8 W9 := by rw [← hW9]; exact (Below.refl _ _).alloc (Nat.le_refl _) _
          have hB9 : Blk W9 w8.heap.size 49 #[.slice r.A r.n r.cap, .bool r.wb, .int .i64 r.dir, .bool r.ex] := by rw [← hW9]; exact Blk.new _ _ _
          have hbz9 := (HBZ.out.trans (hg8.mono HBZ.out.size))
          replace hbz9 := hbz9.trans (hg9.mono hbz9.size)
          have HBZ9 := Lib.hid hbz9
          have HOR := Lib.hid (hrok.below hg9)
          have HCR : Hid (ct r = newC s.W.toNat 0 s.bg 0) := Lib.hid (by obtain ⟨hrn, hrf, hrb, hrd, hre⟩ := HRX.out; unfold ct newC; rw [hrn, hrf, hrb, hrd, hre])
          have HB9 := Lib.hid hB9
          have HWL : Hid (wo.heap.size ≤ w8.heap.size) := Lib.hid (HBZ.out.trans (hg8.mono HBZ.out.size)).size
          clear tS tL xS xL dS dL qT qX qD hW9 hg9 hB9 hbz9 hrok HRX hg8
          have qT : SBlk W9 gt S6.s := Blk.below HT8.out HBZ9.out (Blk.lt HT8.out)
          have qX : SBlk W9 gx s := Blk.below HX8.out HBZ9.out (Blk.lt HX8.out)
          have qD : DBlk W9 w.heap.size s := Blk.below HD8.out HBZ9.out (Blk.lt HD8.out)
          generalize w8.heap.size = gw at *
          have tS := SBlk.isScr qT
          have tL := SBlk.cells qT
          have xS := SBlk.isScr qX
          have xL := SBlk.cells qX
          have dS := DBlk.isDoc qD
          have dL := DBlk.cells qD
          have hnI : (j : Int) < (s.gn : Int) := by rw [← HN.out]; exact hjI
          have hRG := (HX9.out.below HBZ9.out).1
          obtain ⟨bg, og, eA⟩ : ∃ bg og, s.gA = some ⟨bg, og, none⟩ := by
            obtain ⟨b, o, e, _⟩ := hRG.at_ (show j < (listG s.gn F).length by rw [listG_len]; exact Int.ofNat_lt.1 hnI)
            exact ⟨b, o, e⟩
          dsimp only at hRG
          rw [eA] at dL hRG
          have HRG := Lib.hid hRG
          have HWN := Lib.hid (keep_want HUP.out HO.out HT.out HKB.out j)
          have HG8 : Hid (gt < gw ∧ w.heap.size < gw) := Lib.hid ⟨Nat.lt_of_lt_of_le (Blk.lt HT8.out) HWL.out, Nat.lt_of_lt_of_le (Blk.lt HD8.out) HWL.out⟩
          have HJK : Hid (wrap64 ((j : Int) + (k : Int)) = (j : Int) + (k : Int) ∧ ((j : Int) + (k : Int) < s.B → j + k < s.gn)) := Lib.hid (keep_jk HO.out HKB.out hjn HNH.out HN.out)
          clear eA hRG qT qX qD
          go_upto_if 123 with fail
          go_cut [123] from 124 to 144 (fun _ wc => ∃ R : Rw, Below wo.heap.size wo wc ∧ Blk wc gw 49 #[.slice R.A R.n R.cap, .bool R.wb, .int .i64 R.dir, .bool R.ex] ∧ R.ok wc ∧ ct R = wantC (Sn.md ⟨s, F, zs, L⟩) k j)
          case first =>
            obtain ⟨q0, q1, q2, q3, qf, ql⟩ := HB9.out.facts4
            by_cases hyB : s.B ≤ (j : Int)
            · obtain ⟨⟨r0, r1, r2, r3⟩, hof, lc⟩ := rdR_row HRG.out (j := j) (Int.ofNat_lt.1 hnI)
              have HOF := Lib.hid hof
              clear hof
              go_wp2_with fail
              go_meet
              case rel =>
                exact ⟨F j, keep_sets HBZ9.out HWL.out, keep_sblk HB9.out, (keep_okr HX9.out (Int.ofNat_lt.1 hnI)).below (keep_sets HBZ9.out HWL.out), (if_pos hyB).symm⟩
            · have hwj := HJK.out.1
              by_cases hyk : (j : Int) + (k : Int) < s.B
              · have hjk := HJK.out.2 hyk
                have hjkI : (j : Int) + (k : Int) < (s.gn : Int) := by exact_mod_cast hjk
                have hjkN : ((j : Int) + (k : Int)).toNat = j + k := by omega
                obtain ⟨⟨r0, r1, r2, r3⟩, hof, lc⟩ := rdR_row HRG.out (j := j + k) hjk
                have HOF := Lib.hid hof
                clear hof
                go_wp2_with fail
                go_meet
                case rel =>
                  exact ⟨F (j + k), keep_sets HBZ9.out HWL.out, keep_sblk HB9.out, (keep_okr HX9.out hjk).below (keep_sets HBZ9.out HWL.out), (keep_way2 (by omega) hyk).symm⟩
              · go_wp2_with fail
                go_meet
                case rel =>
                  exact ⟨r, HBZ9.out, HB9.out, HOR.out, HCR.out.trans (keep_way3 HO.out (by omega) (by omega)).symm⟩
          case rest =>
            obtain ⟨R, hbc, hBR, hRo, hRc⟩ := hcut
            have HBC := Lib.hid hbc
            have HRO := Lib.hid hRo
            have HBR := Lib.hid hBR
            have hsr : sameRw (S6.F j) R = true := sameRw_of (HWN.out.trans hRc.symm)
            have HSAME : Hid (∀ w', Below wc.heap.size wc w' → Calls Try.prog 15 #[.agg #[.slice (S6.F j).A (S6.F j).n (S6.F j).cap, .bool (S6.F j).wb, .int .i64 (S6.F j).dir, .bool (S6.F j).ex], .agg #[.slice R.A R.n R.cap, .bool R.wb, .int .i64 R.dir, .bool R.ex]] w' fun e w'' => e = .returned (.bool true) ∧ Grew w' w'') := Lib.hid fun w' hb => by
              have h := samer_c (S6.F j) R w' ((keep_okr (F := S6.F) HR8.out (by rw [HN6.out]; exact hjn)).below (hbc.trans (hb.mono hbc.size))) (hRo.below hb)
              rwa [hsr] at h
            clear hsr hbc hBR hRo hRc tS xS dS tL xL dL hnI
            have qT : SBlk _ gt S6.s := Blk.below HT8.out HBC.out (Blk.lt HT8.out)
            have hTG := (HR8.out.below HBC.out).1
            obtain ⟨bt, ot, eT⟩ : ∃ bt ot, S6.s.gA = some ⟨bt, ot, none⟩ := by
              obtain ⟨b, o, e, _⟩ := hTG.at_ (show j < (listG S6.s.gn S6.F).length by rw [listG_len, HN6.out]; exact hjn)
              exact ⟨b, o, e⟩
            have tS := SBlk.isScr qT
            have tL := SBlk.cells qT
            rw [eT, HN6.out] at tL hTG
            obtain ⟨⟨p0, p1, p2, p3⟩, hof, lb⟩ := rdR_row hTG (j := j) hjn
            obtain ⟨q0, q1, q2, q3, qf, ql⟩ := HBR.out.facts4
            have HJN := Lib.hid hjn
            have lt1 := Blk.lt qT
            clear hof eT hTG qT hjn hj qf
            go_upto_region 26 with fail
            (refine wp_region_grew (by kernel_rfl) (by kernel_rfl) ?_; (repeat (quiet_step (((go_at_call 15; first | exact Calls.grew_add (HSAME.out _ ((Below.refl _ _).grow (Nat.le_refl _) _ _)) | exact Calls.grew_of (HSAME.out _ ((Below.refl _ _).grow (Nat.le_refl _) _ _))))))); refine wpQuiet_nil ?_; rintro _ ⟨⟨Xq, dq⟩, rfl⟩)
            have hjw := keep_wrapn HJN.out HNH.out HO.out
            clear p0 p1 p2 p3 q0 q1 q2 q3 tS tL lb ql lt1 hjI
            go_wp2_with fail
            go_roundw
            case rel => exact ⟨j + 1, HJN.out, by rw [hjw]; rfl, HBC.out.grow HBC.out.size _ _⟩
            case measure =>
              rw [hjw]
              exact keep_meas HJN.out
        · clear dS dL qX qD
          have HWR := Lib.hid (HB8.out.trans (hbz.mono HB8.out.size))
          have hn0 : 0 < n := keep_n0 HO.out HN.out
          have hTG := (HR8.out.below hbz).1
          obtain ⟨bt, ot, eT⟩ : ∃ bt ot, S6.s.gA = some ⟨bt, ot, none⟩ := by
            obtain ⟨b, o, e, _⟩ := hTG.at_ (show 0 < (listG S6.s.gn S6.F).length by rw [listG_len, HN6.out]; exact hn0)
            exact ⟨b, o, e⟩
          rw [eT, HN6.out] at tL hTG
          obtain ⟨⟨p0, p1, p2, p3⟩, hof, lb⟩ := rdR_row hTG (j := 0) hn0
          simp only [Nat.zero_mul, Nat.add_zero] at p0 p1 p2 p3
          have hsn : saneRw (S6.F 0) = true := keep_sn (S6 := S6) HUP.out HO.out HKB.out HT.out (by rw [HN6.out]; exact hn0)
          have HSN : Hid (∀ w', Below wr.heap.size wr w' → Calls Try.prog 17 #[.agg #[.slice (S6.F 0).A (S6.F 0).n (S6.F 0).cap, .bool (S6.F 0).wb, .int .i64 (S6.F 0).dir, .bool (S6.F 0).ex]] w' fun e w'' => e = .returned (.bool true) ∧ Grew w' w'') := Lib.hid fun w' hb => by
            have h := saner_c (S6.F 0) w' (hof.below hb)
            rwa [hsn] at h
          have HNI : Hid ((0 : Int) < (n : Int)) := Int.ofNat_lt.2 hn0
          have h0I := HNI.out
          have h0J : (0 : Int) < (j : Int) + 1 := by omega
          have HJN : Hid (¬ (j : Int) < (n : Int)) := Lib.hid (by omega)
          have HJN2 := HJN.out
          clear hof eT hTG qT hn0 hsn hbz
          go_upto_region 28 with fail
          go_wp2_with (go_at_call 17; (with_reducible refine (HSN.out _ (Below.refl _ _)).mono ?_); rintro e w5 ⟨rfl, hg5⟩; replace hg5 := hg5.below)
          refine bodyPost_ret (v := .bool true) (by simp [results, Try.results4, go_sem]) rfl ⟨rfl, Below.toGrow (HWR.out.trans (hg5.mono HWR.out.size))⟩
end Go.Proofs.Ytlchffkabpfjpaa.Scr
