/- lapwinglaw15.ScreenKeeps: a screen that may be. -/
import Derived.Test.YtlchffkabpfjpaaScrK
namespace Go.Proofs.Ytlchffkabpfjpaa.Scr
open Go.RowKit Go.Proofs.Ytlchffkabpfjpaa.Row
attribute [local go_sem ↓] scr_load_pre scr_store_pre doc_load_pre
attribute [local go_sem] scr_cell scr_frozen doc_cell doc_frozen
theorem rd_kn {S : Sn} {w : World} (h : S.rd w) : S.s.kn = S.L.length := by
  obtain ⟨A, cap, e, _⟩ := h.2.2.1.len
  injection e
set_option maxRecDepth 100000 in
set_option maxHeartbeats 4000000 in
theorem keeps_other (s : Sc) (F : Nat → Rw) (zs : List Int) (L : List Rw) (z : Int) (w : World) (hr : Sn.rd ⟨s, F, zs, L⟩ w) (hg0 : RdR0 w (.slice s.gA s.gn s.gc) (listG s.gn F)) (hk0 : RdR0 w (.slice s.kA s.kn s.kc) L) (hW1 : s.W ≤ 9223372036854775807) (hW2 : -9223372036854775808 ≤ s.W) (h1 : few15 (listG s.gn F) L s.tn = true) (h2 : (Sn.md ⟨s, F, zs, L⟩).Ok) (hT : s.T ≠ 0) : Calls Try.prog 4 #[.agg #[.slice s.gA s.gn s.gc, .int .i64 s.x, .int .i64 s.y, .bool s.wr, .bool s.og, .int .i64 s.fg, .int .i64 s.bg, .int .i64 s.fl, .int .u8 s.g0, .int .u8 s.g1, .int .u8 s.g2, .int .u8 s.g3, .int .i64 s.gl, .int .i64 s.gr, .int .i64 s.on, .int .i64 s.H, .int .i64 s.W, .int .i64 s.T, .int .i64 s.B, .slice s.tA s.tn s.tc, .int .i64 s.tw, .slice s.kA s.kn s.kc, .int .i64 s.kp, .int .i64 s.dir, .bool s.ex], .int .i64 z] w fun e w' => e = .returned (.bool true) ∧ Grew w w' := by
  have HSN := Lib.hid (Md.sane_iff.2 h2)
  have HO := Lib.hid h2
  obtain ⟨f1, f2, w1, w2, t0, tb, bh, -, -, -, -, -, -⟩ := h2.cf
  dsimp only [Sn.md] at f1 f2 t0 tb bh
  clear h2 w1 w2
  have hand : bits .and .i64 z 65535 = z % 65536 := and_mask 16 (by omega) z
  have hfw := few15_facts hr h1; have HGL := Lib.hid (show (listG s.gn F).length ≤ maxLen by rw [listG_len]; unfold maxLen; omega); have HKL := Lib.hid (show L.length ≤ maxLen by unfold maxLen; omega); have HG5 := Lib.hid (show s.gn ≤ 5000 by omega); have HL5 := Lib.hid (show L.length ≤ 5000 by omega); have HZ5 := Lib.hid (show zs.length ≤ 65536 by omega); have HW1 := Lib.hid hW1; have HW2 := Lib.hid hW2; have HF := Lib.hid h1; clear hfw; go_enter Try.func4, Try.ntmps4; go_upto_region 1 with fail; generalize hW : w.alloc _ = W; have HD : Hid (DBlk W w.heap.size s) := Lib.hid (by rw [← hW]; exact Blk.new _ _ _); have hbW : Below w.heap.size w W := (by rw [← hW]; exact (Below.refl _ _).alloc (Nat.le_refl _) _); have HR := Lib.hid (hr.below hbW); have HG0 := Lib.hid (hg0.below hbW); have HK0 := Lib.hid (hk0.below hbW); have HBW := Lib.hid hbW; clear hW hr hbW h1 hW1 hW2 hg0 hk0
  go_upto_region 5 with (first | ((with_reducible refine (awake15_c _).mono ?_); rintro e w0 ⟨rfl, hg0⟩; replace hg0 := hg0.below; have HD0 := Lib.hid (Blk.below HD.out hg0 HD.out.lt)) | (refine wpList_doc_load HD0.out rfl rfl rfl ?_) | (refine wpList_doc_load_w HD1.out rfl (by rfl) rfl ?_) | (refine wpList_doc_load HD3.out rfl rfl rfl ?_) | ((with_reducible refine (few15_c s (listG s.gn F) L _ (HG0.out.below hg0) (HK0.out.below hg0) HGL.out HKL.out).mono ?_); rw [HF.out]; rintro e w1 ⟨rfl, hg1⟩; replace hg1 := hg1.below; have HD1 := Lib.hid (Blk.below HD0.out hg1 HD0.out.lt); have HR1 := Lib.hid ((HR.out.below hg0).below hg1)) | ((with_reducible refine (ours15_c s _).mono ?_); rintro e w2 ⟨rfl, hg2⟩; replace hg2 := hg2.below; have HD2 := Lib.hid (Blk.below HD1.out hg2 HD1.out.lt); have HR2 := Lib.hid (HR1.out.below hg2)) | ((with_reducible refine (sane_c ⟨s, F, zs, L⟩ _ HR2.out HG5.out HL5.out HZ5.out HW1.out HW2.out).mono ?_); rw [HSN.out]; rintro e w3 ⟨rfl, hg3⟩; replace hg3 := hg3.below; have HD3 := Lib.hid (Blk.below HD2.out hg3 HD2.out.lt); have HR3 := Lib.hid (HR2.out.below hg3)) | ((with_reducible refine (ours15_c s _).mono ?_); rintro e w4 ⟨rfl, hg4⟩; replace hg4 := hg4.below) | (refine wpList_scr_store s ⟨_, Blk.new _ _ _, rfl⟩ rfl rfl rfl rfl rfl ?_))
  generalize hW5 : World.setRow _ _ _ = W5
  have HD4 : DBlk w4 w.heap.size s := Blk.below HD3.out hg4 HD3.out.lt
  have hA : Below w4.heap.size w4 W5 := by rw [← hW5]; exact below_row ((Below.refl _ _).alloc (Nat.le_refl _) _) (Nat.le_refl _) _
  have hX : SBlk W5 w4.heap.size s := by rw [← hW5]; exact setRow_heap _ _ _ _ _ _ (Blk.new _ _ _)
  have hzx : w.heap.size < w4.heap.size := HD4.lt
  have HD5 := Lib.hid (show DBlk W5 w.heap.size s from Blk.below HD4 hA HD4.lt)
  have HR5 := Lib.hid ((HR3.out.below hg4).below hA)
  have HB5 : Hid (Below w.heap.size w W5) := by
    have hb0 := HBW.out.trans (hg0.mono HBW.out.size)
    have hb1 := hb0.trans (hg1.mono hb0.size)
    have hb2 := hb1.trans (hg2.mono hb1.size)
    have hb3 := hb2.trans (hg3.mono hb2.size)
    have hb4 := hb3.trans (hg4.mono hb3.size)
    exact Lib.hid (hb4.trans (hA.mono hb4.size))
  clear hW5 HD4 hA HBW hg0 hg1 hg2 hg3 hg4 HD HD0 HD1 HD2 HD3 HR HR1 HR2 HR3 HG0 HK0 HGL HKL HG5 HL5 HZ5 HW1 HW2 HF HSN
  generalize w4.heap.size = gx at *
  have HX := Lib.hid hX
  have xS := SBlk.isScr hX
  have xL := SBlk.cells hX
  clear hX
  go_upto_region 6 with fail
  generalize hkv : z % 65536 % (s.B - s.T + 1) = kv
  obtain ⟨k, hk⟩ : ∃ k : Nat, kv = (k : Int) := ⟨kv.toNat, by have := Int.emod_nonneg (z % 65536) (show s.B - s.T + 1 ≠ 0 by omega); omega⟩
  have hkb : (k : Int) ≤ s.B - s.T := by have := Int.emod_lt_of_pos (z % 65536) (show 0 < s.B - s.T + 1 by omega); omega
  subst hk
  have HKM : Hid ((k : Int) = max 0 (min (k : Int) (s.B - s.T))) := Lib.hid (by omega)
  clear hkv
  go_upto_region 7 with (first | (refine wpList_scr_load HX.out rfl rfl rfl ?_) | ((with_reducible refine (Scroll_up ⟨s, F, zs, L⟩ (k : Int) k _ HO.out HR5.out (by omega) HKM.out).mono ?_); rintro e w6 ⟨S6, rfl, hg6, hr6, hm6, -⟩) | (refine wpList_scr_store S6.s ⟨_, Blk.new _ _ _, rfl⟩ rfl rfl rfl rfl rfl ?_))
  generalize hW7 : World.setRow _ _ _ = W7
  have hA7 : Below w6.heap.size w6 W7 := by rw [← hW7]; exact below_row ((Below.refl _ _).alloc (Nat.le_refl _) _) (Nat.le_refl _) _
  have hT7 : SBlk W7 w6.heap.size S6.s := by rw [← hW7]; exact setRow_heap _ _ _ _ _ _ (Blk.new _ _ _)
  have HX7 := Lib.hid (show SBlk W7 gx s from Blk.below (Blk.below HX.out hg6 HX.out.lt) hA7 (Blk.lt (Blk.below HX.out hg6 HX.out.lt)))
  have HB7 : Hid (Below w.heap.size w W7) := by
    have h := HB5.out.trans (hg6.mono HB5.out.size)
    exact Lib.hid (h.trans (hA7.mono h.size))
  have hkn : S6.s.kn = s.kn := by
    have e1 := rd_kn hr6
    have e2 : s.kn = L.length := rd_kn HR5.out
    have e3 : S6.L.length = L.length := by
      have h : (S6.L.map ct) = L.map ct := (congrArg Md.K hm6).trans (kept_no hT k)
      have := congrArg List.length h
      simpa using this
    omega
  have HT7 := Lib.hid hT7
  have tS := SBlk.isScr hT7
  have tL := SBlk.cells hT7
  rw [hkn] at tL
  have xS7 := SBlk.isScr HX7.out
  have xL7 := SBlk.cells HX7.out
  clear hW7 xS xL hT7 hg6 hr6 hm6 hkn hA7
  generalize w6.heap.size = gt at *
  have hT' : (s.T == 0) = false := by simpa using hT
  go_wp2_with fail
  exact bodyPost_ret (v := .bool true) (by simp [results, Try.results4, go_sem]) rfl ⟨rfl, Below.toGrow HB7.out⟩
end Go.Proofs.Ytlchffkabpfjpaa.Scr
