/- lapwinglaw15.ScreenStays, the walk of what is asked. -/
import Derived.Test.YtlchffkabpfjpaaGreatStyO
namespace Go.Proofs.YtlchffkabpfjpaaGreat.Scr
open Go.RowKit Go.Proofs.YtlchffkabpfjpaaGreat.Row
attribute [local go_sem ↓] scr_load_pre scr_store_pre doc_load_pre
attribute [local go_sem] scr_cell scr_frozen doc_cell doc_frozen
theorem stays_prep {wS : World} {g gx gt : Nat} {s T : Sc} {o a b p q r : Int} {i u : Bool} (hD : DBlk wS g s) (hX : SBlk wS gx s) (hT : SBlk wS gt T) (hA : Blk wS (g + 1) 42 #[.int .i64 o, .int .i64 a, .int .i64 b, .bool i, .bool u, .int .i64 p, .int .i64 q, .int .i64 r]) :
    (IsDoc wS g ∧ scells wS g = #[.slice s.gA s.gn s.gc, .int .i64 s.x, .int .i64 s.y, .bool s.wr, .bool s.og, .int .i64 s.fg, .int .i64 s.bg, .int .i64 s.fl, .int .u8 s.g0, .int .u8 s.g1, .int .u8 s.g2, .int .u8 s.g3, .int .i64 s.gl, .int .i64 s.gr, .int .i64 s.on, .int .i64 s.H, .int .i64 s.W, .int .i64 s.T, .int .i64 s.B, .slice s.tA s.tn s.tc, .int .i64 s.tw, .slice s.kA s.kn s.kc, .int .i64 s.kp, .int .i64 s.dir, .bool s.ex]) ∧ (IsScr wS gx ∧ scells wS gx = #[.slice s.gA s.gn s.gc, .int .i64 s.x, .int .i64 s.y, .bool s.wr, .bool s.og, .int .i64 s.fg, .int .i64 s.bg, .int .i64 s.fl, .int .u8 s.g0, .int .u8 s.g1, .int .u8 s.g2, .int .u8 s.g3, .int .i64 s.gl, .int .i64 s.gr, .int .i64 s.on, .int .i64 s.H, .int .i64 s.W, .int .i64 s.T, .int .i64 s.B, .slice s.tA s.tn s.tc, .int .i64 s.tw, .slice s.kA s.kn s.kc, .int .i64 s.kp, .int .i64 s.dir, .bool s.ex]) ∧ (IsScr wS gt ∧ scells wS gt = #[.slice T.gA T.gn T.gc, .int .i64 T.x, .int .i64 T.y, .bool T.wr, .bool T.og, .int .i64 T.fg, .int .i64 T.bg, .int .i64 T.fl, .int .u8 T.g0, .int .u8 T.g1, .int .u8 T.g2, .int .u8 T.g3, .int .i64 T.gl, .int .i64 T.gr, .int .i64 T.on, .int .i64 T.H, .int .i64 T.W, .int .i64 T.T, .int .i64 T.B, .slice T.tA T.tn T.tc, .int .i64 T.tw, .slice T.kA T.kn T.kc, .int .i64 T.kp, .int .i64 T.dir, .bool T.ex]) ∧ wS.cell? ⟨g + 1, 0, none⟩ = some (.int .i64 o) ∧ g + 1 < wS.heap.size ∧ ∀ i, wS.frozen? ⟨g + 1, i, none⟩ = false :=
  ⟨⟨hD.isDoc, hD.cells⟩, ⟨hX.isScr, hX.cells⟩, ⟨hT.isScr, hT.cells⟩, hA.cell 0, hA.lt, hA.frozen⟩
set_option maxRecDepth 100000 in
set_option maxHeartbeats 4000000 in
theorem stays_13 (s : Sc) (F : Nat → Rw) (zs : List Int) (L : List Rw) (o a b : Int) (i u : Bool) (p q r : Int) (w : World) (hr : Sn.rd ⟨s, F, zs, L⟩ w) (hg0 : RdR0 w (.slice s.gA s.gn s.gc) (listG s.gn F)) (hk0 : RdR0 w (.slice s.kA s.kn s.kc) L) (hW1 : s.W ≤ 9223372036854775807) (hW2 : -9223372036854775808 ≤ s.W) (h1 : few15 (listG s.gn F) L s.tn = true) (h2 : (Sn.md ⟨s, F, zs, L⟩).Ok) (ho0 : 0 ≤ o) (ho13 : o ≤ 13) (ha1 : -9223372036854775808 ≤ a) (ha2 : a ≤ 9223372036854775807) (ho : o = 13) : Calls Tryz.prog 3 #[.agg #[.slice s.gA s.gn s.gc, .int .i64 s.x, .int .i64 s.y, .bool s.wr, .bool s.og, .int .i64 s.fg, .int .i64 s.bg, .int .i64 s.fl, .int .u8 s.g0, .int .u8 s.g1, .int .u8 s.g2, .int .u8 s.g3, .int .i64 s.gl, .int .i64 s.gr, .int .i64 s.on, .int .i64 s.H, .int .i64 s.W, .int .i64 s.T, .int .i64 s.B, .slice s.tA s.tn s.tc, .int .i64 s.tw, .slice s.kA s.kn s.kc, .int .i64 s.kp, .int .i64 s.dir, .bool s.ex], .agg #[.int .i64 o, .int .i64 a, .int .i64 b, .bool i, .bool u, .int .i64 p, .int .i64 q, .int .i64 r]] w fun e w' => e = .returned (.bool true) ∧ Grew w w' := by
  have HSN := Lib.hid (Md.sane_iff.2 h2)
  have HO := Lib.hid h2
  have HSZ := Lib.hid (stays_sz h2 h1)
  have HO0 := Lib.hid ho0
  have HOE := Lib.hid ho
  have HO13 := Lib.hid ho13
  have HA1B := Lib.hid ha1
  have HA2B := Lib.hid ha2
  have d1 : decide (o < 0) = false := decide_eq_false (by omega)
  have d2 : decide (13 < o) = false := decide_eq_false (by omega)
  clear h2 ho0 ho13 ha1 ha2 ho
  have hfw := few15_facts hr h1; have HGL := Lib.hid (show (listG s.gn F).length ≤ maxLen by rw [listG_len]; unfold maxLen; omega); have HKL := Lib.hid (show L.length ≤ maxLen by unfold maxLen; omega); have HG5 := Lib.hid (show s.gn ≤ 5000 by omega); have HL5 := Lib.hid (show L.length ≤ 5000 by omega); have HZ5 := Lib.hid (show zs.length ≤ 65536 by omega); have HW1 := Lib.hid hW1; have HW2 := Lib.hid hW2; have HF := Lib.hid h1; clear hfw; go_enter Tryz.func3, Tryz.ntmps3; go_upto_region 1 with fail; generalize hW : (w.alloc _).alloc _ = W; have HD : Hid (DBlk W w.heap.size s) := Lib.hid (by rw [← hW]; exact (Blk.new _ _ _).alloc _); have HA : Hid (Blk W (w.heap.size + 1) 42 #[.int .i64 o, .int .i64 a, .int .i64 b, .bool i, .bool u, .int .i64 p, .int .i64 q, .int .i64 r]) := Lib.hid (by rw [← hW]; exact Blk.new_at (by simp)); have hbW : Below w.heap.size w W := (by rw [← hW]; exact ((Below.refl _ _).alloc (Nat.le_refl _) _).alloc (by simp) _); have HR := Lib.hid (hr.below hbW); have HG0 := Lib.hid (hg0.below hbW); have HK0 := Lib.hid (hk0.below hbW); have HBW := Lib.hid hbW; clear hW hr hbW h1 hW1 hW2 hg0 hk0
  go_upto_region 5 with (first | ((with_reducible refine (awake15_c _).mono ?_); rintro e w0 ⟨rfl, hg0⟩; replace hg0 := hg0.below; have HD0 := Lib.hid (Blk.below HD.out hg0 HD.out.lt); have HA0 := Lib.hid (Blk.below HA.out hg0 HA.out.lt)) | (refine wpList_doc_load HD0.out rfl rfl rfl ?_) | (refine wpList_doc_load_w HD1.out rfl (by rfl) rfl ?_) | (refine wpList_doc_load HD3.out rfl rfl rfl ?_) | ((with_reducible refine (few15_c s (listG s.gn F) L _ (HG0.out.below hg0) (HK0.out.below hg0) HGL.out HKL.out).mono ?_); rw [HF.out]; rintro e w1 ⟨rfl, hg1⟩; replace hg1 := hg1.below; have HD1 := Lib.hid (Blk.below HD0.out hg1 HD0.out.lt); have HA1 := Lib.hid (Blk.below HA0.out hg1 HA0.out.lt); have HR1 := Lib.hid ((HR.out.below hg0).below hg1)) | ((with_reducible refine (ours15_c s _).mono ?_); rintro e w2 ⟨rfl, hg2⟩; replace hg2 := hg2.below; have HD2 := Lib.hid (Blk.below HD1.out hg2 HD1.out.lt); have HA2 := Lib.hid (Blk.below HA1.out hg2 HA1.out.lt); have HR2 := Lib.hid (HR1.out.below hg2)) | ((with_reducible refine (sane_c ⟨s, F, zs, L⟩ _ HR2.out HG5.out HL5.out HZ5.out HW1.out HW2.out).mono ?_); rw [HSN.out]; rintro e w3 ⟨rfl, hg3⟩; replace hg3 := hg3.below; have HD3 := Lib.hid (Blk.below HD2.out hg3 HD2.out.lt); have HAX := Lib.hid (Blk.below HA2.out hg3 HA2.out.lt); have HR3 := Lib.hid (HR2.out.below hg3); obtain ⟨a0, a1, a2, a3, a4, a5, a6, a7, af, al⟩ : _ ∧ _ ∧ _ ∧ _ ∧ _ ∧ _ ∧ _ ∧ _ ∧ _ ∧ _ := ⟨HAX.out.cell 0, HAX.out.cell 1, HAX.out.cell 2, HAX.out.cell 3, HAX.out.cell 4, HAX.out.cell 5, HAX.out.cell 6, HAX.out.cell 7, HAX.out.frozen, HAX.out.lt⟩; simp only [List.getElem?_toArray, List.getElem?_cons_zero, List.getElem?_cons_succ] at a0 a1 a2 a3 a4 a5 a6 a7) | ((with_reducible refine (ours15_c s _).mono ?_); rintro e w4 ⟨rfl, hg4⟩; replace hg4 := hg4.below) | (refine wpList_scr_store s ⟨_, Blk.new _ _ _, rfl⟩ rfl rfl rfl rfl rfl ?_))
  generalize hW5 : World.setRow _ _ _ = W5
  have HD4 : DBlk w4 w.heap.size s := Blk.below HD3.out hg4 HD3.out.lt
  have HA4 := Blk.below HAX.out hg4 HAX.out.lt
  clear a0 a1 a2 a3 a4 a5 a6 a7 af al
  have hA : Below w4.heap.size w4 W5 := by rw [← hW5]; exact below_row ((Below.refl _ _).alloc (Nat.le_refl _) _) (Nat.le_refl _) _
  have hX : SBlk W5 w4.heap.size s := by rw [← hW5]; exact setRow_heap _ _ _ _ _ _ (Blk.new _ _ _)
  have hzx : w.heap.size < w4.heap.size := HD4.lt
  have HD5 := Lib.hid (show DBlk W5 w.heap.size s from Blk.below HD4 hA HD4.lt)
  have HAX5 := Lib.hid (Blk.below HA4 hA HA4.lt)
  have HR5 := Lib.hid ((HR3.out.below hg4).below hA)
  have HB5 : Hid (Below w.heap.size w W5) := by
    have hb0 := HBW.out.trans (hg0.mono HBW.out.size)
    have hb1 := hb0.trans (hg1.mono hb0.size)
    have hb2 := hb1.trans (hg2.mono hb1.size)
    have hb3 := hb2.trans (hg3.mono hb2.size)
    have hb4 := hb3.trans (hg4.mono hb3.size)
    exact Lib.hid (hb4.trans (hA.mono hb4.size))
  clear hW5 HD4 HA4 hA HBW hg0 hg1 hg2 hg3 hg4 HD HD0 HD1 HD2 HD3 HA HA0 HA1 HA2 HAX HR HR1 HR2 HR3 HG0 HK0 HG5 HL5 HW1 HW2 HF HSN
  generalize w4.heap.size = gx at *
  have HX := Lib.hid hX
  have HAX := HAX5
  obtain ⟨a0, a1, a2, a3, a4, a5, a6, a7, af, al⟩ : _ ∧ _ ∧ _ ∧ _ ∧ _ ∧ _ ∧ _ ∧ _ ∧ _ ∧ _ := ⟨HAX.out.cell 0, HAX.out.cell 1, HAX.out.cell 2, HAX.out.cell 3, HAX.out.cell 4, HAX.out.cell 5, HAX.out.cell 6, HAX.out.cell 7, HAX.out.frozen, HAX.out.lt⟩; simp only [List.getElem?_toArray, List.getElem?_cons_zero, List.getElem?_cons_succ] at a0 a1 a2 a3 a4 a5 a6 a7
  have xS := SBlk.isScr hX
  have xL := SBlk.cells hX
  clear hX HAX
  have hq : (o == 13) = true := by simpa using HOE.out
  go_upto_region 6 with (first | (refine wpList_scr_load HX.out rfl rfl rfl ?_) | ((with_reducible refine (do_c ⟨s, F, zs, L⟩ o a b i u p q r _ HO.out HR5.out HSZ.out HA1B.out HA2B.out HO0.out HO13.out).mono ?_); rintro e w6 ⟨S6, rfl, hg6, hr6, hm6, hf6⟩) | (refine wpList_scr_store S6.s ⟨_, Blk.new _ _ _, rfl⟩ rfl rfl rfl rfl rfl ?_; generalize hW7 : World.setRow _ _ _ = W7; have hA7 : Below w6.heap.size w6 W7 := (by rw [← hW7]; exact below_row ((Below.refl _ _).alloc (Nat.le_refl _) _) (Nat.le_refl _) _); have HT7 : Hid (SBlk W7 w6.heap.size S6.s) := Lib.hid (by rw [← hW7]; exact setRow_heap _ _ _ _ _ _ (Blk.new _ _ _)); have HD7 := Lib.hid (show DBlk W7 w.heap.size s from Blk.below (Blk.below HD5.out hg6 HD5.out.lt) hA7 (Blk.lt (Blk.below HD5.out hg6 HD5.out.lt))); have HC7 := Lib.hid (Blk.below (Blk.below HAX5.out hg6 HAX5.out.lt) hA7 (Blk.lt (Blk.below HAX5.out hg6 HAX5.out.lt))); have HX7 := Lib.hid (show SBlk W7 gx s from Blk.below (Blk.below HX.out hg6 HX.out.lt) hA7 (Blk.lt (Blk.below HX.out hg6 HX.out.lt))); have HB7 : Hid (Below w.heap.size w W7) := (by have h := HB5.out.trans (hg6.mono HB5.out.size); exact Lib.hid (h.trans (hA7.mono h.size))); have HR7 := Lib.hid (show S6.rd W7 by rw [← hW7]; exact (hr6.below ((Below.refl _ _).alloc (Nat.le_refl _) _)).keep (hr6.ft.mono fun b hb => Nat.ne_of_lt hb) (Keeps.row _ _ (fun h => h rfl))); have HX5R := Lib.hid ((HR5.out.below hg6).below hA7); have HM6 := Lib.hid hm6; clear hW7 hg6 hr6 hm6 hf6 hA7 a0 a1 a2 a3 a4 a5 a6 a7 af al xS xL HX HD5 HAX5 HB5 HR5; generalize w6.heap.size = gt at *))
  have HT6 : Hid (SBlk W7 gt { S6.s with fg := s.fg, bg := s.bg, fl := s.fl, dir := s.dir }) := Lib.hid (by
    have e : S6.s = { S6.s with fg := s.fg, bg := s.bg, fl := s.fl, dir := s.dir } := by
      rw [show s.fg = S6.s.fg from HM6.out.fg.symm, show s.bg = S6.s.bg from HM6.out.bg.symm, show s.fl = S6.s.fl from HM6.out.fl.symm, show s.dir = S6.s.dir from HM6.out.dir.symm]
    have h := HT7.out
    rw [e] at h
    exact h)
  have HP := Lib.hid (fun (wS : World) (hSw : Below W7.heap.size W7 wS) => stays_prep (show DBlk _ _ s from Blk.below HD7.out hSw (Blk.lt HD7.out)) (show SBlk _ gx s from Blk.below HX7.out hSw (Blk.lt HX7.out)) (show SBlk _ gt _ from Blk.below HT6.out hSw (Blk.lt HT6.out)) (Blk.below HC7.out hSw (Blk.lt HC7.out)))
  have eP := eql_pen s.fg s.bg s.fl s.fg s.bg s.fl
  have eD : (s.dir == s.dir) = true := beq_self_eq_true _
  refine hr_start (S := (fun w' => Below W7.heap.size W7 w')) (by kernel_rfl) rfl ?_ (fun hHeld => ?_)
  · ((try dsimp only); (first | exact Below.refl _ _ | exact Below.drew (Below.refl _ _) | exact hHeld | exact hHeld.trans (hg.mono hHeld.size)))
  refine hr_t 0 (v := ?_) ?_ ?_
  rotate_left
  focus (intro wS hSw; (obtain ⟨⟨dS, dL⟩, ⟨xS, xL⟩, ⟨tS, tL⟩, a0, al, af⟩ := HP.out _ hSw); go_simp; (try with_reducible rfl))
  simp only [st0, st1]
  refine hr_t 1 (v := ?_) ?_ ?_
  rotate_left
  focus (intro wS hSw; (obtain ⟨⟨dS, dL⟩, ⟨xS, xL⟩, ⟨tS, tL⟩, a0, al, af⟩ := HP.out _ hSw); go_simp; (try with_reducible rfl))
  simp only [st0, st1]
  refine hr_t 2 ((fun _ hSw => exec_scr (Blk.below HT7.out hSw (Blk.lt HT7.out)) rfl rfl)) ?_
  simp only [st0, st1]
  refine hr_o 3 (fun K hK => ?_)
  (try go_simp)
  ((with_reducible refine (sane_ok S6 _ (HR7.out.below hHeld) HM6.out.ok).mono ?_); rintro e w8 ⟨rfl, hg⟩; replace hg := hg.below)
  (try go_wp2_with fail)
  refine hK.out _ _ ?_ (fun hHeld => ?_)
  · ((try dsimp only); (first | exact Below.refl _ _ | exact Below.drew (Below.refl _ _) | exact hHeld | exact hHeld.trans (hg.mono hHeld.size)))
  clear hK K
  simp only [st0, st1]
  refine hr_t 4 (v := ?_) ?_ ?_
  rotate_left
  focus (intro wS hSw; (obtain ⟨⟨dS, dL⟩, ⟨xS, xL⟩, ⟨tS, tL⟩, a0, al, af⟩ := HP.out _ hSw); go_simp; (try with_reducible rfl))
  simp only [st0, st1]
  refine hr_t 5 (v := ?_) ?_ ?_
  rotate_left
  focus (intro wS hSw; (obtain ⟨⟨dS, dL⟩, ⟨xS, xL⟩, ⟨tS, tL⟩, a0, al, af⟩ := HP.out _ hSw); go_simp; (try with_reducible rfl))
  simp only [st0, st1]
  refine hr_t 6 (v := ?_) ?_ ?_
  rotate_left
  focus (intro wS hSw; (obtain ⟨⟨dS, dL⟩, ⟨xS, xL⟩, ⟨tS, tL⟩, a0, al, af⟩ := HP.out _ hSw); go_simp; (try with_reducible rfl))
  simp only [st0, st1]
  refine hr_t 7 (v := ?_) ?_ ?_
  rotate_left
  focus (intro wS hSw; (obtain ⟨⟨dS, dL⟩, ⟨xS, xL⟩, ⟨tS, tL⟩, a0, al, af⟩ := HP.out _ hSw); go_simp; (try with_reducible rfl))
  simp only [st0, st1]
  refine hr_t 8 (v := ?_) ?_ ?_
  rotate_left
  focus (intro wS hSw; (obtain ⟨⟨dS, dL⟩, ⟨xS, xL⟩, ⟨tS, tL⟩, a0, al, af⟩ := HP.out _ hSw); go_simp; (try with_reducible rfl))
  simp only [st0, st1]
  refine hr_t 9 (v := ?_) ?_ ?_
  rotate_left
  focus (intro wS hSw; (obtain ⟨⟨dS, dL⟩, ⟨xS, xL⟩, ⟨tS, tL⟩, a0, al, af⟩ := HP.out _ hSw); go_simp; (try with_reducible rfl))
  simp only [st0, st1]
  refine hr_s 10 ?_
  simp only [st0, st1]
  refine hr_s 11 ?_
  simp only [st0, st1]
  refine hr_s 12 ?_
  simp only [st0, st1]
  refine hr_s 13 ?_
  simp only [st0, st1]
  refine hr_s 14 ?_
  simp only [st0, st1]
  refine hr_s 15 ?_
  simp only [st0, st1]
  refine hr_s 16 ?_
  simp only [st0, st1]
  refine hr_s 17 ?_
  simp only [st0, st1]
  refine hr_s 18 ?_
  simp only [st0, st1]
  refine hr_s 19 ?_
  simp only [st0, st1]
  refine hr_s 20 ?_
  simp only [st0, st1]
  refine hr_s 21 ?_
  simp only [st0, st1]
  refine hr_s 22 ?_
  simp only [st0, st1]
  refine hr_s 23 ?_
  simp only [st0, st1]
  refine hr_s 24 ?_
  simp only [st0, st1]
  refine hr_s 25 ?_
  simp only [st0, st1]
  refine hr_s 26 ?_
  simp only [st0, st1]
  refine hr_s 27 ?_
  simp only [st0, st1]
  refine hr_s 28 ?_
  simp only [st0, st1]
  refine hr_s 29 ?_
  simp only [st0, st1]
  refine hr_s 30 ?_
  simp only [st0, st1]
  refine hr_s 31 ?_
  simp only [st0, st1]
  refine hr_s 32 ?_
  simp only [st0, st1]
  refine hr_s 33 ?_
  simp only [st0, st1]
  refine hr_s 34 ?_
  simp only [st0, st1]
  refine hr_s 35 ?_
  simp only [st0, st1]
  refine hr_s 36 ?_
  simp only [st0, st1]
  refine hr_s 37 ?_
  simp only [st0, st1]
  refine hr_s 38 ?_
  simp only [st0, st1]
  refine hr_s 39 ?_
  simp only [st0, st1]
  refine hr_s 40 ?_
  simp only [st0, st1]
  refine hr_s 41 ?_
  simp only [st0, st1]
  refine hr_s 42 ?_
  simp only [st0, st1]
  refine hr_s 43 ?_
  simp only [st0, st1]
  refine hr_t 44 (v := ?_) ?_ ?_
  rotate_left
  focus (intro wS hSw; (obtain ⟨⟨dS, dL⟩, ⟨xS, xL⟩, ⟨tS, tL⟩, a0, al, af⟩ := HP.out _ hSw); go_simp; (try with_reducible rfl))
  simp only [st0, st1]
  refine hr_t 45 (v := ?_) ?_ ?_
  rotate_left
  focus (intro wS hSw; (obtain ⟨⟨dS, dL⟩, ⟨xS, xL⟩, ⟨tS, tL⟩, a0, al, af⟩ := HP.out _ hSw); go_simp; (try with_reducible rfl))
  simp only [st0, st1]
  refine hr_t 46 (v := ?_) ?_ ?_
  rotate_left
  focus (intro wS hSw; (obtain ⟨⟨dS, dL⟩, ⟨xS, xL⟩, ⟨tS, tL⟩, a0, al, af⟩ := HP.out _ hSw); go_simp; (try with_reducible rfl))
  simp only [st0, st1]
  refine hr_t 47 ((fun _ hSw => exec_scr (Blk.below HX7.out hSw (Blk.lt HX7.out)) rfl rfl)) ?_
  simp only [st0, st1]
  refine hr_t 49 ((fun _ hSw => exec_doc (Blk.below HD7.out hSw (Blk.lt HD7.out)) rfl rfl)) ?_
  simp only [st0, st1]
  refine hr_o 48 (fun K hK => ?_)
  (try go_simp)
  ((with_reducible refine (theirs15_c s _).mono ?_); rintro e w9 ⟨rfl, hg⟩; replace hg := hg.below)
  (try go_wp2_with fail)
  refine hK.out _ _ ?_ (fun hHeld => ?_)
  · ((try dsimp only); (first | exact Below.refl _ _ | exact Below.drew (Below.refl _ _) | exact hHeld | exact hHeld.trans (hg.mono hHeld.size)))
  clear hK K
  simp only [st0, st1]
  refine hr_o 50 (fun K hK => ?_)
  (try go_simp)
  ((with_reducible refine (same15_c ⟨s, F, zs, L⟩ _ (HX5R.out.below hHeld) HGL.out HKL.out HZ5.out).mono ?_); rintro e w10 ⟨rfl, hg⟩; replace hg := hg.below)
  (try go_wp2_with fail)
  refine hK.out _ _ ?_ (fun hHeld => ?_)
  · ((try dsimp only); (first | exact Below.refl _ _ | exact Below.drew (Below.refl _ _) | exact hHeld | exact hHeld.trans (hg.mono hHeld.size)))
  clear hK K
  simp only [st0, st1]
  refine hr_t 51 (v := ?_) ?_ ?_
  rotate_left
  focus (intro wS hSw; (obtain ⟨⟨dS, dL⟩, ⟨xS, xL⟩, ⟨tS, tL⟩, a0, al, af⟩ := HP.out _ hSw); go_simp; (try with_reducible rfl))
  simp only [st0, st1]
  refine hr_t 52 (v := ?_) ?_ ?_
  rotate_left
  focus (intro wS hSw; (obtain ⟨⟨dS, dL⟩, ⟨xS, xL⟩, ⟨tS, tL⟩, a0, al, af⟩ := HP.out _ hSw); go_simp; (try with_reducible rfl))
  simp only [st0, st1]
  refine hr_t 53 (v := ?_) ?_ ?_
  rotate_left
  focus (intro wS hSw; (obtain ⟨⟨dS, dL⟩, ⟨xS, xL⟩, ⟨tS, tL⟩, a0, al, af⟩ := HP.out _ hSw); go_simp; (try with_reducible rfl))
  simp only [st0, st1]
  refine hr_t 54 (v := ?_) ?_ ?_
  rotate_left
  focus (intro wS hSw; (obtain ⟨⟨dS, dL⟩, ⟨xS, xL⟩, ⟨tS, tL⟩, a0, al, af⟩ := HP.out _ hSw); go_simp; (try with_reducible rfl))
  simp only [st0, st1]
  refine hr_t 55 (v := ?_) ?_ ?_
  rotate_left
  focus (intro wS hSw; (obtain ⟨⟨dS, dL⟩, ⟨xS, xL⟩, ⟨tS, tL⟩, a0, al, af⟩ := HP.out _ hSw); go_simp; (try with_reducible rfl))
  simp only [st0, st1]
  refine hr_t 56 (v := ?_) ?_ ?_
  rotate_left
  focus (intro wS hSw; (obtain ⟨⟨dS, dL⟩, ⟨xS, xL⟩, ⟨tS, tL⟩, a0, al, af⟩ := HP.out _ hSw); go_simp; (try with_reducible rfl))
  simp only [st0, st1]
  refine hr_t 57 (v := ?_) ?_ ?_
  rotate_left
  focus (intro wS hSw; (obtain ⟨⟨dS, dL⟩, ⟨xS, xL⟩, ⟨tS, tL⟩, a0, al, af⟩ := HP.out _ hSw); go_simp; (try with_reducible rfl))
  simp only [st0, st1]
  refine hr_t 58 (v := ?_) ?_ ?_
  rotate_left
  focus (intro wS hSw; (obtain ⟨⟨dS, dL⟩, ⟨xS, xL⟩, ⟨tS, tL⟩, a0, al, af⟩ := HP.out _ hSw); go_simp; (try with_reducible rfl))
  simp only [st0, st1]
  refine hr_t 59 (v := ?_) ?_ ?_
  rotate_left
  focus (intro wS hSw; (obtain ⟨⟨dS, dL⟩, ⟨xS, xL⟩, ⟨tS, tL⟩, a0, al, af⟩ := HP.out _ hSw); go_simp; (try with_reducible rfl))
  simp only [st0, st1]
  refine hr_t 60 (v := ?_) ?_ ?_
  rotate_left
  focus (intro wS hSw; (obtain ⟨⟨dS, dL⟩, ⟨xS, xL⟩, ⟨tS, tL⟩, a0, al, af⟩ := HP.out _ hSw); go_simp; (try with_reducible rfl))
  simp only [st0, st1]
  refine hr_t 61 (v := ?_) ?_ ?_
  rotate_left
  focus (intro wS hSw; (obtain ⟨⟨dS, dL⟩, ⟨xS, xL⟩, ⟨tS, tL⟩, a0, al, af⟩ := HP.out _ hSw); go_simp; (try with_reducible rfl))
  simp only [st0, st1]
  refine hr_t 62 (v := ?_) ?_ ?_
  rotate_left
  focus (intro wS hSw; (obtain ⟨⟨dS, dL⟩, ⟨xS, xL⟩, ⟨tS, tL⟩, a0, al, af⟩ := HP.out _ hSw); go_simp; (try with_reducible rfl))
  simp only [st0, st1]
  refine hr_t 63 (v := ?_) ?_ ?_
  rotate_left
  focus (intro wS hSw; (obtain ⟨⟨dS, dL⟩, ⟨xS, xL⟩, ⟨tS, tL⟩, a0, al, af⟩ := HP.out _ hSw); go_simp; (try with_reducible rfl))
  simp only [st0, st1]
  refine hr_t 64 (v := ?_) ?_ ?_
  rotate_left
  focus (intro wS hSw; (obtain ⟨⟨dS, dL⟩, ⟨xS, xL⟩, ⟨tS, tL⟩, a0, al, af⟩ := HP.out _ hSw); go_simp; (try with_reducible rfl))
  simp only [st0, st1]
  refine hr_t 65 (v := ?_) ?_ ?_
  rotate_left
  focus (intro wS hSw; (obtain ⟨⟨dS, dL⟩, ⟨xS, xL⟩, ⟨tS, tL⟩, a0, al, af⟩ := HP.out _ hSw); go_simp; (try with_reducible rfl))
  simp only [st0, st1]
  refine hr_t 66 (v := ?_) ?_ ?_
  rotate_left
  focus (intro wS hSw; (obtain ⟨⟨dS, dL⟩, ⟨xS, xL⟩, ⟨tS, tL⟩, a0, al, af⟩ := HP.out _ hSw); go_simp; (try with_reducible rfl))
  simp only [st0, st1]
  refine hr_t 67 (v := ?_) ?_ ?_
  rotate_left
  focus (intro wS hSw; (obtain ⟨⟨dS, dL⟩, ⟨xS, xL⟩, ⟨tS, tL⟩, a0, al, af⟩ := HP.out _ hSw); go_simp; (try with_reducible rfl))
  simp only [st0, st1]
  refine hr_t 68 (v := ?_) ?_ ?_
  rotate_left
  focus (intro wS hSw; (obtain ⟨⟨dS, dL⟩, ⟨xS, xL⟩, ⟨tS, tL⟩, a0, al, af⟩ := HP.out _ hSw); go_simp; (try with_reducible rfl))
  simp only [st0, st1]
  refine hr_done (by kernel_rfl) ?_
  go_wp2_with fail
  exact bodyPost_ret (v := .bool true) (by simp [results, Tryz.results3, go_sem]) rfl ⟨rfl, Below.toGrow (HB7.out.trans (hHeld.mono HB7.out.size))⟩
set_option maxRecDepth 100000 in
set_option maxHeartbeats 4000000 in
theorem stays_main (s : Sc) (F : Nat → Rw) (zs : List Int) (L : List Rw) (o a b : Int) (i u : Bool) (p q r : Int) (w : World) (hr : Sn.rd ⟨s, F, zs, L⟩ w) (hg0 : RdR0 w (.slice s.gA s.gn s.gc) (listG s.gn F)) (hk0 : RdR0 w (.slice s.kA s.kn s.kc) L) (hW1 : s.W ≤ 9223372036854775807) (hW2 : -9223372036854775808 ≤ s.W) (h1 : few15 (listG s.gn F) L s.tn = true) (h2 : (Sn.md ⟨s, F, zs, L⟩).Ok) (ho0 : 0 ≤ o) (ho13 : o ≤ 13) (ha1 : -9223372036854775808 ≤ a) (ha2 : a ≤ 9223372036854775807) (ho : o ≠ 13) : Calls Tryz.prog 3 #[.agg #[.slice s.gA s.gn s.gc, .int .i64 s.x, .int .i64 s.y, .bool s.wr, .bool s.og, .int .i64 s.fg, .int .i64 s.bg, .int .i64 s.fl, .int .u8 s.g0, .int .u8 s.g1, .int .u8 s.g2, .int .u8 s.g3, .int .i64 s.gl, .int .i64 s.gr, .int .i64 s.on, .int .i64 s.H, .int .i64 s.W, .int .i64 s.T, .int .i64 s.B, .slice s.tA s.tn s.tc, .int .i64 s.tw, .slice s.kA s.kn s.kc, .int .i64 s.kp, .int .i64 s.dir, .bool s.ex], .agg #[.int .i64 o, .int .i64 a, .int .i64 b, .bool i, .bool u, .int .i64 p, .int .i64 q, .int .i64 r]] w fun e w' => e = .returned (.bool true) ∧ Grew w w' := by
  have HSN := Lib.hid (Md.sane_iff.2 h2)
  have HO := Lib.hid h2
  have HSZ := Lib.hid (stays_sz h2 h1)
  have HO0 := Lib.hid ho0
  have HOE := Lib.hid ho
  have HO13 := Lib.hid ho13
  have HA1B := Lib.hid ha1
  have HA2B := Lib.hid ha2
  have d1 : decide (o < 0) = false := decide_eq_false (by omega)
  have d2 : decide (13 < o) = false := decide_eq_false (by omega)
  clear h2 ho0 ho13 ha1 ha2 ho
  have hfw := few15_facts hr h1; have HGL := Lib.hid (show (listG s.gn F).length ≤ maxLen by rw [listG_len]; unfold maxLen; omega); have HKL := Lib.hid (show L.length ≤ maxLen by unfold maxLen; omega); have HG5 := Lib.hid (show s.gn ≤ 5000 by omega); have HL5 := Lib.hid (show L.length ≤ 5000 by omega); have HZ5 := Lib.hid (show zs.length ≤ 65536 by omega); have HW1 := Lib.hid hW1; have HW2 := Lib.hid hW2; have HF := Lib.hid h1; clear hfw; go_enter Tryz.func3, Tryz.ntmps3; go_upto_region 1 with fail; generalize hW : (w.alloc _).alloc _ = W; have HD : Hid (DBlk W w.heap.size s) := Lib.hid (by rw [← hW]; exact (Blk.new _ _ _).alloc _); have HA : Hid (Blk W (w.heap.size + 1) 42 #[.int .i64 o, .int .i64 a, .int .i64 b, .bool i, .bool u, .int .i64 p, .int .i64 q, .int .i64 r]) := Lib.hid (by rw [← hW]; exact Blk.new_at (by simp)); have hbW : Below w.heap.size w W := (by rw [← hW]; exact ((Below.refl _ _).alloc (Nat.le_refl _) _).alloc (by simp) _); have HR := Lib.hid (hr.below hbW); have HG0 := Lib.hid (hg0.below hbW); have HK0 := Lib.hid (hk0.below hbW); have HBW := Lib.hid hbW; clear hW hr hbW h1 hW1 hW2 hg0 hk0
  go_upto_region 5 with (first | ((with_reducible refine (awake15_c _).mono ?_); rintro e w0 ⟨rfl, hg0⟩; replace hg0 := hg0.below; have HD0 := Lib.hid (Blk.below HD.out hg0 HD.out.lt); have HA0 := Lib.hid (Blk.below HA.out hg0 HA.out.lt)) | (refine wpList_doc_load HD0.out rfl rfl rfl ?_) | (refine wpList_doc_load_w HD1.out rfl (by rfl) rfl ?_) | (refine wpList_doc_load HD3.out rfl rfl rfl ?_) | ((with_reducible refine (few15_c s (listG s.gn F) L _ (HG0.out.below hg0) (HK0.out.below hg0) HGL.out HKL.out).mono ?_); rw [HF.out]; rintro e w1 ⟨rfl, hg1⟩; replace hg1 := hg1.below; have HD1 := Lib.hid (Blk.below HD0.out hg1 HD0.out.lt); have HA1 := Lib.hid (Blk.below HA0.out hg1 HA0.out.lt); have HR1 := Lib.hid ((HR.out.below hg0).below hg1)) | ((with_reducible refine (ours15_c s _).mono ?_); rintro e w2 ⟨rfl, hg2⟩; replace hg2 := hg2.below; have HD2 := Lib.hid (Blk.below HD1.out hg2 HD1.out.lt); have HA2 := Lib.hid (Blk.below HA1.out hg2 HA1.out.lt); have HR2 := Lib.hid (HR1.out.below hg2)) | ((with_reducible refine (sane_c ⟨s, F, zs, L⟩ _ HR2.out HG5.out HL5.out HZ5.out HW1.out HW2.out).mono ?_); rw [HSN.out]; rintro e w3 ⟨rfl, hg3⟩; replace hg3 := hg3.below; have HD3 := Lib.hid (Blk.below HD2.out hg3 HD2.out.lt); have HAX := Lib.hid (Blk.below HA2.out hg3 HA2.out.lt); have HR3 := Lib.hid (HR2.out.below hg3); obtain ⟨a0, a1, a2, a3, a4, a5, a6, a7, af, al⟩ : _ ∧ _ ∧ _ ∧ _ ∧ _ ∧ _ ∧ _ ∧ _ ∧ _ ∧ _ := ⟨HAX.out.cell 0, HAX.out.cell 1, HAX.out.cell 2, HAX.out.cell 3, HAX.out.cell 4, HAX.out.cell 5, HAX.out.cell 6, HAX.out.cell 7, HAX.out.frozen, HAX.out.lt⟩; simp only [List.getElem?_toArray, List.getElem?_cons_zero, List.getElem?_cons_succ] at a0 a1 a2 a3 a4 a5 a6 a7) | ((with_reducible refine (ours15_c s _).mono ?_); rintro e w4 ⟨rfl, hg4⟩; replace hg4 := hg4.below) | (refine wpList_scr_store s ⟨_, Blk.new _ _ _, rfl⟩ rfl rfl rfl rfl rfl ?_))
  generalize hW5 : World.setRow _ _ _ = W5
  have HD4 : DBlk w4 w.heap.size s := Blk.below HD3.out hg4 HD3.out.lt
  have HA4 := Blk.below HAX.out hg4 HAX.out.lt
  clear a0 a1 a2 a3 a4 a5 a6 a7 af al
  have hA : Below w4.heap.size w4 W5 := by rw [← hW5]; exact below_row ((Below.refl _ _).alloc (Nat.le_refl _) _) (Nat.le_refl _) _
  have hX : SBlk W5 w4.heap.size s := by rw [← hW5]; exact setRow_heap _ _ _ _ _ _ (Blk.new _ _ _)
  have hzx : w.heap.size < w4.heap.size := HD4.lt
  have HD5 := Lib.hid (show DBlk W5 w.heap.size s from Blk.below HD4 hA HD4.lt)
  have HAX5 := Lib.hid (Blk.below HA4 hA HA4.lt)
  have HR5 := Lib.hid ((HR3.out.below hg4).below hA)
  have HB5 : Hid (Below w.heap.size w W5) := by
    have hb0 := HBW.out.trans (hg0.mono HBW.out.size)
    have hb1 := hb0.trans (hg1.mono hb0.size)
    have hb2 := hb1.trans (hg2.mono hb1.size)
    have hb3 := hb2.trans (hg3.mono hb2.size)
    have hb4 := hb3.trans (hg4.mono hb3.size)
    exact Lib.hid (hb4.trans (hA.mono hb4.size))
  clear hW5 HD4 HA4 hA HBW hg0 hg1 hg2 hg3 hg4 HD HD0 HD1 HD2 HD3 HA HA0 HA1 HA2 HAX HR HR1 HR2 HR3 HG0 HK0 HG5 HL5 HW1 HW2 HF HSN
  generalize w4.heap.size = gx at *
  have HX := Lib.hid hX
  have HAX := HAX5
  obtain ⟨a0, a1, a2, a3, a4, a5, a6, a7, af, al⟩ : _ ∧ _ ∧ _ ∧ _ ∧ _ ∧ _ ∧ _ ∧ _ ∧ _ ∧ _ := ⟨HAX.out.cell 0, HAX.out.cell 1, HAX.out.cell 2, HAX.out.cell 3, HAX.out.cell 4, HAX.out.cell 5, HAX.out.cell 6, HAX.out.cell 7, HAX.out.frozen, HAX.out.lt⟩; simp only [List.getElem?_toArray, List.getElem?_cons_zero, List.getElem?_cons_succ] at a0 a1 a2 a3 a4 a5 a6 a7
  have xS := SBlk.isScr hX
  have xL := SBlk.cells hX
  clear hX HAX
  have HNE := HOE
  have hq : (o == 13) = false := by simpa using HOE.out
  have eH : (s.H == s.H) = true := beq_self_eq_true _
  have eW : (s.W == s.W) = true := beq_self_eq_true _
  have eT : (s.T == s.T) = true := beq_self_eq_true _
  have eB : (s.B == s.B) = true := beq_self_eq_true _
  go_upto_region 6 with (first | (refine wpList_scr_load HX.out rfl rfl rfl ?_) | ((with_reducible refine (do_c ⟨s, F, zs, L⟩ o a b i u p q r _ HO.out HR5.out HSZ.out HA1B.out HA2B.out HO0.out HO13.out).mono ?_); rintro e w6 ⟨S6, rfl, hg6, hr6, hm6, hf6⟩) | (refine wpList_scr_store S6.s ⟨_, Blk.new _ _ _, rfl⟩ rfl rfl rfl rfl rfl ?_; generalize hW7 : World.setRow _ _ _ = W7; have hA7 : Below w6.heap.size w6 W7 := (by rw [← hW7]; exact below_row ((Below.refl _ _).alloc (Nat.le_refl _) _) (Nat.le_refl _) _); have HT7 : Hid (SBlk W7 w6.heap.size S6.s) := Lib.hid (by rw [← hW7]; exact setRow_heap _ _ _ _ _ _ (Blk.new _ _ _)); have HD7 := Lib.hid (show DBlk W7 w.heap.size s from Blk.below (Blk.below HD5.out hg6 HD5.out.lt) hA7 (Blk.lt (Blk.below HD5.out hg6 HD5.out.lt))); have HC7 := Lib.hid (Blk.below (Blk.below HAX5.out hg6 HAX5.out.lt) hA7 (Blk.lt (Blk.below HAX5.out hg6 HAX5.out.lt))); have HX7 := Lib.hid (show SBlk W7 gx s from Blk.below (Blk.below HX.out hg6 HX.out.lt) hA7 (Blk.lt (Blk.below HX.out hg6 HX.out.lt))); have HB7 : Hid (Below w.heap.size w W7) := (by have h := HB5.out.trans (hg6.mono HB5.out.size); exact Lib.hid (h.trans (hA7.mono h.size))); have HR7 := Lib.hid (show S6.rd W7 by rw [← hW7]; exact (hr6.below ((Below.refl _ _).alloc (Nat.le_refl _) _)).keep (hr6.ft.mono fun b hb => Nat.ne_of_lt hb) (Keeps.row _ _ (fun h => h rfl))); have HX5R := Lib.hid ((HR5.out.below hg6).below hA7); have HM6 := Lib.hid hm6; clear hW7 hg6 hr6 hm6 hf6 hA7 a0 a1 a2 a3 a4 a5 a6 a7 af al xS xL HX HD5 HAX5 HB5 HR5; generalize w6.heap.size = gt at *))
  have HMZ := Lib.hid (HM6.out.sz.resolve_left HNE.out)
  have HT6 : Hid (SBlk W7 gt { S6.s with fg := s.fg, bg := s.bg, fl := s.fl, dir := s.dir, H := s.H, W := s.W, T := s.T, B := s.B }) := Lib.hid (by
    have e : S6.s = { S6.s with fg := s.fg, bg := s.bg, fl := s.fl, dir := s.dir, H := s.H, W := s.W, T := s.T, B := s.B } := by
      rw [show s.fg = S6.s.fg from HM6.out.fg.symm, show s.bg = S6.s.bg from HM6.out.bg.symm, show s.fl = S6.s.fl from HM6.out.fl.symm, show s.dir = S6.s.dir from HM6.out.dir.symm, show s.H = S6.s.H from HMZ.out.1.symm, show s.W = S6.s.W from HMZ.out.2.1.symm, show s.T = S6.s.T from HMZ.out.2.2.1.symm, show s.B = S6.s.B from HMZ.out.2.2.2.symm]
    have h := HT7.out
    rw [e] at h
    exact h)
  have HP := Lib.hid (fun (wS : World) (hSw : Below W7.heap.size W7 wS) => stays_prep (show DBlk _ _ s from Blk.below HD7.out hSw (Blk.lt HD7.out)) (show SBlk _ gx s from Blk.below HX7.out hSw (Blk.lt HX7.out)) (show SBlk _ gt _ from Blk.below HT6.out hSw (Blk.lt HT6.out)) (Blk.below HC7.out hSw (Blk.lt HC7.out)))
  have eP := eql_pen s.fg s.bg s.fl s.fg s.bg s.fl
  have eD : (s.dir == s.dir) = true := beq_self_eq_true _
  refine hr_start (S := (fun w' => Below W7.heap.size W7 w')) (by kernel_rfl) rfl ?_ (fun hHeld => ?_)
  · ((try dsimp only); (first | exact Below.refl _ _ | exact Below.drew (Below.refl _ _) | exact hHeld | exact hHeld.trans (hg.mono hHeld.size)))
  refine hr_t 0 (v := ?_) ?_ ?_
  rotate_left
  focus (intro wS hSw; (obtain ⟨⟨dS, dL⟩, ⟨xS, xL⟩, ⟨tS, tL⟩, a0, al, af⟩ := HP.out _ hSw); go_simp; (try with_reducible rfl))
  simp only [st0, st1]
  refine hr_t 1 (v := ?_) ?_ ?_
  rotate_left
  focus (intro wS hSw; (obtain ⟨⟨dS, dL⟩, ⟨xS, xL⟩, ⟨tS, tL⟩, a0, al, af⟩ := HP.out _ hSw); go_simp; (try with_reducible rfl))
  simp only [st0, st1]
  refine hr_t 2 ((fun _ hSw => exec_scr (Blk.below HT7.out hSw (Blk.lt HT7.out)) rfl rfl)) ?_
  simp only [st0, st1]
  refine hr_o 3 (fun K hK => ?_)
  (try go_simp)
  ((with_reducible refine (sane_ok S6 _ (HR7.out.below hHeld) HM6.out.ok).mono ?_); rintro e w8 ⟨rfl, hg⟩; replace hg := hg.below)
  (try go_wp2_with fail)
  refine hK.out _ _ ?_ (fun hHeld => ?_)
  · ((try dsimp only); (first | exact Below.refl _ _ | exact Below.drew (Below.refl _ _) | exact hHeld | exact hHeld.trans (hg.mono hHeld.size)))
  clear hK K
  simp only [st0, st1]
  refine hr_t 4 (v := ?_) ?_ ?_
  rotate_left
  focus (intro wS hSw; (obtain ⟨⟨dS, dL⟩, ⟨xS, xL⟩, ⟨tS, tL⟩, a0, al, af⟩ := HP.out _ hSw); go_simp; (try with_reducible rfl))
  simp only [st0, st1]
  refine hr_t 5 (v := ?_) ?_ ?_
  rotate_left
  focus (intro wS hSw; (obtain ⟨⟨dS, dL⟩, ⟨xS, xL⟩, ⟨tS, tL⟩, a0, al, af⟩ := HP.out _ hSw); go_simp; (try with_reducible rfl))
  simp only [st0, st1]
  refine hr_t 6 (v := ?_) ?_ ?_
  rotate_left
  focus (intro wS hSw; (obtain ⟨⟨dS, dL⟩, ⟨xS, xL⟩, ⟨tS, tL⟩, a0, al, af⟩ := HP.out _ hSw); go_simp; (try with_reducible rfl))
  simp only [st0, st1]
  refine hr_t 7 (v := ?_) ?_ ?_
  rotate_left
  focus (intro wS hSw; (obtain ⟨⟨dS, dL⟩, ⟨xS, xL⟩, ⟨tS, tL⟩, a0, al, af⟩ := HP.out _ hSw); go_simp; (try with_reducible rfl))
  simp only [st0, st1]
  refine hr_t 8 (v := ?_) ?_ ?_
  rotate_left
  focus (intro wS hSw; (obtain ⟨⟨dS, dL⟩, ⟨xS, xL⟩, ⟨tS, tL⟩, a0, al, af⟩ := HP.out _ hSw); go_simp; (try with_reducible rfl))
  simp only [st0, st1]
  refine hr_t 9 (v := ?_) ?_ ?_
  rotate_left
  focus (intro wS hSw; (obtain ⟨⟨dS, dL⟩, ⟨xS, xL⟩, ⟨tS, tL⟩, a0, al, af⟩ := HP.out _ hSw); go_simp; (try with_reducible rfl))
  simp only [st0, st1]
  refine hr_t 10 (v := ?_) ?_ ?_
  rotate_left
  focus (intro wS hSw; (obtain ⟨⟨dS, dL⟩, ⟨xS, xL⟩, ⟨tS, tL⟩, a0, al, af⟩ := HP.out _ hSw); go_simp; (try with_reducible rfl))
  simp only [st0, st1]
  refine hr_t 11 (v := ?_) ?_ ?_
  rotate_left
  focus (intro wS hSw; (obtain ⟨⟨dS, dL⟩, ⟨xS, xL⟩, ⟨tS, tL⟩, a0, al, af⟩ := HP.out _ hSw); go_simp; (try with_reducible rfl))
  simp only [st0, st1]
  refine hr_t 12 (v := ?_) ?_ ?_
  rotate_left
  focus (intro wS hSw; (obtain ⟨⟨dS, dL⟩, ⟨xS, xL⟩, ⟨tS, tL⟩, a0, al, af⟩ := HP.out _ hSw); go_simp; (try with_reducible rfl))
  simp only [st0, st1]
  refine hr_t 13 (v := ?_) ?_ ?_
  rotate_left
  focus (intro wS hSw; (obtain ⟨⟨dS, dL⟩, ⟨xS, xL⟩, ⟨tS, tL⟩, a0, al, af⟩ := HP.out _ hSw); go_simp; (try with_reducible rfl))
  simp only [st0, st1]
  refine hr_t 14 (v := ?_) ?_ ?_
  rotate_left
  focus (intro wS hSw; (obtain ⟨⟨dS, dL⟩, ⟨xS, xL⟩, ⟨tS, tL⟩, a0, al, af⟩ := HP.out _ hSw); go_simp; (try with_reducible rfl))
  simp only [st0, st1]
  refine hr_t 15 (v := ?_) ?_ ?_
  rotate_left
  focus (intro wS hSw; (obtain ⟨⟨dS, dL⟩, ⟨xS, xL⟩, ⟨tS, tL⟩, a0, al, af⟩ := HP.out _ hSw); go_simp; (try with_reducible rfl))
  simp only [st0, st1]
  refine hr_t 16 (v := ?_) ?_ ?_
  rotate_left
  focus (intro wS hSw; (obtain ⟨⟨dS, dL⟩, ⟨xS, xL⟩, ⟨tS, tL⟩, a0, al, af⟩ := HP.out _ hSw); go_simp; (try with_reducible rfl))
  simp only [st0, st1]
  refine hr_t 17 (v := ?_) ?_ ?_
  rotate_left
  focus (intro wS hSw; (obtain ⟨⟨dS, dL⟩, ⟨xS, xL⟩, ⟨tS, tL⟩, a0, al, af⟩ := HP.out _ hSw); go_simp; (try with_reducible rfl))
  simp only [st0, st1]
  refine hr_t 18 (v := ?_) ?_ ?_
  rotate_left
  focus (intro wS hSw; (obtain ⟨⟨dS, dL⟩, ⟨xS, xL⟩, ⟨tS, tL⟩, a0, al, af⟩ := HP.out _ hSw); go_simp; (try with_reducible rfl))
  simp only [st0, st1]
  refine hr_t 19 (v := ?_) ?_ ?_
  rotate_left
  focus (intro wS hSw; (obtain ⟨⟨dS, dL⟩, ⟨xS, xL⟩, ⟨tS, tL⟩, a0, al, af⟩ := HP.out _ hSw); go_simp; (try with_reducible rfl))
  simp only [st0, st1]
  refine hr_t 20 (v := ?_) ?_ ?_
  rotate_left
  focus (intro wS hSw; (obtain ⟨⟨dS, dL⟩, ⟨xS, xL⟩, ⟨tS, tL⟩, a0, al, af⟩ := HP.out _ hSw); go_simp; (try with_reducible rfl))
  simp only [st0, st1]
  refine hr_t 21 (v := ?_) ?_ ?_
  rotate_left
  focus (intro wS hSw; (obtain ⟨⟨dS, dL⟩, ⟨xS, xL⟩, ⟨tS, tL⟩, a0, al, af⟩ := HP.out _ hSw); go_simp; (try with_reducible rfl))
  simp only [st0, st1]
  refine hr_t 22 (v := ?_) ?_ ?_
  rotate_left
  focus (intro wS hSw; (obtain ⟨⟨dS, dL⟩, ⟨xS, xL⟩, ⟨tS, tL⟩, a0, al, af⟩ := HP.out _ hSw); go_simp; (try with_reducible rfl))
  simp only [st0, st1]
  refine hr_t 23 (v := ?_) ?_ ?_
  rotate_left
  focus (intro wS hSw; (obtain ⟨⟨dS, dL⟩, ⟨xS, xL⟩, ⟨tS, tL⟩, a0, al, af⟩ := HP.out _ hSw); go_simp; (try with_reducible rfl))
  simp only [st0, st1]
  refine hr_t 24 (v := ?_) ?_ ?_
  rotate_left
  focus (intro wS hSw; (obtain ⟨⟨dS, dL⟩, ⟨xS, xL⟩, ⟨tS, tL⟩, a0, al, af⟩ := HP.out _ hSw); go_simp; (try with_reducible rfl))
  simp only [st0, st1]
  refine hr_t 25 (v := ?_) ?_ ?_
  rotate_left
  focus (intro wS hSw; (obtain ⟨⟨dS, dL⟩, ⟨xS, xL⟩, ⟨tS, tL⟩, a0, al, af⟩ := HP.out _ hSw); go_simp; (try with_reducible rfl))
  simp only [st0, st1]
  refine hr_t 26 (v := ?_) ?_ ?_
  rotate_left
  focus (intro wS hSw; (obtain ⟨⟨dS, dL⟩, ⟨xS, xL⟩, ⟨tS, tL⟩, a0, al, af⟩ := HP.out _ hSw); go_simp; (try with_reducible rfl))
  simp only [st0, st1]
  refine hr_t 27 (v := ?_) ?_ ?_
  rotate_left
  focus (intro wS hSw; (obtain ⟨⟨dS, dL⟩, ⟨xS, xL⟩, ⟨tS, tL⟩, a0, al, af⟩ := HP.out _ hSw); go_simp; (try with_reducible rfl))
  simp only [st0, st1]
  refine hr_t 28 (v := ?_) ?_ ?_
  rotate_left
  focus (intro wS hSw; (obtain ⟨⟨dS, dL⟩, ⟨xS, xL⟩, ⟨tS, tL⟩, a0, al, af⟩ := HP.out _ hSw); go_simp; (try with_reducible rfl))
  simp only [st0, st1]
  refine hr_t 29 (v := ?_) ?_ ?_
  rotate_left
  focus (intro wS hSw; (obtain ⟨⟨dS, dL⟩, ⟨xS, xL⟩, ⟨tS, tL⟩, a0, al, af⟩ := HP.out _ hSw); go_simp; (try with_reducible rfl))
  simp only [st0, st1]
  refine hr_t 30 (v := ?_) ?_ ?_
  rotate_left
  focus (intro wS hSw; (obtain ⟨⟨dS, dL⟩, ⟨xS, xL⟩, ⟨tS, tL⟩, a0, al, af⟩ := HP.out _ hSw); go_simp; (try with_reducible rfl))
  simp only [st0, st1]
  refine hr_t 31 (v := ?_) ?_ ?_
  rotate_left
  focus (intro wS hSw; (obtain ⟨⟨dS, dL⟩, ⟨xS, xL⟩, ⟨tS, tL⟩, a0, al, af⟩ := HP.out _ hSw); go_simp; (try with_reducible rfl))
  simp only [st0, st1]
  refine hr_t 32 (v := ?_) ?_ ?_
  rotate_left
  focus (intro wS hSw; (obtain ⟨⟨dS, dL⟩, ⟨xS, xL⟩, ⟨tS, tL⟩, a0, al, af⟩ := HP.out _ hSw); go_simp; (try with_reducible rfl))
  simp only [st0, st1]
  refine hr_t 33 (v := ?_) ?_ ?_
  rotate_left
  focus (intro wS hSw; (obtain ⟨⟨dS, dL⟩, ⟨xS, xL⟩, ⟨tS, tL⟩, a0, al, af⟩ := HP.out _ hSw); go_simp; (try with_reducible rfl))
  simp only [st0, st1]
  refine hr_t 34 (v := ?_) ?_ ?_
  rotate_left
  focus (intro wS hSw; (obtain ⟨⟨dS, dL⟩, ⟨xS, xL⟩, ⟨tS, tL⟩, a0, al, af⟩ := HP.out _ hSw); go_simp; (try with_reducible rfl))
  simp only [st0, st1]
  refine hr_t 35 (v := ?_) ?_ ?_
  rotate_left
  focus (intro wS hSw; (obtain ⟨⟨dS, dL⟩, ⟨xS, xL⟩, ⟨tS, tL⟩, a0, al, af⟩ := HP.out _ hSw); go_simp; (try with_reducible rfl))
  simp only [st0, st1]
  refine hr_t 36 (v := ?_) ?_ ?_
  rotate_left
  focus (intro wS hSw; (obtain ⟨⟨dS, dL⟩, ⟨xS, xL⟩, ⟨tS, tL⟩, a0, al, af⟩ := HP.out _ hSw); go_simp; (try with_reducible rfl))
  simp only [st0, st1]
  refine hr_t 37 (v := ?_) ?_ ?_
  rotate_left
  focus (intro wS hSw; (obtain ⟨⟨dS, dL⟩, ⟨xS, xL⟩, ⟨tS, tL⟩, a0, al, af⟩ := HP.out _ hSw); go_simp; (try with_reducible rfl))
  simp only [st0, st1]
  refine hr_t 38 (v := ?_) ?_ ?_
  rotate_left
  focus (intro wS hSw; (obtain ⟨⟨dS, dL⟩, ⟨xS, xL⟩, ⟨tS, tL⟩, a0, al, af⟩ := HP.out _ hSw); go_simp; (try with_reducible rfl))
  simp only [st0, st1]
  refine hr_t 39 (v := ?_) ?_ ?_
  rotate_left
  focus (intro wS hSw; (obtain ⟨⟨dS, dL⟩, ⟨xS, xL⟩, ⟨tS, tL⟩, a0, al, af⟩ := HP.out _ hSw); go_simp; (try with_reducible rfl))
  simp only [st0, st1]
  refine hr_t 40 (v := ?_) ?_ ?_
  rotate_left
  focus (intro wS hSw; (obtain ⟨⟨dS, dL⟩, ⟨xS, xL⟩, ⟨tS, tL⟩, a0, al, af⟩ := HP.out _ hSw); go_simp; (try with_reducible rfl))
  simp only [st0, st1]
  refine hr_t 41 (v := ?_) ?_ ?_
  rotate_left
  focus (intro wS hSw; (obtain ⟨⟨dS, dL⟩, ⟨xS, xL⟩, ⟨tS, tL⟩, a0, al, af⟩ := HP.out _ hSw); go_simp; (try with_reducible rfl))
  simp only [st0, st1]
  refine hr_t 42 (v := ?_) ?_ ?_
  rotate_left
  focus (intro wS hSw; (obtain ⟨⟨dS, dL⟩, ⟨xS, xL⟩, ⟨tS, tL⟩, a0, al, af⟩ := HP.out _ hSw); go_simp; (try with_reducible rfl))
  simp only [st0, st1]
  refine hr_t 43 (v := ?_) ?_ ?_
  rotate_left
  focus (intro wS hSw; (obtain ⟨⟨dS, dL⟩, ⟨xS, xL⟩, ⟨tS, tL⟩, a0, al, af⟩ := HP.out _ hSw); go_simp; (try with_reducible rfl))
  simp only [st0, st1]
  refine hr_t 44 (v := ?_) ?_ ?_
  rotate_left
  focus (intro wS hSw; (obtain ⟨⟨dS, dL⟩, ⟨xS, xL⟩, ⟨tS, tL⟩, a0, al, af⟩ := HP.out _ hSw); go_simp; (try with_reducible rfl))
  simp only [st0, st1]
  refine hr_t 45 (v := ?_) ?_ ?_
  rotate_left
  focus (intro wS hSw; (obtain ⟨⟨dS, dL⟩, ⟨xS, xL⟩, ⟨tS, tL⟩, a0, al, af⟩ := HP.out _ hSw); go_simp; (try with_reducible rfl))
  simp only [st0, st1]
  refine hr_t 46 (v := ?_) ?_ ?_
  rotate_left
  focus (intro wS hSw; (obtain ⟨⟨dS, dL⟩, ⟨xS, xL⟩, ⟨tS, tL⟩, a0, al, af⟩ := HP.out _ hSw); go_simp; (try with_reducible rfl))
  simp only [st0, st1]
  refine hr_t 47 ((fun _ hSw => exec_scr (Blk.below HX7.out hSw (Blk.lt HX7.out)) rfl rfl)) ?_
  simp only [st0, st1]
  refine hr_t 49 ((fun _ hSw => exec_doc (Blk.below HD7.out hSw (Blk.lt HD7.out)) rfl rfl)) ?_
  simp only [st0, st1]
  refine hr_o 48 (fun K hK => ?_)
  (try go_simp)
  ((with_reducible refine (theirs15_c s _).mono ?_); rintro e w9 ⟨rfl, hg⟩; replace hg := hg.below)
  (try go_wp2_with fail)
  refine hK.out _ _ ?_ (fun hHeld => ?_)
  · ((try dsimp only); (first | exact Below.refl _ _ | exact Below.drew (Below.refl _ _) | exact hHeld | exact hHeld.trans (hg.mono hHeld.size)))
  clear hK K
  simp only [st0, st1]
  refine hr_o 50 (fun K hK => ?_)
  (try go_simp)
  ((with_reducible refine (same15_c ⟨s, F, zs, L⟩ _ (HX5R.out.below hHeld) HGL.out HKL.out HZ5.out).mono ?_); rintro e w10 ⟨rfl, hg⟩; replace hg := hg.below)
  (try go_wp2_with fail)
  refine hK.out _ _ ?_ (fun hHeld => ?_)
  · ((try dsimp only); (first | exact Below.refl _ _ | exact Below.drew (Below.refl _ _) | exact hHeld | exact hHeld.trans (hg.mono hHeld.size)))
  clear hK K
  simp only [st0, st1]
  refine hr_t 51 (v := ?_) ?_ ?_
  rotate_left
  focus (intro wS hSw; (obtain ⟨⟨dS, dL⟩, ⟨xS, xL⟩, ⟨tS, tL⟩, a0, al, af⟩ := HP.out _ hSw); go_simp; (try with_reducible rfl))
  simp only [st0, st1]
  refine hr_t 52 (v := ?_) ?_ ?_
  rotate_left
  focus (intro wS hSw; (obtain ⟨⟨dS, dL⟩, ⟨xS, xL⟩, ⟨tS, tL⟩, a0, al, af⟩ := HP.out _ hSw); go_simp; (try with_reducible rfl))
  simp only [st0, st1]
  refine hr_t 53 (v := ?_) ?_ ?_
  rotate_left
  focus (intro wS hSw; (obtain ⟨⟨dS, dL⟩, ⟨xS, xL⟩, ⟨tS, tL⟩, a0, al, af⟩ := HP.out _ hSw); go_simp; (try with_reducible rfl))
  simp only [st0, st1]
  refine hr_t 54 (v := ?_) ?_ ?_
  rotate_left
  focus (intro wS hSw; (obtain ⟨⟨dS, dL⟩, ⟨xS, xL⟩, ⟨tS, tL⟩, a0, al, af⟩ := HP.out _ hSw); go_simp; (try with_reducible rfl))
  simp only [st0, st1]
  refine hr_t 55 (v := ?_) ?_ ?_
  rotate_left
  focus (intro wS hSw; (obtain ⟨⟨dS, dL⟩, ⟨xS, xL⟩, ⟨tS, tL⟩, a0, al, af⟩ := HP.out _ hSw); go_simp; (try with_reducible rfl))
  simp only [st0, st1]
  refine hr_t 56 (v := ?_) ?_ ?_
  rotate_left
  focus (intro wS hSw; (obtain ⟨⟨dS, dL⟩, ⟨xS, xL⟩, ⟨tS, tL⟩, a0, al, af⟩ := HP.out _ hSw); go_simp; (try with_reducible rfl))
  simp only [st0, st1]
  refine hr_t 57 (v := ?_) ?_ ?_
  rotate_left
  focus (intro wS hSw; (obtain ⟨⟨dS, dL⟩, ⟨xS, xL⟩, ⟨tS, tL⟩, a0, al, af⟩ := HP.out _ hSw); go_simp; (try with_reducible rfl))
  simp only [st0, st1]
  refine hr_t 58 (v := ?_) ?_ ?_
  rotate_left
  focus (intro wS hSw; (obtain ⟨⟨dS, dL⟩, ⟨xS, xL⟩, ⟨tS, tL⟩, a0, al, af⟩ := HP.out _ hSw); go_simp; (try with_reducible rfl))
  simp only [st0, st1]
  refine hr_t 59 (v := ?_) ?_ ?_
  rotate_left
  focus (intro wS hSw; (obtain ⟨⟨dS, dL⟩, ⟨xS, xL⟩, ⟨tS, tL⟩, a0, al, af⟩ := HP.out _ hSw); go_simp; (try with_reducible rfl))
  simp only [st0, st1]
  refine hr_t 60 (v := ?_) ?_ ?_
  rotate_left
  focus (intro wS hSw; (obtain ⟨⟨dS, dL⟩, ⟨xS, xL⟩, ⟨tS, tL⟩, a0, al, af⟩ := HP.out _ hSw); go_simp; (try with_reducible rfl))
  simp only [st0, st1]
  refine hr_t 61 (v := ?_) ?_ ?_
  rotate_left
  focus (intro wS hSw; (obtain ⟨⟨dS, dL⟩, ⟨xS, xL⟩, ⟨tS, tL⟩, a0, al, af⟩ := HP.out _ hSw); go_simp; (try with_reducible rfl))
  simp only [st0, st1]
  refine hr_t 62 (v := ?_) ?_ ?_
  rotate_left
  focus (intro wS hSw; (obtain ⟨⟨dS, dL⟩, ⟨xS, xL⟩, ⟨tS, tL⟩, a0, al, af⟩ := HP.out _ hSw); go_simp; (try with_reducible rfl))
  simp only [st0, st1]
  refine hr_t 63 (v := ?_) ?_ ?_
  rotate_left
  focus (intro wS hSw; (obtain ⟨⟨dS, dL⟩, ⟨xS, xL⟩, ⟨tS, tL⟩, a0, al, af⟩ := HP.out _ hSw); go_simp; (try with_reducible rfl))
  simp only [st0, st1]
  refine hr_t 64 (v := ?_) ?_ ?_
  rotate_left
  focus (intro wS hSw; (obtain ⟨⟨dS, dL⟩, ⟨xS, xL⟩, ⟨tS, tL⟩, a0, al, af⟩ := HP.out _ hSw); go_simp; (try with_reducible rfl))
  simp only [st0, st1]
  refine hr_t 65 (v := ?_) ?_ ?_
  rotate_left
  focus (intro wS hSw; (obtain ⟨⟨dS, dL⟩, ⟨xS, xL⟩, ⟨tS, tL⟩, a0, al, af⟩ := HP.out _ hSw); go_simp; (try with_reducible rfl))
  simp only [st0, st1]
  refine hr_t 66 (v := ?_) ?_ ?_
  rotate_left
  focus (intro wS hSw; (obtain ⟨⟨dS, dL⟩, ⟨xS, xL⟩, ⟨tS, tL⟩, a0, al, af⟩ := HP.out _ hSw); go_simp; (try with_reducible rfl))
  simp only [st0, st1]
  refine hr_t 67 (v := ?_) ?_ ?_
  rotate_left
  focus (intro wS hSw; (obtain ⟨⟨dS, dL⟩, ⟨xS, xL⟩, ⟨tS, tL⟩, a0, al, af⟩ := HP.out _ hSw); go_simp; (try with_reducible rfl))
  simp only [st0, st1]
  refine hr_t 68 (v := ?_) ?_ ?_
  rotate_left
  focus (intro wS hSw; (obtain ⟨⟨dS, dL⟩, ⟨xS, xL⟩, ⟨tS, tL⟩, a0, al, af⟩ := HP.out _ hSw); go_simp; (try with_reducible rfl))
  simp only [st0, st1]
  refine hr_done (by kernel_rfl) ?_
  go_wp2_with fail
  exact bodyPost_ret (v := .bool true) (by simp [results, Tryz.results3, go_sem]) rfl ⟨rfl, Below.toGrow (HB7.out.trans (hHeld.mono HB7.out.size))⟩
end Go.Proofs.YtlchffkabpfjpaaGreat.Scr
