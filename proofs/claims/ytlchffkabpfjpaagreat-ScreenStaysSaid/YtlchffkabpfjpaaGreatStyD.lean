/- screen.EraseCells, InsertCells. -/
import Derived.Test.YtlchffkabpfjpaaGreatStyC
namespace Go.Proofs.YtlchffkabpfjpaaGreat.Scr
open Go.RowKit Go.Proofs.YtlchffkabpfjpaaGreat.Row
attribute [local go_sem ↓] scr_load_pre scr_store_pre
attribute [local go_sem] scr_cell scr_frozen
theorem sty_md {S S1 : Sn} {c : Ct} (hO : S.md.Ok) (h : S1.md = S.md.setR c) (hc : c.sane = true ∧ (c.n : Int) = S.md.W) : Sty S.md (Sn.md ⟨{ S1.s with wr := false }, S1.F, S1.zs, S1.L⟩) := by
  rw [wr_md h]
  exact Sty.row hO hc
theorem min_1 {k W : Int} (h : 1 ≤ W) : ∃ m nn : Int, (if W < k then W else k) = m ∧ (if 1 < m then m else 1) = nn ∧ 1 ≤ nn ∧ nn ≤ W := by
  refine ⟨_, _, rfl, rfl, ?_⟩
  split <;> split <;> omega
set_option maxRecDepth 100000 in
set_option maxHeartbeats 4000000 in
theorem EraseCells_c (S : Sn) (k : Int) (w : World) (hs : S.md.Ok) (hr : S.rd w) : Calls Tryz.prog 24 #[.agg #[.slice S.s.gA S.s.gn S.s.gc, .int .i64 S.s.x, .int .i64 S.s.y, .bool S.s.wr, .bool S.s.og, .int .i64 S.s.fg, .int .i64 S.s.bg, .int .i64 S.s.fl, .int .u8 S.s.g0, .int .u8 S.s.g1, .int .u8 S.s.g2, .int .u8 S.s.g3, .int .i64 S.s.gl, .int .i64 S.s.gr, .int .i64 S.s.on, .int .i64 S.s.H, .int .i64 S.s.W, .int .i64 S.s.T, .int .i64 S.s.B, .slice S.s.tA S.s.tn S.s.tc, .int .i64 S.s.tw, .slice S.s.kA S.s.kn S.s.kc, .int .i64 S.s.kp, .int .i64 S.s.dir, .bool S.s.ex], .int .i64 k] w (SPost S w (Sty S.md)) := by
  have HR := Lib.hid hr; have HS := Lib.hid hs; obtain ⟨s, F, zs, L⟩ := S; have hf := hs.cf; simp only [Sn.md] at hf; have HWQ := Lib.hid (show ((s.W.toNat : Nat) : Int) = s.W by have := hf.w1; omega); have HPN := Lib.hid (show penB 0 s.bg 0 = true from hs.ground)
  obtain ⟨m1, nn, e1, e2, n1, n2⟩ := min_1 (k := k) hf.w1
  have HF0 := Lib.hid (show max 0 (min s.x ((s.W.toNat : Nat) : Int)) = ((s.x.toNat : Nat) : Int) by have := hf.w1; have := hf.x0; have := hf.x1; omega)
  obtain ⟨TT, hTT⟩ : ∃ T : Nat, max ((s.x.toNat : Nat) : Int) (max 0 (min (s.x + nn) ((s.W.toNat : Nat) : Int))) = (T : Int) := ⟨(max ((s.x.toNat : Nat) : Int) (max 0 (min (s.x + nn) ((s.W.toNat : Nat) : Int)))).toNat, by omega⟩
  have HT0 := Lib.hid hTT
  have hw1 : IntKind.i64.wrap (s.x + nn) = s.x + nn := IntWalk.i64_in _ (by have := hf.w2; have := hf.x0; have := hf.x1; omega)
  clear hr hs hf hTT n1 n2
  dsimp only at *
  go_enter Tryz.func24, Tryz.ntmps24
  go_upto_region 1 with fail
  generalize hW : (w.alloc _).alloc _ = W; have hX : WS w.heap.size (w.heap.size + 1) 2 ⟨s, F, zs, L⟩ w W ⟨s, F, zs, L⟩ := hW ▸ WS.start HR.out; clear hW; go_wp2_with (refine hX.wload rfl rfl rfl ?_); refine (sane_ok ⟨s, F, zs, L⟩ _ hX.v.rd HS.out).mono ?_; rintro e w0 ⟨rfl, hg⟩; have hX1 := hX.below hg.below; clear hg hX; have hz := hX1.sz
  have rS := SBlk.isScr hX1.x.B; have rL := SBlk.cells hX1.x.B; have rZ := IsScr.lt rS
  go_upto_region 4 with fail
  clear rS rL rZ
  clear e1 e2
  generalize (.agg #[.slice s.gA s.gn s.gc, .int .i64 s.x, .int .i64 s.y, .bool s.wr, .bool s.og, .int .i64 s.fg, .int .i64 s.bg, .int .i64 s.fl, .int .u8 s.g0, .int .u8 s.g1, .int .u8 s.g2, .int .u8 s.g3, .int .i64 s.gl, .int .i64 s.gr, .int .i64 s.on, .int .i64 s.H, .int .i64 s.W, .int .i64 s.T, .int .i64 s.B, .slice s.tA s.tn s.tc, .int .i64 s.tw, .slice s.kA s.kn s.kc, .int .i64 s.kp, .int .i64 s.dir, .bool s.ex] : Value) = V0
  obtain ⟨c1, c16⟩ := hX1.xw
  have hN := hX1.drew
  refine hr_start (S := (fun w' => w'.cell? ⟨w.heap.size, 1, none⟩ = some (.int .i64 s.x) ∧ w'.cell? ⟨w.heap.size, 16, none⟩ = some (.int .i64 s.W))) (by kernel_rfl) rfl ?_ (fun hHeld => ?_)
  · ((try dsimp only); (first | exact ⟨c1, c16⟩ | exact ⟨hN.xw.1, hN.xw.2⟩ | exact ⟨hc5.1, hc5.2⟩ | exact hHeld))
  refine hr_t 1 (v := ?_) ?_ ?_
  rotate_left
  focus (intro wS hSw; (obtain ⟨q1, q16⟩ := hSw); go_simp; (try with_reducible rfl))
  simp only [st0, st1]
  refine hr_t 2 (v := ?_) ?_ ?_
  rotate_left
  focus (intro wS hSw; (obtain ⟨q1, q16⟩ := hSw); go_simp; (try with_reducible rfl))
  simp only [st0, st1]
  refine hr_t 3 (v := ?_) ?_ ?_
  rotate_left
  focus (intro wS hSw; (obtain ⟨q1, q16⟩ := hSw); go_simp; (try with_reducible rfl))
  simp only [st0, st1]
  refine hr_t 4 (v := ?_) ?_ ?_
  rotate_left
  focus (intro wS hSw; (obtain ⟨q1, q16⟩ := hSw); go_simp; (try with_reducible rfl))
  simp only [st0, st1]
  refine hr_t 5 (v := ?_) ?_ ?_
  rotate_left
  focus (intro wS hSw; (obtain ⟨q1, q16⟩ := hSw); go_simp; (try with_reducible rfl))
  simp only [st0, st1]
  refine hr_t 6 (v := ?_) ?_ ?_
  rotate_left
  focus (intro wS hSw; (obtain ⟨q1, q16⟩ := hSw); go_simp; (try with_reducible rfl))
  simp only [st0, st1]
  refine hr_t 7 (v := ?_) ?_ ?_
  rotate_left
  focus (intro wS hSw; (obtain ⟨q1, q16⟩ := hSw); go_simp; (try with_reducible rfl))
  simp only [st0, st1]
  refine hr_t 8 (v := ?_) ?_ ?_
  rotate_left
  focus (intro wS hSw; (obtain ⟨q1, q16⟩ := hSw); go_simp; (try with_reducible rfl))
  simp only [st0, st1]
  refine hr_two (i := 0) (j := 9) rfl rfl rfl rfl (by kernel_rfl) (by kernel_rfl) (by kernel_rfl) (fun K hK => ?_) (fun K hK => ?_)
  · refine wp_scr_load hN.x.B rfl rfl ?_
    refine hK.out _ _ ?_ (fun hHeld => ?_)
    · ((try dsimp only); (first | exact ⟨c1, c16⟩ | exact ⟨hN.xw.1, hN.xw.2⟩ | exact ⟨hc5.1, hc5.2⟩ | exact hHeld))
    clear hK K
    simp only [st0, st1]
    refine hr_o 9 (fun K hK => ?_)
    refine wp_scr_load hN.x.B rfl rfl ?_
    refine hK.out _ _ ?_ (fun hHeld => ?_)
    · ((try dsimp only); (first | exact ⟨c1, c16⟩ | exact ⟨hN.xw.1, hN.xw.2⟩ | exact ⟨hc5.1, hc5.2⟩ | exact hHeld))
    clear hK K
    simp only [st0, st1]
    refine hr_o 10 (fun K hK => ?_)
    (try go_simp)
    ((with_reducible refine (ground_c s _).mono ?_); rintro e w1 ⟨rfl, hg⟩; replace hg := hg.below; have hz1 := hN.sz; replace hN := hN.below hg)
    (try go_wp2_with fail)
    refine hK.out _ _ ?_ (fun hHeld => ?_)
    · ((try dsimp only); (first | exact ⟨c1, c16⟩ | exact ⟨hN.xw.1, hN.xw.2⟩ | exact ⟨hc5.1, hc5.2⟩ | exact hHeld))
    clear hK K
    simp only [st0, st1]
    refine hr_o 11 (fun K hK => ?_)
    (try go_simp)
    ((with_reducible refine (erased_c s.x (s.x + nn) 0 s.bg 0 _).mono ?_); rintro e w2 ⟨_, rfl, hg, b1, b2, b3, rfl, hk1, hk2, hk3⟩; replace hN := hN.below hg)
    (try go_wp2_with fail)
    refine hK.out _ _ ?_ (fun hHeld => ?_)
    · ((try dsimp only); (first | exact ⟨c1, c16⟩ | exact ⟨hN.xw.1, hN.xw.2⟩ | exact ⟨hc5.1, hc5.2⟩ | exact hHeld))
    clear hK K
    simp only [st0, st1]
    refine hr_o 12 (fun K hK => ?_)
    (try go_simp)
    (have hx : RdX encF (w2.alloc (.cells #[.func (.func 85) #[] #[.pointer (some ⟨b1, 0, none⟩), .pointer (some ⟨b2, 0, none⟩), .pointer (some ⟨b3, 0, none⟩)]] 88)) (.slice (some ⟨w2.heap.size, 0, none⟩) 1 1) [⟨85, #[.pointer (some ⟨b1, 0, none⟩), .pointer (some ⟨b2, 0, none⟩), .pointer (some ⟨b3, 0, none⟩)]⟩] := rdX_one (E := encF) _ _ _ _ _ rfl rfl; replace hk1 := hk1.alloc (.cells #[.func (.func 85) #[] #[.pointer (some ⟨b1, 0, none⟩), .pointer (some ⟨b2, 0, none⟩), .pointer (some ⟨b3, 0, none⟩)]] 88); replace hk2 := hk2.alloc (.cells #[.func (.func 85) #[] #[.pointer (some ⟨b1, 0, none⟩), .pointer (some ⟨b2, 0, none⟩), .pointer (some ⟨b3, 0, none⟩)]] 88); replace hk3 := hk3.alloc (.cells #[.func (.func 85) #[] #[.pointer (some ⟨b1, 0, none⟩), .pointer (some ⟨b2, 0, none⟩), .pointer (some ⟨b3, 0, none⟩)]] 88); replace hN := hN.alloc (.cells #[.func (.func 85) #[] #[.pointer (some ⟨b1, 0, none⟩), .pointer (some ⟨b2, 0, none⟩), .pointer (some ⟨b3, 0, none⟩)]] 88))
    (try go_wp2_with fail)
    refine hK.out _ _ ?_ (fun hHeld => ?_)
    · ((try dsimp only); (first | exact ⟨c1, c16⟩ | exact ⟨hN.xw.1, hN.xw.2⟩ | exact ⟨hc5.1, hc5.2⟩ | exact hHeld))
    clear hK K
    simp only [st0, st1]
    refine hr_o 13 (fun K hK => ?_)
    (try go_simp)
    ((with_reducible refine (onRow_1 ⟨s, F, zs, L⟩ _ s.W.toNat _ _ _ HS.out.bare hN.v.rd hx HWQ.out (erased_step s.W.toNat s.x.toNat TT b1 b2 b3 _ _ _ _ _ _ hk1 hk2 hk3 HPN.out HF0.out HT0.out)).mono ?_); intro e w3 hp; obtain ⟨S1, rfl, hN1, hV1, hm1, hz3⟩ := hN.post (by have := hN.sz; omega) hp; clear hN; have hN := hN1)
    (try go_wp2_with fail)
    refine hK.out _ _ ?_ (fun hHeld => ?_)
    · ((try dsimp only); (first | exact ⟨c1, c16⟩ | exact ⟨hN.xw.1, hN.xw.2⟩ | exact ⟨hc5.1, hc5.2⟩ | exact hHeld))
    clear hK K
    simp only [st0, st1]
    refine hr_op0 (i := 14) rfl (by kernel_rfl) (by kernel_rfl) (fun K hK => ?_)
    (refine wp_scr_store S1.s hN.x.B.isScr rfl rfl rfl rfl ?_; generalize hW5 : World.setRow _ _ _ = W5; have hN2 : WS w.heap.size (w.heap.size + 1) 2 ⟨s, F, zs, L⟩ w W5 S1 := hW5 ▸ hN.row (by omega) hV1; obtain ⟨hxx, hww⟩ := setR_xw hm1; have hc5 := hN2.xw; rw [hxx, hww] at hc5; clear hW5 hxx hww)
    refine hK.out _ ?_ (fun hHeld => ?_)
    · ((try dsimp only); (first | exact ⟨c1, c16⟩ | exact ⟨hN.xw.1, hN.xw.2⟩ | exact ⟨hc5.1, hc5.2⟩ | exact hHeld))
    clear hK K
    refine hr_done (by kernel_rfl) ?_
    (have hz5 := hN2.sz; have rS := SBlk.isScr hN2.x.B; have rL := SBlk.cells hN2.x.B; have rZ := IsScr.lt rS; go_upto_region 6 with fail; clear rS rL rZ; generalize hW6 : World.setCell _ _ _ = W6; have hX6 : WS w.heap.size (w.heap.size + 1) 2 ⟨s, F, zs, L⟩ w W6 ⟨{ S1.s with wr := false }, S1.F, S1.zs, S1.L⟩ := hW6 ▸ hN2.cell (by omega) 3 _ (fun v => ⟨v.rd, v.out, v.gen⟩) rfl; clear hW6; go_wp2_with (first | (refine hX6.wload rfl rfl rfl ?_) | (refine hX6.wstore hX6.v (by rfl) (by rfl) (by rfl) (by rfl) (by rfl) ?_)); exact bodyPost_ret (results_scr rfl rfl (hX6.res hX6.v)) rfl (hX6.fin hX6.v (by omega) (sty_md HS.out hm1 (ers_ok HS.out _ _ _ _ _))))
  · refine wp_scr_load hN.x.B rfl rfl ?_
    refine hK.out _ _ ?_ (fun hHeld => ?_)
    · ((try dsimp only); (first | exact ⟨c1, c16⟩ | exact ⟨hN.xw.1, hN.xw.2⟩ | exact ⟨hc5.1, hc5.2⟩ | exact hHeld))
    clear hK K
    simp only [st0, st1]
    refine hr_two (i := 0) (j := 10) rfl rfl rfl rfl (by kernel_rfl) (by kernel_rfl) (by kernel_rfl) (fun K hK => ?_) (fun K hK => ?_)
    · refine wp_scr_load hN.x.B rfl rfl ?_
      refine hK.out _ _ ?_ (fun hHeld => ?_)
      · ((try dsimp only); (first | exact ⟨c1, c16⟩ | exact ⟨hN.xw.1, hN.xw.2⟩ | exact ⟨hc5.1, hc5.2⟩ | exact hHeld))
      clear hK K
      simp only [st0, st1]
      refine hr_o 10 (fun K hK => ?_)
      (try go_simp)
      ((with_reducible refine (ground_c s _).mono ?_); rintro e w1 ⟨rfl, hg⟩; replace hg := hg.below; have hz1 := hN.sz; replace hN := hN.below hg)
      (try go_wp2_with fail)
      refine hK.out _ _ ?_ (fun hHeld => ?_)
      · ((try dsimp only); (first | exact ⟨c1, c16⟩ | exact ⟨hN.xw.1, hN.xw.2⟩ | exact ⟨hc5.1, hc5.2⟩ | exact hHeld))
      clear hK K
      simp only [st0, st1]
      refine hr_o 11 (fun K hK => ?_)
      (try go_simp)
      ((with_reducible refine (erased_c s.x (s.x + nn) 0 s.bg 0 _).mono ?_); rintro e w2 ⟨_, rfl, hg, b1, b2, b3, rfl, hk1, hk2, hk3⟩; replace hN := hN.below hg)
      (try go_wp2_with fail)
      refine hK.out _ _ ?_ (fun hHeld => ?_)
      · ((try dsimp only); (first | exact ⟨c1, c16⟩ | exact ⟨hN.xw.1, hN.xw.2⟩ | exact ⟨hc5.1, hc5.2⟩ | exact hHeld))
      clear hK K
      simp only [st0, st1]
      refine hr_o 12 (fun K hK => ?_)
      (try go_simp)
      (have hx : RdX encF (w2.alloc (.cells #[.func (.func 85) #[] #[.pointer (some ⟨b1, 0, none⟩), .pointer (some ⟨b2, 0, none⟩), .pointer (some ⟨b3, 0, none⟩)]] 88)) (.slice (some ⟨w2.heap.size, 0, none⟩) 1 1) [⟨85, #[.pointer (some ⟨b1, 0, none⟩), .pointer (some ⟨b2, 0, none⟩), .pointer (some ⟨b3, 0, none⟩)]⟩] := rdX_one (E := encF) _ _ _ _ _ rfl rfl; replace hk1 := hk1.alloc (.cells #[.func (.func 85) #[] #[.pointer (some ⟨b1, 0, none⟩), .pointer (some ⟨b2, 0, none⟩), .pointer (some ⟨b3, 0, none⟩)]] 88); replace hk2 := hk2.alloc (.cells #[.func (.func 85) #[] #[.pointer (some ⟨b1, 0, none⟩), .pointer (some ⟨b2, 0, none⟩), .pointer (some ⟨b3, 0, none⟩)]] 88); replace hk3 := hk3.alloc (.cells #[.func (.func 85) #[] #[.pointer (some ⟨b1, 0, none⟩), .pointer (some ⟨b2, 0, none⟩), .pointer (some ⟨b3, 0, none⟩)]] 88); replace hN := hN.alloc (.cells #[.func (.func 85) #[] #[.pointer (some ⟨b1, 0, none⟩), .pointer (some ⟨b2, 0, none⟩), .pointer (some ⟨b3, 0, none⟩)]] 88))
      (try go_wp2_with fail)
      refine hK.out _ _ ?_ (fun hHeld => ?_)
      · ((try dsimp only); (first | exact ⟨c1, c16⟩ | exact ⟨hN.xw.1, hN.xw.2⟩ | exact ⟨hc5.1, hc5.2⟩ | exact hHeld))
      clear hK K
      simp only [st0, st1]
      refine hr_o 13 (fun K hK => ?_)
      (try go_simp)
      ((with_reducible refine (onRow_1 ⟨s, F, zs, L⟩ _ s.W.toNat _ _ _ HS.out.bare hN.v.rd hx HWQ.out (erased_step s.W.toNat s.x.toNat TT b1 b2 b3 _ _ _ _ _ _ hk1 hk2 hk3 HPN.out HF0.out HT0.out)).mono ?_); intro e w3 hp; obtain ⟨S1, rfl, hN1, hV1, hm1, hz3⟩ := hN.post (by have := hN.sz; omega) hp; clear hN; have hN := hN1)
      (try go_wp2_with fail)
      refine hK.out _ _ ?_ (fun hHeld => ?_)
      · ((try dsimp only); (first | exact ⟨c1, c16⟩ | exact ⟨hN.xw.1, hN.xw.2⟩ | exact ⟨hc5.1, hc5.2⟩ | exact hHeld))
      clear hK K
      simp only [st0, st1]
      refine hr_op0 (i := 14) rfl (by kernel_rfl) (by kernel_rfl) (fun K hK => ?_)
      (refine wp_scr_store S1.s hN.x.B.isScr rfl rfl rfl rfl ?_; generalize hW5 : World.setRow _ _ _ = W5; have hN2 : WS w.heap.size (w.heap.size + 1) 2 ⟨s, F, zs, L⟩ w W5 S1 := hW5 ▸ hN.row (by omega) hV1; obtain ⟨hxx, hww⟩ := setR_xw hm1; have hc5 := hN2.xw; rw [hxx, hww] at hc5; clear hW5 hxx hww)
      refine hK.out _ ?_ (fun hHeld => ?_)
      · ((try dsimp only); (first | exact ⟨c1, c16⟩ | exact ⟨hN.xw.1, hN.xw.2⟩ | exact ⟨hc5.1, hc5.2⟩ | exact hHeld))
      clear hK K
      refine hr_done (by kernel_rfl) ?_
      (have hz5 := hN2.sz; have rS := SBlk.isScr hN2.x.B; have rL := SBlk.cells hN2.x.B; have rZ := IsScr.lt rS; go_upto_region 6 with fail; clear rS rL rZ; generalize hW6 : World.setCell _ _ _ = W6; have hX6 : WS w.heap.size (w.heap.size + 1) 2 ⟨s, F, zs, L⟩ w W6 ⟨{ S1.s with wr := false }, S1.F, S1.zs, S1.L⟩ := hW6 ▸ hN2.cell (by omega) 3 _ (fun v => ⟨v.rd, v.out, v.gen⟩) rfl; clear hW6; go_wp2_with (first | (refine hX6.wload rfl rfl rfl ?_) | (refine hX6.wstore hX6.v (by rfl) (by rfl) (by rfl) (by rfl) (by rfl) ?_)); exact bodyPost_ret (results_scr rfl rfl (hX6.res hX6.v)) rfl (hX6.fin hX6.v (by omega) (sty_md HS.out hm1 (ers_ok HS.out _ _ _ _ _))))
    · (try go_simp)
      ((with_reducible refine (ground_c s _).mono ?_); rintro e w1 ⟨rfl, hg⟩; replace hg := hg.below; have hz1 := hN.sz; replace hN := hN.below hg)
      (try go_wp2_with fail)
      refine hK.out _ _ ?_ (fun hHeld => ?_)
      · ((try dsimp only); (first | exact ⟨c1, c16⟩ | exact ⟨hN.xw.1, hN.xw.2⟩ | exact ⟨hc5.1, hc5.2⟩ | exact hHeld))
      clear hK K
      simp only [st0, st1]
      refine hr_two (i := 0) (j := 11) rfl rfl rfl rfl (by kernel_rfl) (by kernel_rfl) (by kernel_rfl) (fun K hK => ?_) (fun K hK => ?_)
      · refine wp_scr_load hN.x.B rfl rfl ?_
        refine hK.out _ _ ?_ (fun hHeld => ?_)
        · ((try dsimp only); (first | exact ⟨c1, c16⟩ | exact ⟨hN.xw.1, hN.xw.2⟩ | exact ⟨hc5.1, hc5.2⟩ | exact hHeld))
        clear hK K
        simp only [st0, st1]
        refine hr_o 11 (fun K hK => ?_)
        (try go_simp)
        ((with_reducible refine (erased_c s.x (s.x + nn) 0 s.bg 0 _).mono ?_); rintro e w2 ⟨_, rfl, hg, b1, b2, b3, rfl, hk1, hk2, hk3⟩; replace hN := hN.below hg)
        (try go_wp2_with fail)
        refine hK.out _ _ ?_ (fun hHeld => ?_)
        · ((try dsimp only); (first | exact ⟨c1, c16⟩ | exact ⟨hN.xw.1, hN.xw.2⟩ | exact ⟨hc5.1, hc5.2⟩ | exact hHeld))
        clear hK K
        simp only [st0, st1]
        refine hr_o 12 (fun K hK => ?_)
        (try go_simp)
        (have hx : RdX encF (w2.alloc (.cells #[.func (.func 85) #[] #[.pointer (some ⟨b1, 0, none⟩), .pointer (some ⟨b2, 0, none⟩), .pointer (some ⟨b3, 0, none⟩)]] 88)) (.slice (some ⟨w2.heap.size, 0, none⟩) 1 1) [⟨85, #[.pointer (some ⟨b1, 0, none⟩), .pointer (some ⟨b2, 0, none⟩), .pointer (some ⟨b3, 0, none⟩)]⟩] := rdX_one (E := encF) _ _ _ _ _ rfl rfl; replace hk1 := hk1.alloc (.cells #[.func (.func 85) #[] #[.pointer (some ⟨b1, 0, none⟩), .pointer (some ⟨b2, 0, none⟩), .pointer (some ⟨b3, 0, none⟩)]] 88); replace hk2 := hk2.alloc (.cells #[.func (.func 85) #[] #[.pointer (some ⟨b1, 0, none⟩), .pointer (some ⟨b2, 0, none⟩), .pointer (some ⟨b3, 0, none⟩)]] 88); replace hk3 := hk3.alloc (.cells #[.func (.func 85) #[] #[.pointer (some ⟨b1, 0, none⟩), .pointer (some ⟨b2, 0, none⟩), .pointer (some ⟨b3, 0, none⟩)]] 88); replace hN := hN.alloc (.cells #[.func (.func 85) #[] #[.pointer (some ⟨b1, 0, none⟩), .pointer (some ⟨b2, 0, none⟩), .pointer (some ⟨b3, 0, none⟩)]] 88))
        (try go_wp2_with fail)
        refine hK.out _ _ ?_ (fun hHeld => ?_)
        · ((try dsimp only); (first | exact ⟨c1, c16⟩ | exact ⟨hN.xw.1, hN.xw.2⟩ | exact ⟨hc5.1, hc5.2⟩ | exact hHeld))
        clear hK K
        simp only [st0, st1]
        refine hr_o 13 (fun K hK => ?_)
        (try go_simp)
        ((with_reducible refine (onRow_1 ⟨s, F, zs, L⟩ _ s.W.toNat _ _ _ HS.out.bare hN.v.rd hx HWQ.out (erased_step s.W.toNat s.x.toNat TT b1 b2 b3 _ _ _ _ _ _ hk1 hk2 hk3 HPN.out HF0.out HT0.out)).mono ?_); intro e w3 hp; obtain ⟨S1, rfl, hN1, hV1, hm1, hz3⟩ := hN.post (by have := hN.sz; omega) hp; clear hN; have hN := hN1)
        (try go_wp2_with fail)
        refine hK.out _ _ ?_ (fun hHeld => ?_)
        · ((try dsimp only); (first | exact ⟨c1, c16⟩ | exact ⟨hN.xw.1, hN.xw.2⟩ | exact ⟨hc5.1, hc5.2⟩ | exact hHeld))
        clear hK K
        simp only [st0, st1]
        refine hr_op0 (i := 14) rfl (by kernel_rfl) (by kernel_rfl) (fun K hK => ?_)
        (refine wp_scr_store S1.s hN.x.B.isScr rfl rfl rfl rfl ?_; generalize hW5 : World.setRow _ _ _ = W5; have hN2 : WS w.heap.size (w.heap.size + 1) 2 ⟨s, F, zs, L⟩ w W5 S1 := hW5 ▸ hN.row (by omega) hV1; obtain ⟨hxx, hww⟩ := setR_xw hm1; have hc5 := hN2.xw; rw [hxx, hww] at hc5; clear hW5 hxx hww)
        refine hK.out _ ?_ (fun hHeld => ?_)
        · ((try dsimp only); (first | exact ⟨c1, c16⟩ | exact ⟨hN.xw.1, hN.xw.2⟩ | exact ⟨hc5.1, hc5.2⟩ | exact hHeld))
        clear hK K
        refine hr_done (by kernel_rfl) ?_
        (have hz5 := hN2.sz; have rS := SBlk.isScr hN2.x.B; have rL := SBlk.cells hN2.x.B; have rZ := IsScr.lt rS; go_upto_region 6 with fail; clear rS rL rZ; generalize hW6 : World.setCell _ _ _ = W6; have hX6 : WS w.heap.size (w.heap.size + 1) 2 ⟨s, F, zs, L⟩ w W6 ⟨{ S1.s with wr := false }, S1.F, S1.zs, S1.L⟩ := hW6 ▸ hN2.cell (by omega) 3 _ (fun v => ⟨v.rd, v.out, v.gen⟩) rfl; clear hW6; go_wp2_with (first | (refine hX6.wload rfl rfl rfl ?_) | (refine hX6.wstore hX6.v (by rfl) (by rfl) (by rfl) (by rfl) (by rfl) ?_)); exact bodyPost_ret (results_scr rfl rfl (hX6.res hX6.v)) rfl (hX6.fin hX6.v (by omega) (sty_md HS.out hm1 (ers_ok HS.out _ _ _ _ _))))
      · (try go_simp)
        ((with_reducible refine (erased_c s.x (s.x + nn) 0 s.bg 0 _).mono ?_); rintro e w2 ⟨_, rfl, hg, b1, b2, b3, rfl, hk1, hk2, hk3⟩; replace hN := hN.below hg)
        (try go_wp2_with fail)
        refine hK.out _ _ ?_ (fun hHeld => ?_)
        · ((try dsimp only); (first | exact ⟨c1, c16⟩ | exact ⟨hN.xw.1, hN.xw.2⟩ | exact ⟨hc5.1, hc5.2⟩ | exact hHeld))
        clear hK K
        simp only [st0, st1]
        refine hr_two (i := 0) (j := 12) rfl rfl rfl rfl (by kernel_rfl) (by kernel_rfl) (by kernel_rfl) (fun K hK => ?_) (fun K hK => ?_)
        · refine wp_scr_load hN.x.B rfl rfl ?_
          refine hK.out _ _ ?_ (fun hHeld => ?_)
          · ((try dsimp only); (first | exact ⟨c1, c16⟩ | exact ⟨hN.xw.1, hN.xw.2⟩ | exact ⟨hc5.1, hc5.2⟩ | exact hHeld))
          clear hK K
          simp only [st0, st1]
          refine hr_o 12 (fun K hK => ?_)
          (try go_simp)
          (have hx : RdX encF (w2.alloc (.cells #[.func (.func 85) #[] #[.pointer (some ⟨b1, 0, none⟩), .pointer (some ⟨b2, 0, none⟩), .pointer (some ⟨b3, 0, none⟩)]] 88)) (.slice (some ⟨w2.heap.size, 0, none⟩) 1 1) [⟨85, #[.pointer (some ⟨b1, 0, none⟩), .pointer (some ⟨b2, 0, none⟩), .pointer (some ⟨b3, 0, none⟩)]⟩] := rdX_one (E := encF) _ _ _ _ _ rfl rfl; replace hk1 := hk1.alloc (.cells #[.func (.func 85) #[] #[.pointer (some ⟨b1, 0, none⟩), .pointer (some ⟨b2, 0, none⟩), .pointer (some ⟨b3, 0, none⟩)]] 88); replace hk2 := hk2.alloc (.cells #[.func (.func 85) #[] #[.pointer (some ⟨b1, 0, none⟩), .pointer (some ⟨b2, 0, none⟩), .pointer (some ⟨b3, 0, none⟩)]] 88); replace hk3 := hk3.alloc (.cells #[.func (.func 85) #[] #[.pointer (some ⟨b1, 0, none⟩), .pointer (some ⟨b2, 0, none⟩), .pointer (some ⟨b3, 0, none⟩)]] 88); replace hN := hN.alloc (.cells #[.func (.func 85) #[] #[.pointer (some ⟨b1, 0, none⟩), .pointer (some ⟨b2, 0, none⟩), .pointer (some ⟨b3, 0, none⟩)]] 88))
          (try go_wp2_with fail)
          refine hK.out _ _ ?_ (fun hHeld => ?_)
          · ((try dsimp only); (first | exact ⟨c1, c16⟩ | exact ⟨hN.xw.1, hN.xw.2⟩ | exact ⟨hc5.1, hc5.2⟩ | exact hHeld))
          clear hK K
          simp only [st0, st1]
          refine hr_o 13 (fun K hK => ?_)
          (try go_simp)
          ((with_reducible refine (onRow_1 ⟨s, F, zs, L⟩ _ s.W.toNat _ _ _ HS.out.bare hN.v.rd hx HWQ.out (erased_step s.W.toNat s.x.toNat TT b1 b2 b3 _ _ _ _ _ _ hk1 hk2 hk3 HPN.out HF0.out HT0.out)).mono ?_); intro e w3 hp; obtain ⟨S1, rfl, hN1, hV1, hm1, hz3⟩ := hN.post (by have := hN.sz; omega) hp; clear hN; have hN := hN1)
          (try go_wp2_with fail)
          refine hK.out _ _ ?_ (fun hHeld => ?_)
          · ((try dsimp only); (first | exact ⟨c1, c16⟩ | exact ⟨hN.xw.1, hN.xw.2⟩ | exact ⟨hc5.1, hc5.2⟩ | exact hHeld))
          clear hK K
          simp only [st0, st1]
          refine hr_op0 (i := 14) rfl (by kernel_rfl) (by kernel_rfl) (fun K hK => ?_)
          (refine wp_scr_store S1.s hN.x.B.isScr rfl rfl rfl rfl ?_; generalize hW5 : World.setRow _ _ _ = W5; have hN2 : WS w.heap.size (w.heap.size + 1) 2 ⟨s, F, zs, L⟩ w W5 S1 := hW5 ▸ hN.row (by omega) hV1; obtain ⟨hxx, hww⟩ := setR_xw hm1; have hc5 := hN2.xw; rw [hxx, hww] at hc5; clear hW5 hxx hww)
          refine hK.out _ ?_ (fun hHeld => ?_)
          · ((try dsimp only); (first | exact ⟨c1, c16⟩ | exact ⟨hN.xw.1, hN.xw.2⟩ | exact ⟨hc5.1, hc5.2⟩ | exact hHeld))
          clear hK K
          refine hr_done (by kernel_rfl) ?_
          (have hz5 := hN2.sz; have rS := SBlk.isScr hN2.x.B; have rL := SBlk.cells hN2.x.B; have rZ := IsScr.lt rS; go_upto_region 6 with fail; clear rS rL rZ; generalize hW6 : World.setCell _ _ _ = W6; have hX6 : WS w.heap.size (w.heap.size + 1) 2 ⟨s, F, zs, L⟩ w W6 ⟨{ S1.s with wr := false }, S1.F, S1.zs, S1.L⟩ := hW6 ▸ hN2.cell (by omega) 3 _ (fun v => ⟨v.rd, v.out, v.gen⟩) rfl; clear hW6; go_wp2_with (first | (refine hX6.wload rfl rfl rfl ?_) | (refine hX6.wstore hX6.v (by rfl) (by rfl) (by rfl) (by rfl) (by rfl) ?_)); exact bodyPost_ret (results_scr rfl rfl (hX6.res hX6.v)) rfl (hX6.fin hX6.v (by omega) (sty_md HS.out hm1 (ers_ok HS.out _ _ _ _ _))))
        · (try go_simp)
          (have hx : RdX encF (w2.alloc (.cells #[.func (.func 85) #[] #[.pointer (some ⟨b1, 0, none⟩), .pointer (some ⟨b2, 0, none⟩), .pointer (some ⟨b3, 0, none⟩)]] 88)) (.slice (some ⟨w2.heap.size, 0, none⟩) 1 1) [⟨85, #[.pointer (some ⟨b1, 0, none⟩), .pointer (some ⟨b2, 0, none⟩), .pointer (some ⟨b3, 0, none⟩)]⟩] := rdX_one (E := encF) _ _ _ _ _ rfl rfl; replace hk1 := hk1.alloc (.cells #[.func (.func 85) #[] #[.pointer (some ⟨b1, 0, none⟩), .pointer (some ⟨b2, 0, none⟩), .pointer (some ⟨b3, 0, none⟩)]] 88); replace hk2 := hk2.alloc (.cells #[.func (.func 85) #[] #[.pointer (some ⟨b1, 0, none⟩), .pointer (some ⟨b2, 0, none⟩), .pointer (some ⟨b3, 0, none⟩)]] 88); replace hk3 := hk3.alloc (.cells #[.func (.func 85) #[] #[.pointer (some ⟨b1, 0, none⟩), .pointer (some ⟨b2, 0, none⟩), .pointer (some ⟨b3, 0, none⟩)]] 88); replace hN := hN.alloc (.cells #[.func (.func 85) #[] #[.pointer (some ⟨b1, 0, none⟩), .pointer (some ⟨b2, 0, none⟩), .pointer (some ⟨b3, 0, none⟩)]] 88))
          (try go_wp2_with fail)
          refine hK.out _ _ ?_ (fun hHeld => ?_)
          · ((try dsimp only); (first | exact ⟨c1, c16⟩ | exact ⟨hN.xw.1, hN.xw.2⟩ | exact ⟨hc5.1, hc5.2⟩ | exact hHeld))
          clear hK K
          simp only [st0, st1]
          refine hr_o 0 (fun K hK => ?_)
          refine wp_scr_load hN.x.B rfl rfl ?_
          refine hK.out _ _ ?_ (fun hHeld => ?_)
          · ((try dsimp only); (first | exact ⟨c1, c16⟩ | exact ⟨hN.xw.1, hN.xw.2⟩ | exact ⟨hc5.1, hc5.2⟩ | exact hHeld))
          clear hK K
          simp only [st0, st1]
          refine hr_o 13 (fun K hK => ?_)
          (try go_simp)
          ((with_reducible refine (onRow_1 ⟨s, F, zs, L⟩ _ s.W.toNat _ _ _ HS.out.bare hN.v.rd hx HWQ.out (erased_step s.W.toNat s.x.toNat TT b1 b2 b3 _ _ _ _ _ _ hk1 hk2 hk3 HPN.out HF0.out HT0.out)).mono ?_); intro e w3 hp; obtain ⟨S1, rfl, hN1, hV1, hm1, hz3⟩ := hN.post (by have := hN.sz; omega) hp; clear hN; have hN := hN1)
          (try go_wp2_with fail)
          refine hK.out _ _ ?_ (fun hHeld => ?_)
          · ((try dsimp only); (first | exact ⟨c1, c16⟩ | exact ⟨hN.xw.1, hN.xw.2⟩ | exact ⟨hc5.1, hc5.2⟩ | exact hHeld))
          clear hK K
          simp only [st0, st1]
          refine hr_op0 (i := 14) rfl (by kernel_rfl) (by kernel_rfl) (fun K hK => ?_)
          (refine wp_scr_store S1.s hN.x.B.isScr rfl rfl rfl rfl ?_; generalize hW5 : World.setRow _ _ _ = W5; have hN2 : WS w.heap.size (w.heap.size + 1) 2 ⟨s, F, zs, L⟩ w W5 S1 := hW5 ▸ hN.row (by omega) hV1; obtain ⟨hxx, hww⟩ := setR_xw hm1; have hc5 := hN2.xw; rw [hxx, hww] at hc5; clear hW5 hxx hww)
          refine hK.out _ ?_ (fun hHeld => ?_)
          · ((try dsimp only); (first | exact ⟨c1, c16⟩ | exact ⟨hN.xw.1, hN.xw.2⟩ | exact ⟨hc5.1, hc5.2⟩ | exact hHeld))
          clear hK K
          refine hr_done (by kernel_rfl) ?_
          (have hz5 := hN2.sz; have rS := SBlk.isScr hN2.x.B; have rL := SBlk.cells hN2.x.B; have rZ := IsScr.lt rS; go_upto_region 6 with fail; clear rS rL rZ; generalize hW6 : World.setCell _ _ _ = W6; have hX6 : WS w.heap.size (w.heap.size + 1) 2 ⟨s, F, zs, L⟩ w W6 ⟨{ S1.s with wr := false }, S1.F, S1.zs, S1.L⟩ := hW6 ▸ hN2.cell (by omega) 3 _ (fun v => ⟨v.rd, v.out, v.gen⟩) rfl; clear hW6; go_wp2_with (first | (refine hX6.wload rfl rfl rfl ?_) | (refine hX6.wstore hX6.v (by rfl) (by rfl) (by rfl) (by rfl) (by rfl) ?_)); exact bodyPost_ret (results_scr rfl rfl (hX6.res hX6.v)) rfl (hX6.fin hX6.v (by omega) (sty_md HS.out hm1 (ers_ok HS.out _ _ _ _ _))))
theorem ins_okC {m : Md} (h : m.Ok) (k j q : Nat) (fg bg fl : Int) : (insC k j q fg bg fl m.here).sane = true ∧ ((insC k j q fg bg fl m.here).n : Int) = m.W := ⟨ins_sane h.here.1 fg bg fl, h.here.2⟩
set_option maxRecDepth 100000 in
set_option maxHeartbeats 4000000 in
theorem InsertCells_c (S : Sn) (k : Int) (w : World) (hs : S.md.Ok) (hr : S.rd w) : Calls Tryz.prog 53 #[.agg #[.slice S.s.gA S.s.gn S.s.gc, .int .i64 S.s.x, .int .i64 S.s.y, .bool S.s.wr, .bool S.s.og, .int .i64 S.s.fg, .int .i64 S.s.bg, .int .i64 S.s.fl, .int .u8 S.s.g0, .int .u8 S.s.g1, .int .u8 S.s.g2, .int .u8 S.s.g3, .int .i64 S.s.gl, .int .i64 S.s.gr, .int .i64 S.s.on, .int .i64 S.s.H, .int .i64 S.s.W, .int .i64 S.s.T, .int .i64 S.s.B, .slice S.s.tA S.s.tn S.s.tc, .int .i64 S.s.tw, .slice S.s.kA S.s.kn S.s.kc, .int .i64 S.s.kp, .int .i64 S.s.dir, .bool S.s.ex], .int .i64 k] w (SPost S w (Sty S.md)) := by
  have HR := Lib.hid hr; have HS := Lib.hid hs; obtain ⟨s, F, zs, L⟩ := S; have hf := hs.cf; simp only [Sn.md] at hf; have HWQ := Lib.hid (show ((s.W.toNat : Nat) : Int) = s.W by have := hf.w1; omega); have HPN := Lib.hid (show penB 0 s.bg 0 = true from hs.ground)
  obtain ⟨MM, e1⟩ : ∃ MM : Int, (if k < 1 then 1 else k) = MM := ⟨_, rfl⟩
  have HXN := Lib.hid (show ((s.x.toNat : Nat) : Int) = s.x by have := hf.x0; omega)
  have HXW := Lib.hid (show s.x.toNat < s.W.toNat by have := hf.w1; have := hf.x0; have := hf.x1; omega)
  obtain ⟨mm, hmm⟩ : ∃ T : Nat, max 0 (min MM (((s.W.toNat : Nat) : Int) - ((s.x.toNat : Nat) : Int))) = (T : Int) := ⟨(max 0 (min MM (((s.W.toNat : Nat) : Int) - ((s.x.toNat : Nat) : Int)))).toNat, by omega⟩
  have HMM := Lib.hid hmm
  clear hr hs hf hmm
  dsimp only at *
  go_enter Tryz.func53, Tryz.ntmps53
  go_upto_region 1 with fail
  generalize hW : (w.alloc _).alloc _ = W; have hX : WS w.heap.size (w.heap.size + 1) 2 ⟨s, F, zs, L⟩ w W ⟨s, F, zs, L⟩ := hW ▸ WS.start HR.out; clear hW; go_wp2_with (refine hX.wload rfl rfl rfl ?_); refine (sane_ok ⟨s, F, zs, L⟩ _ hX.v.rd HS.out).mono ?_; rintro e w0 ⟨rfl, hg⟩; have hX1 := hX.below hg.below; clear hg hX; have hz := hX1.sz
  go_upto_region 3 with fail
  generalize (.agg #[.slice s.gA s.gn s.gc, .int .i64 s.x, .int .i64 s.y, .bool s.wr, .bool s.og, .int .i64 s.fg, .int .i64 s.bg, .int .i64 s.fl, .int .u8 s.g0, .int .u8 s.g1, .int .u8 s.g2, .int .u8 s.g3, .int .i64 s.gl, .int .i64 s.gr, .int .i64 s.on, .int .i64 s.H, .int .i64 s.W, .int .i64 s.T, .int .i64 s.B, .slice s.tA s.tn s.tc, .int .i64 s.tw, .slice s.kA s.kn s.kc, .int .i64 s.kp, .int .i64 s.dir, .bool s.ex] : Value) = V0
  obtain ⟨c1, c16⟩ := hX1.xw
  have hN := hX1.drew
  refine hr_start (S := (fun w' => w'.cell? ⟨w.heap.size, 1, none⟩ = some (.int .i64 s.x) ∧ w'.cell? ⟨w.heap.size, 16, none⟩ = some (.int .i64 s.W))) (by kernel_rfl) rfl ?_ (fun hHeld => ?_)
  · ((try dsimp only); (first | exact ⟨c1, c16⟩ | exact ⟨hN.xw.1, hN.xw.2⟩ | exact ⟨hc5.1, hc5.2⟩ | exact hHeld))
  refine hr_t 1 (v := ?_) ?_ ?_
  rotate_left
  focus (intro wS hSw; (obtain ⟨q1, q16⟩ := hSw); go_simp; (try with_reducible rfl))
  simp only [st0, st1]
  refine hr_t 2 (v := ?_) ?_ ?_
  rotate_left
  focus (intro wS hSw; (obtain ⟨q1, q16⟩ := hSw); go_simp; (try with_reducible rfl))
  simp only [st0, st1]
  refine hr_t 3 (v := ?_) ?_ ?_
  rotate_left
  focus (intro wS hSw; (obtain ⟨q1, q16⟩ := hSw); go_simp; (try with_reducible rfl))
  simp only [st0, st1]
  refine hr_t 4 (v := ?_) ?_ ?_
  rotate_left
  focus (intro wS hSw; (obtain ⟨q1, q16⟩ := hSw); go_simp; (try with_reducible rfl))
  simp only [st0, st1]
  refine hr_t 5 (v := ?_) ?_ ?_
  rotate_left
  focus (intro wS hSw; (obtain ⟨q1, q16⟩ := hSw); go_simp; (try with_reducible rfl))
  simp only [st0, st1]
  refine hr_t 6 (v := ?_) ?_ ?_
  rotate_left
  focus (intro wS hSw; (obtain ⟨q1, q16⟩ := hSw); go_simp; (try with_reducible rfl))
  simp only [st0, st1]
  refine hr_t 7 (v := ?_) ?_ ?_
  rotate_left
  focus (intro wS hSw; (obtain ⟨q1, q16⟩ := hSw); go_simp; (try with_reducible rfl))
  simp only [st0, st1]
  refine hr_t 8 (v := ?_) ?_ ?_
  rotate_left
  focus (intro wS hSw; (obtain ⟨q1, q16⟩ := hSw); go_simp; (try with_reducible rfl))
  simp only [st0, st1]
  refine hr_two (i := 0) (j := 9) rfl rfl rfl rfl (by kernel_rfl) (by kernel_rfl) (by kernel_rfl) (fun K hK => ?_) (fun K hK => ?_)
  · refine wp_scr_load hN.x.B rfl rfl ?_
    refine hK.out _ _ ?_ (fun hHeld => ?_)
    · ((try dsimp only); (first | exact ⟨c1, c16⟩ | exact ⟨hN.xw.1, hN.xw.2⟩ | exact ⟨hc5.1, hc5.2⟩ | exact hHeld))
    clear hK K
    simp only [st0, st1]
    refine hr_o 9 (fun K hK => ?_)
    refine wp_scr_load hN.x.B rfl rfl ?_
    refine hK.out _ _ ?_ (fun hHeld => ?_)
    · ((try dsimp only); (first | exact ⟨c1, c16⟩ | exact ⟨hN.xw.1, hN.xw.2⟩ | exact ⟨hc5.1, hc5.2⟩ | exact hHeld))
    clear hK K
    simp only [st0, st1]
    refine hr_o 10 (fun K hK => ?_)
    (try go_simp)
    ((with_reducible refine (ground_c s _).mono ?_); rintro e w1 ⟨rfl, hg⟩; replace hg := hg.below; have hz1 := hN.sz; replace hN := hN.below hg)
    (try go_wp2_with fail)
    refine hK.out _ _ ?_ (fun hHeld => ?_)
    · ((try dsimp only); (first | exact ⟨c1, c16⟩ | exact ⟨hN.xw.1, hN.xw.2⟩ | exact ⟨hc5.1, hc5.2⟩ | exact hHeld))
    clear hK K
    simp only [st0, st1]
    refine hr_o 11 (fun K hK => ?_)
    (try go_simp)
    ((with_reducible refine (inserted_c s.x MM s.W 0 s.bg 0 _).mono ?_); rintro e w2 ⟨_, rfl, hg, b1, b2, b3, b4, rfl, hk1, hk2, hk3, hk4⟩; replace hN := hN.below hg; rw [← HXN.out] at hk1; rw [← HWQ.out] at hk3)
    (try go_wp2_with fail)
    refine hK.out _ _ ?_ (fun hHeld => ?_)
    · ((try dsimp only); (first | exact ⟨c1, c16⟩ | exact ⟨hN.xw.1, hN.xw.2⟩ | exact ⟨hc5.1, hc5.2⟩ | exact hHeld))
    clear hK K
    simp only [st0, st1]
    refine hr_o 12 (fun K hK => ?_)
    (try go_simp)
    (have hx : RdX encF (w2.alloc (.cells #[.func (.func 70) #[] #[.pointer (some ⟨b1, 0, none⟩), .pointer (some ⟨b2, 0, none⟩), .pointer (some ⟨b3, 0, none⟩), .pointer (some ⟨b4, 0, none⟩)]] 88)) (.slice (some ⟨w2.heap.size, 0, none⟩) 1 1) [⟨70, #[.pointer (some ⟨b1, 0, none⟩), .pointer (some ⟨b2, 0, none⟩), .pointer (some ⟨b3, 0, none⟩), .pointer (some ⟨b4, 0, none⟩)]⟩] := rdX_one (E := encF) _ _ _ _ _ rfl rfl; replace hk1 := hk1.alloc (.cells #[.func (.func 70) #[] #[.pointer (some ⟨b1, 0, none⟩), .pointer (some ⟨b2, 0, none⟩), .pointer (some ⟨b3, 0, none⟩), .pointer (some ⟨b4, 0, none⟩)]] 88); replace hk2 := hk2.alloc (.cells #[.func (.func 70) #[] #[.pointer (some ⟨b1, 0, none⟩), .pointer (some ⟨b2, 0, none⟩), .pointer (some ⟨b3, 0, none⟩), .pointer (some ⟨b4, 0, none⟩)]] 88); replace hk3 := hk3.alloc (.cells #[.func (.func 70) #[] #[.pointer (some ⟨b1, 0, none⟩), .pointer (some ⟨b2, 0, none⟩), .pointer (some ⟨b3, 0, none⟩), .pointer (some ⟨b4, 0, none⟩)]] 88); replace hk4 := hk4.alloc (.cells #[.func (.func 70) #[] #[.pointer (some ⟨b1, 0, none⟩), .pointer (some ⟨b2, 0, none⟩), .pointer (some ⟨b3, 0, none⟩), .pointer (some ⟨b4, 0, none⟩)]] 88); replace hN := hN.alloc (.cells #[.func (.func 70) #[] #[.pointer (some ⟨b1, 0, none⟩), .pointer (some ⟨b2, 0, none⟩), .pointer (some ⟨b3, 0, none⟩), .pointer (some ⟨b4, 0, none⟩)]] 88))
    (try go_wp2_with fail)
    refine hK.out _ _ ?_ (fun hHeld => ?_)
    · ((try dsimp only); (first | exact ⟨c1, c16⟩ | exact ⟨hN.xw.1, hN.xw.2⟩ | exact ⟨hc5.1, hc5.2⟩ | exact hHeld))
    clear hK K
    simp only [st0, st1]
    refine hr_o 13 (fun K hK => ?_)
    (try go_simp)
    ((with_reducible refine (onRow_1 ⟨s, F, zs, L⟩ _ s.W.toNat _ _ _ HS.out.bare hN.v.rd hx HWQ.out (inserted_step s.W.toNat s.x.toNat mm b1 b2 b3 b4 MM 0 s.bg 0 _ hk1 hk2 hk3 hk4 HPN.out HXW.out HMM.out)).mono ?_); intro e w3 hp; obtain ⟨S1, rfl, hN1, hV1, hm1, hz3⟩ := hN.post (by have := hN.sz; omega) hp; clear hN; have hN := hN1)
    (try go_wp2_with fail)
    refine hK.out _ _ ?_ (fun hHeld => ?_)
    · ((try dsimp only); (first | exact ⟨c1, c16⟩ | exact ⟨hN.xw.1, hN.xw.2⟩ | exact ⟨hc5.1, hc5.2⟩ | exact hHeld))
    clear hK K
    simp only [st0, st1]
    refine hr_op0 (i := 14) rfl (by kernel_rfl) (by kernel_rfl) (fun K hK => ?_)
    (refine wp_scr_store S1.s hN.x.B.isScr rfl rfl rfl rfl ?_; generalize hW5 : World.setRow _ _ _ = W5; have hN2 : WS w.heap.size (w.heap.size + 1) 2 ⟨s, F, zs, L⟩ w W5 S1 := hW5 ▸ hN.row (by omega) hV1; obtain ⟨hxx, hww⟩ := setR_xw hm1; have hc5 := hN2.xw; rw [hxx, hww] at hc5; clear hW5 hxx hww)
    refine hK.out _ ?_ (fun hHeld => ?_)
    · ((try dsimp only); (first | exact ⟨c1, c16⟩ | exact ⟨hN.xw.1, hN.xw.2⟩ | exact ⟨hc5.1, hc5.2⟩ | exact hHeld))
    clear hK K
    refine hr_done (by kernel_rfl) ?_
    (have hz5 := hN2.sz; have rS := SBlk.isScr hN2.x.B; have rL := SBlk.cells hN2.x.B; have rZ := IsScr.lt rS; go_upto_region 5 with fail; clear rS rL rZ; generalize hW6 : World.setCell _ _ _ = W6; have hX6 : WS w.heap.size (w.heap.size + 1) 2 ⟨s, F, zs, L⟩ w W6 ⟨{ S1.s with wr := false }, S1.F, S1.zs, S1.L⟩ := hW6 ▸ hN2.cell (by omega) 3 _ (fun v => ⟨v.rd, v.out, v.gen⟩) rfl; clear hW6; go_wp2_with (first | (refine hX6.wload rfl rfl rfl ?_) | (refine hX6.wstore hX6.v (by rfl) (by rfl) (by rfl) (by rfl) (by rfl) ?_)); exact bodyPost_ret (results_scr rfl rfl (hX6.res hX6.v)) rfl (hX6.fin hX6.v (by omega) (sty_md HS.out hm1 (ins_okC HS.out _ _ _ _ _ _))))
  · refine wp_scr_load hN.x.B rfl rfl ?_
    refine hK.out _ _ ?_ (fun hHeld => ?_)
    · ((try dsimp only); (first | exact ⟨c1, c16⟩ | exact ⟨hN.xw.1, hN.xw.2⟩ | exact ⟨hc5.1, hc5.2⟩ | exact hHeld))
    clear hK K
    simp only [st0, st1]
    refine hr_two (i := 0) (j := 10) rfl rfl rfl rfl (by kernel_rfl) (by kernel_rfl) (by kernel_rfl) (fun K hK => ?_) (fun K hK => ?_)
    · refine wp_scr_load hN.x.B rfl rfl ?_
      refine hK.out _ _ ?_ (fun hHeld => ?_)
      · ((try dsimp only); (first | exact ⟨c1, c16⟩ | exact ⟨hN.xw.1, hN.xw.2⟩ | exact ⟨hc5.1, hc5.2⟩ | exact hHeld))
      clear hK K
      simp only [st0, st1]
      refine hr_o 10 (fun K hK => ?_)
      (try go_simp)
      ((with_reducible refine (ground_c s _).mono ?_); rintro e w1 ⟨rfl, hg⟩; replace hg := hg.below; have hz1 := hN.sz; replace hN := hN.below hg)
      (try go_wp2_with fail)
      refine hK.out _ _ ?_ (fun hHeld => ?_)
      · ((try dsimp only); (first | exact ⟨c1, c16⟩ | exact ⟨hN.xw.1, hN.xw.2⟩ | exact ⟨hc5.1, hc5.2⟩ | exact hHeld))
      clear hK K
      simp only [st0, st1]
      refine hr_o 11 (fun K hK => ?_)
      (try go_simp)
      ((with_reducible refine (inserted_c s.x MM s.W 0 s.bg 0 _).mono ?_); rintro e w2 ⟨_, rfl, hg, b1, b2, b3, b4, rfl, hk1, hk2, hk3, hk4⟩; replace hN := hN.below hg; rw [← HXN.out] at hk1; rw [← HWQ.out] at hk3)
      (try go_wp2_with fail)
      refine hK.out _ _ ?_ (fun hHeld => ?_)
      · ((try dsimp only); (first | exact ⟨c1, c16⟩ | exact ⟨hN.xw.1, hN.xw.2⟩ | exact ⟨hc5.1, hc5.2⟩ | exact hHeld))
      clear hK K
      simp only [st0, st1]
      refine hr_o 12 (fun K hK => ?_)
      (try go_simp)
      (have hx : RdX encF (w2.alloc (.cells #[.func (.func 70) #[] #[.pointer (some ⟨b1, 0, none⟩), .pointer (some ⟨b2, 0, none⟩), .pointer (some ⟨b3, 0, none⟩), .pointer (some ⟨b4, 0, none⟩)]] 88)) (.slice (some ⟨w2.heap.size, 0, none⟩) 1 1) [⟨70, #[.pointer (some ⟨b1, 0, none⟩), .pointer (some ⟨b2, 0, none⟩), .pointer (some ⟨b3, 0, none⟩), .pointer (some ⟨b4, 0, none⟩)]⟩] := rdX_one (E := encF) _ _ _ _ _ rfl rfl; replace hk1 := hk1.alloc (.cells #[.func (.func 70) #[] #[.pointer (some ⟨b1, 0, none⟩), .pointer (some ⟨b2, 0, none⟩), .pointer (some ⟨b3, 0, none⟩), .pointer (some ⟨b4, 0, none⟩)]] 88); replace hk2 := hk2.alloc (.cells #[.func (.func 70) #[] #[.pointer (some ⟨b1, 0, none⟩), .pointer (some ⟨b2, 0, none⟩), .pointer (some ⟨b3, 0, none⟩), .pointer (some ⟨b4, 0, none⟩)]] 88); replace hk3 := hk3.alloc (.cells #[.func (.func 70) #[] #[.pointer (some ⟨b1, 0, none⟩), .pointer (some ⟨b2, 0, none⟩), .pointer (some ⟨b3, 0, none⟩), .pointer (some ⟨b4, 0, none⟩)]] 88); replace hk4 := hk4.alloc (.cells #[.func (.func 70) #[] #[.pointer (some ⟨b1, 0, none⟩), .pointer (some ⟨b2, 0, none⟩), .pointer (some ⟨b3, 0, none⟩), .pointer (some ⟨b4, 0, none⟩)]] 88); replace hN := hN.alloc (.cells #[.func (.func 70) #[] #[.pointer (some ⟨b1, 0, none⟩), .pointer (some ⟨b2, 0, none⟩), .pointer (some ⟨b3, 0, none⟩), .pointer (some ⟨b4, 0, none⟩)]] 88))
      (try go_wp2_with fail)
      refine hK.out _ _ ?_ (fun hHeld => ?_)
      · ((try dsimp only); (first | exact ⟨c1, c16⟩ | exact ⟨hN.xw.1, hN.xw.2⟩ | exact ⟨hc5.1, hc5.2⟩ | exact hHeld))
      clear hK K
      simp only [st0, st1]
      refine hr_o 13 (fun K hK => ?_)
      (try go_simp)
      ((with_reducible refine (onRow_1 ⟨s, F, zs, L⟩ _ s.W.toNat _ _ _ HS.out.bare hN.v.rd hx HWQ.out (inserted_step s.W.toNat s.x.toNat mm b1 b2 b3 b4 MM 0 s.bg 0 _ hk1 hk2 hk3 hk4 HPN.out HXW.out HMM.out)).mono ?_); intro e w3 hp; obtain ⟨S1, rfl, hN1, hV1, hm1, hz3⟩ := hN.post (by have := hN.sz; omega) hp; clear hN; have hN := hN1)
      (try go_wp2_with fail)
      refine hK.out _ _ ?_ (fun hHeld => ?_)
      · ((try dsimp only); (first | exact ⟨c1, c16⟩ | exact ⟨hN.xw.1, hN.xw.2⟩ | exact ⟨hc5.1, hc5.2⟩ | exact hHeld))
      clear hK K
      simp only [st0, st1]
      refine hr_op0 (i := 14) rfl (by kernel_rfl) (by kernel_rfl) (fun K hK => ?_)
      (refine wp_scr_store S1.s hN.x.B.isScr rfl rfl rfl rfl ?_; generalize hW5 : World.setRow _ _ _ = W5; have hN2 : WS w.heap.size (w.heap.size + 1) 2 ⟨s, F, zs, L⟩ w W5 S1 := hW5 ▸ hN.row (by omega) hV1; obtain ⟨hxx, hww⟩ := setR_xw hm1; have hc5 := hN2.xw; rw [hxx, hww] at hc5; clear hW5 hxx hww)
      refine hK.out _ ?_ (fun hHeld => ?_)
      · ((try dsimp only); (first | exact ⟨c1, c16⟩ | exact ⟨hN.xw.1, hN.xw.2⟩ | exact ⟨hc5.1, hc5.2⟩ | exact hHeld))
      clear hK K
      refine hr_done (by kernel_rfl) ?_
      (have hz5 := hN2.sz; have rS := SBlk.isScr hN2.x.B; have rL := SBlk.cells hN2.x.B; have rZ := IsScr.lt rS; go_upto_region 5 with fail; clear rS rL rZ; generalize hW6 : World.setCell _ _ _ = W6; have hX6 : WS w.heap.size (w.heap.size + 1) 2 ⟨s, F, zs, L⟩ w W6 ⟨{ S1.s with wr := false }, S1.F, S1.zs, S1.L⟩ := hW6 ▸ hN2.cell (by omega) 3 _ (fun v => ⟨v.rd, v.out, v.gen⟩) rfl; clear hW6; go_wp2_with (first | (refine hX6.wload rfl rfl rfl ?_) | (refine hX6.wstore hX6.v (by rfl) (by rfl) (by rfl) (by rfl) (by rfl) ?_)); exact bodyPost_ret (results_scr rfl rfl (hX6.res hX6.v)) rfl (hX6.fin hX6.v (by omega) (sty_md HS.out hm1 (ins_okC HS.out _ _ _ _ _ _))))
    · (try go_simp)
      ((with_reducible refine (ground_c s _).mono ?_); rintro e w1 ⟨rfl, hg⟩; replace hg := hg.below; have hz1 := hN.sz; replace hN := hN.below hg)
      (try go_wp2_with fail)
      refine hK.out _ _ ?_ (fun hHeld => ?_)
      · ((try dsimp only); (first | exact ⟨c1, c16⟩ | exact ⟨hN.xw.1, hN.xw.2⟩ | exact ⟨hc5.1, hc5.2⟩ | exact hHeld))
      clear hK K
      simp only [st0, st1]
      refine hr_two (i := 0) (j := 11) rfl rfl rfl rfl (by kernel_rfl) (by kernel_rfl) (by kernel_rfl) (fun K hK => ?_) (fun K hK => ?_)
      · refine wp_scr_load hN.x.B rfl rfl ?_
        refine hK.out _ _ ?_ (fun hHeld => ?_)
        · ((try dsimp only); (first | exact ⟨c1, c16⟩ | exact ⟨hN.xw.1, hN.xw.2⟩ | exact ⟨hc5.1, hc5.2⟩ | exact hHeld))
        clear hK K
        simp only [st0, st1]
        refine hr_o 11 (fun K hK => ?_)
        (try go_simp)
        ((with_reducible refine (inserted_c s.x MM s.W 0 s.bg 0 _).mono ?_); rintro e w2 ⟨_, rfl, hg, b1, b2, b3, b4, rfl, hk1, hk2, hk3, hk4⟩; replace hN := hN.below hg; rw [← HXN.out] at hk1; rw [← HWQ.out] at hk3)
        (try go_wp2_with fail)
        refine hK.out _ _ ?_ (fun hHeld => ?_)
        · ((try dsimp only); (first | exact ⟨c1, c16⟩ | exact ⟨hN.xw.1, hN.xw.2⟩ | exact ⟨hc5.1, hc5.2⟩ | exact hHeld))
        clear hK K
        simp only [st0, st1]
        refine hr_o 12 (fun K hK => ?_)
        (try go_simp)
        (have hx : RdX encF (w2.alloc (.cells #[.func (.func 70) #[] #[.pointer (some ⟨b1, 0, none⟩), .pointer (some ⟨b2, 0, none⟩), .pointer (some ⟨b3, 0, none⟩), .pointer (some ⟨b4, 0, none⟩)]] 88)) (.slice (some ⟨w2.heap.size, 0, none⟩) 1 1) [⟨70, #[.pointer (some ⟨b1, 0, none⟩), .pointer (some ⟨b2, 0, none⟩), .pointer (some ⟨b3, 0, none⟩), .pointer (some ⟨b4, 0, none⟩)]⟩] := rdX_one (E := encF) _ _ _ _ _ rfl rfl; replace hk1 := hk1.alloc (.cells #[.func (.func 70) #[] #[.pointer (some ⟨b1, 0, none⟩), .pointer (some ⟨b2, 0, none⟩), .pointer (some ⟨b3, 0, none⟩), .pointer (some ⟨b4, 0, none⟩)]] 88); replace hk2 := hk2.alloc (.cells #[.func (.func 70) #[] #[.pointer (some ⟨b1, 0, none⟩), .pointer (some ⟨b2, 0, none⟩), .pointer (some ⟨b3, 0, none⟩), .pointer (some ⟨b4, 0, none⟩)]] 88); replace hk3 := hk3.alloc (.cells #[.func (.func 70) #[] #[.pointer (some ⟨b1, 0, none⟩), .pointer (some ⟨b2, 0, none⟩), .pointer (some ⟨b3, 0, none⟩), .pointer (some ⟨b4, 0, none⟩)]] 88); replace hk4 := hk4.alloc (.cells #[.func (.func 70) #[] #[.pointer (some ⟨b1, 0, none⟩), .pointer (some ⟨b2, 0, none⟩), .pointer (some ⟨b3, 0, none⟩), .pointer (some ⟨b4, 0, none⟩)]] 88); replace hN := hN.alloc (.cells #[.func (.func 70) #[] #[.pointer (some ⟨b1, 0, none⟩), .pointer (some ⟨b2, 0, none⟩), .pointer (some ⟨b3, 0, none⟩), .pointer (some ⟨b4, 0, none⟩)]] 88))
        (try go_wp2_with fail)
        refine hK.out _ _ ?_ (fun hHeld => ?_)
        · ((try dsimp only); (first | exact ⟨c1, c16⟩ | exact ⟨hN.xw.1, hN.xw.2⟩ | exact ⟨hc5.1, hc5.2⟩ | exact hHeld))
        clear hK K
        simp only [st0, st1]
        refine hr_o 13 (fun K hK => ?_)
        (try go_simp)
        ((with_reducible refine (onRow_1 ⟨s, F, zs, L⟩ _ s.W.toNat _ _ _ HS.out.bare hN.v.rd hx HWQ.out (inserted_step s.W.toNat s.x.toNat mm b1 b2 b3 b4 MM 0 s.bg 0 _ hk1 hk2 hk3 hk4 HPN.out HXW.out HMM.out)).mono ?_); intro e w3 hp; obtain ⟨S1, rfl, hN1, hV1, hm1, hz3⟩ := hN.post (by have := hN.sz; omega) hp; clear hN; have hN := hN1)
        (try go_wp2_with fail)
        refine hK.out _ _ ?_ (fun hHeld => ?_)
        · ((try dsimp only); (first | exact ⟨c1, c16⟩ | exact ⟨hN.xw.1, hN.xw.2⟩ | exact ⟨hc5.1, hc5.2⟩ | exact hHeld))
        clear hK K
        simp only [st0, st1]
        refine hr_op0 (i := 14) rfl (by kernel_rfl) (by kernel_rfl) (fun K hK => ?_)
        (refine wp_scr_store S1.s hN.x.B.isScr rfl rfl rfl rfl ?_; generalize hW5 : World.setRow _ _ _ = W5; have hN2 : WS w.heap.size (w.heap.size + 1) 2 ⟨s, F, zs, L⟩ w W5 S1 := hW5 ▸ hN.row (by omega) hV1; obtain ⟨hxx, hww⟩ := setR_xw hm1; have hc5 := hN2.xw; rw [hxx, hww] at hc5; clear hW5 hxx hww)
        refine hK.out _ ?_ (fun hHeld => ?_)
        · ((try dsimp only); (first | exact ⟨c1, c16⟩ | exact ⟨hN.xw.1, hN.xw.2⟩ | exact ⟨hc5.1, hc5.2⟩ | exact hHeld))
        clear hK K
        refine hr_done (by kernel_rfl) ?_
        (have hz5 := hN2.sz; have rS := SBlk.isScr hN2.x.B; have rL := SBlk.cells hN2.x.B; have rZ := IsScr.lt rS; go_upto_region 5 with fail; clear rS rL rZ; generalize hW6 : World.setCell _ _ _ = W6; have hX6 : WS w.heap.size (w.heap.size + 1) 2 ⟨s, F, zs, L⟩ w W6 ⟨{ S1.s with wr := false }, S1.F, S1.zs, S1.L⟩ := hW6 ▸ hN2.cell (by omega) 3 _ (fun v => ⟨v.rd, v.out, v.gen⟩) rfl; clear hW6; go_wp2_with (first | (refine hX6.wload rfl rfl rfl ?_) | (refine hX6.wstore hX6.v (by rfl) (by rfl) (by rfl) (by rfl) (by rfl) ?_)); exact bodyPost_ret (results_scr rfl rfl (hX6.res hX6.v)) rfl (hX6.fin hX6.v (by omega) (sty_md HS.out hm1 (ins_okC HS.out _ _ _ _ _ _))))
      · (try go_simp)
        ((with_reducible refine (inserted_c s.x MM s.W 0 s.bg 0 _).mono ?_); rintro e w2 ⟨_, rfl, hg, b1, b2, b3, b4, rfl, hk1, hk2, hk3, hk4⟩; replace hN := hN.below hg; rw [← HXN.out] at hk1; rw [← HWQ.out] at hk3)
        (try go_wp2_with fail)
        refine hK.out _ _ ?_ (fun hHeld => ?_)
        · ((try dsimp only); (first | exact ⟨c1, c16⟩ | exact ⟨hN.xw.1, hN.xw.2⟩ | exact ⟨hc5.1, hc5.2⟩ | exact hHeld))
        clear hK K
        simp only [st0, st1]
        refine hr_two (i := 0) (j := 12) rfl rfl rfl rfl (by kernel_rfl) (by kernel_rfl) (by kernel_rfl) (fun K hK => ?_) (fun K hK => ?_)
        · refine wp_scr_load hN.x.B rfl rfl ?_
          refine hK.out _ _ ?_ (fun hHeld => ?_)
          · ((try dsimp only); (first | exact ⟨c1, c16⟩ | exact ⟨hN.xw.1, hN.xw.2⟩ | exact ⟨hc5.1, hc5.2⟩ | exact hHeld))
          clear hK K
          simp only [st0, st1]
          refine hr_o 12 (fun K hK => ?_)
          (try go_simp)
          (have hx : RdX encF (w2.alloc (.cells #[.func (.func 70) #[] #[.pointer (some ⟨b1, 0, none⟩), .pointer (some ⟨b2, 0, none⟩), .pointer (some ⟨b3, 0, none⟩), .pointer (some ⟨b4, 0, none⟩)]] 88)) (.slice (some ⟨w2.heap.size, 0, none⟩) 1 1) [⟨70, #[.pointer (some ⟨b1, 0, none⟩), .pointer (some ⟨b2, 0, none⟩), .pointer (some ⟨b3, 0, none⟩), .pointer (some ⟨b4, 0, none⟩)]⟩] := rdX_one (E := encF) _ _ _ _ _ rfl rfl; replace hk1 := hk1.alloc (.cells #[.func (.func 70) #[] #[.pointer (some ⟨b1, 0, none⟩), .pointer (some ⟨b2, 0, none⟩), .pointer (some ⟨b3, 0, none⟩), .pointer (some ⟨b4, 0, none⟩)]] 88); replace hk2 := hk2.alloc (.cells #[.func (.func 70) #[] #[.pointer (some ⟨b1, 0, none⟩), .pointer (some ⟨b2, 0, none⟩), .pointer (some ⟨b3, 0, none⟩), .pointer (some ⟨b4, 0, none⟩)]] 88); replace hk3 := hk3.alloc (.cells #[.func (.func 70) #[] #[.pointer (some ⟨b1, 0, none⟩), .pointer (some ⟨b2, 0, none⟩), .pointer (some ⟨b3, 0, none⟩), .pointer (some ⟨b4, 0, none⟩)]] 88); replace hk4 := hk4.alloc (.cells #[.func (.func 70) #[] #[.pointer (some ⟨b1, 0, none⟩), .pointer (some ⟨b2, 0, none⟩), .pointer (some ⟨b3, 0, none⟩), .pointer (some ⟨b4, 0, none⟩)]] 88); replace hN := hN.alloc (.cells #[.func (.func 70) #[] #[.pointer (some ⟨b1, 0, none⟩), .pointer (some ⟨b2, 0, none⟩), .pointer (some ⟨b3, 0, none⟩), .pointer (some ⟨b4, 0, none⟩)]] 88))
          (try go_wp2_with fail)
          refine hK.out _ _ ?_ (fun hHeld => ?_)
          · ((try dsimp only); (first | exact ⟨c1, c16⟩ | exact ⟨hN.xw.1, hN.xw.2⟩ | exact ⟨hc5.1, hc5.2⟩ | exact hHeld))
          clear hK K
          simp only [st0, st1]
          refine hr_o 13 (fun K hK => ?_)
          (try go_simp)
          ((with_reducible refine (onRow_1 ⟨s, F, zs, L⟩ _ s.W.toNat _ _ _ HS.out.bare hN.v.rd hx HWQ.out (inserted_step s.W.toNat s.x.toNat mm b1 b2 b3 b4 MM 0 s.bg 0 _ hk1 hk2 hk3 hk4 HPN.out HXW.out HMM.out)).mono ?_); intro e w3 hp; obtain ⟨S1, rfl, hN1, hV1, hm1, hz3⟩ := hN.post (by have := hN.sz; omega) hp; clear hN; have hN := hN1)
          (try go_wp2_with fail)
          refine hK.out _ _ ?_ (fun hHeld => ?_)
          · ((try dsimp only); (first | exact ⟨c1, c16⟩ | exact ⟨hN.xw.1, hN.xw.2⟩ | exact ⟨hc5.1, hc5.2⟩ | exact hHeld))
          clear hK K
          simp only [st0, st1]
          refine hr_op0 (i := 14) rfl (by kernel_rfl) (by kernel_rfl) (fun K hK => ?_)
          (refine wp_scr_store S1.s hN.x.B.isScr rfl rfl rfl rfl ?_; generalize hW5 : World.setRow _ _ _ = W5; have hN2 : WS w.heap.size (w.heap.size + 1) 2 ⟨s, F, zs, L⟩ w W5 S1 := hW5 ▸ hN.row (by omega) hV1; obtain ⟨hxx, hww⟩ := setR_xw hm1; have hc5 := hN2.xw; rw [hxx, hww] at hc5; clear hW5 hxx hww)
          refine hK.out _ ?_ (fun hHeld => ?_)
          · ((try dsimp only); (first | exact ⟨c1, c16⟩ | exact ⟨hN.xw.1, hN.xw.2⟩ | exact ⟨hc5.1, hc5.2⟩ | exact hHeld))
          clear hK K
          refine hr_done (by kernel_rfl) ?_
          (have hz5 := hN2.sz; have rS := SBlk.isScr hN2.x.B; have rL := SBlk.cells hN2.x.B; have rZ := IsScr.lt rS; go_upto_region 5 with fail; clear rS rL rZ; generalize hW6 : World.setCell _ _ _ = W6; have hX6 : WS w.heap.size (w.heap.size + 1) 2 ⟨s, F, zs, L⟩ w W6 ⟨{ S1.s with wr := false }, S1.F, S1.zs, S1.L⟩ := hW6 ▸ hN2.cell (by omega) 3 _ (fun v => ⟨v.rd, v.out, v.gen⟩) rfl; clear hW6; go_wp2_with (first | (refine hX6.wload rfl rfl rfl ?_) | (refine hX6.wstore hX6.v (by rfl) (by rfl) (by rfl) (by rfl) (by rfl) ?_)); exact bodyPost_ret (results_scr rfl rfl (hX6.res hX6.v)) rfl (hX6.fin hX6.v (by omega) (sty_md HS.out hm1 (ins_okC HS.out _ _ _ _ _ _))))
        · (try go_simp)
          (have hx : RdX encF (w2.alloc (.cells #[.func (.func 70) #[] #[.pointer (some ⟨b1, 0, none⟩), .pointer (some ⟨b2, 0, none⟩), .pointer (some ⟨b3, 0, none⟩), .pointer (some ⟨b4, 0, none⟩)]] 88)) (.slice (some ⟨w2.heap.size, 0, none⟩) 1 1) [⟨70, #[.pointer (some ⟨b1, 0, none⟩), .pointer (some ⟨b2, 0, none⟩), .pointer (some ⟨b3, 0, none⟩), .pointer (some ⟨b4, 0, none⟩)]⟩] := rdX_one (E := encF) _ _ _ _ _ rfl rfl; replace hk1 := hk1.alloc (.cells #[.func (.func 70) #[] #[.pointer (some ⟨b1, 0, none⟩), .pointer (some ⟨b2, 0, none⟩), .pointer (some ⟨b3, 0, none⟩), .pointer (some ⟨b4, 0, none⟩)]] 88); replace hk2 := hk2.alloc (.cells #[.func (.func 70) #[] #[.pointer (some ⟨b1, 0, none⟩), .pointer (some ⟨b2, 0, none⟩), .pointer (some ⟨b3, 0, none⟩), .pointer (some ⟨b4, 0, none⟩)]] 88); replace hk3 := hk3.alloc (.cells #[.func (.func 70) #[] #[.pointer (some ⟨b1, 0, none⟩), .pointer (some ⟨b2, 0, none⟩), .pointer (some ⟨b3, 0, none⟩), .pointer (some ⟨b4, 0, none⟩)]] 88); replace hk4 := hk4.alloc (.cells #[.func (.func 70) #[] #[.pointer (some ⟨b1, 0, none⟩), .pointer (some ⟨b2, 0, none⟩), .pointer (some ⟨b3, 0, none⟩), .pointer (some ⟨b4, 0, none⟩)]] 88); replace hN := hN.alloc (.cells #[.func (.func 70) #[] #[.pointer (some ⟨b1, 0, none⟩), .pointer (some ⟨b2, 0, none⟩), .pointer (some ⟨b3, 0, none⟩), .pointer (some ⟨b4, 0, none⟩)]] 88))
          (try go_wp2_with fail)
          refine hK.out _ _ ?_ (fun hHeld => ?_)
          · ((try dsimp only); (first | exact ⟨c1, c16⟩ | exact ⟨hN.xw.1, hN.xw.2⟩ | exact ⟨hc5.1, hc5.2⟩ | exact hHeld))
          clear hK K
          simp only [st0, st1]
          refine hr_o 0 (fun K hK => ?_)
          refine wp_scr_load hN.x.B rfl rfl ?_
          refine hK.out _ _ ?_ (fun hHeld => ?_)
          · ((try dsimp only); (first | exact ⟨c1, c16⟩ | exact ⟨hN.xw.1, hN.xw.2⟩ | exact ⟨hc5.1, hc5.2⟩ | exact hHeld))
          clear hK K
          simp only [st0, st1]
          refine hr_o 13 (fun K hK => ?_)
          (try go_simp)
          ((with_reducible refine (onRow_1 ⟨s, F, zs, L⟩ _ s.W.toNat _ _ _ HS.out.bare hN.v.rd hx HWQ.out (inserted_step s.W.toNat s.x.toNat mm b1 b2 b3 b4 MM 0 s.bg 0 _ hk1 hk2 hk3 hk4 HPN.out HXW.out HMM.out)).mono ?_); intro e w3 hp; obtain ⟨S1, rfl, hN1, hV1, hm1, hz3⟩ := hN.post (by have := hN.sz; omega) hp; clear hN; have hN := hN1)
          (try go_wp2_with fail)
          refine hK.out _ _ ?_ (fun hHeld => ?_)
          · ((try dsimp only); (first | exact ⟨c1, c16⟩ | exact ⟨hN.xw.1, hN.xw.2⟩ | exact ⟨hc5.1, hc5.2⟩ | exact hHeld))
          clear hK K
          simp only [st0, st1]
          refine hr_op0 (i := 14) rfl (by kernel_rfl) (by kernel_rfl) (fun K hK => ?_)
          (refine wp_scr_store S1.s hN.x.B.isScr rfl rfl rfl rfl ?_; generalize hW5 : World.setRow _ _ _ = W5; have hN2 : WS w.heap.size (w.heap.size + 1) 2 ⟨s, F, zs, L⟩ w W5 S1 := hW5 ▸ hN.row (by omega) hV1; obtain ⟨hxx, hww⟩ := setR_xw hm1; have hc5 := hN2.xw; rw [hxx, hww] at hc5; clear hW5 hxx hww)
          refine hK.out _ ?_ (fun hHeld => ?_)
          · ((try dsimp only); (first | exact ⟨c1, c16⟩ | exact ⟨hN.xw.1, hN.xw.2⟩ | exact ⟨hc5.1, hc5.2⟩ | exact hHeld))
          clear hK K
          refine hr_done (by kernel_rfl) ?_
          (have hz5 := hN2.sz; have rS := SBlk.isScr hN2.x.B; have rL := SBlk.cells hN2.x.B; have rZ := IsScr.lt rS; go_upto_region 5 with fail; clear rS rL rZ; generalize hW6 : World.setCell _ _ _ = W6; have hX6 : WS w.heap.size (w.heap.size + 1) 2 ⟨s, F, zs, L⟩ w W6 ⟨{ S1.s with wr := false }, S1.F, S1.zs, S1.L⟩ := hW6 ▸ hN2.cell (by omega) 3 _ (fun v => ⟨v.rd, v.out, v.gen⟩) rfl; clear hW6; go_wp2_with (first | (refine hX6.wload rfl rfl rfl ?_) | (refine hX6.wstore hX6.v (by rfl) (by rfl) (by rfl) (by rfl) (by rfl) ?_)); exact bodyPost_ret (results_scr rfl rfl (hX6.res hX6.v)) rfl (hX6.fin hX6.v (by omega) (sty_md HS.out hm1 (ins_okC HS.out _ _ _ _ _ _))))
end Go.Proofs.YtlchffkabpfjpaaGreat.Scr
