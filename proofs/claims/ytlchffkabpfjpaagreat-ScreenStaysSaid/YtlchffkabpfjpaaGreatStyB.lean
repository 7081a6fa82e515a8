/- screen.eraseLine. -/
import Derived.Test.YtlchffkabpfjpaaGreatStyA
namespace Go.Proofs.YtlchffkabpfjpaaGreat.Scr
open Go.RowKit Go.Proofs.YtlchffkabpfjpaaGreat.Row
attribute [local go_sem ↓] scr_load_pre scr_store_pre
attribute [local go_sem] scr_cell scr_frozen
/-- the row under the cursor is another one, of the screen that is at hand -/
def RowNew (S : Sn) (w : World) (c : Ct) (wc : World) : Prop := ∃ S1 : Sn, WS w.heap.size (w.heap.size + 1) 2 S w wc S1 ∧ S1.md = S.md.setR c
theorem WS.xw {g r k : Nat} {S0 S : Sn} {w W : World} (h : WS g r k S0 w W S) : W.cell? ⟨g, 1, none⟩ = some (.int .i64 S.s.x) ∧ W.cell? ⟨g, 16, none⟩ = some (.int .i64 S.s.W) := ⟨Blk.cell h.x.B 1, Blk.cell h.x.B 16⟩
theorem setR_xw {S S1 : Sn} {c : Ct} (h : S1.md = S.md.setR c) : S1.s.x = S.s.x ∧ S1.s.W = S.s.W := ⟨congrArg Md.x h, congrArg Md.W h⟩
theorem wr_md {S1 : Sn} {m : Md} (h : S1.md = m) : Sn.md ⟨{ S1.s with wr := false }, S1.F, S1.zs, S1.L⟩ = { m with wr := false } := by
  rw [← h]
  rfl
theorem rdX_two (w : World) (v v' : Fv) : RdX encF (w.alloc (.cells #[v.val, v'.val] 88)) (.slice (some ⟨w.heap.size, 0, none⟩) 2 2) [v, v'] :=
  (ownX_lits (E := encF) w 0 88 w.heap.size 2 [v, v'] _ rfl rfl (by decide) rfl (Nat.zero_le _)).rd
theorem WS.step {S : Sn} {W W1 : World} {Φ : Md → Prop} {e : Ending} (hp : SPost S W Φ e W1) : Below W.heap.size W W1 := by
  obtain ⟨_, _, h, _⟩ := hp
  exact h
set_option maxRecDepth 100000 in
set_option maxHeartbeats 4000000 in
theorem eraseLine_0 (S : Sn) (w : World) (hs : S.md.Ok) (hr : S.rd w) : Calls Tryz.prog 50 #[.agg #[.slice S.s.gA S.s.gn S.s.gc, .int .i64 S.s.x, .int .i64 S.s.y, .bool S.s.wr, .bool S.s.og, .int .i64 S.s.fg, .int .i64 S.s.bg, .int .i64 S.s.fl, .int .u8 S.s.g0, .int .u8 S.s.g1, .int .u8 S.s.g2, .int .u8 S.s.g3, .int .i64 S.s.gl, .int .i64 S.s.gr, .int .i64 S.s.on, .int .i64 S.s.H, .int .i64 S.s.W, .int .i64 S.s.T, .int .i64 S.s.B, .slice S.s.tA S.s.tn S.s.tc, .int .i64 S.s.tw, .slice S.s.kA S.s.kn S.s.kc, .int .i64 S.s.kp, .int .i64 S.s.dir, .bool S.s.ex], .int .i64 0] w (SPost S w (fun m => m = { S.md.setR (wrapC false (ersC S.s.x.toNat S.s.W.toNat 0 S.s.bg 0 S.md.here)) with wr := false })) := by
  have HR := Lib.hid hr
  have HS := Lib.hid hs
  obtain ⟨s, F, zs, L⟩ := S
  have hf := hs.cf
  simp only [Sn.md] at hf
  have HWQ := Lib.hid (show ((s.W.toNat : Nat) : Int) = s.W by have := hf.w1; omega)
  have HPN := Lib.hid (show penB 0 s.bg 0 = true from hs.ground)
  have HF0 := Lib.hid (show max 0 (min s.x ((s.W.toNat : Nat) : Int)) = ((s.x.toNat : Nat) : Int) by have := hf.w1; have := hf.x0; have := hf.x1; omega)
  have HT0 := Lib.hid (show max ((s.x.toNat : Nat) : Int) (max 0 (min s.W ((s.W.toNat : Nat) : Int))) = ((s.W.toNat : Nat) : Int) by have := hf.w1; have := hf.x0; have := hf.x1; omega)
  clear hr hs hf
  dsimp only at *
  go_enter Tryz.func50, Tryz.ntmps50
  go_upto_region 1 with fail
  generalize hW : (w.alloc _).alloc _ = W; have hX : WS w.heap.size (w.heap.size + 1) 2 ⟨s, F, zs, L⟩ w W ⟨s, F, zs, L⟩ := hW ▸ WS.start HR.out; clear hW
  have hz := hX.sz
  go_upto_region 2 with (first | (refine hX.wload rfl rfl rfl ?_) | ((with_reducible refine (ground_c s _).mono ?_); rintro e w1 ⟨rfl, hg⟩; replace hg := hg.below))
  generalize hW1 : w1.alloc _ = W1
  have hX1 : WS w.heap.size (w.heap.size + 1) 2 ⟨s, F, zs, L⟩ w W1 ⟨s, F, zs, L⟩ := by rw [← hW1]; exact (hX.below hg).alloc _
  have hPB : Blk W1 w1.heap.size 26 #[.int .i64 0, .int .i64 s.bg, .int .i64 0] := by rw [← hW1]; exact Blk.new _ _ _
  have hhp : w.heap.size + 2 ≤ w1.heap.size := by have := hg.size; omega
  clear hW1 hX hz hg
  generalize w1.heap.size = pb at *
  generalize (.agg #[.slice s.gA s.gn s.gc, .int .i64 s.x, .int .i64 s.y, .bool s.wr, .bool s.og, .int .i64 s.fg, .int .i64 s.bg, .int .i64 s.fl, .int .u8 s.g0, .int .u8 s.g1, .int .u8 s.g2, .int .u8 s.g3, .int .i64 s.gl, .int .i64 s.gr, .int .i64 s.on, .int .i64 s.H, .int .i64 s.W, .int .i64 s.T, .int .i64 s.B, .slice s.tA s.tn s.tc, .int .i64 s.tw, .slice s.kA s.kn s.kc, .int .i64 s.kp, .int .i64 s.dir, .bool s.ex] : Value) = V0
  go_upto_region 5 with fail
  obtain ⟨c1, c16⟩ := hX1.xw
  have hN := hX1.drew
  replace hPB : Blk W1.drew pb 26 #[.int .i64 0, .int .i64 s.bg, .int .i64 0] := hPB
  refine hr_start (S := (fun w' => w'.cell? ⟨w.heap.size, 1, none⟩ = some (.int .i64 s.x) ∧ w'.cell? ⟨w.heap.size, 16, none⟩ = some (.int .i64 s.W) ∧ Blk w' pb 26 #[.int .i64 0, .int .i64 s.bg, .int .i64 0])) (by kernel_rfl) rfl ?_ (fun hHeld => ?_)
  · ((try dsimp only); (first | exact ⟨c1, c16, hPB⟩ | exact ⟨hN.xw.1, hN.xw.2, hPB⟩ | exact ⟨hc5.1, hc5.2, hPB5⟩ | exact hHeld))
  refine hr_t 1 (v := ?_) ?_ ?_
  rotate_left
  focus (intro wS hSw; (obtain ⟨q1, q16, qP⟩ := hSw; obtain ⟨d0, d1, d2, df, dl⟩ := qP.facts3); go_simp; (try with_reducible rfl))
  simp only [st0, st1]
  refine hr_t 2 (v := ?_) ?_ ?_
  rotate_left
  focus (intro wS hSw; (obtain ⟨q1, q16, qP⟩ := hSw; obtain ⟨d0, d1, d2, df, dl⟩ := qP.facts3); go_simp; (try with_reducible rfl))
  simp only [st0, st1]
  refine hr_t 3 (v := ?_) ?_ ?_
  rotate_left
  focus (intro wS hSw; (obtain ⟨q1, q16, qP⟩ := hSw; obtain ⟨d0, d1, d2, df, dl⟩ := qP.facts3); go_simp; (try with_reducible rfl))
  simp only [st0, st1]
  refine hr_t 4 (v := ?_) ?_ ?_
  rotate_left
  focus (intro wS hSw; (obtain ⟨q1, q16, qP⟩ := hSw; obtain ⟨d0, d1, d2, df, dl⟩ := qP.facts3); go_simp; (try with_reducible rfl))
  simp only [st0, st1]
  refine hr_t 5 (v := ?_) ?_ ?_
  rotate_left
  focus (intro wS hSw; (obtain ⟨q1, q16, qP⟩ := hSw; obtain ⟨d0, d1, d2, df, dl⟩ := qP.facts3); go_simp; (try with_reducible rfl))
  simp only [st0, st1]
  refine hr_t 6 (v := ?_) ?_ ?_
  rotate_left
  focus (intro wS hSw; (obtain ⟨q1, q16, qP⟩ := hSw; obtain ⟨d0, d1, d2, df, dl⟩ := qP.facts3); go_simp; (try with_reducible rfl))
  simp only [st0, st1]
  refine hr_t 7 (v := ?_) ?_ ?_
  rotate_left
  focus (intro wS hSw; (obtain ⟨q1, q16, qP⟩ := hSw; obtain ⟨d0, d1, d2, df, dl⟩ := qP.facts3); go_simp; (try with_reducible rfl))
  simp only [st0, st1]
  refine hr_two (i := 0) (j := 8) rfl rfl rfl rfl (by kernel_rfl) (by kernel_rfl) (by kernel_rfl) (fun K hK => ?_) (fun K hK => ?_)
  · refine wp_scr_load hN.x.B rfl rfl ?_
    refine hK.out _ _ ?_ (fun hHeld => ?_)
    · ((try dsimp only); (first | exact ⟨c1, c16, hPB⟩ | exact ⟨hN.xw.1, hN.xw.2, hPB⟩ | exact ⟨hc5.1, hc5.2, hPB5⟩ | exact hHeld))
    clear hK K
    simp only [st0, st1]
    refine hr_o 8 (fun K hK => ?_)
    (try go_simp)
    ((with_reducible refine (erased_c s.x s.W 0 s.bg 0 _).mono ?_); rintro e w1 ⟨_, rfl, hg, b1, b2, b3, rfl, hk1, hk2, hk3⟩; have hz1 := hN.sz; replace hN := hN.below hg; replace hPB := hPB.below hg hPB.lt)
    (try go_wp2_with fail)
    refine hK.out _ _ ?_ (fun hHeld => ?_)
    · ((try dsimp only); (first | exact ⟨c1, c16, hPB⟩ | exact ⟨hN.xw.1, hN.xw.2, hPB⟩ | exact ⟨hc5.1, hc5.2, hPB5⟩ | exact hHeld))
    clear hK K
    simp only [st0, st1]
    refine hr_o 9 (fun K hK => ?_)
    (try go_simp)
    ((with_reducible refine (wraps_c false _).mono ?_); rintro e w2 ⟨_, rfl, hg, b4, rfl, hk4⟩; replace hN := hN.below hg; replace hPB := hPB.below hg hPB.lt; replace hk1 := hk1.below hg hk1.lt; replace hk2 := hk2.below hg hk2.lt; replace hk3 := hk3.below hg hk3.lt)
    (try go_wp2_with fail)
    refine hK.out _ _ ?_ (fun hHeld => ?_)
    · ((try dsimp only); (first | exact ⟨c1, c16, hPB⟩ | exact ⟨hN.xw.1, hN.xw.2, hPB⟩ | exact ⟨hc5.1, hc5.2, hPB5⟩ | exact hHeld))
    clear hK K
    simp only [st0, st1]
    refine hr_o 10 (fun K hK => ?_)
    (try go_simp)
    (have hx : RdX encF (w2.alloc (.cells #[.func (.func 85) #[] #[.pointer (some ⟨b1, 0, none⟩), .pointer (some ⟨b2, 0, none⟩), .pointer (some ⟨b3, 0, none⟩)], .func (.func 101) #[] #[.pointer (some ⟨b4, 0, none⟩)]] 88)) (.slice (some ⟨w2.heap.size, 0, none⟩) 2 2) [⟨85, #[.pointer (some ⟨b1, 0, none⟩), .pointer (some ⟨b2, 0, none⟩), .pointer (some ⟨b3, 0, none⟩)]⟩, ⟨101, #[.pointer (some ⟨b4, 0, none⟩)]⟩] := rdX_two _ _ _; replace hk1 := hk1.alloc (.cells #[.func (.func 85) #[] #[.pointer (some ⟨b1, 0, none⟩), .pointer (some ⟨b2, 0, none⟩), .pointer (some ⟨b3, 0, none⟩)], .func (.func 101) #[] #[.pointer (some ⟨b4, 0, none⟩)]] 88); replace hk2 := hk2.alloc (.cells #[.func (.func 85) #[] #[.pointer (some ⟨b1, 0, none⟩), .pointer (some ⟨b2, 0, none⟩), .pointer (some ⟨b3, 0, none⟩)], .func (.func 101) #[] #[.pointer (some ⟨b4, 0, none⟩)]] 88); replace hk3 := hk3.alloc (.cells #[.func (.func 85) #[] #[.pointer (some ⟨b1, 0, none⟩), .pointer (some ⟨b2, 0, none⟩), .pointer (some ⟨b3, 0, none⟩)], .func (.func 101) #[] #[.pointer (some ⟨b4, 0, none⟩)]] 88); replace hk4 := hk4.alloc (.cells #[.func (.func 85) #[] #[.pointer (some ⟨b1, 0, none⟩), .pointer (some ⟨b2, 0, none⟩), .pointer (some ⟨b3, 0, none⟩)], .func (.func 101) #[] #[.pointer (some ⟨b4, 0, none⟩)]] 88); replace hPB := hPB.alloc (.cells #[.func (.func 85) #[] #[.pointer (some ⟨b1, 0, none⟩), .pointer (some ⟨b2, 0, none⟩), .pointer (some ⟨b3, 0, none⟩)], .func (.func 101) #[] #[.pointer (some ⟨b4, 0, none⟩)]] 88); replace hN := hN.alloc (.cells #[.func (.func 85) #[] #[.pointer (some ⟨b1, 0, none⟩), .pointer (some ⟨b2, 0, none⟩), .pointer (some ⟨b3, 0, none⟩)], .func (.func 101) #[] #[.pointer (some ⟨b4, 0, none⟩)]] 88))
    (try go_wp2_with fail)
    refine hK.out _ _ ?_ (fun hHeld => ?_)
    · ((try dsimp only); (first | exact ⟨c1, c16, hPB⟩ | exact ⟨hN.xw.1, hN.xw.2, hPB⟩ | exact ⟨hc5.1, hc5.2, hPB5⟩ | exact hHeld))
    clear hK K
    simp only [st0, st1]
    refine hr_o 11 (fun K hK => ?_)
    (try go_simp)
    ((with_reducible refine (onRow_2 ⟨s, F, zs, L⟩ _ s.W.toNat _ _ _ _ _ HS.out.bare hN.v.rd hx HWQ.out (erased_step s.W.toNat s.x.toNat s.W.toNat b1 b2 b3 _ _ _ _ _ _ hk1 hk2 hk3 HPN.out HF0.out HT0.out) (wraps_step false b4 _ _ hk4)).mono ?_); intro e w3 hp; have hPB3 := hPB; obtain ⟨S1, rfl, hN1, hV1, hm1, hz3⟩ := hN.post (by have := hN.sz; omega) hp; replace hPB := hPB.below (WS.step hp) hPB.lt; clear hN; have hN := hN1)
    (try go_wp2_with fail)
    refine hK.out _ _ ?_ (fun hHeld => ?_)
    · ((try dsimp only); (first | exact ⟨c1, c16, hPB⟩ | exact ⟨hN.xw.1, hN.xw.2, hPB⟩ | exact ⟨hc5.1, hc5.2, hPB5⟩ | exact hHeld))
    clear hK K
    simp only [st0, st1]
    refine hr_op0 (i := 12) rfl (by kernel_rfl) (by kernel_rfl) (fun K hK => ?_)
    (refine wp_scr_store S1.s hN.x.B.isScr rfl rfl rfl rfl ?_; generalize hW5 : World.setRow _ _ _ = W5; have hN2 : WS w.heap.size (w.heap.size + 1) 2 ⟨s, F, zs, L⟩ w W5 S1 := hW5 ▸ hN.row (by omega) hV1; have hPB5 : Blk W5 pb 26 #[.int .i64 0, .int .i64 s.bg, .int .i64 0] := hW5 ▸ (setRow_other _ _ _ _ (by omega)).trans hPB; obtain ⟨hxx, hww⟩ := setR_xw hm1; have hc5 := hN2.xw; rw [hxx, hww] at hc5; clear hW5 hxx hww)
    refine hK.out _ ?_ (fun hHeld => ?_)
    · ((try dsimp only); (first | exact ⟨c1, c16, hPB⟩ | exact ⟨hN.xw.1, hN.xw.2, hPB⟩ | exact ⟨hc5.1, hc5.2, hPB5⟩ | exact hHeld))
    clear hK K
    refine hr_done (by kernel_rfl) ?_
    (have hz5 := hN2.sz; have rS := SBlk.isScr hN2.x.B; have rL := SBlk.cells hN2.x.B; have rZ := IsScr.lt rS; go_upto_region 11 with fail; clear rS rL rZ; generalize hW6 : World.setCell _ _ _ = W6; have hX6 : WS w.heap.size (w.heap.size + 1) 2 ⟨s, F, zs, L⟩ w W6 ⟨{ S1.s with wr := false }, S1.F, S1.zs, S1.L⟩ := hW6 ▸ hN2.cell (by omega) 3 _ (fun v => ⟨v.rd, v.out, v.gen⟩) rfl; clear hW6; go_wp2_with (first | (refine hX6.wload rfl rfl rfl ?_) | (refine hX6.wstore hX6.v (by rfl) (by rfl) (by rfl) (by rfl) (by rfl) ?_)); exact bodyPost_ret (results_scr rfl rfl (hX6.res hX6.v)) rfl (hX6.fin hX6.v (by omega) (wr_md hm1)))
  · (try go_simp)
    ((with_reducible refine (erased_c s.x s.W 0 s.bg 0 _).mono ?_); rintro e w1 ⟨_, rfl, hg, b1, b2, b3, rfl, hk1, hk2, hk3⟩; have hz1 := hN.sz; replace hN := hN.below hg; replace hPB := hPB.below hg hPB.lt)
    (try go_wp2_with fail)
    refine hK.out _ _ ?_ (fun hHeld => ?_)
    · ((try dsimp only); (first | exact ⟨c1, c16, hPB⟩ | exact ⟨hN.xw.1, hN.xw.2, hPB⟩ | exact ⟨hc5.1, hc5.2, hPB5⟩ | exact hHeld))
    clear hK K
    simp only [st0, st1]
    refine hr_two (i := 0) (j := 9) rfl rfl rfl rfl (by kernel_rfl) (by kernel_rfl) (by kernel_rfl) (fun K hK => ?_) (fun K hK => ?_)
    · refine wp_scr_load hN.x.B rfl rfl ?_
      refine hK.out _ _ ?_ (fun hHeld => ?_)
      · ((try dsimp only); (first | exact ⟨c1, c16, hPB⟩ | exact ⟨hN.xw.1, hN.xw.2, hPB⟩ | exact ⟨hc5.1, hc5.2, hPB5⟩ | exact hHeld))
      clear hK K
      simp only [st0, st1]
      refine hr_o 9 (fun K hK => ?_)
      (try go_simp)
      ((with_reducible refine (wraps_c false _).mono ?_); rintro e w2 ⟨_, rfl, hg, b4, rfl, hk4⟩; replace hN := hN.below hg; replace hPB := hPB.below hg hPB.lt; replace hk1 := hk1.below hg hk1.lt; replace hk2 := hk2.below hg hk2.lt; replace hk3 := hk3.below hg hk3.lt)
      (try go_wp2_with fail)
      refine hK.out _ _ ?_ (fun hHeld => ?_)
      · ((try dsimp only); (first | exact ⟨c1, c16, hPB⟩ | exact ⟨hN.xw.1, hN.xw.2, hPB⟩ | exact ⟨hc5.1, hc5.2, hPB5⟩ | exact hHeld))
      clear hK K
      simp only [st0, st1]
      refine hr_o 10 (fun K hK => ?_)
      (try go_simp)
      (have hx : RdX encF (w2.alloc (.cells #[.func (.func 85) #[] #[.pointer (some ⟨b1, 0, none⟩), .pointer (some ⟨b2, 0, none⟩), .pointer (some ⟨b3, 0, none⟩)], .func (.func 101) #[] #[.pointer (some ⟨b4, 0, none⟩)]] 88)) (.slice (some ⟨w2.heap.size, 0, none⟩) 2 2) [⟨85, #[.pointer (some ⟨b1, 0, none⟩), .pointer (some ⟨b2, 0, none⟩), .pointer (some ⟨b3, 0, none⟩)]⟩, ⟨101, #[.pointer (some ⟨b4, 0, none⟩)]⟩] := rdX_two _ _ _; replace hk1 := hk1.alloc (.cells #[.func (.func 85) #[] #[.pointer (some ⟨b1, 0, none⟩), .pointer (some ⟨b2, 0, none⟩), .pointer (some ⟨b3, 0, none⟩)], .func (.func 101) #[] #[.pointer (some ⟨b4, 0, none⟩)]] 88); replace hk2 := hk2.alloc (.cells #[.func (.func 85) #[] #[.pointer (some ⟨b1, 0, none⟩), .pointer (some ⟨b2, 0, none⟩), .pointer (some ⟨b3, 0, none⟩)], .func (.func 101) #[] #[.pointer (some ⟨b4, 0, none⟩)]] 88); replace hk3 := hk3.alloc (.cells #[.func (.func 85) #[] #[.pointer (some ⟨b1, 0, none⟩), .pointer (some ⟨b2, 0, none⟩), .pointer (some ⟨b3, 0, none⟩)], .func (.func 101) #[] #[.pointer (some ⟨b4, 0, none⟩)]] 88); replace hk4 := hk4.alloc (.cells #[.func (.func 85) #[] #[.pointer (some ⟨b1, 0, none⟩), .pointer (some ⟨b2, 0, none⟩), .pointer (some ⟨b3, 0, none⟩)], .func (.func 101) #[] #[.pointer (some ⟨b4, 0, none⟩)]] 88); replace hPB := hPB.alloc (.cells #[.func (.func 85) #[] #[.pointer (some ⟨b1, 0, none⟩), .pointer (some ⟨b2, 0, none⟩), .pointer (some ⟨b3, 0, none⟩)], .func (.func 101) #[] #[.pointer (some ⟨b4, 0, none⟩)]] 88); replace hN := hN.alloc (.cells #[.func (.func 85) #[] #[.pointer (some ⟨b1, 0, none⟩), .pointer (some ⟨b2, 0, none⟩), .pointer (some ⟨b3, 0, none⟩)], .func (.func 101) #[] #[.pointer (some ⟨b4, 0, none⟩)]] 88))
      (try go_wp2_with fail)
      refine hK.out _ _ ?_ (fun hHeld => ?_)
      · ((try dsimp only); (first | exact ⟨c1, c16, hPB⟩ | exact ⟨hN.xw.1, hN.xw.2, hPB⟩ | exact ⟨hc5.1, hc5.2, hPB5⟩ | exact hHeld))
      clear hK K
      simp only [st0, st1]
      refine hr_o 11 (fun K hK => ?_)
      (try go_simp)
      ((with_reducible refine (onRow_2 ⟨s, F, zs, L⟩ _ s.W.toNat _ _ _ _ _ HS.out.bare hN.v.rd hx HWQ.out (erased_step s.W.toNat s.x.toNat s.W.toNat b1 b2 b3 _ _ _ _ _ _ hk1 hk2 hk3 HPN.out HF0.out HT0.out) (wraps_step false b4 _ _ hk4)).mono ?_); intro e w3 hp; have hPB3 := hPB; obtain ⟨S1, rfl, hN1, hV1, hm1, hz3⟩ := hN.post (by have := hN.sz; omega) hp; replace hPB := hPB.below (WS.step hp) hPB.lt; clear hN; have hN := hN1)
      (try go_wp2_with fail)
      refine hK.out _ _ ?_ (fun hHeld => ?_)
      · ((try dsimp only); (first | exact ⟨c1, c16, hPB⟩ | exact ⟨hN.xw.1, hN.xw.2, hPB⟩ | exact ⟨hc5.1, hc5.2, hPB5⟩ | exact hHeld))
      clear hK K
      simp only [st0, st1]
      refine hr_op0 (i := 12) rfl (by kernel_rfl) (by kernel_rfl) (fun K hK => ?_)
      (refine wp_scr_store S1.s hN.x.B.isScr rfl rfl rfl rfl ?_; generalize hW5 : World.setRow _ _ _ = W5; have hN2 : WS w.heap.size (w.heap.size + 1) 2 ⟨s, F, zs, L⟩ w W5 S1 := hW5 ▸ hN.row (by omega) hV1; have hPB5 : Blk W5 pb 26 #[.int .i64 0, .int .i64 s.bg, .int .i64 0] := hW5 ▸ (setRow_other _ _ _ _ (by omega)).trans hPB; obtain ⟨hxx, hww⟩ := setR_xw hm1; have hc5 := hN2.xw; rw [hxx, hww] at hc5; clear hW5 hxx hww)
      refine hK.out _ ?_ (fun hHeld => ?_)
      · ((try dsimp only); (first | exact ⟨c1, c16, hPB⟩ | exact ⟨hN.xw.1, hN.xw.2, hPB⟩ | exact ⟨hc5.1, hc5.2, hPB5⟩ | exact hHeld))
      clear hK K
      refine hr_done (by kernel_rfl) ?_
      (have hz5 := hN2.sz; have rS := SBlk.isScr hN2.x.B; have rL := SBlk.cells hN2.x.B; have rZ := IsScr.lt rS; go_upto_region 11 with fail; clear rS rL rZ; generalize hW6 : World.setCell _ _ _ = W6; have hX6 : WS w.heap.size (w.heap.size + 1) 2 ⟨s, F, zs, L⟩ w W6 ⟨{ S1.s with wr := false }, S1.F, S1.zs, S1.L⟩ := hW6 ▸ hN2.cell (by omega) 3 _ (fun v => ⟨v.rd, v.out, v.gen⟩) rfl; clear hW6; go_wp2_with (first | (refine hX6.wload rfl rfl rfl ?_) | (refine hX6.wstore hX6.v (by rfl) (by rfl) (by rfl) (by rfl) (by rfl) ?_)); exact bodyPost_ret (results_scr rfl rfl (hX6.res hX6.v)) rfl (hX6.fin hX6.v (by omega) (wr_md hm1)))
    · (try go_simp)
      ((with_reducible refine (wraps_c false _).mono ?_); rintro e w2 ⟨_, rfl, hg, b4, rfl, hk4⟩; replace hN := hN.below hg; replace hPB := hPB.below hg hPB.lt; replace hk1 := hk1.below hg hk1.lt; replace hk2 := hk2.below hg hk2.lt; replace hk3 := hk3.below hg hk3.lt)
      (try go_wp2_with fail)
      refine hK.out _ _ ?_ (fun hHeld => ?_)
      · ((try dsimp only); (first | exact ⟨c1, c16, hPB⟩ | exact ⟨hN.xw.1, hN.xw.2, hPB⟩ | exact ⟨hc5.1, hc5.2, hPB5⟩ | exact hHeld))
      clear hK K
      simp only [st0, st1]
      refine hr_two (i := 0) (j := 10) rfl rfl rfl rfl (by kernel_rfl) (by kernel_rfl) (by kernel_rfl) (fun K hK => ?_) (fun K hK => ?_)
      · refine wp_scr_load hN.x.B rfl rfl ?_
        refine hK.out _ _ ?_ (fun hHeld => ?_)
        · ((try dsimp only); (first | exact ⟨c1, c16, hPB⟩ | exact ⟨hN.xw.1, hN.xw.2, hPB⟩ | exact ⟨hc5.1, hc5.2, hPB5⟩ | exact hHeld))
        clear hK K
        simp only [st0, st1]
        refine hr_o 10 (fun K hK => ?_)
        (try go_simp)
        (have hx : RdX encF (w2.alloc (.cells #[.func (.func 85) #[] #[.pointer (some ⟨b1, 0, none⟩), .pointer (some ⟨b2, 0, none⟩), .pointer (some ⟨b3, 0, none⟩)], .func (.func 101) #[] #[.pointer (some ⟨b4, 0, none⟩)]] 88)) (.slice (some ⟨w2.heap.size, 0, none⟩) 2 2) [⟨85, #[.pointer (some ⟨b1, 0, none⟩), .pointer (some ⟨b2, 0, none⟩), .pointer (some ⟨b3, 0, none⟩)]⟩, ⟨101, #[.pointer (some ⟨b4, 0, none⟩)]⟩] := rdX_two _ _ _; replace hk1 := hk1.alloc (.cells #[.func (.func 85) #[] #[.pointer (some ⟨b1, 0, none⟩), .pointer (some ⟨b2, 0, none⟩), .pointer (some ⟨b3, 0, none⟩)], .func (.func 101) #[] #[.pointer (some ⟨b4, 0, none⟩)]] 88); replace hk2 := hk2.alloc (.cells #[.func (.func 85) #[] #[.pointer (some ⟨b1, 0, none⟩), .pointer (some ⟨b2, 0, none⟩), .pointer (some ⟨b3, 0, none⟩)], .func (.func 101) #[] #[.pointer (some ⟨b4, 0, none⟩)]] 88); replace hk3 := hk3.alloc (.cells #[.func (.func 85) #[] #[.pointer (some ⟨b1, 0, none⟩), .pointer (some ⟨b2, 0, none⟩), .pointer (some ⟨b3, 0, none⟩)], .func (.func 101) #[] #[.pointer (some ⟨b4, 0, none⟩)]] 88); replace hk4 := hk4.alloc (.cells #[.func (.func 85) #[] #[.pointer (some ⟨b1, 0, none⟩), .pointer (some ⟨b2, 0, none⟩), .pointer (some ⟨b3, 0, none⟩)], .func (.func 101) #[] #[.pointer (some ⟨b4, 0, none⟩)]] 88); replace hPB := hPB.alloc (.cells #[.func (.func 85) #[] #[.pointer (some ⟨b1, 0, none⟩), .pointer (some ⟨b2, 0, none⟩), .pointer (some ⟨b3, 0, none⟩)], .func (.func 101) #[] #[.pointer (some ⟨b4, 0, none⟩)]] 88); replace hN := hN.alloc (.cells #[.func (.func 85) #[] #[.pointer (some ⟨b1, 0, none⟩), .pointer (some ⟨b2, 0, none⟩), .pointer (some ⟨b3, 0, none⟩)], .func (.func 101) #[] #[.pointer (some ⟨b4, 0, none⟩)]] 88))
        (try go_wp2_with fail)
        refine hK.out _ _ ?_ (fun hHeld => ?_)
        · ((try dsimp only); (first | exact ⟨c1, c16, hPB⟩ | exact ⟨hN.xw.1, hN.xw.2, hPB⟩ | exact ⟨hc5.1, hc5.2, hPB5⟩ | exact hHeld))
        clear hK K
        simp only [st0, st1]
        refine hr_o 11 (fun K hK => ?_)
        (try go_simp)
        ((with_reducible refine (onRow_2 ⟨s, F, zs, L⟩ _ s.W.toNat _ _ _ _ _ HS.out.bare hN.v.rd hx HWQ.out (erased_step s.W.toNat s.x.toNat s.W.toNat b1 b2 b3 _ _ _ _ _ _ hk1 hk2 hk3 HPN.out HF0.out HT0.out) (wraps_step false b4 _ _ hk4)).mono ?_); intro e w3 hp; have hPB3 := hPB; obtain ⟨S1, rfl, hN1, hV1, hm1, hz3⟩ := hN.post (by have := hN.sz; omega) hp; replace hPB := hPB.below (WS.step hp) hPB.lt; clear hN; have hN := hN1)
        (try go_wp2_with fail)
        refine hK.out _ _ ?_ (fun hHeld => ?_)
        · ((try dsimp only); (first | exact ⟨c1, c16, hPB⟩ | exact ⟨hN.xw.1, hN.xw.2, hPB⟩ | exact ⟨hc5.1, hc5.2, hPB5⟩ | exact hHeld))
        clear hK K
        simp only [st0, st1]
        refine hr_op0 (i := 12) rfl (by kernel_rfl) (by kernel_rfl) (fun K hK => ?_)
        (refine wp_scr_store S1.s hN.x.B.isScr rfl rfl rfl rfl ?_; generalize hW5 : World.setRow _ _ _ = W5; have hN2 : WS w.heap.size (w.heap.size + 1) 2 ⟨s, F, zs, L⟩ w W5 S1 := hW5 ▸ hN.row (by omega) hV1; have hPB5 : Blk W5 pb 26 #[.int .i64 0, .int .i64 s.bg, .int .i64 0] := hW5 ▸ (setRow_other _ _ _ _ (by omega)).trans hPB; obtain ⟨hxx, hww⟩ := setR_xw hm1; have hc5 := hN2.xw; rw [hxx, hww] at hc5; clear hW5 hxx hww)
        refine hK.out _ ?_ (fun hHeld => ?_)
        · ((try dsimp only); (first | exact ⟨c1, c16, hPB⟩ | exact ⟨hN.xw.1, hN.xw.2, hPB⟩ | exact ⟨hc5.1, hc5.2, hPB5⟩ | exact hHeld))
        clear hK K
        refine hr_done (by kernel_rfl) ?_
        (have hz5 := hN2.sz; have rS := SBlk.isScr hN2.x.B; have rL := SBlk.cells hN2.x.B; have rZ := IsScr.lt rS; go_upto_region 11 with fail; clear rS rL rZ; generalize hW6 : World.setCell _ _ _ = W6; have hX6 : WS w.heap.size (w.heap.size + 1) 2 ⟨s, F, zs, L⟩ w W6 ⟨{ S1.s with wr := false }, S1.F, S1.zs, S1.L⟩ := hW6 ▸ hN2.cell (by omega) 3 _ (fun v => ⟨v.rd, v.out, v.gen⟩) rfl; clear hW6; go_wp2_with (first | (refine hX6.wload rfl rfl rfl ?_) | (refine hX6.wstore hX6.v (by rfl) (by rfl) (by rfl) (by rfl) (by rfl) ?_)); exact bodyPost_ret (results_scr rfl rfl (hX6.res hX6.v)) rfl (hX6.fin hX6.v (by omega) (wr_md hm1)))
      · (try go_simp)
        (have hx : RdX encF (w2.alloc (.cells #[.func (.func 85) #[] #[.pointer (some ⟨b1, 0, none⟩), .pointer (some ⟨b2, 0, none⟩), .pointer (some ⟨b3, 0, none⟩)], .func (.func 101) #[] #[.pointer (some ⟨b4, 0, none⟩)]] 88)) (.slice (some ⟨w2.heap.size, 0, none⟩) 2 2) [⟨85, #[.pointer (some ⟨b1, 0, none⟩), .pointer (some ⟨b2, 0, none⟩), .pointer (some ⟨b3, 0, none⟩)]⟩, ⟨101, #[.pointer (some ⟨b4, 0, none⟩)]⟩] := rdX_two _ _ _; replace hk1 := hk1.alloc (.cells #[.func (.func 85) #[] #[.pointer (some ⟨b1, 0, none⟩), .pointer (some ⟨b2, 0, none⟩), .pointer (some ⟨b3, 0, none⟩)], .func (.func 101) #[] #[.pointer (some ⟨b4, 0, none⟩)]] 88); replace hk2 := hk2.alloc (.cells #[.func (.func 85) #[] #[.pointer (some ⟨b1, 0, none⟩), .pointer (some ⟨b2, 0, none⟩), .pointer (some ⟨b3, 0, none⟩)], .func (.func 101) #[] #[.pointer (some ⟨b4, 0, none⟩)]] 88); replace hk3 := hk3.alloc (.cells #[.func (.func 85) #[] #[.pointer (some ⟨b1, 0, none⟩), .pointer (some ⟨b2, 0, none⟩), .pointer (some ⟨b3, 0, none⟩)], .func (.func 101) #[] #[.pointer (some ⟨b4, 0, none⟩)]] 88); replace hk4 := hk4.alloc (.cells #[.func (.func 85) #[] #[.pointer (some ⟨b1, 0, none⟩), .pointer (some ⟨b2, 0, none⟩), .pointer (some ⟨b3, 0, none⟩)], .func (.func 101) #[] #[.pointer (some ⟨b4, 0, none⟩)]] 88); replace hPB := hPB.alloc (.cells #[.func (.func 85) #[] #[.pointer (some ⟨b1, 0, none⟩), .pointer (some ⟨b2, 0, none⟩), .pointer (some ⟨b3, 0, none⟩)], .func (.func 101) #[] #[.pointer (some ⟨b4, 0, none⟩)]] 88); replace hN := hN.alloc (.cells #[.func (.func 85) #[] #[.pointer (some ⟨b1, 0, none⟩), .pointer (some ⟨b2, 0, none⟩), .pointer (some ⟨b3, 0, none⟩)], .func (.func 101) #[] #[.pointer (some ⟨b4, 0, none⟩)]] 88))
        (try go_wp2_with fail)
        refine hK.out _ _ ?_ (fun hHeld => ?_)
        · ((try dsimp only); (first | exact ⟨c1, c16, hPB⟩ | exact ⟨hN.xw.1, hN.xw.2, hPB⟩ | exact ⟨hc5.1, hc5.2, hPB5⟩ | exact hHeld))
        clear hK K
        simp only [st0, st1]
        refine hr_o 0 (fun K hK => ?_)
        refine wp_scr_load hN.x.B rfl rfl ?_
        refine hK.out _ _ ?_ (fun hHeld => ?_)
        · ((try dsimp only); (first | exact ⟨c1, c16, hPB⟩ | exact ⟨hN.xw.1, hN.xw.2, hPB⟩ | exact ⟨hc5.1, hc5.2, hPB5⟩ | exact hHeld))
        clear hK K
        simp only [st0, st1]
        refine hr_o 11 (fun K hK => ?_)
        (try go_simp)
        ((with_reducible refine (onRow_2 ⟨s, F, zs, L⟩ _ s.W.toNat _ _ _ _ _ HS.out.bare hN.v.rd hx HWQ.out (erased_step s.W.toNat s.x.toNat s.W.toNat b1 b2 b3 _ _ _ _ _ _ hk1 hk2 hk3 HPN.out HF0.out HT0.out) (wraps_step false b4 _ _ hk4)).mono ?_); intro e w3 hp; have hPB3 := hPB; obtain ⟨S1, rfl, hN1, hV1, hm1, hz3⟩ := hN.post (by have := hN.sz; omega) hp; replace hPB := hPB.below (WS.step hp) hPB.lt; clear hN; have hN := hN1)
        (try go_wp2_with fail)
        refine hK.out _ _ ?_ (fun hHeld => ?_)
        · ((try dsimp only); (first | exact ⟨c1, c16, hPB⟩ | exact ⟨hN.xw.1, hN.xw.2, hPB⟩ | exact ⟨hc5.1, hc5.2, hPB5⟩ | exact hHeld))
        clear hK K
        simp only [st0, st1]
        refine hr_op0 (i := 12) rfl (by kernel_rfl) (by kernel_rfl) (fun K hK => ?_)
        (refine wp_scr_store S1.s hN.x.B.isScr rfl rfl rfl rfl ?_; generalize hW5 : World.setRow _ _ _ = W5; have hN2 : WS w.heap.size (w.heap.size + 1) 2 ⟨s, F, zs, L⟩ w W5 S1 := hW5 ▸ hN.row (by omega) hV1; have hPB5 : Blk W5 pb 26 #[.int .i64 0, .int .i64 s.bg, .int .i64 0] := hW5 ▸ (setRow_other _ _ _ _ (by omega)).trans hPB; obtain ⟨hxx, hww⟩ := setR_xw hm1; have hc5 := hN2.xw; rw [hxx, hww] at hc5; clear hW5 hxx hww)
        refine hK.out _ ?_ (fun hHeld => ?_)
        · ((try dsimp only); (first | exact ⟨c1, c16, hPB⟩ | exact ⟨hN.xw.1, hN.xw.2, hPB⟩ | exact ⟨hc5.1, hc5.2, hPB5⟩ | exact hHeld))
        clear hK K
        refine hr_done (by kernel_rfl) ?_
        (have hz5 := hN2.sz; have rS := SBlk.isScr hN2.x.B; have rL := SBlk.cells hN2.x.B; have rZ := IsScr.lt rS; go_upto_region 11 with fail; clear rS rL rZ; generalize hW6 : World.setCell _ _ _ = W6; have hX6 : WS w.heap.size (w.heap.size + 1) 2 ⟨s, F, zs, L⟩ w W6 ⟨{ S1.s with wr := false }, S1.F, S1.zs, S1.L⟩ := hW6 ▸ hN2.cell (by omega) 3 _ (fun v => ⟨v.rd, v.out, v.gen⟩) rfl; clear hW6; go_wp2_with (first | (refine hX6.wload rfl rfl rfl ?_) | (refine hX6.wstore hX6.v (by rfl) (by rfl) (by rfl) (by rfl) (by rfl) ?_)); exact bodyPost_ret (results_scr rfl rfl (hX6.res hX6.v)) rfl (hX6.fin hX6.v (by omega) (wr_md hm1)))
set_option maxRecDepth 100000 in
set_option maxHeartbeats 4000000 in
theorem eraseLine_1 (S : Sn) (w : World) (hs : S.md.Ok) (hr : S.rd w) : Calls Tryz.prog 50 #[.agg #[.slice S.s.gA S.s.gn S.s.gc, .int .i64 S.s.x, .int .i64 S.s.y, .bool S.s.wr, .bool S.s.og, .int .i64 S.s.fg, .int .i64 S.s.bg, .int .i64 S.s.fl, .int .u8 S.s.g0, .int .u8 S.s.g1, .int .u8 S.s.g2, .int .u8 S.s.g3, .int .i64 S.s.gl, .int .i64 S.s.gr, .int .i64 S.s.on, .int .i64 S.s.H, .int .i64 S.s.W, .int .i64 S.s.T, .int .i64 S.s.B, .slice S.s.tA S.s.tn S.s.tc, .int .i64 S.s.tw, .slice S.s.kA S.s.kn S.s.kc, .int .i64 S.s.kp, .int .i64 S.s.dir, .bool S.s.ex], .int .i64 1] w (SPost S w (fun m => m = { S.md.setR (ersC 0 (S.s.x.toNat + 1) 0 S.s.bg 0 S.md.here) with wr := false })) := by
  have HR := Lib.hid hr
  have HS := Lib.hid hs
  obtain ⟨s, F, zs, L⟩ := S
  have hf := hs.cf
  simp only [Sn.md] at hf
  have HWQ := Lib.hid (show ((s.W.toNat : Nat) : Int) = s.W by have := hf.w1; omega)
  have HPN := Lib.hid (show penB 0 s.bg 0 = true from hs.ground)
  have HF0 := Lib.hid (show max 0 (min 0 ((s.W.toNat : Nat) : Int)) = ((0 : Nat) : Int) by have := hf.w1; have := hf.x0; have := hf.x1; omega)
  have HT0 := Lib.hid (show max ((0 : Nat) : Int) (max 0 (min (s.x + 1) ((s.W.toNat : Nat) : Int))) = ((s.x.toNat + 1 : Nat) : Int) by have := hf.w1; have := hf.x0; have := hf.x1; omega)
  have hw1 : IntKind.i64.wrap (s.x + 1) = s.x + 1 := IntWalk.i64_in _ (by have := hf.w2; have := hf.x0; have := hf.x1; omega)
  clear hr hs hf
  dsimp only at *
  go_enter Tryz.func50, Tryz.ntmps50
  go_upto_region 1 with fail
  generalize hW : (w.alloc _).alloc _ = W; have hX : WS w.heap.size (w.heap.size + 1) 2 ⟨s, F, zs, L⟩ w W ⟨s, F, zs, L⟩ := hW ▸ WS.start HR.out; clear hW
  have hz := hX.sz
  go_upto_region 2 with (first | (refine hX.wload rfl rfl rfl ?_) | ((with_reducible refine (ground_c s _).mono ?_); rintro e w1 ⟨rfl, hg⟩; replace hg := hg.below))
  generalize hW1 : w1.alloc _ = W1
  have hX1 : WS w.heap.size (w.heap.size + 1) 2 ⟨s, F, zs, L⟩ w W1 ⟨s, F, zs, L⟩ := by rw [← hW1]; exact (hX.below hg).alloc _
  have hPB : Blk W1 w1.heap.size 26 #[.int .i64 0, .int .i64 s.bg, .int .i64 0] := by rw [← hW1]; exact Blk.new _ _ _
  have hhp : w.heap.size + 2 ≤ w1.heap.size := by have := hg.size; omega
  clear hW1 hX hz hg
  generalize w1.heap.size = pb at *
  generalize (.agg #[.slice s.gA s.gn s.gc, .int .i64 s.x, .int .i64 s.y, .bool s.wr, .bool s.og, .int .i64 s.fg, .int .i64 s.bg, .int .i64 s.fl, .int .u8 s.g0, .int .u8 s.g1, .int .u8 s.g2, .int .u8 s.g3, .int .i64 s.gl, .int .i64 s.gr, .int .i64 s.on, .int .i64 s.H, .int .i64 s.W, .int .i64 s.T, .int .i64 s.B, .slice s.tA s.tn s.tc, .int .i64 s.tw, .slice s.kA s.kn s.kc, .int .i64 s.kp, .int .i64 s.dir, .bool s.ex] : Value) = V0
  go_upto_region 7 with fail
  obtain ⟨c1, c16⟩ := hX1.xw
  have hN := hX1.drew
  replace hPB : Blk W1.drew pb 26 #[.int .i64 0, .int .i64 s.bg, .int .i64 0] := hPB
  refine hr_start (S := (fun w' => w'.cell? ⟨w.heap.size, 1, none⟩ = some (.int .i64 s.x) ∧ w'.cell? ⟨w.heap.size, 16, none⟩ = some (.int .i64 s.W) ∧ Blk w' pb 26 #[.int .i64 0, .int .i64 s.bg, .int .i64 0])) (by kernel_rfl) rfl ?_ (fun hHeld => ?_)
  · ((try dsimp only); (first | exact ⟨c1, c16, hPB⟩ | exact ⟨hN.xw.1, hN.xw.2, hPB⟩ | exact ⟨hc5.1, hc5.2, hPB5⟩ | exact hHeld))
  refine hr_t 1 (v := ?_) ?_ ?_
  rotate_left
  focus (intro wS hSw; (obtain ⟨q1, q16, qP⟩ := hSw; obtain ⟨d0, d1, d2, df, dl⟩ := qP.facts3); go_simp; (try with_reducible rfl))
  simp only [st0, st1]
  refine hr_t 2 (v := ?_) ?_ ?_
  rotate_left
  focus (intro wS hSw; (obtain ⟨q1, q16, qP⟩ := hSw; obtain ⟨d0, d1, d2, df, dl⟩ := qP.facts3); go_simp; (try with_reducible rfl))
  simp only [st0, st1]
  refine hr_t 3 (v := ?_) ?_ ?_
  rotate_left
  focus (intro wS hSw; (obtain ⟨q1, q16, qP⟩ := hSw; obtain ⟨d0, d1, d2, df, dl⟩ := qP.facts3); go_simp; (try with_reducible rfl))
  simp only [st0, st1]
  refine hr_t 4 (v := ?_) ?_ ?_
  rotate_left
  focus (intro wS hSw; (obtain ⟨q1, q16, qP⟩ := hSw; obtain ⟨d0, d1, d2, df, dl⟩ := qP.facts3); go_simp; (try with_reducible rfl))
  simp only [st0, st1]
  refine hr_t 5 (v := ?_) ?_ ?_
  rotate_left
  focus (intro wS hSw; (obtain ⟨q1, q16, qP⟩ := hSw; obtain ⟨d0, d1, d2, df, dl⟩ := qP.facts3); go_simp; (try with_reducible rfl))
  simp only [st0, st1]
  refine hr_two (i := 0) (j := 6) rfl rfl rfl rfl (by kernel_rfl) (by kernel_rfl) (by kernel_rfl) (fun K hK => ?_) (fun K hK => ?_)
  · refine wp_scr_load hN.x.B rfl rfl ?_
    refine hK.out _ _ ?_ (fun hHeld => ?_)
    · ((try dsimp only); (first | exact ⟨c1, c16, hPB⟩ | exact ⟨hN.xw.1, hN.xw.2, hPB⟩ | exact ⟨hc5.1, hc5.2, hPB5⟩ | exact hHeld))
    clear hK K
    simp only [st0, st1]
    refine hr_o 6 (fun K hK => ?_)
    (try go_simp)
    ((with_reducible refine (erased_c 0 (s.x + 1) 0 s.bg 0 _).mono ?_); rintro e w1 ⟨_, rfl, hg, b1, b2, b3, rfl, hk1, hk2, hk3⟩; have hz1 := hN.sz; replace hN := hN.below hg; replace hPB := hPB.below hg hPB.lt)
    (try go_wp2_with fail)
    refine hK.out _ _ ?_ (fun hHeld => ?_)
    · ((try dsimp only); (first | exact ⟨c1, c16, hPB⟩ | exact ⟨hN.xw.1, hN.xw.2, hPB⟩ | exact ⟨hc5.1, hc5.2, hPB5⟩ | exact hHeld))
    clear hK K
    simp only [st0, st1]
    refine hr_o 7 (fun K hK => ?_)
    (try go_simp)
    (have hx : RdX encF (w1.alloc (.cells #[.func (.func 85) #[] #[.pointer (some ⟨b1, 0, none⟩), .pointer (some ⟨b2, 0, none⟩), .pointer (some ⟨b3, 0, none⟩)]] 88)) (.slice (some ⟨w1.heap.size, 0, none⟩) 1 1) [⟨85, #[.pointer (some ⟨b1, 0, none⟩), .pointer (some ⟨b2, 0, none⟩), .pointer (some ⟨b3, 0, none⟩)]⟩] := rdX_one (E := encF) _ _ _ _ _ rfl rfl; replace hk1 := hk1.alloc (.cells #[.func (.func 85) #[] #[.pointer (some ⟨b1, 0, none⟩), .pointer (some ⟨b2, 0, none⟩), .pointer (some ⟨b3, 0, none⟩)]] 88); replace hk2 := hk2.alloc (.cells #[.func (.func 85) #[] #[.pointer (some ⟨b1, 0, none⟩), .pointer (some ⟨b2, 0, none⟩), .pointer (some ⟨b3, 0, none⟩)]] 88); replace hk3 := hk3.alloc (.cells #[.func (.func 85) #[] #[.pointer (some ⟨b1, 0, none⟩), .pointer (some ⟨b2, 0, none⟩), .pointer (some ⟨b3, 0, none⟩)]] 88); replace hPB := hPB.alloc (.cells #[.func (.func 85) #[] #[.pointer (some ⟨b1, 0, none⟩), .pointer (some ⟨b2, 0, none⟩), .pointer (some ⟨b3, 0, none⟩)]] 88); replace hN := hN.alloc (.cells #[.func (.func 85) #[] #[.pointer (some ⟨b1, 0, none⟩), .pointer (some ⟨b2, 0, none⟩), .pointer (some ⟨b3, 0, none⟩)]] 88))
    (try go_wp2_with fail)
    refine hK.out _ _ ?_ (fun hHeld => ?_)
    · ((try dsimp only); (first | exact ⟨c1, c16, hPB⟩ | exact ⟨hN.xw.1, hN.xw.2, hPB⟩ | exact ⟨hc5.1, hc5.2, hPB5⟩ | exact hHeld))
    clear hK K
    simp only [st0, st1]
    refine hr_o 8 (fun K hK => ?_)
    (try go_simp)
    ((with_reducible refine (onRow_1 ⟨s, F, zs, L⟩ _ s.W.toNat _ _ _ HS.out.bare hN.v.rd hx HWQ.out (erased_step s.W.toNat 0 (s.x.toNat + 1) b1 b2 b3 _ _ _ _ _ _ hk1 hk2 hk3 HPN.out HF0.out HT0.out)).mono ?_); intro e w3 hp; obtain ⟨S1, rfl, hN1, hV1, hm1, hz3⟩ := hN.post (by have := hN.sz; omega) hp; replace hPB := hPB.below (WS.step hp) hPB.lt; clear hN; have hN := hN1)
    (try go_wp2_with fail)
    refine hK.out _ _ ?_ (fun hHeld => ?_)
    · ((try dsimp only); (first | exact ⟨c1, c16, hPB⟩ | exact ⟨hN.xw.1, hN.xw.2, hPB⟩ | exact ⟨hc5.1, hc5.2, hPB5⟩ | exact hHeld))
    clear hK K
    simp only [st0, st1]
    refine hr_op0 (i := 9) rfl (by kernel_rfl) (by kernel_rfl) (fun K hK => ?_)
    (refine wp_scr_store S1.s hN.x.B.isScr rfl rfl rfl rfl ?_; generalize hW5 : World.setRow _ _ _ = W5; have hN2 : WS w.heap.size (w.heap.size + 1) 2 ⟨s, F, zs, L⟩ w W5 S1 := hW5 ▸ hN.row (by omega) hV1; have hPB5 : Blk W5 pb 26 #[.int .i64 0, .int .i64 s.bg, .int .i64 0] := hW5 ▸ (setRow_other _ _ _ _ (by omega)).trans hPB; obtain ⟨hxx, hww⟩ := setR_xw hm1; have hc5 := hN2.xw; rw [hxx, hww] at hc5; clear hW5 hxx hww)
    refine hK.out _ ?_ (fun hHeld => ?_)
    · ((try dsimp only); (first | exact ⟨c1, c16, hPB⟩ | exact ⟨hN.xw.1, hN.xw.2, hPB⟩ | exact ⟨hc5.1, hc5.2, hPB5⟩ | exact hHeld))
    clear hK K
    refine hr_done (by kernel_rfl) ?_
    (have hz5 := hN2.sz; have rS := SBlk.isScr hN2.x.B; have rL := SBlk.cells hN2.x.B; have rZ := IsScr.lt rS; go_upto_region 11 with fail; clear rS rL rZ; generalize hW6 : World.setCell _ _ _ = W6; have hX6 : WS w.heap.size (w.heap.size + 1) 2 ⟨s, F, zs, L⟩ w W6 ⟨{ S1.s with wr := false }, S1.F, S1.zs, S1.L⟩ := hW6 ▸ hN2.cell (by omega) 3 _ (fun v => ⟨v.rd, v.out, v.gen⟩) rfl; clear hW6; go_wp2_with (first | (refine hX6.wload rfl rfl rfl ?_) | (refine hX6.wstore hX6.v (by rfl) (by rfl) (by rfl) (by rfl) (by rfl) ?_)); exact bodyPost_ret (results_scr rfl rfl (hX6.res hX6.v)) rfl (hX6.fin hX6.v (by omega) (wr_md hm1)))
  · (try go_simp)
    ((with_reducible refine (erased_c 0 (s.x + 1) 0 s.bg 0 _).mono ?_); rintro e w1 ⟨_, rfl, hg, b1, b2, b3, rfl, hk1, hk2, hk3⟩; have hz1 := hN.sz; replace hN := hN.below hg; replace hPB := hPB.below hg hPB.lt)
    (try go_wp2_with fail)
    refine hK.out _ _ ?_ (fun hHeld => ?_)
    · ((try dsimp only); (first | exact ⟨c1, c16, hPB⟩ | exact ⟨hN.xw.1, hN.xw.2, hPB⟩ | exact ⟨hc5.1, hc5.2, hPB5⟩ | exact hHeld))
    clear hK K
    simp only [st0, st1]
    refine hr_two (i := 0) (j := 7) rfl rfl rfl rfl (by kernel_rfl) (by kernel_rfl) (by kernel_rfl) (fun K hK => ?_) (fun K hK => ?_)
    · refine wp_scr_load hN.x.B rfl rfl ?_
      refine hK.out _ _ ?_ (fun hHeld => ?_)
      · ((try dsimp only); (first | exact ⟨c1, c16, hPB⟩ | exact ⟨hN.xw.1, hN.xw.2, hPB⟩ | exact ⟨hc5.1, hc5.2, hPB5⟩ | exact hHeld))
      clear hK K
      simp only [st0, st1]
      refine hr_o 7 (fun K hK => ?_)
      (try go_simp)
      (have hx : RdX encF (w1.alloc (.cells #[.func (.func 85) #[] #[.pointer (some ⟨b1, 0, none⟩), .pointer (some ⟨b2, 0, none⟩), .pointer (some ⟨b3, 0, none⟩)]] 88)) (.slice (some ⟨w1.heap.size, 0, none⟩) 1 1) [⟨85, #[.pointer (some ⟨b1, 0, none⟩), .pointer (some ⟨b2, 0, none⟩), .pointer (some ⟨b3, 0, none⟩)]⟩] := rdX_one (E := encF) _ _ _ _ _ rfl rfl; replace hk1 := hk1.alloc (.cells #[.func (.func 85) #[] #[.pointer (some ⟨b1, 0, none⟩), .pointer (some ⟨b2, 0, none⟩), .pointer (some ⟨b3, 0, none⟩)]] 88); replace hk2 := hk2.alloc (.cells #[.func (.func 85) #[] #[.pointer (some ⟨b1, 0, none⟩), .pointer (some ⟨b2, 0, none⟩), .pointer (some ⟨b3, 0, none⟩)]] 88); replace hk3 := hk3.alloc (.cells #[.func (.func 85) #[] #[.pointer (some ⟨b1, 0, none⟩), .pointer (some ⟨b2, 0, none⟩), .pointer (some ⟨b3, 0, none⟩)]] 88); replace hPB := hPB.alloc (.cells #[.func (.func 85) #[] #[.pointer (some ⟨b1, 0, none⟩), .pointer (some ⟨b2, 0, none⟩), .pointer (some ⟨b3, 0, none⟩)]] 88); replace hN := hN.alloc (.cells #[.func (.func 85) #[] #[.pointer (some ⟨b1, 0, none⟩), .pointer (some ⟨b2, 0, none⟩), .pointer (some ⟨b3, 0, none⟩)]] 88))
      (try go_wp2_with fail)
      refine hK.out _ _ ?_ (fun hHeld => ?_)
      · ((try dsimp only); (first | exact ⟨c1, c16, hPB⟩ | exact ⟨hN.xw.1, hN.xw.2, hPB⟩ | exact ⟨hc5.1, hc5.2, hPB5⟩ | exact hHeld))
      clear hK K
      simp only [st0, st1]
      refine hr_o 8 (fun K hK => ?_)
      (try go_simp)
      ((with_reducible refine (onRow_1 ⟨s, F, zs, L⟩ _ s.W.toNat _ _ _ HS.out.bare hN.v.rd hx HWQ.out (erased_step s.W.toNat 0 (s.x.toNat + 1) b1 b2 b3 _ _ _ _ _ _ hk1 hk2 hk3 HPN.out HF0.out HT0.out)).mono ?_); intro e w3 hp; obtain ⟨S1, rfl, hN1, hV1, hm1, hz3⟩ := hN.post (by have := hN.sz; omega) hp; replace hPB := hPB.below (WS.step hp) hPB.lt; clear hN; have hN := hN1)
      (try go_wp2_with fail)
      refine hK.out _ _ ?_ (fun hHeld => ?_)
      · ((try dsimp only); (first | exact ⟨c1, c16, hPB⟩ | exact ⟨hN.xw.1, hN.xw.2, hPB⟩ | exact ⟨hc5.1, hc5.2, hPB5⟩ | exact hHeld))
      clear hK K
      simp only [st0, st1]
      refine hr_op0 (i := 9) rfl (by kernel_rfl) (by kernel_rfl) (fun K hK => ?_)
      (refine wp_scr_store S1.s hN.x.B.isScr rfl rfl rfl rfl ?_; generalize hW5 : World.setRow _ _ _ = W5; have hN2 : WS w.heap.size (w.heap.size + 1) 2 ⟨s, F, zs, L⟩ w W5 S1 := hW5 ▸ hN.row (by omega) hV1; have hPB5 : Blk W5 pb 26 #[.int .i64 0, .int .i64 s.bg, .int .i64 0] := hW5 ▸ (setRow_other _ _ _ _ (by omega)).trans hPB; obtain ⟨hxx, hww⟩ := setR_xw hm1; have hc5 := hN2.xw; rw [hxx, hww] at hc5; clear hW5 hxx hww)
      refine hK.out _ ?_ (fun hHeld => ?_)
      · ((try dsimp only); (first | exact ⟨c1, c16, hPB⟩ | exact ⟨hN.xw.1, hN.xw.2, hPB⟩ | exact ⟨hc5.1, hc5.2, hPB5⟩ | exact hHeld))
      clear hK K
      refine hr_done (by kernel_rfl) ?_
      (have hz5 := hN2.sz; have rS := SBlk.isScr hN2.x.B; have rL := SBlk.cells hN2.x.B; have rZ := IsScr.lt rS; go_upto_region 11 with fail; clear rS rL rZ; generalize hW6 : World.setCell _ _ _ = W6; have hX6 : WS w.heap.size (w.heap.size + 1) 2 ⟨s, F, zs, L⟩ w W6 ⟨{ S1.s with wr := false }, S1.F, S1.zs, S1.L⟩ := hW6 ▸ hN2.cell (by omega) 3 _ (fun v => ⟨v.rd, v.out, v.gen⟩) rfl; clear hW6; go_wp2_with (first | (refine hX6.wload rfl rfl rfl ?_) | (refine hX6.wstore hX6.v (by rfl) (by rfl) (by rfl) (by rfl) (by rfl) ?_)); exact bodyPost_ret (results_scr rfl rfl (hX6.res hX6.v)) rfl (hX6.fin hX6.v (by omega) (wr_md hm1)))
    · (try go_simp)
      (have hx : RdX encF (w1.alloc (.cells #[.func (.func 85) #[] #[.pointer (some ⟨b1, 0, none⟩), .pointer (some ⟨b2, 0, none⟩), .pointer (some ⟨b3, 0, none⟩)]] 88)) (.slice (some ⟨w1.heap.size, 0, none⟩) 1 1) [⟨85, #[.pointer (some ⟨b1, 0, none⟩), .pointer (some ⟨b2, 0, none⟩), .pointer (some ⟨b3, 0, none⟩)]⟩] := rdX_one (E := encF) _ _ _ _ _ rfl rfl; replace hk1 := hk1.alloc (.cells #[.func (.func 85) #[] #[.pointer (some ⟨b1, 0, none⟩), .pointer (some ⟨b2, 0, none⟩), .pointer (some ⟨b3, 0, none⟩)]] 88); replace hk2 := hk2.alloc (.cells #[.func (.func 85) #[] #[.pointer (some ⟨b1, 0, none⟩), .pointer (some ⟨b2, 0, none⟩), .pointer (some ⟨b3, 0, none⟩)]] 88); replace hk3 := hk3.alloc (.cells #[.func (.func 85) #[] #[.pointer (some ⟨b1, 0, none⟩), .pointer (some ⟨b2, 0, none⟩), .pointer (some ⟨b3, 0, none⟩)]] 88); replace hPB := hPB.alloc (.cells #[.func (.func 85) #[] #[.pointer (some ⟨b1, 0, none⟩), .pointer (some ⟨b2, 0, none⟩), .pointer (some ⟨b3, 0, none⟩)]] 88); replace hN := hN.alloc (.cells #[.func (.func 85) #[] #[.pointer (some ⟨b1, 0, none⟩), .pointer (some ⟨b2, 0, none⟩), .pointer (some ⟨b3, 0, none⟩)]] 88))
      (try go_wp2_with fail)
      refine hK.out _ _ ?_ (fun hHeld => ?_)
      · ((try dsimp only); (first | exact ⟨c1, c16, hPB⟩ | exact ⟨hN.xw.1, hN.xw.2, hPB⟩ | exact ⟨hc5.1, hc5.2, hPB5⟩ | exact hHeld))
      clear hK K
      simp only [st0, st1]
      refine hr_o 0 (fun K hK => ?_)
      refine wp_scr_load hN.x.B rfl rfl ?_
      refine hK.out _ _ ?_ (fun hHeld => ?_)
      · ((try dsimp only); (first | exact ⟨c1, c16, hPB⟩ | exact ⟨hN.xw.1, hN.xw.2, hPB⟩ | exact ⟨hc5.1, hc5.2, hPB5⟩ | exact hHeld))
      clear hK K
      simp only [st0, st1]
      refine hr_o 8 (fun K hK => ?_)
      (try go_simp)
      ((with_reducible refine (onRow_1 ⟨s, F, zs, L⟩ _ s.W.toNat _ _ _ HS.out.bare hN.v.rd hx HWQ.out (erased_step s.W.toNat 0 (s.x.toNat + 1) b1 b2 b3 _ _ _ _ _ _ hk1 hk2 hk3 HPN.out HF0.out HT0.out)).mono ?_); intro e w3 hp; obtain ⟨S1, rfl, hN1, hV1, hm1, hz3⟩ := hN.post (by have := hN.sz; omega) hp; replace hPB := hPB.below (WS.step hp) hPB.lt; clear hN; have hN := hN1)
      (try go_wp2_with fail)
      refine hK.out _ _ ?_ (fun hHeld => ?_)
      · ((try dsimp only); (first | exact ⟨c1, c16, hPB⟩ | exact ⟨hN.xw.1, hN.xw.2, hPB⟩ | exact ⟨hc5.1, hc5.2, hPB5⟩ | exact hHeld))
      clear hK K
      simp only [st0, st1]
      refine hr_op0 (i := 9) rfl (by kernel_rfl) (by kernel_rfl) (fun K hK => ?_)
      (refine wp_scr_store S1.s hN.x.B.isScr rfl rfl rfl rfl ?_; generalize hW5 : World.setRow _ _ _ = W5; have hN2 : WS w.heap.size (w.heap.size + 1) 2 ⟨s, F, zs, L⟩ w W5 S1 := hW5 ▸ hN.row (by omega) hV1; have hPB5 : Blk W5 pb 26 #[.int .i64 0, .int .i64 s.bg, .int .i64 0] := hW5 ▸ (setRow_other _ _ _ _ (by omega)).trans hPB; obtain ⟨hxx, hww⟩ := setR_xw hm1; have hc5 := hN2.xw; rw [hxx, hww] at hc5; clear hW5 hxx hww)
      refine hK.out _ ?_ (fun hHeld => ?_)
      · ((try dsimp only); (first | exact ⟨c1, c16, hPB⟩ | exact ⟨hN.xw.1, hN.xw.2, hPB⟩ | exact ⟨hc5.1, hc5.2, hPB5⟩ | exact hHeld))
      clear hK K
      refine hr_done (by kernel_rfl) ?_
      (have hz5 := hN2.sz; have rS := SBlk.isScr hN2.x.B; have rL := SBlk.cells hN2.x.B; have rZ := IsScr.lt rS; go_upto_region 11 with fail; clear rS rL rZ; generalize hW6 : World.setCell _ _ _ = W6; have hX6 : WS w.heap.size (w.heap.size + 1) 2 ⟨s, F, zs, L⟩ w W6 ⟨{ S1.s with wr := false }, S1.F, S1.zs, S1.L⟩ := hW6 ▸ hN2.cell (by omega) 3 _ (fun v => ⟨v.rd, v.out, v.gen⟩) rfl; clear hW6; go_wp2_with (first | (refine hX6.wload rfl rfl rfl ?_) | (refine hX6.wstore hX6.v (by rfl) (by rfl) (by rfl) (by rfl) (by rfl) ?_)); exact bodyPost_ret (results_scr rfl rfl (hX6.res hX6.v)) rfl (hX6.fin hX6.v (by omega) (wr_md hm1)))
set_option maxRecDepth 100000 in
set_option maxHeartbeats 4000000 in
theorem eraseLine_2 (S : Sn) (w : World) (hs : S.md.Ok) (hr : S.rd w) : Calls Tryz.prog 50 #[.agg #[.slice S.s.gA S.s.gn S.s.gc, .int .i64 S.s.x, .int .i64 S.s.y, .bool S.s.wr, .bool S.s.og, .int .i64 S.s.fg, .int .i64 S.s.bg, .int .i64 S.s.fl, .int .u8 S.s.g0, .int .u8 S.s.g1, .int .u8 S.s.g2, .int .u8 S.s.g3, .int .i64 S.s.gl, .int .i64 S.s.gr, .int .i64 S.s.on, .int .i64 S.s.H, .int .i64 S.s.W, .int .i64 S.s.T, .int .i64 S.s.B, .slice S.s.tA S.s.tn S.s.tc, .int .i64 S.s.tw, .slice S.s.kA S.s.kn S.s.kc, .int .i64 S.s.kp, .int .i64 S.s.dir, .bool S.s.ex], .int .i64 2] w (SPost S w (fun m => m = { S.md.setR (wrapC false (ersC 0 S.s.W.toNat 0 S.s.bg 0 S.md.here)) with wr := false })) := by
  have HR := Lib.hid hr
  have HS := Lib.hid hs
  obtain ⟨s, F, zs, L⟩ := S
  have hf := hs.cf
  simp only [Sn.md] at hf
  have HWQ := Lib.hid (show ((s.W.toNat : Nat) : Int) = s.W by have := hf.w1; omega)
  have HPN := Lib.hid (show penB 0 s.bg 0 = true from hs.ground)
  have HF0 := Lib.hid (show max 0 (min 0 ((s.W.toNat : Nat) : Int)) = ((0 : Nat) : Int) by have := hf.w1; have := hf.x0; have := hf.x1; omega)
  have HT0 := Lib.hid (show max ((0 : Nat) : Int) (max 0 (min s.W ((s.W.toNat : Nat) : Int))) = ((s.W.toNat : Nat) : Int) by have := hf.w1; have := hf.x0; have := hf.x1; omega)
  clear hr hs hf
  dsimp only at *
  go_enter Tryz.func50, Tryz.ntmps50
  go_upto_region 1 with fail
  generalize hW : (w.alloc _).alloc _ = W; have hX : WS w.heap.size (w.heap.size + 1) 2 ⟨s, F, zs, L⟩ w W ⟨s, F, zs, L⟩ := hW ▸ WS.start HR.out; clear hW
  have hz := hX.sz
  go_upto_region 2 with (first | (refine hX.wload rfl rfl rfl ?_) | ((with_reducible refine (ground_c s _).mono ?_); rintro e w1 ⟨rfl, hg⟩; replace hg := hg.below))
  generalize hW1 : w1.alloc _ = W1
  have hX1 : WS w.heap.size (w.heap.size + 1) 2 ⟨s, F, zs, L⟩ w W1 ⟨s, F, zs, L⟩ := by rw [← hW1]; exact (hX.below hg).alloc _
  have hPB : Blk W1 w1.heap.size 26 #[.int .i64 0, .int .i64 s.bg, .int .i64 0] := by rw [← hW1]; exact Blk.new _ _ _
  have hhp : w.heap.size + 2 ≤ w1.heap.size := by have := hg.size; omega
  clear hW1 hX hz hg
  generalize w1.heap.size = pb at *
  generalize (.agg #[.slice s.gA s.gn s.gc, .int .i64 s.x, .int .i64 s.y, .bool s.wr, .bool s.og, .int .i64 s.fg, .int .i64 s.bg, .int .i64 s.fl, .int .u8 s.g0, .int .u8 s.g1, .int .u8 s.g2, .int .u8 s.g3, .int .i64 s.gl, .int .i64 s.gr, .int .i64 s.on, .int .i64 s.H, .int .i64 s.W, .int .i64 s.T, .int .i64 s.B, .slice s.tA s.tn s.tc, .int .i64 s.tw, .slice s.kA s.kn s.kc, .int .i64 s.kp, .int .i64 s.dir, .bool s.ex] : Value) = V0
  go_upto_region 9 with fail
  obtain ⟨c1, c16⟩ := hX1.xw
  have hN := hX1.drew
  replace hPB : Blk W1.drew pb 26 #[.int .i64 0, .int .i64 s.bg, .int .i64 0] := hPB
  refine hr_start (S := (fun w' => w'.cell? ⟨w.heap.size, 1, none⟩ = some (.int .i64 s.x) ∧ w'.cell? ⟨w.heap.size, 16, none⟩ = some (.int .i64 s.W) ∧ Blk w' pb 26 #[.int .i64 0, .int .i64 s.bg, .int .i64 0])) (by kernel_rfl) rfl ?_ (fun hHeld => ?_)
  · ((try dsimp only); (first | exact ⟨c1, c16, hPB⟩ | exact ⟨hN.xw.1, hN.xw.2, hPB⟩ | exact ⟨hc5.1, hc5.2, hPB5⟩ | exact hHeld))
  refine hr_t 1 (v := ?_) ?_ ?_
  rotate_left
  focus (intro wS hSw; (obtain ⟨q1, q16, qP⟩ := hSw; obtain ⟨d0, d1, d2, df, dl⟩ := qP.facts3); go_simp; (try with_reducible rfl))
  simp only [st0, st1]
  refine hr_t 2 (v := ?_) ?_ ?_
  rotate_left
  focus (intro wS hSw; (obtain ⟨q1, q16, qP⟩ := hSw; obtain ⟨d0, d1, d2, df, dl⟩ := qP.facts3); go_simp; (try with_reducible rfl))
  simp only [st0, st1]
  refine hr_t 3 (v := ?_) ?_ ?_
  rotate_left
  focus (intro wS hSw; (obtain ⟨q1, q16, qP⟩ := hSw; obtain ⟨d0, d1, d2, df, dl⟩ := qP.facts3); go_simp; (try with_reducible rfl))
  simp only [st0, st1]
  refine hr_t 4 (v := ?_) ?_ ?_
  rotate_left
  focus (intro wS hSw; (obtain ⟨q1, q16, qP⟩ := hSw; obtain ⟨d0, d1, d2, df, dl⟩ := qP.facts3); go_simp; (try with_reducible rfl))
  simp only [st0, st1]
  refine hr_two (i := 0) (j := 5) rfl rfl rfl rfl (by kernel_rfl) (by kernel_rfl) (by kernel_rfl) (fun K hK => ?_) (fun K hK => ?_)
  · refine wp_scr_load hN.x.B rfl rfl ?_
    refine hK.out _ _ ?_ (fun hHeld => ?_)
    · ((try dsimp only); (first | exact ⟨c1, c16, hPB⟩ | exact ⟨hN.xw.1, hN.xw.2, hPB⟩ | exact ⟨hc5.1, hc5.2, hPB5⟩ | exact hHeld))
    clear hK K
    simp only [st0, st1]
    refine hr_o 5 (fun K hK => ?_)
    (try go_simp)
    ((with_reducible refine (erased_c 0 s.W 0 s.bg 0 _).mono ?_); rintro e w1 ⟨_, rfl, hg, b1, b2, b3, rfl, hk1, hk2, hk3⟩; have hz1 := hN.sz; replace hN := hN.below hg; replace hPB := hPB.below hg hPB.lt)
    (try go_wp2_with fail)
    refine hK.out _ _ ?_ (fun hHeld => ?_)
    · ((try dsimp only); (first | exact ⟨c1, c16, hPB⟩ | exact ⟨hN.xw.1, hN.xw.2, hPB⟩ | exact ⟨hc5.1, hc5.2, hPB5⟩ | exact hHeld))
    clear hK K
    simp only [st0, st1]
    refine hr_o 6 (fun K hK => ?_)
    (try go_simp)
    ((with_reducible refine (wraps_c false _).mono ?_); rintro e w2 ⟨_, rfl, hg, b4, rfl, hk4⟩; replace hN := hN.below hg; replace hPB := hPB.below hg hPB.lt; replace hk1 := hk1.below hg hk1.lt; replace hk2 := hk2.below hg hk2.lt; replace hk3 := hk3.below hg hk3.lt)
    (try go_wp2_with fail)
    refine hK.out _ _ ?_ (fun hHeld => ?_)
    · ((try dsimp only); (first | exact ⟨c1, c16, hPB⟩ | exact ⟨hN.xw.1, hN.xw.2, hPB⟩ | exact ⟨hc5.1, hc5.2, hPB5⟩ | exact hHeld))
    clear hK K
    simp only [st0, st1]
    refine hr_o 7 (fun K hK => ?_)
    (try go_simp)
    (have hx : RdX encF (w2.alloc (.cells #[.func (.func 85) #[] #[.pointer (some ⟨b1, 0, none⟩), .pointer (some ⟨b2, 0, none⟩), .pointer (some ⟨b3, 0, none⟩)], .func (.func 101) #[] #[.pointer (some ⟨b4, 0, none⟩)]] 88)) (.slice (some ⟨w2.heap.size, 0, none⟩) 2 2) [⟨85, #[.pointer (some ⟨b1, 0, none⟩), .pointer (some ⟨b2, 0, none⟩), .pointer (some ⟨b3, 0, none⟩)]⟩, ⟨101, #[.pointer (some ⟨b4, 0, none⟩)]⟩] := rdX_two _ _ _; replace hk1 := hk1.alloc (.cells #[.func (.func 85) #[] #[.pointer (some ⟨b1, 0, none⟩), .pointer (some ⟨b2, 0, none⟩), .pointer (some ⟨b3, 0, none⟩)], .func (.func 101) #[] #[.pointer (some ⟨b4, 0, none⟩)]] 88); replace hk2 := hk2.alloc (.cells #[.func (.func 85) #[] #[.pointer (some ⟨b1, 0, none⟩), .pointer (some ⟨b2, 0, none⟩), .pointer (some ⟨b3, 0, none⟩)], .func (.func 101) #[] #[.pointer (some ⟨b4, 0, none⟩)]] 88); replace hk3 := hk3.alloc (.cells #[.func (.func 85) #[] #[.pointer (some ⟨b1, 0, none⟩), .pointer (some ⟨b2, 0, none⟩), .pointer (some ⟨b3, 0, none⟩)], .func (.func 101) #[] #[.pointer (some ⟨b4, 0, none⟩)]] 88); replace hk4 := hk4.alloc (.cells #[.func (.func 85) #[] #[.pointer (some ⟨b1, 0, none⟩), .pointer (some ⟨b2, 0, none⟩), .pointer (some ⟨b3, 0, none⟩)], .func (.func 101) #[] #[.pointer (some ⟨b4, 0, none⟩)]] 88); replace hPB := hPB.alloc (.cells #[.func (.func 85) #[] #[.pointer (some ⟨b1, 0, none⟩), .pointer (some ⟨b2, 0, none⟩), .pointer (some ⟨b3, 0, none⟩)], .func (.func 101) #[] #[.pointer (some ⟨b4, 0, none⟩)]] 88); replace hN := hN.alloc (.cells #[.func (.func 85) #[] #[.pointer (some ⟨b1, 0, none⟩), .pointer (some ⟨b2, 0, none⟩), .pointer (some ⟨b3, 0, none⟩)], .func (.func 101) #[] #[.pointer (some ⟨b4, 0, none⟩)]] 88))
    (try go_wp2_with fail)
    refine hK.out _ _ ?_ (fun hHeld => ?_)
    · ((try dsimp only); (first | exact ⟨c1, c16, hPB⟩ | exact ⟨hN.xw.1, hN.xw.2, hPB⟩ | exact ⟨hc5.1, hc5.2, hPB5⟩ | exact hHeld))
    clear hK K
    simp only [st0, st1]
    refine hr_o 8 (fun K hK => ?_)
    (try go_simp)
    ((with_reducible refine (onRow_2 ⟨s, F, zs, L⟩ _ s.W.toNat _ _ _ _ _ HS.out.bare hN.v.rd hx HWQ.out (erased_step s.W.toNat 0 s.W.toNat b1 b2 b3 _ _ _ _ _ _ hk1 hk2 hk3 HPN.out HF0.out HT0.out) (wraps_step false b4 _ _ hk4)).mono ?_); intro e w3 hp; have hPB3 := hPB; obtain ⟨S1, rfl, hN1, hV1, hm1, hz3⟩ := hN.post (by have := hN.sz; omega) hp; replace hPB := hPB.below (WS.step hp) hPB.lt; clear hN; have hN := hN1)
    (try go_wp2_with fail)
    refine hK.out _ _ ?_ (fun hHeld => ?_)
    · ((try dsimp only); (first | exact ⟨c1, c16, hPB⟩ | exact ⟨hN.xw.1, hN.xw.2, hPB⟩ | exact ⟨hc5.1, hc5.2, hPB5⟩ | exact hHeld))
    clear hK K
    simp only [st0, st1]
    refine hr_op0 (i := 9) rfl (by kernel_rfl) (by kernel_rfl) (fun K hK => ?_)
    (refine wp_scr_store S1.s hN.x.B.isScr rfl rfl rfl rfl ?_; generalize hW5 : World.setRow _ _ _ = W5; have hN2 : WS w.heap.size (w.heap.size + 1) 2 ⟨s, F, zs, L⟩ w W5 S1 := hW5 ▸ hN.row (by omega) hV1; have hPB5 : Blk W5 pb 26 #[.int .i64 0, .int .i64 s.bg, .int .i64 0] := hW5 ▸ (setRow_other _ _ _ _ (by omega)).trans hPB; obtain ⟨hxx, hww⟩ := setR_xw hm1; have hc5 := hN2.xw; rw [hxx, hww] at hc5; clear hW5 hxx hww)
    refine hK.out _ ?_ (fun hHeld => ?_)
    · ((try dsimp only); (first | exact ⟨c1, c16, hPB⟩ | exact ⟨hN.xw.1, hN.xw.2, hPB⟩ | exact ⟨hc5.1, hc5.2, hPB5⟩ | exact hHeld))
    clear hK K
    refine hr_done (by kernel_rfl) ?_
    (have hz5 := hN2.sz; have rS := SBlk.isScr hN2.x.B; have rL := SBlk.cells hN2.x.B; have rZ := IsScr.lt rS; go_upto_region 11 with fail; clear rS rL rZ; generalize hW6 : World.setCell _ _ _ = W6; have hX6 : WS w.heap.size (w.heap.size + 1) 2 ⟨s, F, zs, L⟩ w W6 ⟨{ S1.s with wr := false }, S1.F, S1.zs, S1.L⟩ := hW6 ▸ hN2.cell (by omega) 3 _ (fun v => ⟨v.rd, v.out, v.gen⟩) rfl; clear hW6; go_wp2_with (first | (refine hX6.wload rfl rfl rfl ?_) | (refine hX6.wstore hX6.v (by rfl) (by rfl) (by rfl) (by rfl) (by rfl) ?_)); exact bodyPost_ret (results_scr rfl rfl (hX6.res hX6.v)) rfl (hX6.fin hX6.v (by omega) (wr_md hm1)))
  · (try go_simp)
    ((with_reducible refine (erased_c 0 s.W 0 s.bg 0 _).mono ?_); rintro e w1 ⟨_, rfl, hg, b1, b2, b3, rfl, hk1, hk2, hk3⟩; have hz1 := hN.sz; replace hN := hN.below hg; replace hPB := hPB.below hg hPB.lt)
    (try go_wp2_with fail)
    refine hK.out _ _ ?_ (fun hHeld => ?_)
    · ((try dsimp only); (first | exact ⟨c1, c16, hPB⟩ | exact ⟨hN.xw.1, hN.xw.2, hPB⟩ | exact ⟨hc5.1, hc5.2, hPB5⟩ | exact hHeld))
    clear hK K
    simp only [st0, st1]
    refine hr_two (i := 0) (j := 6) rfl rfl rfl rfl (by kernel_rfl) (by kernel_rfl) (by kernel_rfl) (fun K hK => ?_) (fun K hK => ?_)
    · refine wp_scr_load hN.x.B rfl rfl ?_
      refine hK.out _ _ ?_ (fun hHeld => ?_)
      · ((try dsimp only); (first | exact ⟨c1, c16, hPB⟩ | exact ⟨hN.xw.1, hN.xw.2, hPB⟩ | exact ⟨hc5.1, hc5.2, hPB5⟩ | exact hHeld))
      clear hK K
      simp only [st0, st1]
      refine hr_o 6 (fun K hK => ?_)
      (try go_simp)
      ((with_reducible refine (wraps_c false _).mono ?_); rintro e w2 ⟨_, rfl, hg, b4, rfl, hk4⟩; replace hN := hN.below hg; replace hPB := hPB.below hg hPB.lt; replace hk1 := hk1.below hg hk1.lt; replace hk2 := hk2.below hg hk2.lt; replace hk3 := hk3.below hg hk3.lt)
      (try go_wp2_with fail)
      refine hK.out _ _ ?_ (fun hHeld => ?_)
      · ((try dsimp only); (first | exact ⟨c1, c16, hPB⟩ | exact ⟨hN.xw.1, hN.xw.2, hPB⟩ | exact ⟨hc5.1, hc5.2, hPB5⟩ | exact hHeld))
      clear hK K
      simp only [st0, st1]
      refine hr_o 7 (fun K hK => ?_)
      (try go_simp)
      (have hx : RdX encF (w2.alloc (.cells #[.func (.func 85) #[] #[.pointer (some ⟨b1, 0, none⟩), .pointer (some ⟨b2, 0, none⟩), .pointer (some ⟨b3, 0, none⟩)], .func (.func 101) #[] #[.pointer (some ⟨b4, 0, none⟩)]] 88)) (.slice (some ⟨w2.heap.size, 0, none⟩) 2 2) [⟨85, #[.pointer (some ⟨b1, 0, none⟩), .pointer (some ⟨b2, 0, none⟩), .pointer (some ⟨b3, 0, none⟩)]⟩, ⟨101, #[.pointer (some ⟨b4, 0, none⟩)]⟩] := rdX_two _ _ _; replace hk1 := hk1.alloc (.cells #[.func (.func 85) #[] #[.pointer (some ⟨b1, 0, none⟩), .pointer (some ⟨b2, 0, none⟩), .pointer (some ⟨b3, 0, none⟩)], .func (.func 101) #[] #[.pointer (some ⟨b4, 0, none⟩)]] 88); replace hk2 := hk2.alloc (.cells #[.func (.func 85) #[] #[.pointer (some ⟨b1, 0, none⟩), .pointer (some ⟨b2, 0, none⟩), .pointer (some ⟨b3, 0, none⟩)], .func (.func 101) #[] #[.pointer (some ⟨b4, 0, none⟩)]] 88); replace hk3 := hk3.alloc (.cells #[.func (.func 85) #[] #[.pointer (some ⟨b1, 0, none⟩), .pointer (some ⟨b2, 0, none⟩), .pointer (some ⟨b3, 0, none⟩)], .func (.func 101) #[] #[.pointer (some ⟨b4, 0, none⟩)]] 88); replace hk4 := hk4.alloc (.cells #[.func (.func 85) #[] #[.pointer (some ⟨b1, 0, none⟩), .pointer (some ⟨b2, 0, none⟩), .pointer (some ⟨b3, 0, none⟩)], .func (.func 101) #[] #[.pointer (some ⟨b4, 0, none⟩)]] 88); replace hPB := hPB.alloc (.cells #[.func (.func 85) #[] #[.pointer (some ⟨b1, 0, none⟩), .pointer (some ⟨b2, 0, none⟩), .pointer (some ⟨b3, 0, none⟩)], .func (.func 101) #[] #[.pointer (some ⟨b4, 0, none⟩)]] 88); replace hN := hN.alloc (.cells #[.func (.func 85) #[] #[.pointer (some ⟨b1, 0, none⟩), .pointer (some ⟨b2, 0, none⟩), .pointer (some ⟨b3, 0, none⟩)], .func (.func 101) #[] #[.pointer (some ⟨b4, 0, none⟩)]] 88))
      (try go_wp2_with fail)
      refine hK.out _ _ ?_ (fun hHeld => ?_)
      · ((try dsimp only); (first | exact ⟨c1, c16, hPB⟩ | exact ⟨hN.xw.1, hN.xw.2, hPB⟩ | exact ⟨hc5.1, hc5.2, hPB5⟩ | exact hHeld))
      clear hK K
      simp only [st0, st1]
      refine hr_o 8 (fun K hK => ?_)
      (try go_simp)
      ((with_reducible refine (onRow_2 ⟨s, F, zs, L⟩ _ s.W.toNat _ _ _ _ _ HS.out.bare hN.v.rd hx HWQ.out (erased_step s.W.toNat 0 s.W.toNat b1 b2 b3 _ _ _ _ _ _ hk1 hk2 hk3 HPN.out HF0.out HT0.out) (wraps_step false b4 _ _ hk4)).mono ?_); intro e w3 hp; have hPB3 := hPB; obtain ⟨S1, rfl, hN1, hV1, hm1, hz3⟩ := hN.post (by have := hN.sz; omega) hp; replace hPB := hPB.below (WS.step hp) hPB.lt; clear hN; have hN := hN1)
      (try go_wp2_with fail)
      refine hK.out _ _ ?_ (fun hHeld => ?_)
      · ((try dsimp only); (first | exact ⟨c1, c16, hPB⟩ | exact ⟨hN.xw.1, hN.xw.2, hPB⟩ | exact ⟨hc5.1, hc5.2, hPB5⟩ | exact hHeld))
      clear hK K
      simp only [st0, st1]
      refine hr_op0 (i := 9) rfl (by kernel_rfl) (by kernel_rfl) (fun K hK => ?_)
      (refine wp_scr_store S1.s hN.x.B.isScr rfl rfl rfl rfl ?_; generalize hW5 : World.setRow _ _ _ = W5; have hN2 : WS w.heap.size (w.heap.size + 1) 2 ⟨s, F, zs, L⟩ w W5 S1 := hW5 ▸ hN.row (by omega) hV1; have hPB5 : Blk W5 pb 26 #[.int .i64 0, .int .i64 s.bg, .int .i64 0] := hW5 ▸ (setRow_other _ _ _ _ (by omega)).trans hPB; obtain ⟨hxx, hww⟩ := setR_xw hm1; have hc5 := hN2.xw; rw [hxx, hww] at hc5; clear hW5 hxx hww)
      refine hK.out _ ?_ (fun hHeld => ?_)
      · ((try dsimp only); (first | exact ⟨c1, c16, hPB⟩ | exact ⟨hN.xw.1, hN.xw.2, hPB⟩ | exact ⟨hc5.1, hc5.2, hPB5⟩ | exact hHeld))
      clear hK K
      refine hr_done (by kernel_rfl) ?_
      (have hz5 := hN2.sz; have rS := SBlk.isScr hN2.x.B; have rL := SBlk.cells hN2.x.B; have rZ := IsScr.lt rS; go_upto_region 11 with fail; clear rS rL rZ; generalize hW6 : World.setCell _ _ _ = W6; have hX6 : WS w.heap.size (w.heap.size + 1) 2 ⟨s, F, zs, L⟩ w W6 ⟨{ S1.s with wr := false }, S1.F, S1.zs, S1.L⟩ := hW6 ▸ hN2.cell (by omega) 3 _ (fun v => ⟨v.rd, v.out, v.gen⟩) rfl; clear hW6; go_wp2_with (first | (refine hX6.wload rfl rfl rfl ?_) | (refine hX6.wstore hX6.v (by rfl) (by rfl) (by rfl) (by rfl) (by rfl) ?_)); exact bodyPost_ret (results_scr rfl rfl (hX6.res hX6.v)) rfl (hX6.fin hX6.v (by omega) (wr_md hm1)))
    · (try go_simp)
      ((with_reducible refine (wraps_c false _).mono ?_); rintro e w2 ⟨_, rfl, hg, b4, rfl, hk4⟩; replace hN := hN.below hg; replace hPB := hPB.below hg hPB.lt; replace hk1 := hk1.below hg hk1.lt; replace hk2 := hk2.below hg hk2.lt; replace hk3 := hk3.below hg hk3.lt)
      (try go_wp2_with fail)
      refine hK.out _ _ ?_ (fun hHeld => ?_)
      · ((try dsimp only); (first | exact ⟨c1, c16, hPB⟩ | exact ⟨hN.xw.1, hN.xw.2, hPB⟩ | exact ⟨hc5.1, hc5.2, hPB5⟩ | exact hHeld))
      clear hK K
      simp only [st0, st1]
      refine hr_two (i := 0) (j := 7) rfl rfl rfl rfl (by kernel_rfl) (by kernel_rfl) (by kernel_rfl) (fun K hK => ?_) (fun K hK => ?_)
      · refine wp_scr_load hN.x.B rfl rfl ?_
        refine hK.out _ _ ?_ (fun hHeld => ?_)
        · ((try dsimp only); (first | exact ⟨c1, c16, hPB⟩ | exact ⟨hN.xw.1, hN.xw.2, hPB⟩ | exact ⟨hc5.1, hc5.2, hPB5⟩ | exact hHeld))
        clear hK K
        simp only [st0, st1]
        refine hr_o 7 (fun K hK => ?_)
        (try go_simp)
        (have hx : RdX encF (w2.alloc (.cells #[.func (.func 85) #[] #[.pointer (some ⟨b1, 0, none⟩), .pointer (some ⟨b2, 0, none⟩), .pointer (some ⟨b3, 0, none⟩)], .func (.func 101) #[] #[.pointer (some ⟨b4, 0, none⟩)]] 88)) (.slice (some ⟨w2.heap.size, 0, none⟩) 2 2) [⟨85, #[.pointer (some ⟨b1, 0, none⟩), .pointer (some ⟨b2, 0, none⟩), .pointer (some ⟨b3, 0, none⟩)]⟩, ⟨101, #[.pointer (some ⟨b4, 0, none⟩)]⟩] := rdX_two _ _ _; replace hk1 := hk1.alloc (.cells #[.func (.func 85) #[] #[.pointer (some ⟨b1, 0, none⟩), .pointer (some ⟨b2, 0, none⟩), .pointer (some ⟨b3, 0, none⟩)], .func (.func 101) #[] #[.pointer (some ⟨b4, 0, none⟩)]] 88); replace hk2 := hk2.alloc (.cells #[.func (.func 85) #[] #[.pointer (some ⟨b1, 0, none⟩), .pointer (some ⟨b2, 0, none⟩), .pointer (some ⟨b3, 0, none⟩)], .func (.func 101) #[] #[.pointer (some ⟨b4, 0, none⟩)]] 88); replace hk3 := hk3.alloc (.cells #[.func (.func 85) #[] #[.pointer (some ⟨b1, 0, none⟩), .pointer (some ⟨b2, 0, none⟩), .pointer (some ⟨b3, 0, none⟩)], .func (.func 101) #[] #[.pointer (some ⟨b4, 0, none⟩)]] 88); replace hk4 := hk4.alloc (.cells #[.func (.func 85) #[] #[.pointer (some ⟨b1, 0, none⟩), .pointer (some ⟨b2, 0, none⟩), .pointer (some ⟨b3, 0, none⟩)], .func (.func 101) #[] #[.pointer (some ⟨b4, 0, none⟩)]] 88); replace hPB := hPB.alloc (.cells #[.func (.func 85) #[] #[.pointer (some ⟨b1, 0, none⟩), .pointer (some ⟨b2, 0, none⟩), .pointer (some ⟨b3, 0, none⟩)], .func (.func 101) #[] #[.pointer (some ⟨b4, 0, none⟩)]] 88); replace hN := hN.alloc (.cells #[.func (.func 85) #[] #[.pointer (some ⟨b1, 0, none⟩), .pointer (some ⟨b2, 0, none⟩), .pointer (some ⟨b3, 0, none⟩)], .func (.func 101) #[] #[.pointer (some ⟨b4, 0, none⟩)]] 88))
        (try go_wp2_with fail)
        refine hK.out _ _ ?_ (fun hHeld => ?_)
        · ((try dsimp only); (first | exact ⟨c1, c16, hPB⟩ | exact ⟨hN.xw.1, hN.xw.2, hPB⟩ | exact ⟨hc5.1, hc5.2, hPB5⟩ | exact hHeld))
        clear hK K
        simp only [st0, st1]
        refine hr_o 8 (fun K hK => ?_)
        (try go_simp)
        ((with_reducible refine (onRow_2 ⟨s, F, zs, L⟩ _ s.W.toNat _ _ _ _ _ HS.out.bare hN.v.rd hx HWQ.out (erased_step s.W.toNat 0 s.W.toNat b1 b2 b3 _ _ _ _ _ _ hk1 hk2 hk3 HPN.out HF0.out HT0.out) (wraps_step false b4 _ _ hk4)).mono ?_); intro e w3 hp; have hPB3 := hPB; obtain ⟨S1, rfl, hN1, hV1, hm1, hz3⟩ := hN.post (by have := hN.sz; omega) hp; replace hPB := hPB.below (WS.step hp) hPB.lt; clear hN; have hN := hN1)
        (try go_wp2_with fail)
        refine hK.out _ _ ?_ (fun hHeld => ?_)
        · ((try dsimp only); (first | exact ⟨c1, c16, hPB⟩ | exact ⟨hN.xw.1, hN.xw.2, hPB⟩ | exact ⟨hc5.1, hc5.2, hPB5⟩ | exact hHeld))
        clear hK K
        simp only [st0, st1]
        refine hr_op0 (i := 9) rfl (by kernel_rfl) (by kernel_rfl) (fun K hK => ?_)
        (refine wp_scr_store S1.s hN.x.B.isScr rfl rfl rfl rfl ?_; generalize hW5 : World.setRow _ _ _ = W5; have hN2 : WS w.heap.size (w.heap.size + 1) 2 ⟨s, F, zs, L⟩ w W5 S1 := hW5 ▸ hN.row (by omega) hV1; have hPB5 : Blk W5 pb 26 #[.int .i64 0, .int .i64 s.bg, .int .i64 0] := hW5 ▸ (setRow_other _ _ _ _ (by omega)).trans hPB; obtain ⟨hxx, hww⟩ := setR_xw hm1; have hc5 := hN2.xw; rw [hxx, hww] at hc5; clear hW5 hxx hww)
        refine hK.out _ ?_ (fun hHeld => ?_)
        · ((try dsimp only); (first | exact ⟨c1, c16, hPB⟩ | exact ⟨hN.xw.1, hN.xw.2, hPB⟩ | exact ⟨hc5.1, hc5.2, hPB5⟩ | exact hHeld))
        clear hK K
        refine hr_done (by kernel_rfl) ?_
        (have hz5 := hN2.sz; have rS := SBlk.isScr hN2.x.B; have rL := SBlk.cells hN2.x.B; have rZ := IsScr.lt rS; go_upto_region 11 with fail; clear rS rL rZ; generalize hW6 : World.setCell _ _ _ = W6; have hX6 : WS w.heap.size (w.heap.size + 1) 2 ⟨s, F, zs, L⟩ w W6 ⟨{ S1.s with wr := false }, S1.F, S1.zs, S1.L⟩ := hW6 ▸ hN2.cell (by omega) 3 _ (fun v => ⟨v.rd, v.out, v.gen⟩) rfl; clear hW6; go_wp2_with (first | (refine hX6.wload rfl rfl rfl ?_) | (refine hX6.wstore hX6.v (by rfl) (by rfl) (by rfl) (by rfl) (by rfl) ?_)); exact bodyPost_ret (results_scr rfl rfl (hX6.res hX6.v)) rfl (hX6.fin hX6.v (by omega) (wr_md hm1)))
      · (try go_simp)
        (have hx : RdX encF (w2.alloc (.cells #[.func (.func 85) #[] #[.pointer (some ⟨b1, 0, none⟩), .pointer (some ⟨b2, 0, none⟩), .pointer (some ⟨b3, 0, none⟩)], .func (.func 101) #[] #[.pointer (some ⟨b4, 0, none⟩)]] 88)) (.slice (some ⟨w2.heap.size, 0, none⟩) 2 2) [⟨85, #[.pointer (some ⟨b1, 0, none⟩), .pointer (some ⟨b2, 0, none⟩), .pointer (some ⟨b3, 0, none⟩)]⟩, ⟨101, #[.pointer (some ⟨b4, 0, none⟩)]⟩] := rdX_two _ _ _; replace hk1 := hk1.alloc (.cells #[.func (.func 85) #[] #[.pointer (some ⟨b1, 0, none⟩), .pointer (some ⟨b2, 0, none⟩), .pointer (some ⟨b3, 0, none⟩)], .func (.func 101) #[] #[.pointer (some ⟨b4, 0, none⟩)]] 88); replace hk2 := hk2.alloc (.cells #[.func (.func 85) #[] #[.pointer (some ⟨b1, 0, none⟩), .pointer (some ⟨b2, 0, none⟩), .pointer (some ⟨b3, 0, none⟩)], .func (.func 101) #[] #[.pointer (some ⟨b4, 0, none⟩)]] 88); replace hk3 := hk3.alloc (.cells #[.func (.func 85) #[] #[.pointer (some ⟨b1, 0, none⟩), .pointer (some ⟨b2, 0, none⟩), .pointer (some ⟨b3, 0, none⟩)], .func (.func 101) #[] #[.pointer (some ⟨b4, 0, none⟩)]] 88); replace hk4 := hk4.alloc (.cells #[.func (.func 85) #[] #[.pointer (some ⟨b1, 0, none⟩), .pointer (some ⟨b2, 0, none⟩), .pointer (some ⟨b3, 0, none⟩)], .func (.func 101) #[] #[.pointer (some ⟨b4, 0, none⟩)]] 88); replace hPB := hPB.alloc (.cells #[.func (.func 85) #[] #[.pointer (some ⟨b1, 0, none⟩), .pointer (some ⟨b2, 0, none⟩), .pointer (some ⟨b3, 0, none⟩)], .func (.func 101) #[] #[.pointer (some ⟨b4, 0, none⟩)]] 88); replace hN := hN.alloc (.cells #[.func (.func 85) #[] #[.pointer (some ⟨b1, 0, none⟩), .pointer (some ⟨b2, 0, none⟩), .pointer (some ⟨b3, 0, none⟩)], .func (.func 101) #[] #[.pointer (some ⟨b4, 0, none⟩)]] 88))
        (try go_wp2_with fail)
        refine hK.out _ _ ?_ (fun hHeld => ?_)
        · ((try dsimp only); (first | exact ⟨c1, c16, hPB⟩ | exact ⟨hN.xw.1, hN.xw.2, hPB⟩ | exact ⟨hc5.1, hc5.2, hPB5⟩ | exact hHeld))
        clear hK K
        simp only [st0, st1]
        refine hr_o 0 (fun K hK => ?_)
        refine wp_scr_load hN.x.B rfl rfl ?_
        refine hK.out _ _ ?_ (fun hHeld => ?_)
        · ((try dsimp only); (first | exact ⟨c1, c16, hPB⟩ | exact ⟨hN.xw.1, hN.xw.2, hPB⟩ | exact ⟨hc5.1, hc5.2, hPB5⟩ | exact hHeld))
        clear hK K
        simp only [st0, st1]
        refine hr_o 8 (fun K hK => ?_)
        (try go_simp)
        ((with_reducible refine (onRow_2 ⟨s, F, zs, L⟩ _ s.W.toNat _ _ _ _ _ HS.out.bare hN.v.rd hx HWQ.out (erased_step s.W.toNat 0 s.W.toNat b1 b2 b3 _ _ _ _ _ _ hk1 hk2 hk3 HPN.out HF0.out HT0.out) (wraps_step false b4 _ _ hk4)).mono ?_); intro e w3 hp; have hPB3 := hPB; obtain ⟨S1, rfl, hN1, hV1, hm1, hz3⟩ := hN.post (by have := hN.sz; omega) hp; replace hPB := hPB.below (WS.step hp) hPB.lt; clear hN; have hN := hN1)
        (try go_wp2_with fail)
        refine hK.out _ _ ?_ (fun hHeld => ?_)
        · ((try dsimp only); (first | exact ⟨c1, c16, hPB⟩ | exact ⟨hN.xw.1, hN.xw.2, hPB⟩ | exact ⟨hc5.1, hc5.2, hPB5⟩ | exact hHeld))
        clear hK K
        simp only [st0, st1]
        refine hr_op0 (i := 9) rfl (by kernel_rfl) (by kernel_rfl) (fun K hK => ?_)
        (refine wp_scr_store S1.s hN.x.B.isScr rfl rfl rfl rfl ?_; generalize hW5 : World.setRow _ _ _ = W5; have hN2 : WS w.heap.size (w.heap.size + 1) 2 ⟨s, F, zs, L⟩ w W5 S1 := hW5 ▸ hN.row (by omega) hV1; have hPB5 : Blk W5 pb 26 #[.int .i64 0, .int .i64 s.bg, .int .i64 0] := hW5 ▸ (setRow_other _ _ _ _ (by omega)).trans hPB; obtain ⟨hxx, hww⟩ := setR_xw hm1; have hc5 := hN2.xw; rw [hxx, hww] at hc5; clear hW5 hxx hww)
        refine hK.out _ ?_ (fun hHeld => ?_)
        · ((try dsimp only); (first | exact ⟨c1, c16, hPB⟩ | exact ⟨hN.xw.1, hN.xw.2, hPB⟩ | exact ⟨hc5.1, hc5.2, hPB5⟩ | exact hHeld))
        clear hK K
        refine hr_done (by kernel_rfl) ?_
        (have hz5 := hN2.sz; have rS := SBlk.isScr hN2.x.B; have rL := SBlk.cells hN2.x.B; have rZ := IsScr.lt rS; go_upto_region 11 with fail; clear rS rL rZ; generalize hW6 : World.setCell _ _ _ = W6; have hX6 : WS w.heap.size (w.heap.size + 1) 2 ⟨s, F, zs, L⟩ w W6 ⟨{ S1.s with wr := false }, S1.F, S1.zs, S1.L⟩ := hW6 ▸ hN2.cell (by omega) 3 _ (fun v => ⟨v.rd, v.out, v.gen⟩) rfl; clear hW6; go_wp2_with (first | (refine hX6.wload rfl rfl rfl ?_) | (refine hX6.wstore hX6.v (by rfl) (by rfl) (by rfl) (by rfl) (by rfl) ?_)); exact bodyPost_ret (results_scr rfl rfl (hX6.res hX6.v)) rfl (hX6.fin hX6.v (by omega) (wr_md hm1)))
set_option maxRecDepth 100000 in
set_option maxHeartbeats 4000000 in
theorem eraseLine_no (S : Sn) (k : Int) (w : World) (hr : S.rd w) (h0 : k ≠ 0) (h1 : k ≠ 1) (h2 : k ≠ 2) : Calls Tryz.prog 50 #[.agg #[.slice S.s.gA S.s.gn S.s.gc, .int .i64 S.s.x, .int .i64 S.s.y, .bool S.s.wr, .bool S.s.og, .int .i64 S.s.fg, .int .i64 S.s.bg, .int .i64 S.s.fl, .int .u8 S.s.g0, .int .u8 S.s.g1, .int .u8 S.s.g2, .int .u8 S.s.g3, .int .i64 S.s.gl, .int .i64 S.s.gr, .int .i64 S.s.on, .int .i64 S.s.H, .int .i64 S.s.W, .int .i64 S.s.T, .int .i64 S.s.B, .slice S.s.tA S.s.tn S.s.tc, .int .i64 S.s.tw, .slice S.s.kA S.s.kn S.s.kc, .int .i64 S.s.kp, .int .i64 S.s.dir, .bool S.s.ex], .int .i64 k] w (SPost S w (fun m => m = S.md)) := by
  have HR := Lib.hid hr
  obtain ⟨s, F, zs, L⟩ := S
  have d0 : (k == 0) = false := by simpa using h0
  have d1 : (k == 1) = false := by simpa using h1
  have d2 : (k == 2) = false := by simpa using h2
  clear hr h0 h1 h2
  dsimp only at *
  go_enter Tryz.func50, Tryz.ntmps50
  go_upto_region 1 with fail
  generalize hW : (w.alloc _).alloc _ = W; have hX : WS w.heap.size (w.heap.size + 1) 2 ⟨s, F, zs, L⟩ w W ⟨s, F, zs, L⟩ := hW ▸ WS.start HR.out; clear hW
  have hz := hX.sz
  go_upto_region 2 with (first | (refine hX.wload rfl rfl rfl ?_) | ((with_reducible refine (ground_c s _).mono ?_); rintro e w1 ⟨rfl, hg⟩; replace hg := hg.below))
  generalize hW1 : w1.alloc _ = W1
  have hX1 : WS w.heap.size (w.heap.size + 1) 2 ⟨s, F, zs, L⟩ w W1 ⟨s, F, zs, L⟩ := by rw [← hW1]; exact (hX.below hg).alloc _
  clear hW1 hX hz hg
  generalize (.agg #[.slice s.gA s.gn s.gc, .int .i64 s.x, .int .i64 s.y, .bool s.wr, .bool s.og, .int .i64 s.fg, .int .i64 s.bg, .int .i64 s.fl, .int .u8 s.g0, .int .u8 s.g1, .int .u8 s.g2, .int .u8 s.g3, .int .i64 s.gl, .int .i64 s.gr, .int .i64 s.on, .int .i64 s.H, .int .i64 s.W, .int .i64 s.T, .int .i64 s.B, .slice s.tA s.tn s.tc, .int .i64 s.tw, .slice s.kA s.kn s.kc, .int .i64 s.kp, .int .i64 s.dir, .bool s.ex] : Value) = V0
  go_upto_region 3 with fail
  go_wp2_with (first | (refine hX1.wload rfl rfl rfl ?_) | (refine hX1.wstore hX1.v (by rfl) (by rfl) (by rfl) (by rfl) (by rfl) ?_)); exact bodyPost_ret (results_scr rfl rfl (hX1.res hX1.v)) rfl (hX1.fin hX1.v (by omega) rfl)
end Go.Proofs.YtlchffkabpfjpaaGreat.Scr
