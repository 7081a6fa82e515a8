/- screen.InsertRows, DeleteRows. -/
import Derived.Test.YtlchffkabpfjpaaGreatStyC
namespace Go.Proofs.YtlchffkabpfjpaaGreat.Scr
open Go.RowKit Go.Proofs.YtlchffkabpfjpaaGreat.Row
attribute [local go_sem ↓] scr_load_pre scr_store_pre
attribute [local go_sem] scr_cell scr_frozen
theorem WS.yb {g r k : Nat} {S0 S : Sn} {w W : World} (h : WS g r k S0 w W S) : W.cell? ⟨g, 2, none⟩ = some (.int .i64 S.s.y) ∧ W.cell? ⟨g, 18, none⟩ = some (.int .i64 S.s.B) := ⟨Blk.cell h.x.B 2, Blk.cell h.x.B 18⟩
theorem sty_dn {s : Sc} {F : Nat → Rw} {zs : List Int} {L : List Rw} {t b q g2 c2 : Nat} {B2 : Nat → Nat} (hO : (Sn.md ⟨s, F, zs, L⟩).Ok) (hq : t + q ≤ b) (hb : b ≤ s.gn) :
    Sty (Sn.md ⟨s, F, zs, L⟩) (Sn.md ⟨{ s with x := 0, wr := false, gA := some ⟨g2, 0, none⟩, gn := s.gn, gc := c2 }, layG (mdG F t q (b - t - q)) t q B2 (F 0).n 0 s.bg 0, zs, L⟩) := by
  have h := (hO.dnG hq hb).bare
  have e := dn_md s F zs L t b q g2 c2 B2
  refine ⟨?_, rfl, rfl, rfl, rfl, rfl, rfl, rfl, rfl⟩
  have e2 : Sn.md ⟨{ s with x := 0, wr := false, gA := some ⟨g2, 0, none⟩, gn := s.gn, gc := c2 }, layG (mdG F t q (b - t - q)) t q B2 (F 0).n 0 s.bg 0, zs, L⟩ = { (Sn.md ⟨s, F, zs, L⟩).dnG t b q with x := 0, wr := false } := by
    rw [← e]
    rfl
  rw [e2]
  exact h
theorem in_yb {y T B : Int} (h : Cur.insideB y T B = true) : T ≤ y ∧ y < B := by
  unfold Cur.insideB at h
  simpa using h
set_option maxRecDepth 100000 in
set_option maxHeartbeats 4000000 in
theorem InsertRows_c (S : Sn) (k : Int) (w : World) (hs : S.md.Ok) (hr : S.rd w) : Calls Tryz.prog 55 #[.agg #[.slice S.s.gA S.s.gn S.s.gc, .int .i64 S.s.x, .int .i64 S.s.y, .bool S.s.wr, .bool S.s.og, .int .i64 S.s.fg, .int .i64 S.s.bg, .int .i64 S.s.fl, .int .u8 S.s.g0, .int .u8 S.s.g1, .int .u8 S.s.g2, .int .u8 S.s.g3, .int .i64 S.s.gl, .int .i64 S.s.gr, .int .i64 S.s.on, .int .i64 S.s.H, .int .i64 S.s.W, .int .i64 S.s.T, .int .i64 S.s.B, .slice S.s.tA S.s.tn S.s.tc, .int .i64 S.s.tw, .slice S.s.kA S.s.kn S.s.kc, .int .i64 S.s.kp, .int .i64 S.s.dir, .bool S.s.ex], .int .i64 k] w (SPost S w (Sty S.md)) := by
  have HR := Lib.hid hr; have HS := Lib.hid hs; obtain ⟨s, F, zs, L⟩ := S; have hf := hs.cf; simp only [Sn.md] at hf; have HPN := Lib.hid (show penB 0 s.bg 0 = true from hs.ground); have HGS := Lib.hid (show gsaneB (listG s.gn F) = true from (gs_ct _ _).symm.trans hs.gs); have HYN := Lib.hid (show ((s.y.toNat : Nat) : Int) = s.y by have := hf.y0; omega); have HBN := Lib.hid (show ((s.B.toNat : Nat) : Int) = s.B by have := hf.t0; have := hf.tb; omega); have HBH := Lib.hid (show s.B.toNat ≤ s.gn by have := hf.bh; have h := hs.nH; simp only [Sn.md] at h; have := hf.t0; have := hf.tb; omega)
  obtain ⟨MM, e1⟩ : ∃ MM : Int, (if k < 1 then 1 else k) = MM := ⟨_, rfl⟩
  clear hr hs
  dsimp only at *
  go_enter Tryz.func55, Tryz.ntmps55
  go_upto_region 1 with fail
  generalize hW : (w.alloc _).alloc _ = W; have hX : WS w.heap.size (w.heap.size + 1) 2 ⟨s, F, zs, L⟩ w W ⟨s, F, zs, L⟩ := hW ▸ WS.start HR.out; clear hW; have hz := hX.sz
  go_upto_if 15 with (first | (refine hX.wload rfl rfl rfl ?_) | ((with_reducible refine (sane_ok ⟨s, F, zs, L⟩ _ hX.v.rd HS.out).mono ?_); rintro e w0 ⟨rfl, hg⟩; have hX1 := hX.below hg.below; have rS := SBlk.isScr hX1.x.B; have rL := SBlk.cells hX1.x.B; have rZ := IsScr.lt rS))
  refine (Cur.in_c s.x s.y s.wr s.og s.fg s.bg s.fl s.g0 s.g1 s.g2 s.g3 s.gl s.gr s.on s.H s.W s.T s.B _ HS.out.cu).mono ?_
  rintro e w1 ⟨rfl, hg1⟩
  have hX0 := hX1.below hg1.below
  have hz0 := hX0.sz
  clear rS rL rZ hX1 hX hg hg1 hz
  have hX1 := hX0
  clear hX0
  cases hin : Cur.insideB s.y s.T s.B
  · generalize (.agg #[.slice s.gA s.gn s.gc, .int .i64 s.x, .int .i64 s.y, .bool s.wr, .bool s.og, .int .i64 s.fg, .int .i64 s.bg, .int .i64 s.fl, .int .u8 s.g0, .int .u8 s.g1, .int .u8 s.g2, .int .u8 s.g3, .int .i64 s.gl, .int .i64 s.gr, .int .i64 s.on, .int .i64 s.H, .int .i64 s.W, .int .i64 s.T, .int .i64 s.B, .slice s.tA s.tn s.tc, .int .i64 s.tw, .slice s.kA s.kn s.kc, .int .i64 s.kp, .int .i64 s.dir, .bool s.ex] : Value) = V0
    clear hf e1
    go_upto_region 2 with fail
    go_wp2_with (first | (refine hX1.wload rfl rfl rfl ?_) | (refine hX1.wstore hX1.v (by rfl) (by rfl) (by rfl) (by rfl) (by rfl) ?_)); exact bodyPost_ret (results_scr rfl rfl (hX1.res hX1.v)) rfl (hX1.fin hX1.v (by omega) (Sty.refl HS.out))
  · have HIN := Lib.hid (in_yb hin)
    have HTB := Lib.hid (show s.y.toNat < s.B.toNat by have := HIN.out; have := hf.y0; omega)
    obtain ⟨qq, hqq⟩ : ∃ q : Nat, (q : Int) = max 0 (min MM (s.B - s.y)) := ⟨(max 0 (min MM (s.B - s.y))).toNat, by omega⟩
    have HQ := Lib.hid hqq
    have HQB := Lib.hid (show s.y.toNat + qq ≤ s.B.toNat by have := HIN.out; have := hf.y0; have := HQ.out; omega)
    clear hf hqq
    generalize (.agg #[.slice s.gA s.gn s.gc, .int .i64 s.x, .int .i64 s.y, .bool s.wr, .bool s.og, .int .i64 s.fg, .int .i64 s.bg, .int .i64 s.fl, .int .u8 s.g0, .int .u8 s.g1, .int .u8 s.g2, .int .u8 s.g3, .int .i64 s.gl, .int .i64 s.gr, .int .i64 s.on, .int .i64 s.H, .int .i64 s.W, .int .i64 s.T, .int .i64 s.B, .slice s.tA s.tn s.tc, .int .i64 s.tw, .slice s.kA s.kn s.kc, .int .i64 s.kp, .int .i64 s.dir, .bool s.ex] : Value) = V0
    go_upto_region 3 with fail
    obtain ⟨c2', c18⟩ := hX1.yb
    have hN := hX1.drew
    have rS := SBlk.isScr hX1.x.B; have rL := SBlk.cells hX1.x.B; have rZ := IsScr.lt rS
    refine hr_start (S := (fun w' => w'.cell? ⟨w.heap.size, 2, none⟩ = some (.int .i64 s.y) ∧ w'.cell? ⟨w.heap.size, 18, none⟩ = some (.int .i64 s.B))) (by kernel_rfl) rfl ?_ (fun hHeld => ?_)
    · ((try dsimp only); (first | exact ⟨c2', c18⟩ | exact hN.yb | exact hN2.yb | exact hHeld))
    refine hr_t 0 (v := ?_) ?_ ?_
    rotate_left
    focus (intro wS hSw; (obtain ⟨q2, q18⟩ := hSw); go_simp; (try with_reducible rfl))
    simp only [st0, st1]
    refine hr_t 2 (v := ?_) ?_ ?_
    rotate_left
    focus (intro wS hSw; (obtain ⟨q2, q18⟩ := hSw); go_simp; (try with_reducible rfl))
    simp only [st0, st1]
    refine hr_t 3 (v := ?_) ?_ ?_
    rotate_left
    focus (intro wS hSw; (obtain ⟨q2, q18⟩ := hSw); go_simp; (try with_reducible rfl))
    simp only [st0, st1]
    refine hr_t 4 (v := ?_) ?_ ?_
    rotate_left
    focus (intro wS hSw; (obtain ⟨q2, q18⟩ := hSw); go_simp; (try with_reducible rfl))
    simp only [st0, st1]
    refine hr_t 5 (v := ?_) ?_ ?_
    rotate_left
    focus (intro wS hSw; (obtain ⟨q2, q18⟩ := hSw); go_simp; (try with_reducible rfl))
    simp only [st0, st1]
    refine hr_t 6 (v := ?_) ?_ ?_
    rotate_left
    focus (intro wS hSw; (obtain ⟨q2, q18⟩ := hSw); go_simp; (try with_reducible rfl))
    simp only [st0, st1]
    refine hr_t 7 (v := ?_) ?_ ?_
    rotate_left
    focus (intro wS hSw; (obtain ⟨q2, q18⟩ := hSw); go_simp; (try with_reducible rfl))
    simp only [st0, st1]
    refine hr_t 8 (v := ?_) ?_ ?_
    rotate_left
    focus (intro wS hSw; (obtain ⟨q2, q18⟩ := hSw); go_simp; (try with_reducible rfl))
    simp only [st0, st1]
    refine hr_t 9 (v := ?_) ?_ ?_
    rotate_left
    focus (intro wS hSw; (obtain ⟨q2, q18⟩ := hSw); go_simp; (try with_reducible rfl))
    simp only [st0, st1]
    refine hr_two (i := 1) (j := 10) rfl rfl rfl rfl (by kernel_rfl) (by kernel_rfl) (by kernel_rfl) (fun K hK => ?_) (fun K hK => ?_)
    · (have qS := SBlk.isScr hN.x.B; have qL := SBlk.cells hN.x.B; have qZ := IsScr.lt qS; go_simp; clear qS qL qZ)
      refine hK.out _ _ ?_ (fun hHeld => ?_)
      · ((try dsimp only); (first | exact ⟨c2', c18⟩ | exact hN.yb | exact hN2.yb | exact hHeld))
      clear hK K
      simp only [st0, st1]
      refine hr_o 10 (fun K hK => ?_)
      refine wp_scr_load hN.x.B rfl rfl ?_
      refine hK.out _ _ ?_ (fun hHeld => ?_)
      · ((try dsimp only); (first | exact ⟨c2', c18⟩ | exact hN.yb | exact hN2.yb | exact hHeld))
      clear hK K
      simp only [st0, st1]
      refine hr_o 11 (fun K hK => ?_)
      (try go_simp)
      ((with_reducible refine (ground_c s _).mono ?_); rintro e w1 ⟨rfl, hg⟩; replace hg := hg.below; replace hN := hN.below hg)
      (try go_wp2_with fail)
      refine hK.out _ _ ?_ (fun hHeld => ?_)
      · ((try dsimp only); (first | exact ⟨c2', c18⟩ | exact hN.yb | exact hN2.yb | exact hHeld))
      clear hK K
      simp only [st0, st1]
      refine hr_o 12 (fun K hK => ?_)
      (try go_simp)
      ((with_reducible refine (down_i (.slice s.gA s.gn s.gc) s.gn F s.y s.B s.y.toNat s.B.toNat qq MM 0 s.bg 0 _ hN.rows HGS.out HPN.out HYN.out HBN.out HTB.out HBH.out HQ.out).mono ?_); rintro e w2 ⟨g2, c2, B2, rfl, hg, hc2, hr2, hf2⟩; have hzn := hN.sz; replace hN := hN.below hg)
      (try go_wp2_with fail)
      refine hK.out _ _ ?_ (fun hHeld => ?_)
      · ((try dsimp only); (first | exact ⟨c2', c18⟩ | exact hN.yb | exact hN2.yb | exact hHeld))
      clear hK K
      simp only [st0, st1]
      refine hr_t 13 (v := ?_) ?_ ?_
      rotate_left
      focus (intro wS hSw; (obtain ⟨q2, q18⟩ := hSw); go_simp; (try with_reducible rfl))
      simp only [st0, st1]
      refine hr_op0 (i := 14) rfl (by kernel_rfl) (by kernel_rfl) (fun K hK => ?_)
      have qS := SBlk.isScr hN.x.B; have qL := SBlk.cells hN.x.B; have qZ := IsScr.lt qS
      (try go_simp)
      clear qS qL qZ
      (generalize hW5 : World.setCell _ _ _ = W5; have hN2 : WS w.heap.size (w.heap.size + 1) 2 ⟨s, F, zs, L⟩ w W5 ⟨{ s with gA := some ⟨g2, 0, none⟩, gn := s.gn, gc := c2 }, _, zs, L⟩ := hW5 ▸ hN.cell (by omega) 0 _ (fun v => v.grid hr2 ((hf2 _ hX1.v.out.1).mono (out_since (by omega))) (fun P hP => (hf2 _ (hX1.v.gen P hP).1).mono (gen_since (k := 2) (by omega)))) rfl; clear hW5)
      (try go_wp2_with fail)
      refine hK.out _ ?_ (fun hHeld => ?_)
      · ((try dsimp only); (first | exact ⟨c2', c18⟩ | exact hN.yb | exact hN2.yb | exact hHeld))
      clear hK K
      refine hr_done (by kernel_rfl) ?_
      (have hz5 := hN2.sz; have rS := SBlk.isScr hN2.x.B; have rL := SBlk.cells hN2.x.B; have rZ := IsScr.lt rS; go_upto_region 5 with fail; clear rS rL rZ; generalize hW6 : World.setCell _ _ _ = W6; have hX6 : WS w.heap.size (w.heap.size + 1) 2 ⟨s, F, zs, L⟩ w W6 ⟨{ s with x := 0, wr := false, gA := some ⟨g2, 0, none⟩, gn := s.gn, gc := c2 }, layG (mdG F s.y.toNat qq (s.B.toNat - s.y.toNat - qq)) s.y.toNat qq B2 (F 0).n 0 s.bg 0, zs, L⟩ := (by rw [← hW6]; exact hN2.cell2 (by omega) 1 3 (.int .i64 0) (.bool false) (fun v => ⟨v.rd, v.out, v.gen⟩) rfl); clear hW6; go_wp2_with (first | (refine hX6.wload rfl rfl rfl ?_) | (refine hX6.wstore hX6.v (by rfl) (by rfl) (by rfl) (by rfl) (by rfl) ?_)); exact bodyPost_ret (results_scr rfl rfl (hX6.res hX6.v)) rfl (hX6.fin hX6.v (by omega) (by exact sty_dn HS.out HQB.out HBH.out)))
    · refine wp_scr_load hN.x.B rfl rfl ?_
      refine hK.out _ _ ?_ (fun hHeld => ?_)
      · ((try dsimp only); (first | exact ⟨c2', c18⟩ | exact hN.yb | exact hN2.yb | exact hHeld))
      clear hK K
      simp only [st0, st1]
      refine hr_two (i := 1) (j := 11) rfl rfl rfl rfl (by kernel_rfl) (by kernel_rfl) (by kernel_rfl) (fun K hK => ?_) (fun K hK => ?_)
      · (have qS := SBlk.isScr hN.x.B; have qL := SBlk.cells hN.x.B; have qZ := IsScr.lt qS; go_simp; clear qS qL qZ)
        refine hK.out _ _ ?_ (fun hHeld => ?_)
        · ((try dsimp only); (first | exact ⟨c2', c18⟩ | exact hN.yb | exact hN2.yb | exact hHeld))
        clear hK K
        simp only [st0, st1]
        refine hr_o 11 (fun K hK => ?_)
        (try go_simp)
        ((with_reducible refine (ground_c s _).mono ?_); rintro e w1 ⟨rfl, hg⟩; replace hg := hg.below; replace hN := hN.below hg)
        (try go_wp2_with fail)
        refine hK.out _ _ ?_ (fun hHeld => ?_)
        · ((try dsimp only); (first | exact ⟨c2', c18⟩ | exact hN.yb | exact hN2.yb | exact hHeld))
        clear hK K
        simp only [st0, st1]
        refine hr_o 12 (fun K hK => ?_)
        (try go_simp)
        ((with_reducible refine (down_i (.slice s.gA s.gn s.gc) s.gn F s.y s.B s.y.toNat s.B.toNat qq MM 0 s.bg 0 _ hN.rows HGS.out HPN.out HYN.out HBN.out HTB.out HBH.out HQ.out).mono ?_); rintro e w2 ⟨g2, c2, B2, rfl, hg, hc2, hr2, hf2⟩; have hzn := hN.sz; replace hN := hN.below hg)
        (try go_wp2_with fail)
        refine hK.out _ _ ?_ (fun hHeld => ?_)
        · ((try dsimp only); (first | exact ⟨c2', c18⟩ | exact hN.yb | exact hN2.yb | exact hHeld))
        clear hK K
        simp only [st0, st1]
        refine hr_t 13 (v := ?_) ?_ ?_
        rotate_left
        focus (intro wS hSw; (obtain ⟨q2, q18⟩ := hSw); go_simp; (try with_reducible rfl))
        simp only [st0, st1]
        refine hr_op0 (i := 14) rfl (by kernel_rfl) (by kernel_rfl) (fun K hK => ?_)
        have qS := SBlk.isScr hN.x.B; have qL := SBlk.cells hN.x.B; have qZ := IsScr.lt qS
        (try go_simp)
        clear qS qL qZ
        (generalize hW5 : World.setCell _ _ _ = W5; have hN2 : WS w.heap.size (w.heap.size + 1) 2 ⟨s, F, zs, L⟩ w W5 ⟨{ s with gA := some ⟨g2, 0, none⟩, gn := s.gn, gc := c2 }, _, zs, L⟩ := hW5 ▸ hN.cell (by omega) 0 _ (fun v => v.grid hr2 ((hf2 _ hX1.v.out.1).mono (out_since (by omega))) (fun P hP => (hf2 _ (hX1.v.gen P hP).1).mono (gen_since (k := 2) (by omega)))) rfl; clear hW5)
        (try go_wp2_with fail)
        refine hK.out _ ?_ (fun hHeld => ?_)
        · ((try dsimp only); (first | exact ⟨c2', c18⟩ | exact hN.yb | exact hN2.yb | exact hHeld))
        clear hK K
        refine hr_done (by kernel_rfl) ?_
        (have hz5 := hN2.sz; have rS := SBlk.isScr hN2.x.B; have rL := SBlk.cells hN2.x.B; have rZ := IsScr.lt rS; go_upto_region 5 with fail; clear rS rL rZ; generalize hW6 : World.setCell _ _ _ = W6; have hX6 : WS w.heap.size (w.heap.size + 1) 2 ⟨s, F, zs, L⟩ w W6 ⟨{ s with x := 0, wr := false, gA := some ⟨g2, 0, none⟩, gn := s.gn, gc := c2 }, layG (mdG F s.y.toNat qq (s.B.toNat - s.y.toNat - qq)) s.y.toNat qq B2 (F 0).n 0 s.bg 0, zs, L⟩ := (by rw [← hW6]; exact hN2.cell2 (by omega) 1 3 (.int .i64 0) (.bool false) (fun v => ⟨v.rd, v.out, v.gen⟩) rfl); clear hW6; go_wp2_with (first | (refine hX6.wload rfl rfl rfl ?_) | (refine hX6.wstore hX6.v (by rfl) (by rfl) (by rfl) (by rfl) (by rfl) ?_)); exact bodyPost_ret (results_scr rfl rfl (hX6.res hX6.v)) rfl (hX6.fin hX6.v (by omega) (by exact sty_dn HS.out HQB.out HBH.out)))
      · (try go_simp)
        ((with_reducible refine (ground_c s _).mono ?_); rintro e w1 ⟨rfl, hg⟩; replace hg := hg.below; replace hN := hN.below hg)
        (try go_wp2_with fail)
        refine hK.out _ _ ?_ (fun hHeld => ?_)
        · ((try dsimp only); (first | exact ⟨c2', c18⟩ | exact hN.yb | exact hN2.yb | exact hHeld))
        clear hK K
        simp only [st0, st1]
        refine hr_o 1 (fun K hK => ?_)
        (have qS := SBlk.isScr hN.x.B; have qL := SBlk.cells hN.x.B; have qZ := IsScr.lt qS; go_simp; clear qS qL qZ)
        refine hK.out _ _ ?_ (fun hHeld => ?_)
        · ((try dsimp only); (first | exact ⟨c2', c18⟩ | exact hN.yb | exact hN2.yb | exact hHeld))
        clear hK K
        simp only [st0, st1]
        refine hr_o 12 (fun K hK => ?_)
        (try go_simp)
        ((with_reducible refine (down_i (.slice s.gA s.gn s.gc) s.gn F s.y s.B s.y.toNat s.B.toNat qq MM 0 s.bg 0 _ hN.rows HGS.out HPN.out HYN.out HBN.out HTB.out HBH.out HQ.out).mono ?_); rintro e w2 ⟨g2, c2, B2, rfl, hg, hc2, hr2, hf2⟩; have hzn := hN.sz; replace hN := hN.below hg)
        (try go_wp2_with fail)
        refine hK.out _ _ ?_ (fun hHeld => ?_)
        · ((try dsimp only); (first | exact ⟨c2', c18⟩ | exact hN.yb | exact hN2.yb | exact hHeld))
        clear hK K
        simp only [st0, st1]
        refine hr_t 13 (v := ?_) ?_ ?_
        rotate_left
        focus (intro wS hSw; (obtain ⟨q2, q18⟩ := hSw); go_simp; (try with_reducible rfl))
        simp only [st0, st1]
        refine hr_op0 (i := 14) rfl (by kernel_rfl) (by kernel_rfl) (fun K hK => ?_)
        have qS := SBlk.isScr hN.x.B; have qL := SBlk.cells hN.x.B; have qZ := IsScr.lt qS
        (try go_simp)
        clear qS qL qZ
        (generalize hW5 : World.setCell _ _ _ = W5; have hN2 : WS w.heap.size (w.heap.size + 1) 2 ⟨s, F, zs, L⟩ w W5 ⟨{ s with gA := some ⟨g2, 0, none⟩, gn := s.gn, gc := c2 }, _, zs, L⟩ := hW5 ▸ hN.cell (by omega) 0 _ (fun v => v.grid hr2 ((hf2 _ hX1.v.out.1).mono (out_since (by omega))) (fun P hP => (hf2 _ (hX1.v.gen P hP).1).mono (gen_since (k := 2) (by omega)))) rfl; clear hW5)
        (try go_wp2_with fail)
        refine hK.out _ ?_ (fun hHeld => ?_)
        · ((try dsimp only); (first | exact ⟨c2', c18⟩ | exact hN.yb | exact hN2.yb | exact hHeld))
        clear hK K
        refine hr_done (by kernel_rfl) ?_
        (have hz5 := hN2.sz; have rS := SBlk.isScr hN2.x.B; have rL := SBlk.cells hN2.x.B; have rZ := IsScr.lt rS; go_upto_region 5 with fail; clear rS rL rZ; generalize hW6 : World.setCell _ _ _ = W6; have hX6 : WS w.heap.size (w.heap.size + 1) 2 ⟨s, F, zs, L⟩ w W6 ⟨{ s with x := 0, wr := false, gA := some ⟨g2, 0, none⟩, gn := s.gn, gc := c2 }, layG (mdG F s.y.toNat qq (s.B.toNat - s.y.toNat - qq)) s.y.toNat qq B2 (F 0).n 0 s.bg 0, zs, L⟩ := (by rw [← hW6]; exact hN2.cell2 (by omega) 1 3 (.int .i64 0) (.bool false) (fun v => ⟨v.rd, v.out, v.gen⟩) rfl); clear hW6; go_wp2_with (first | (refine hX6.wload rfl rfl rfl ?_) | (refine hX6.wstore hX6.v (by rfl) (by rfl) (by rfl) (by rfl) (by rfl) ?_)); exact bodyPost_ret (results_scr rfl rfl (hX6.res hX6.v)) rfl (hX6.fin hX6.v (by omega) (by exact sty_dn HS.out HQB.out HBH.out)))
theorem sty_up {s : Sc} {F : Nat → Rw} {zs : List Int} {L : List Rw} {t b q g2 c2 : Nat} {B2 : Nat → Nat} (hO : (Sn.md ⟨s, F, zs, L⟩).Ok) (hq : t + q ≤ b) (hb : b ≤ s.gn) :
    Sty (Sn.md ⟨s, F, zs, L⟩) (Sn.md ⟨{ s with x := 0, wr := false, gA := some ⟨g2, 0, none⟩, gn := s.gn, gc := c2 }, layG (mvG F t q (b - t - q)) (b - q) q B2 (F 0).n 0 s.bg 0, zs, L⟩) := by
  have h := (hO.upG hq hb).bare
  refine ⟨?_, rfl, rfl, rfl, rfl, rfl, rfl, rfl, rfl⟩
  have e2 : Sn.md ⟨{ s with x := 0, wr := false, gA := some ⟨g2, 0, none⟩, gn := s.gn, gc := c2 }, layG (mvG F t q (b - t - q)) (b - q) q B2 (F 0).n 0 s.bg 0, zs, L⟩ = { (Sn.md ⟨s, F, zs, L⟩).upG t b q with x := 0, wr := false } := by
    unfold Md.upG
    simp only [Sn.md, ct_lay, ct_mv]
    rfl
  rw [e2]
  exact h
set_option maxRecDepth 100000 in
set_option maxHeartbeats 4000000 in
theorem DeleteRows_c (S : Sn) (k : Int) (w : World) (hs : S.md.Ok) (hr : S.rd w) : Calls Tryz.prog 56 #[.agg #[.slice S.s.gA S.s.gn S.s.gc, .int .i64 S.s.x, .int .i64 S.s.y, .bool S.s.wr, .bool S.s.og, .int .i64 S.s.fg, .int .i64 S.s.bg, .int .i64 S.s.fl, .int .u8 S.s.g0, .int .u8 S.s.g1, .int .u8 S.s.g2, .int .u8 S.s.g3, .int .i64 S.s.gl, .int .i64 S.s.gr, .int .i64 S.s.on, .int .i64 S.s.H, .int .i64 S.s.W, .int .i64 S.s.T, .int .i64 S.s.B, .slice S.s.tA S.s.tn S.s.tc, .int .i64 S.s.tw, .slice S.s.kA S.s.kn S.s.kc, .int .i64 S.s.kp, .int .i64 S.s.dir, .bool S.s.ex], .int .i64 k] w (SPost S w (Sty S.md)) := by
  have HR := Lib.hid hr; have HS := Lib.hid hs; obtain ⟨s, F, zs, L⟩ := S; have hf := hs.cf; simp only [Sn.md] at hf; have HPN := Lib.hid (show penB 0 s.bg 0 = true from hs.ground); have HGS := Lib.hid (show gsaneB (listG s.gn F) = true from (gs_ct _ _).symm.trans hs.gs); have HYN := Lib.hid (show ((s.y.toNat : Nat) : Int) = s.y by have := hf.y0; omega); have HBN := Lib.hid (show ((s.B.toNat : Nat) : Int) = s.B by have := hf.t0; have := hf.tb; omega); have HBH := Lib.hid (show s.B.toNat ≤ s.gn by have := hf.bh; have h := hs.nH; simp only [Sn.md] at h; have := hf.t0; have := hf.tb; omega)
  obtain ⟨MM, e1⟩ : ∃ MM : Int, (if k < 1 then 1 else k) = MM := ⟨_, rfl⟩
  clear hr hs
  dsimp only at *
  go_enter Tryz.func56, Tryz.ntmps56
  go_upto_region 1 with fail
  generalize hW : (w.alloc _).alloc _ = W; have hX : WS w.heap.size (w.heap.size + 1) 2 ⟨s, F, zs, L⟩ w W ⟨s, F, zs, L⟩ := hW ▸ WS.start HR.out; clear hW; have hz := hX.sz
  go_upto_if 15 with (first | (refine hX.wload rfl rfl rfl ?_) | ((with_reducible refine (sane_ok ⟨s, F, zs, L⟩ _ hX.v.rd HS.out).mono ?_); rintro e w0 ⟨rfl, hg⟩; have hX1 := hX.below hg.below; have rS := SBlk.isScr hX1.x.B; have rL := SBlk.cells hX1.x.B; have rZ := IsScr.lt rS))
  refine (Cur.in_c s.x s.y s.wr s.og s.fg s.bg s.fl s.g0 s.g1 s.g2 s.g3 s.gl s.gr s.on s.H s.W s.T s.B _ HS.out.cu).mono ?_
  rintro e w1 ⟨rfl, hg1⟩
  have hX0 := hX1.below hg1.below
  have hz0 := hX0.sz
  clear rS rL rZ hX1 hX hg hg1 hz
  have hX1 := hX0
  clear hX0
  cases hin : Cur.insideB s.y s.T s.B
  · generalize (.agg #[.slice s.gA s.gn s.gc, .int .i64 s.x, .int .i64 s.y, .bool s.wr, .bool s.og, .int .i64 s.fg, .int .i64 s.bg, .int .i64 s.fl, .int .u8 s.g0, .int .u8 s.g1, .int .u8 s.g2, .int .u8 s.g3, .int .i64 s.gl, .int .i64 s.gr, .int .i64 s.on, .int .i64 s.H, .int .i64 s.W, .int .i64 s.T, .int .i64 s.B, .slice s.tA s.tn s.tc, .int .i64 s.tw, .slice s.kA s.kn s.kc, .int .i64 s.kp, .int .i64 s.dir, .bool s.ex] : Value) = V0
    clear hf e1
    go_upto_region 2 with fail
    go_wp2_with (first | (refine hX1.wload rfl rfl rfl ?_) | (refine hX1.wstore hX1.v (by rfl) (by rfl) (by rfl) (by rfl) (by rfl) ?_)); exact bodyPost_ret (results_scr rfl rfl (hX1.res hX1.v)) rfl (hX1.fin hX1.v (by omega) (Sty.refl HS.out))
  · have HIN := Lib.hid (in_yb hin)
    have HTB := Lib.hid (show s.y.toNat < s.B.toNat by have := HIN.out; have := hf.y0; omega)
    obtain ⟨qq, hqq⟩ : ∃ q : Nat, (q : Int) = max 0 (min MM (s.B - s.y)) := ⟨(max 0 (min MM (s.B - s.y))).toNat, by omega⟩
    have HQ := Lib.hid hqq
    have HQB := Lib.hid (show s.y.toNat + qq ≤ s.B.toNat by have := HIN.out; have := hf.y0; have := HQ.out; omega)
    clear hf hqq
    generalize (.agg #[.slice s.gA s.gn s.gc, .int .i64 s.x, .int .i64 s.y, .bool s.wr, .bool s.og, .int .i64 s.fg, .int .i64 s.bg, .int .i64 s.fl, .int .u8 s.g0, .int .u8 s.g1, .int .u8 s.g2, .int .u8 s.g3, .int .i64 s.gl, .int .i64 s.gr, .int .i64 s.on, .int .i64 s.H, .int .i64 s.W, .int .i64 s.T, .int .i64 s.B, .slice s.tA s.tn s.tc, .int .i64 s.tw, .slice s.kA s.kn s.kc, .int .i64 s.kp, .int .i64 s.dir, .bool s.ex] : Value) = V0
    go_upto_region 3 with fail
    obtain ⟨c2', c18⟩ := hX1.yb
    have hN := hX1.drew
    have rS := SBlk.isScr hX1.x.B; have rL := SBlk.cells hX1.x.B; have rZ := IsScr.lt rS
    refine hr_start (S := (fun w' => w'.cell? ⟨w.heap.size, 2, none⟩ = some (.int .i64 s.y) ∧ w'.cell? ⟨w.heap.size, 18, none⟩ = some (.int .i64 s.B))) (by kernel_rfl) rfl ?_ (fun hHeld => ?_)
    · ((try dsimp only); (first | exact ⟨c2', c18⟩ | exact hN.yb | exact hN2.yb | exact hHeld))
    refine hr_t 0 (v := ?_) ?_ ?_
    rotate_left
    focus (intro wS hSw; (obtain ⟨q2, q18⟩ := hSw); go_simp; (try with_reducible rfl))
    simp only [st0, st1]
    refine hr_t 2 (v := ?_) ?_ ?_
    rotate_left
    focus (intro wS hSw; (obtain ⟨q2, q18⟩ := hSw); go_simp; (try with_reducible rfl))
    simp only [st0, st1]
    refine hr_t 3 (v := ?_) ?_ ?_
    rotate_left
    focus (intro wS hSw; (obtain ⟨q2, q18⟩ := hSw); go_simp; (try with_reducible rfl))
    simp only [st0, st1]
    refine hr_t 4 (v := ?_) ?_ ?_
    rotate_left
    focus (intro wS hSw; (obtain ⟨q2, q18⟩ := hSw); go_simp; (try with_reducible rfl))
    simp only [st0, st1]
    refine hr_t 5 (v := ?_) ?_ ?_
    rotate_left
    focus (intro wS hSw; (obtain ⟨q2, q18⟩ := hSw); go_simp; (try with_reducible rfl))
    simp only [st0, st1]
    refine hr_t 6 (v := ?_) ?_ ?_
    rotate_left
    focus (intro wS hSw; (obtain ⟨q2, q18⟩ := hSw); go_simp; (try with_reducible rfl))
    simp only [st0, st1]
    refine hr_t 7 (v := ?_) ?_ ?_
    rotate_left
    focus (intro wS hSw; (obtain ⟨q2, q18⟩ := hSw); go_simp; (try with_reducible rfl))
    simp only [st0, st1]
    refine hr_t 8 (v := ?_) ?_ ?_
    rotate_left
    focus (intro wS hSw; (obtain ⟨q2, q18⟩ := hSw); go_simp; (try with_reducible rfl))
    simp only [st0, st1]
    refine hr_t 9 (v := ?_) ?_ ?_
    rotate_left
    focus (intro wS hSw; (obtain ⟨q2, q18⟩ := hSw); go_simp; (try with_reducible rfl))
    simp only [st0, st1]
    refine hr_two (i := 1) (j := 10) rfl rfl rfl rfl (by kernel_rfl) (by kernel_rfl) (by kernel_rfl) (fun K hK => ?_) (fun K hK => ?_)
    · (have qS := SBlk.isScr hN.x.B; have qL := SBlk.cells hN.x.B; have qZ := IsScr.lt qS; go_simp; clear qS qL qZ)
      refine hK.out _ _ ?_ (fun hHeld => ?_)
      · ((try dsimp only); (first | exact ⟨c2', c18⟩ | exact hN.yb | exact hN2.yb | exact hHeld))
      clear hK K
      simp only [st0, st1]
      refine hr_o 10 (fun K hK => ?_)
      refine wp_scr_load hN.x.B rfl rfl ?_
      refine hK.out _ _ ?_ (fun hHeld => ?_)
      · ((try dsimp only); (first | exact ⟨c2', c18⟩ | exact hN.yb | exact hN2.yb | exact hHeld))
      clear hK K
      simp only [st0, st1]
      refine hr_o 11 (fun K hK => ?_)
      (try go_simp)
      ((with_reducible refine (ground_c s _).mono ?_); rintro e w1 ⟨rfl, hg⟩; replace hg := hg.below; replace hN := hN.below hg)
      (try go_wp2_with fail)
      refine hK.out _ _ ?_ (fun hHeld => ?_)
      · ((try dsimp only); (first | exact ⟨c2', c18⟩ | exact hN.yb | exact hN2.yb | exact hHeld))
      clear hK K
      simp only [st0, st1]
      refine hr_o 12 (fun K hK => ?_)
      (try go_simp)
      ((with_reducible refine (up_i (.slice s.gA s.gn s.gc) s.gn F s.y s.B s.y.toNat s.B.toNat qq MM 0 s.bg 0 _ hN.rows HGS.out HPN.out HYN.out HBN.out HTB.out HBH.out HQ.out).mono ?_); rintro e w2 ⟨g2, c2, v2, B2, rfl, hg, hc2, hr2, -, hf2⟩; have hzn := hN.sz; replace hN := hN.below hg)
      (try go_wp2_with fail)
      refine hK.out _ _ ?_ (fun hHeld => ?_)
      · ((try dsimp only); (first | exact ⟨c2', c18⟩ | exact hN.yb | exact hN2.yb | exact hHeld))
      clear hK K
      simp only [st0, st1]
      refine hr_t 13 (v := ?_) ?_ ?_
      rotate_left
      focus (intro wS hSw; (obtain ⟨q2, q18⟩ := hSw); go_simp; (try with_reducible rfl))
      simp only [st0, st1]
      refine hr_t 14 (v := ?_) ?_ ?_
      rotate_left
      focus (intro wS hSw; (obtain ⟨q2, q18⟩ := hSw); go_simp; (try with_reducible rfl))
      simp only [st0, st1]
      refine hr_t 15 (v := ?_) ?_ ?_
      rotate_left
      focus (intro wS hSw; (obtain ⟨q2, q18⟩ := hSw); go_simp; (try with_reducible rfl))
      simp only [st0, st1]
      refine hr_t 16 (v := ?_) ?_ ?_
      rotate_left
      focus (intro wS hSw; (obtain ⟨q2, q18⟩ := hSw); go_simp; (try with_reducible rfl))
      simp only [st0, st1]
      refine hr_op0 (i := 17) rfl (by kernel_rfl) (by kernel_rfl) (fun K hK => ?_)
      have qS := SBlk.isScr hN.x.B; have qL := SBlk.cells hN.x.B; have qZ := IsScr.lt qS
      (try go_simp)
      clear qS qL qZ
      (generalize hW5 : World.setCell _ _ _ = W5; have hN2 : WS w.heap.size (w.heap.size + 1) 2 ⟨s, F, zs, L⟩ w W5 ⟨{ s with gA := some ⟨g2, 0, none⟩, gn := s.gn, gc := c2 }, _, zs, L⟩ := hW5 ▸ hN.cell (by omega) 0 _ (fun v => v.grid hr2 ((hf2 _ hX1.v.out.1).1.mono (out_since (by omega))) (fun P hP => (hf2 _ (hX1.v.gen P hP).1).1.mono (gen_since (k := 2) (by omega)))) rfl; clear hW5)
      (try go_wp2_with fail)
      refine hK.out _ ?_ (fun hHeld => ?_)
      · ((try dsimp only); (first | exact ⟨c2', c18⟩ | exact hN.yb | exact hN2.yb | exact hHeld))
      clear hK K
      refine hr_done (by kernel_rfl) ?_
      (have hz5 := hN2.sz; have rS := SBlk.isScr hN2.x.B; have rL := SBlk.cells hN2.x.B; have rZ := IsScr.lt rS; go_upto_region 5 with fail; clear rS rL rZ; generalize hW6 : World.setCell _ _ _ = W6; have hX6 : WS w.heap.size (w.heap.size + 1) 2 ⟨s, F, zs, L⟩ w W6 ⟨{ s with x := 0, wr := false, gA := some ⟨g2, 0, none⟩, gn := s.gn, gc := c2 }, layG (mvG F s.y.toNat qq (s.B.toNat - s.y.toNat - qq)) (s.B.toNat - qq) qq B2 (F 0).n 0 s.bg 0, zs, L⟩ := (by rw [← hW6]; exact hN2.cell2 (by omega) 1 3 (.int .i64 0) (.bool false) (fun v => ⟨v.rd, v.out, v.gen⟩) rfl); clear hW6; go_wp2_with (first | (refine hX6.wload rfl rfl rfl ?_) | (refine hX6.wstore hX6.v (by rfl) (by rfl) (by rfl) (by rfl) (by rfl) ?_)); exact bodyPost_ret (results_scr rfl rfl (hX6.res hX6.v)) rfl (hX6.fin hX6.v (by omega) (by exact sty_up HS.out HQB.out HBH.out)))
    · refine wp_scr_load hN.x.B rfl rfl ?_
      refine hK.out _ _ ?_ (fun hHeld => ?_)
      · ((try dsimp only); (first | exact ⟨c2', c18⟩ | exact hN.yb | exact hN2.yb | exact hHeld))
      clear hK K
      simp only [st0, st1]
      refine hr_two (i := 1) (j := 11) rfl rfl rfl rfl (by kernel_rfl) (by kernel_rfl) (by kernel_rfl) (fun K hK => ?_) (fun K hK => ?_)
      · (have qS := SBlk.isScr hN.x.B; have qL := SBlk.cells hN.x.B; have qZ := IsScr.lt qS; go_simp; clear qS qL qZ)
        refine hK.out _ _ ?_ (fun hHeld => ?_)
        · ((try dsimp only); (first | exact ⟨c2', c18⟩ | exact hN.yb | exact hN2.yb | exact hHeld))
        clear hK K
        simp only [st0, st1]
        refine hr_o 11 (fun K hK => ?_)
        (try go_simp)
        ((with_reducible refine (ground_c s _).mono ?_); rintro e w1 ⟨rfl, hg⟩; replace hg := hg.below; replace hN := hN.below hg)
        (try go_wp2_with fail)
        refine hK.out _ _ ?_ (fun hHeld => ?_)
        · ((try dsimp only); (first | exact ⟨c2', c18⟩ | exact hN.yb | exact hN2.yb | exact hHeld))
        clear hK K
        simp only [st0, st1]
        refine hr_o 12 (fun K hK => ?_)
        (try go_simp)
        ((with_reducible refine (up_i (.slice s.gA s.gn s.gc) s.gn F s.y s.B s.y.toNat s.B.toNat qq MM 0 s.bg 0 _ hN.rows HGS.out HPN.out HYN.out HBN.out HTB.out HBH.out HQ.out).mono ?_); rintro e w2 ⟨g2, c2, v2, B2, rfl, hg, hc2, hr2, -, hf2⟩; have hzn := hN.sz; replace hN := hN.below hg)
        (try go_wp2_with fail)
        refine hK.out _ _ ?_ (fun hHeld => ?_)
        · ((try dsimp only); (first | exact ⟨c2', c18⟩ | exact hN.yb | exact hN2.yb | exact hHeld))
        clear hK K
        simp only [st0, st1]
        refine hr_t 13 (v := ?_) ?_ ?_
        rotate_left
        focus (intro wS hSw; (obtain ⟨q2, q18⟩ := hSw); go_simp; (try with_reducible rfl))
        simp only [st0, st1]
        refine hr_t 14 (v := ?_) ?_ ?_
        rotate_left
        focus (intro wS hSw; (obtain ⟨q2, q18⟩ := hSw); go_simp; (try with_reducible rfl))
        simp only [st0, st1]
        refine hr_t 15 (v := ?_) ?_ ?_
        rotate_left
        focus (intro wS hSw; (obtain ⟨q2, q18⟩ := hSw); go_simp; (try with_reducible rfl))
        simp only [st0, st1]
        refine hr_t 16 (v := ?_) ?_ ?_
        rotate_left
        focus (intro wS hSw; (obtain ⟨q2, q18⟩ := hSw); go_simp; (try with_reducible rfl))
        simp only [st0, st1]
        refine hr_op0 (i := 17) rfl (by kernel_rfl) (by kernel_rfl) (fun K hK => ?_)
        have qS := SBlk.isScr hN.x.B; have qL := SBlk.cells hN.x.B; have qZ := IsScr.lt qS
        (try go_simp)
        clear qS qL qZ
        (generalize hW5 : World.setCell _ _ _ = W5; have hN2 : WS w.heap.size (w.heap.size + 1) 2 ⟨s, F, zs, L⟩ w W5 ⟨{ s with gA := some ⟨g2, 0, none⟩, gn := s.gn, gc := c2 }, _, zs, L⟩ := hW5 ▸ hN.cell (by omega) 0 _ (fun v => v.grid hr2 ((hf2 _ hX1.v.out.1).1.mono (out_since (by omega))) (fun P hP => (hf2 _ (hX1.v.gen P hP).1).1.mono (gen_since (k := 2) (by omega)))) rfl; clear hW5)
        (try go_wp2_with fail)
        refine hK.out _ ?_ (fun hHeld => ?_)
        · ((try dsimp only); (first | exact ⟨c2', c18⟩ | exact hN.yb | exact hN2.yb | exact hHeld))
        clear hK K
        refine hr_done (by kernel_rfl) ?_
        (have hz5 := hN2.sz; have rS := SBlk.isScr hN2.x.B; have rL := SBlk.cells hN2.x.B; have rZ := IsScr.lt rS; go_upto_region 5 with fail; clear rS rL rZ; generalize hW6 : World.setCell _ _ _ = W6; have hX6 : WS w.heap.size (w.heap.size + 1) 2 ⟨s, F, zs, L⟩ w W6 ⟨{ s with x := 0, wr := false, gA := some ⟨g2, 0, none⟩, gn := s.gn, gc := c2 }, layG (mvG F s.y.toNat qq (s.B.toNat - s.y.toNat - qq)) (s.B.toNat - qq) qq B2 (F 0).n 0 s.bg 0, zs, L⟩ := (by rw [← hW6]; exact hN2.cell2 (by omega) 1 3 (.int .i64 0) (.bool false) (fun v => ⟨v.rd, v.out, v.gen⟩) rfl); clear hW6; go_wp2_with (first | (refine hX6.wload rfl rfl rfl ?_) | (refine hX6.wstore hX6.v (by rfl) (by rfl) (by rfl) (by rfl) (by rfl) ?_)); exact bodyPost_ret (results_scr rfl rfl (hX6.res hX6.v)) rfl (hX6.fin hX6.v (by omega) (by exact sty_up HS.out HQB.out HBH.out)))
      · (try go_simp)
        ((with_reducible refine (ground_c s _).mono ?_); rintro e w1 ⟨rfl, hg⟩; replace hg := hg.below; replace hN := hN.below hg)
        (try go_wp2_with fail)
        refine hK.out _ _ ?_ (fun hHeld => ?_)
        · ((try dsimp only); (first | exact ⟨c2', c18⟩ | exact hN.yb | exact hN2.yb | exact hHeld))
        clear hK K
        simp only [st0, st1]
        refine hr_o 1 (fun K hK => ?_)
        (have qS := SBlk.isScr hN.x.B; have qL := SBlk.cells hN.x.B; have qZ := IsScr.lt qS; go_simp; clear qS qL qZ)
        refine hK.out _ _ ?_ (fun hHeld => ?_)
        · ((try dsimp only); (first | exact ⟨c2', c18⟩ | exact hN.yb | exact hN2.yb | exact hHeld))
        clear hK K
        simp only [st0, st1]
        refine hr_o 12 (fun K hK => ?_)
        (try go_simp)
        ((with_reducible refine (up_i (.slice s.gA s.gn s.gc) s.gn F s.y s.B s.y.toNat s.B.toNat qq MM 0 s.bg 0 _ hN.rows HGS.out HPN.out HYN.out HBN.out HTB.out HBH.out HQ.out).mono ?_); rintro e w2 ⟨g2, c2, v2, B2, rfl, hg, hc2, hr2, -, hf2⟩; have hzn := hN.sz; replace hN := hN.below hg)
        (try go_wp2_with fail)
        refine hK.out _ _ ?_ (fun hHeld => ?_)
        · ((try dsimp only); (first | exact ⟨c2', c18⟩ | exact hN.yb | exact hN2.yb | exact hHeld))
        clear hK K
        simp only [st0, st1]
        refine hr_t 13 (v := ?_) ?_ ?_
        rotate_left
        focus (intro wS hSw; (obtain ⟨q2, q18⟩ := hSw); go_simp; (try with_reducible rfl))
        simp only [st0, st1]
        refine hr_t 14 (v := ?_) ?_ ?_
        rotate_left
        focus (intro wS hSw; (obtain ⟨q2, q18⟩ := hSw); go_simp; (try with_reducible rfl))
        simp only [st0, st1]
        refine hr_t 15 (v := ?_) ?_ ?_
        rotate_left
        focus (intro wS hSw; (obtain ⟨q2, q18⟩ := hSw); go_simp; (try with_reducible rfl))
        simp only [st0, st1]
        refine hr_t 16 (v := ?_) ?_ ?_
        rotate_left
        focus (intro wS hSw; (obtain ⟨q2, q18⟩ := hSw); go_simp; (try with_reducible rfl))
        simp only [st0, st1]
        refine hr_op0 (i := 17) rfl (by kernel_rfl) (by kernel_rfl) (fun K hK => ?_)
        have qS := SBlk.isScr hN.x.B; have qL := SBlk.cells hN.x.B; have qZ := IsScr.lt qS
        (try go_simp)
        clear qS qL qZ
        (generalize hW5 : World.setCell _ _ _ = W5; have hN2 : WS w.heap.size (w.heap.size + 1) 2 ⟨s, F, zs, L⟩ w W5 ⟨{ s with gA := some ⟨g2, 0, none⟩, gn := s.gn, gc := c2 }, _, zs, L⟩ := hW5 ▸ hN.cell (by omega) 0 _ (fun v => v.grid hr2 ((hf2 _ hX1.v.out.1).1.mono (out_since (by omega))) (fun P hP => (hf2 _ (hX1.v.gen P hP).1).1.mono (gen_since (k := 2) (by omega)))) rfl; clear hW5)
        (try go_wp2_with fail)
        refine hK.out _ ?_ (fun hHeld => ?_)
        · ((try dsimp only); (first | exact ⟨c2', c18⟩ | exact hN.yb | exact hN2.yb | exact hHeld))
        clear hK K
        refine hr_done (by kernel_rfl) ?_
        (have hz5 := hN2.sz; have rS := SBlk.isScr hN2.x.B; have rL := SBlk.cells hN2.x.B; have rZ := IsScr.lt rS; go_upto_region 5 with fail; clear rS rL rZ; generalize hW6 : World.setCell _ _ _ = W6; have hX6 : WS w.heap.size (w.heap.size + 1) 2 ⟨s, F, zs, L⟩ w W6 ⟨{ s with x := 0, wr := false, gA := some ⟨g2, 0, none⟩, gn := s.gn, gc := c2 }, layG (mvG F s.y.toNat qq (s.B.toNat - s.y.toNat - qq)) (s.B.toNat - qq) qq B2 (F 0).n 0 s.bg 0, zs, L⟩ := (by rw [← hW6]; exact hN2.cell2 (by omega) 1 3 (.int .i64 0) (.bool false) (fun v => ⟨v.rd, v.out, v.gen⟩) rfl); clear hW6; go_wp2_with (first | (refine hX6.wload rfl rfl rfl ?_) | (refine hX6.wstore hX6.v (by rfl) (by rfl) (by rfl) (by rfl) (by rfl) ?_)); exact bodyPost_ret (results_scr rfl rfl (hX6.res hX6.v)) rfl (hX6.fin hX6.v (by omega) (by exact sty_up HS.out HQB.out HBH.out)))
end Go.Proofs.YtlchffkabpfjpaaGreat.Scr
