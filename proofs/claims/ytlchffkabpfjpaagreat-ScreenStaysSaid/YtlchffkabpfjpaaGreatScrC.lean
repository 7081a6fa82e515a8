/- screen.Down, Up, Scroll. -/
import Derived.Test.YtlchffkabpfjpaaGreatScrB
namespace Go.Proofs.YtlchffkabpfjpaaGreat.Scr
open Go.RowKit Go.Proofs.YtlchffkabpfjpaaGreat.Row
attribute [local go_sem ↓] scr_load_pre scr_store_pre
attribute [local go_sem] scr_cell scr_frozen
set_option maxRecDepth 100000 in
set_option maxHeartbeats 4000000 in
theorem Down_c (S : Sn) (w : World) (hs : S.md.Ok) (hr : S.rd w) : Calls Tryz.prog 20 #[.agg #[.slice S.s.gA S.s.gn S.s.gc, .int .i64 S.s.x, .int .i64 S.s.y, .bool S.s.wr, .bool S.s.og, .int .i64 S.s.fg, .int .i64 S.s.bg, .int .i64 S.s.fl, .int .u8 S.s.g0, .int .u8 S.s.g1, .int .u8 S.s.g2, .int .u8 S.s.g3, .int .i64 S.s.gl, .int .i64 S.s.gr, .int .i64 S.s.on, .int .i64 S.s.H, .int .i64 S.s.W, .int .i64 S.s.T, .int .i64 S.s.B, .slice S.s.tA S.s.tn S.s.tc, .int .i64 S.s.tw, .slice S.s.kA S.s.kn S.s.kc, .int .i64 S.s.kp, .int .i64 S.s.dir, .bool S.s.ex]] w (SPost S w (fun m => m = S.md.down)) := by
  have HR := Lib.hid hr
  have HS := Lib.hid hs
  obtain ⟨s, F, zs, L⟩ := S
  clear hr hs
  dsimp only at *
  go_enter Tryz.func20, Tryz.ntmps20
  go_upto_region 1 with fail
  generalize hW : (w.alloc _).alloc _ = W; have hX : WS w.heap.size (w.heap.size + 1) 2 ⟨s, F, zs, L⟩ w W ⟨s, F, zs, L⟩ := hW ▸ WS.start HR.out; clear hW
  go_wp2_with (refine hX.wload rfl rfl rfl ?_)
  refine (sane_ok ⟨s, F, zs, L⟩ _ hX.v.rd HS.out).mono ?_
  rintro e w1 ⟨rfl, hg⟩
  have hX1 := hX.below hg.below
  clear hg hX
  have hz := hX1.sz
  go_wp2_with (refine hX1.wload rfl rfl rfl ?_)
  refine (down_c ⟨s, F, zs, L⟩ _ HS.out hX1.v.rd).mono ?_
  intro e w3 hp
  obtain ⟨S', rfl, hX3, hV3, hm, hz3⟩ := hX1.post (by omega) hp
  go_wp2_with (first | (refine hX3.wload rfl rfl rfl ?_) | (refine hX3.wstore hV3 (by rfl) (by rfl) (by rfl) (by rfl) (by rfl) ?_)); exact bodyPost_ret (results_scr rfl rfl (hX3.res hV3)) rfl (hX3.fin hV3 (by omega) hm)
theorem down_i (x : Value) (n : Nat) (F : Nat → Rw) (T B : Int) (t b q : Nat) (k fg bg fl : Int) (w : World) (hx : RdR w x (listG n F)) (hs : gsaneB (listG n F) = true) (hp : penB fg bg fl = true) (hT : (t : Int) = T) (hB : (b : Int) = B) (htb : t < b) (hbn : b ≤ n) (hq : (q : Int) = max 0 (min k (B - T))) :
    Calls Tryz.prog 49 #[.agg #[x], .int .i64 T, .int .i64 B, .int .i64 k, .agg #[.int .i64 fg, .int .i64 bg, .int .i64 fl]] w (DownF x n F t b q fg bg fl w) := by
  subst hT hB
  exact down_f x n F t b q k fg bg fl w hx hs hp htb hbn hq
/-- the rows scrolled down by q between two rows -/
def Md.dnG (m : Md) (t b q : Nat) : Md := { m with G := layC (mdC m.G t q (b - t - q)) t q (m.G 0).n 0 m.bg 0 }
theorem dn_md (s : Sc) (F : Nat → Rw) (zs : List Int) (L : List Rw) (t b q g2 c2 : Nat) (B : Nat → Nat) :
    Sn.md ⟨{ s with gA := some ⟨g2, 0, none⟩, gn := s.gn, gc := c2 }, layG (mdG F t q (b - t - q)) t q B (F 0).n 0 s.bg 0, zs, L⟩ = (Sn.md ⟨s, F, zs, L⟩).dnG t b q := by
  unfold Md.dnG
  simp only [Sn.md, ct_lay, ct_md]
  rfl
def Sc.dry (s : Sc) : Sc := { s with wr := false }
def Md.upC (m : Md) : Md := if m.y = m.T then { m with wr := false }.dnG m.T.toNat m.B.toNat 1 else { m with wr := false, y := max (m.y - 1) 0 }
set_option maxRecDepth 100000 in
set_option maxHeartbeats 4000000 in
theorem Up_c (S : Sn) (w : World) (hs : S.md.Ok) (hr : S.rd w) : Calls Tryz.prog 21 #[.agg #[.slice S.s.gA S.s.gn S.s.gc, .int .i64 S.s.x, .int .i64 S.s.y, .bool S.s.wr, .bool S.s.og, .int .i64 S.s.fg, .int .i64 S.s.bg, .int .i64 S.s.fl, .int .u8 S.s.g0, .int .u8 S.s.g1, .int .u8 S.s.g2, .int .u8 S.s.g3, .int .i64 S.s.gl, .int .i64 S.s.gr, .int .i64 S.s.on, .int .i64 S.s.H, .int .i64 S.s.W, .int .i64 S.s.T, .int .i64 S.s.B, .slice S.s.tA S.s.tn S.s.tc, .int .i64 S.s.tw, .slice S.s.kA S.s.kn S.s.kc, .int .i64 S.s.kp, .int .i64 S.s.dir, .bool S.s.ex]] w (SPost S w (fun m => m = S.md.upC)) := by
  have HR := Lib.hid hr
  obtain ⟨s, F, zs, L⟩ := S
  have hf := hs.cf
  simp only [Sn.md] at hf
  have HGS := Lib.hid (show gsaneB (listG s.gn F) = true from (gs_ct _ _).symm.trans hs.gs)
  have HPN := Lib.hid (show penB 0 s.bg 0 = true from hs.ground)
  have HTN := Lib.hid (show ((s.T.toNat : Nat) : Int) = s.T by have := hf.t0; omega)
  have HBN := Lib.hid (show ((s.B.toNat : Nat) : Int) = s.B by have := hf.t0; have := hf.tb; omega)
  have HTB := Lib.hid (show s.T.toNat < s.B.toNat by have := hf.t0; have := hf.tb; omega)
  have HBH := Lib.hid (show s.B.toNat ≤ s.gn by have := hf.bh; have h := hs.nH; simp only [Sn.md] at h; have := hf.t0; have := hf.tb; omega)
  have HQ := Lib.hid (show ((1 : Nat) : Int) = max 0 (min 1 (s.B - s.T)) by have := hf.tb; omega)
  have HMD := Lib.hid (show (Sn.md ⟨s, F, zs, L⟩).upC = if s.y = s.T then (Sn.md ⟨{ s with wr := false }, F, zs, L⟩).dnG s.T.toNat s.B.toNat 1 else Sn.md ⟨{ s with wr := false, y := max (s.y - 1) 0 }, F, zs, L⟩ from rfl)
  obtain ⟨h1, h2, w1, w2, t0, tb, bh, x0, x1, y0, y1, -, -⟩ := hf
  have HS := Lib.hid hs
  clear hr hs
  dsimp only at *
  go_enter Tryz.func21, Tryz.ntmps21
  go_upto_region 1 with fail
  generalize hW : (w.alloc _).alloc _ = W; have hX : WS w.heap.size (w.heap.size + 1) 2 ⟨s, F, zs, L⟩ w W ⟨s, F, zs, L⟩ := hW ▸ WS.start HR.out; clear hW
  go_wp2_with (refine hX.wload rfl rfl rfl ?_)
  refine (sane_ok ⟨s, F, zs, L⟩ _ hX.v.rd HS.out).mono ?_
  rintro e w1 ⟨rfl, hg⟩
  have hX1 := hX.below hg.below
  clear hg hX
  have hz := hX1.sz
  have rS := SBlk.isScr hX1.x.B; have rL := SBlk.cells hX1.x.B; have rZ := IsScr.lt rS
  go_upto_region 4 with fail
  clear rS rL rZ
  generalize hW2 : World.setCell _ _ _ = W2
  have hX2 : WS w.heap.size (w.heap.size + 1) 2 ⟨s, F, zs, L⟩ w W2 ⟨{ s with wr := false }, F, zs, L⟩ := hW2 ▸ hX1.cell (by omega) 3 _ (fun v => ⟨v.rd, v.out, v.gen⟩) rfl
  clear hW2 hX1
  have hz2 := hX2.sz
  by_cases hy : s.y = s.T
  · have hy' : (s.y == s.T) = true := by simpa using hy
    have HY := Lib.hid hy
    clear hy
    have rS := SBlk.isScr hX2.x.B; have rL := SBlk.cells hX2.x.B; have rZ := IsScr.lt rS
    go_upto_region 5 with fail
    have hN := hX2.drew
    refine hr_start (S := (fun w' => w'.cell? ⟨w.heap.size, 17, none⟩ = some (.int .i64 s.T) ∧ w'.cell? ⟨w.heap.size, 18, none⟩ = some (.int .i64 s.B))) (by kernel_rfl) rfl ?_ (fun hHeld => ?_)
    · ((try dsimp only); (first | exact hN.mar | exact hN2.mar))
    refine hr_t 0 (v := ?_) ?_ ?_
    rotate_left
    focus (intro wS hSw; (obtain ⟨q17, q18⟩ := hSw); go_simp; (try with_reducible rfl))
    simp only [st0, st1]
    refine hr_t 2 (v := ?_) ?_ ?_
    rotate_left
    focus (intro wS hSw; (obtain ⟨q17, q18⟩ := hSw); go_simp; (try with_reducible rfl))
    simp only [st0, st1]
    refine hr_t 3 (v := ?_) ?_ ?_
    rotate_left
    focus (intro wS hSw; (obtain ⟨q17, q18⟩ := hSw); go_simp; (try with_reducible rfl))
    simp only [st0, st1]
    refine hr_t 4 (v := ?_) ?_ ?_
    rotate_left
    focus (intro wS hSw; (obtain ⟨q17, q18⟩ := hSw); go_simp; (try with_reducible rfl))
    simp only [st0, st1]
    refine hr_t 5 (v := ?_) ?_ ?_
    rotate_left
    focus (intro wS hSw; (obtain ⟨q17, q18⟩ := hSw); go_simp; (try with_reducible rfl))
    simp only [st0, st1]
    refine hr_t 6 (v := ?_) ?_ ?_
    rotate_left
    focus (intro wS hSw; (obtain ⟨q17, q18⟩ := hSw); go_simp; (try with_reducible rfl))
    simp only [st0, st1]
    refine hr_t 7 (v := ?_) ?_ ?_
    rotate_left
    focus (intro wS hSw; (obtain ⟨q17, q18⟩ := hSw); go_simp; (try with_reducible rfl))
    simp only [st0, st1]
    refine hr_two (i := 1) (j := 8) rfl rfl rfl rfl (by kernel_rfl) (by kernel_rfl) (by kernel_rfl) (fun K hK => ?_) (fun K hK => ?_)
    · (have qS := SBlk.isScr hN.x.B; have qL := SBlk.cells hN.x.B; have qZ := IsScr.lt qS; go_simp; clear qS qL qZ)
      refine hK.out _ _ ?_ (fun hHeld => ?_)
      · ((try dsimp only); (first | exact hN.mar | exact hN2.mar))
      clear hK K
      simp only [st0, st1]
      refine hr_o 8 (fun K hK => ?_)
      refine wp_scr_load hN.x.B rfl rfl ?_
      refine hK.out _ _ ?_ (fun hHeld => ?_)
      · ((try dsimp only); (first | exact hN.mar | exact hN2.mar))
      clear hK K
      simp only [st0, st1]
      refine hr_o 9 (fun K hK => ?_)
      (try go_simp)
      ((with_reducible refine (ground_c ({ s with wr := false } : Sc) _).mono ?_); rintro e w1 ⟨rfl, hg⟩; replace hg := hg.below; replace hN := hN.below hg)
      (try go_wp2_with fail)
      refine hK.out _ _ ?_ (fun hHeld => ?_)
      · ((try dsimp only); (first | exact hN.mar | exact hN2.mar))
      clear hK K
      simp only [st0, st1]
      refine hr_o 10 (fun K hK => ?_)
      (try go_simp)
      ((with_reducible refine (down_i (.slice s.gA s.gn s.gc) s.gn F s.T s.B s.T.toNat s.B.toNat 1 1 0 s.bg 0 _ hN.rows HGS.out HPN.out HTN.out HBN.out HTB.out HBH.out HQ.out).mono ?_); rintro e w2 ⟨g2, c2, B2, rfl, hg, hc2, hr2, hf2⟩; have hzn := hN.sz; replace hN := hN.below hg)
      (try go_wp2_with fail)
      refine hK.out _ _ ?_ (fun hHeld => ?_)
      · ((try dsimp only); (first | exact hN.mar | exact hN2.mar))
      clear hK K
      simp only [st0, st1]
      refine hr_t 11 (v := ?_) ?_ ?_
      rotate_left
      focus (intro wS hSw; (obtain ⟨q17, q18⟩ := hSw); go_simp; (try with_reducible rfl))
      simp only [st0, st1]
      refine hr_op0 (i := 12) rfl (by kernel_rfl) (by kernel_rfl) (fun K hK => ?_)
      have qS := SBlk.isScr hN.x.B; have qL := SBlk.cells hN.x.B; have qZ := IsScr.lt qS
      (try go_simp)
      clear qS qL qZ
      (generalize hW5 : World.setCell _ _ _ = W5; have hN2 : WS w.heap.size (w.heap.size + 1) 2 ⟨s, F, zs, L⟩ w W5 ⟨{ s with wr := false, gA := some ⟨g2, 0, none⟩, gn := s.gn, gc := c2 }, _, zs, L⟩ := hW5 ▸ hN.cell (by omega) 0 _ (fun v => v.grid hr2 ((hf2 _ hX2.v.out.1).mono (out_since (by omega))) (fun P hP => (hf2 _ (hX2.v.gen P hP).1).mono (gen_since (k := 2) (by omega)))) rfl; clear hW5)
      (try go_wp2_with fail)
      refine hK.out _ ?_ (fun hHeld => ?_)
      · ((try dsimp only); (first | exact hN.mar | exact hN2.mar))
      clear hK K
      refine hr_done (by kernel_rfl) ?_
      (go_wp2_with (first | (refine hN2.wload rfl rfl rfl ?_) | (refine hN2.wstore hN2.v (by rfl) (by rfl) (by rfl) (by rfl) (by rfl) ?_)); exact bodyPost_ret (results_scr rfl rfl (hN2.res hN2.v)) rfl (hN2.fin hN2.v (by omega) (by rw [HMD.out, if_pos HY.out]; exact dn_md s.dry F zs L _ _ 1 g2 c2 B2)))
    · refine wp_scr_load hN.x.B rfl rfl ?_
      refine hK.out _ _ ?_ (fun hHeld => ?_)
      · ((try dsimp only); (first | exact hN.mar | exact hN2.mar))
      clear hK K
      simp only [st0, st1]
      refine hr_two (i := 1) (j := 9) rfl rfl rfl rfl (by kernel_rfl) (by kernel_rfl) (by kernel_rfl) (fun K hK => ?_) (fun K hK => ?_)
      · (have qS := SBlk.isScr hN.x.B; have qL := SBlk.cells hN.x.B; have qZ := IsScr.lt qS; go_simp; clear qS qL qZ)
        refine hK.out _ _ ?_ (fun hHeld => ?_)
        · ((try dsimp only); (first | exact hN.mar | exact hN2.mar))
        clear hK K
        simp only [st0, st1]
        refine hr_o 9 (fun K hK => ?_)
        (try go_simp)
        ((with_reducible refine (ground_c ({ s with wr := false } : Sc) _).mono ?_); rintro e w1 ⟨rfl, hg⟩; replace hg := hg.below; replace hN := hN.below hg)
        (try go_wp2_with fail)
        refine hK.out _ _ ?_ (fun hHeld => ?_)
        · ((try dsimp only); (first | exact hN.mar | exact hN2.mar))
        clear hK K
        simp only [st0, st1]
        refine hr_o 10 (fun K hK => ?_)
        (try go_simp)
        ((with_reducible refine (down_i (.slice s.gA s.gn s.gc) s.gn F s.T s.B s.T.toNat s.B.toNat 1 1 0 s.bg 0 _ hN.rows HGS.out HPN.out HTN.out HBN.out HTB.out HBH.out HQ.out).mono ?_); rintro e w2 ⟨g2, c2, B2, rfl, hg, hc2, hr2, hf2⟩; have hzn := hN.sz; replace hN := hN.below hg)
        (try go_wp2_with fail)
        refine hK.out _ _ ?_ (fun hHeld => ?_)
        · ((try dsimp only); (first | exact hN.mar | exact hN2.mar))
        clear hK K
        simp only [st0, st1]
        refine hr_t 11 (v := ?_) ?_ ?_
        rotate_left
        focus (intro wS hSw; (obtain ⟨q17, q18⟩ := hSw); go_simp; (try with_reducible rfl))
        simp only [st0, st1]
        refine hr_op0 (i := 12) rfl (by kernel_rfl) (by kernel_rfl) (fun K hK => ?_)
        have qS := SBlk.isScr hN.x.B; have qL := SBlk.cells hN.x.B; have qZ := IsScr.lt qS
        (try go_simp)
        clear qS qL qZ
        (generalize hW5 : World.setCell _ _ _ = W5; have hN2 : WS w.heap.size (w.heap.size + 1) 2 ⟨s, F, zs, L⟩ w W5 ⟨{ s with wr := false, gA := some ⟨g2, 0, none⟩, gn := s.gn, gc := c2 }, _, zs, L⟩ := hW5 ▸ hN.cell (by omega) 0 _ (fun v => v.grid hr2 ((hf2 _ hX2.v.out.1).mono (out_since (by omega))) (fun P hP => (hf2 _ (hX2.v.gen P hP).1).mono (gen_since (k := 2) (by omega)))) rfl; clear hW5)
        (try go_wp2_with fail)
        refine hK.out _ ?_ (fun hHeld => ?_)
        · ((try dsimp only); (first | exact hN.mar | exact hN2.mar))
        clear hK K
        refine hr_done (by kernel_rfl) ?_
        (go_wp2_with (first | (refine hN2.wload rfl rfl rfl ?_) | (refine hN2.wstore hN2.v (by rfl) (by rfl) (by rfl) (by rfl) (by rfl) ?_)); exact bodyPost_ret (results_scr rfl rfl (hN2.res hN2.v)) rfl (hN2.fin hN2.v (by omega) (by rw [HMD.out, if_pos HY.out]; exact dn_md s.dry F zs L _ _ 1 g2 c2 B2)))
      · (try go_simp)
        ((with_reducible refine (ground_c ({ s with wr := false } : Sc) _).mono ?_); rintro e w1 ⟨rfl, hg⟩; replace hg := hg.below; replace hN := hN.below hg)
        (try go_wp2_with fail)
        refine hK.out _ _ ?_ (fun hHeld => ?_)
        · ((try dsimp only); (first | exact hN.mar | exact hN2.mar))
        clear hK K
        simp only [st0, st1]
        refine hr_o 1 (fun K hK => ?_)
        (have qS := SBlk.isScr hN.x.B; have qL := SBlk.cells hN.x.B; have qZ := IsScr.lt qS; go_simp; clear qS qL qZ)
        refine hK.out _ _ ?_ (fun hHeld => ?_)
        · ((try dsimp only); (first | exact hN.mar | exact hN2.mar))
        clear hK K
        simp only [st0, st1]
        refine hr_o 10 (fun K hK => ?_)
        (try go_simp)
        ((with_reducible refine (down_i (.slice s.gA s.gn s.gc) s.gn F s.T s.B s.T.toNat s.B.toNat 1 1 0 s.bg 0 _ hN.rows HGS.out HPN.out HTN.out HBN.out HTB.out HBH.out HQ.out).mono ?_); rintro e w2 ⟨g2, c2, B2, rfl, hg, hc2, hr2, hf2⟩; have hzn := hN.sz; replace hN := hN.below hg)
        (try go_wp2_with fail)
        refine hK.out _ _ ?_ (fun hHeld => ?_)
        · ((try dsimp only); (first | exact hN.mar | exact hN2.mar))
        clear hK K
        simp only [st0, st1]
        refine hr_t 11 (v := ?_) ?_ ?_
        rotate_left
        focus (intro wS hSw; (obtain ⟨q17, q18⟩ := hSw); go_simp; (try with_reducible rfl))
        simp only [st0, st1]
        refine hr_op0 (i := 12) rfl (by kernel_rfl) (by kernel_rfl) (fun K hK => ?_)
        have qS := SBlk.isScr hN.x.B; have qL := SBlk.cells hN.x.B; have qZ := IsScr.lt qS
        (try go_simp)
        clear qS qL qZ
        (generalize hW5 : World.setCell _ _ _ = W5; have hN2 : WS w.heap.size (w.heap.size + 1) 2 ⟨s, F, zs, L⟩ w W5 ⟨{ s with wr := false, gA := some ⟨g2, 0, none⟩, gn := s.gn, gc := c2 }, _, zs, L⟩ := hW5 ▸ hN.cell (by omega) 0 _ (fun v => v.grid hr2 ((hf2 _ hX2.v.out.1).mono (out_since (by omega))) (fun P hP => (hf2 _ (hX2.v.gen P hP).1).mono (gen_since (k := 2) (by omega)))) rfl; clear hW5)
        (try go_wp2_with fail)
        refine hK.out _ ?_ (fun hHeld => ?_)
        · ((try dsimp only); (first | exact hN.mar | exact hN2.mar))
        clear hK K
        refine hr_done (by kernel_rfl) ?_
        (go_wp2_with (first | (refine hN2.wload rfl rfl rfl ?_) | (refine hN2.wstore hN2.v (by rfl) (by rfl) (by rfl) (by rfl) (by rfl) ?_)); exact bodyPost_ret (results_scr rfl rfl (hN2.res hN2.v)) rfl (hN2.fin hN2.v (by omega) (by rw [HMD.out, if_pos HY.out]; exact dn_md s.dry F zs L _ _ 1 g2 c2 B2)))
  · have hy' : (s.y == s.T) = false := by simpa using hy
    have HY := Lib.hid hy
    clear hy
    have rS := SBlk.isScr hX2.x.B; have rL := SBlk.cells hX2.x.B; have rZ := IsScr.lt rS
    go_upto_region 8 with fail
    clear rS rL rZ
    generalize hyv : (if s.y - 1 < 0 then 0 else s.y - 1) = yv
    have HM := Lib.hid (show yv = max (s.y - 1) 0 by omega)
    clear hyv
    generalize hW3 : World.setCell _ _ _ = W3
    have hX3 : WS w.heap.size (w.heap.size + 1) 2 ⟨s, F, zs, L⟩ w W3 ⟨{ s with wr := false, y := yv }, F, zs, L⟩ := hW3 ▸ hX2.cell (by omega) 2 _ (fun v => ⟨v.rd, v.out, v.gen⟩) rfl
    clear hW3
    go_wp2_with (first | (refine hX3.wload rfl rfl rfl ?_) | (refine hX3.wstore hX3.v (by rfl) (by rfl) (by rfl) (by rfl) (by rfl) ?_)); exact bodyPost_ret (results_scr rfl rfl (hX3.res hX3.v)) rfl (hX3.fin hX3.v (by omega) (by rw [HMD.out, if_neg HY.out, ← HM.out]))
set_option maxRecDepth 100000 in
set_option maxHeartbeats 4000000 in
theorem Scroll_up (S : Sn) (k : Int) (q : Nat) (w : World) (hs : S.md.Ok) (hr : S.rd w) (hk : 0 ≤ k) (hq : (q : Int) = max 0 (min k (S.s.B - S.s.T))) : Calls Tryz.prog 57 #[.agg #[.slice S.s.gA S.s.gn S.s.gc, .int .i64 S.s.x, .int .i64 S.s.y, .bool S.s.wr, .bool S.s.og, .int .i64 S.s.fg, .int .i64 S.s.bg, .int .i64 S.s.fl, .int .u8 S.s.g0, .int .u8 S.s.g1, .int .u8 S.s.g2, .int .u8 S.s.g3, .int .i64 S.s.gl, .int .i64 S.s.gr, .int .i64 S.s.on, .int .i64 S.s.H, .int .i64 S.s.W, .int .i64 S.s.T, .int .i64 S.s.B, .slice S.s.tA S.s.tn S.s.tc, .int .i64 S.s.tw, .slice S.s.kA S.s.kn S.s.kc, .int .i64 S.s.kp, .int .i64 S.s.dir, .bool S.s.ex], .int .i64 k] w (SPost S w (fun m => m = S.md.up q)) := by
  have HR := Lib.hid hr
  have HS := Lib.hid hs
  have HQ := Lib.hid hq
  obtain ⟨s, F, zs, L⟩ := S
  clear hr hs hq
  dsimp only at *
  go_enter Tryz.func57, Tryz.ntmps57
  go_upto_region 1 with fail
  generalize hW : (w.alloc _).alloc _ = W; have hX : WS w.heap.size (w.heap.size + 1) 2 ⟨s, F, zs, L⟩ w W ⟨s, F, zs, L⟩ := hW ▸ WS.start HR.out; clear hW
  go_wp2_with (refine hX.wload rfl rfl rfl ?_)
  refine (sane_ok ⟨s, F, zs, L⟩ _ hX.v.rd HS.out).mono ?_
  rintro e w1 ⟨rfl, hg⟩
  have hX1 := hX.below hg.below
  clear hg hX
  have hz := hX1.sz
  have hd : decide (0 ≤ k) = true := decide_eq_true hk
  go_wp2_with (refine hX1.wload rfl rfl rfl ?_)
  refine (up_c ⟨s, F, zs, L⟩ k q _ HS.out hX1.v.rd HQ.out).mono ?_
  intro e w3 hp
  obtain ⟨S', rfl, hX3, hV3, hm, hz3⟩ := hX1.post (by omega) hp
  go_wp2_with (first | (refine hX3.wload rfl rfl rfl ?_) | (refine hX3.wstore hV3 (by rfl) (by rfl) (by rfl) (by rfl) (by rfl) ?_)); exact bodyPost_ret (results_scr rfl rfl (hX3.res hV3)) rfl (hX3.fin hV3 (by omega) hm)
set_option maxRecDepth 100000 in
set_option maxHeartbeats 4000000 in
theorem Scroll_dn1 (S : Sn) (k : Int) (q : Nat) (w : World) (hs : S.md.Ok) (hr : S.rd w) (hk : k < 0) (hk2 : -9223372036854775808 < k) (hq : (q : Int) = max 0 (min (-k) (S.s.B - S.s.T))) : Calls Tryz.prog 57 #[.agg #[.slice S.s.gA S.s.gn S.s.gc, .int .i64 S.s.x, .int .i64 S.s.y, .bool S.s.wr, .bool S.s.og, .int .i64 S.s.fg, .int .i64 S.s.bg, .int .i64 S.s.fl, .int .u8 S.s.g0, .int .u8 S.s.g1, .int .u8 S.s.g2, .int .u8 S.s.g3, .int .i64 S.s.gl, .int .i64 S.s.gr, .int .i64 S.s.on, .int .i64 S.s.H, .int .i64 S.s.W, .int .i64 S.s.T, .int .i64 S.s.B, .slice S.s.tA S.s.tn S.s.tc, .int .i64 S.s.tw, .slice S.s.kA S.s.kn S.s.kc, .int .i64 S.s.kp, .int .i64 S.s.dir, .bool S.s.ex], .int .i64 k] w (SPost S w (fun m => m = S.md.dnG S.s.T.toNat S.s.B.toNat q)) := by
  have HR := Lib.hid hr
  have HQ := Lib.hid hq
  obtain ⟨s, F, zs, L⟩ := S; have hf := hs.cf; simp only [Sn.md] at hf; have HGS := Lib.hid (show gsaneB (listG s.gn F) = true from (gs_ct _ _).symm.trans hs.gs); have HPN := Lib.hid (show penB 0 s.bg 0 = true from hs.ground); have HTN := Lib.hid (show ((s.T.toNat : Nat) : Int) = s.T by have := hf.t0; omega); have HBN := Lib.hid (show ((s.B.toNat : Nat) : Int) = s.B by have := hf.t0; have := hf.tb; omega); have HTB := Lib.hid (show s.T.toNat < s.B.toNat by have := hf.t0; have := hf.tb; omega); have HBH := Lib.hid (show s.B.toNat ≤ s.gn by have := hf.bh; have h := hs.nH; simp only [Sn.md] at h; have := hf.t0; have := hf.tb; omega)
  have HS := Lib.hid hs
  clear hr hs hq hf
  dsimp only at *
  go_enter Tryz.func57, Tryz.ntmps57
  go_upto_region 1 with fail
  generalize hW : (w.alloc _).alloc _ = W; have hX : WS w.heap.size (w.heap.size + 1) 2 ⟨s, F, zs, L⟩ w W ⟨s, F, zs, L⟩ := hW ▸ WS.start HR.out; clear hW
  go_wp2_with (refine hX.wload rfl rfl rfl ?_)
  refine (sane_ok ⟨s, F, zs, L⟩ _ hX.v.rd HS.out).mono ?_
  rintro e w1 ⟨rfl, hg⟩
  have hX1 := hX.below hg.below
  clear hg hX
  have hz := hX1.sz
  have hd : decide (0 ≤ k) = false := decide_eq_false (by omega)
  have hd2 : (k == -9223372036854775808) = false := by simp; omega
  have rS := SBlk.isScr hX1.x.B; have rL := SBlk.cells hX1.x.B; have rZ := IsScr.lt rS
  go_upto_region 7 with fail
  have hN := hX1.drew
  have hwr : IntKind.i64.wrap (-k) = -k := IntWalk.i64_in _ (by omega)
  generalize hkv : -k = KV at *
  refine hr_start (S := (fun w' => w'.cell? ⟨w.heap.size, 17, none⟩ = some (.int .i64 s.T) ∧ w'.cell? ⟨w.heap.size, 18, none⟩ = some (.int .i64 s.B))) (by kernel_rfl) rfl ?_ (fun hHeld => ?_)
  · ((try dsimp only); (first | exact hN.mar | exact hN2.mar))
  refine hr_t 0 (v := ?_) ?_ ?_
  rotate_left
  focus (intro wS hSw; (obtain ⟨q17, q18⟩ := hSw); go_simp; (try with_reducible rfl))
  simp only [st0, st1]
  refine hr_t 2 (v := ?_) ?_ ?_
  rotate_left
  focus (intro wS hSw; (obtain ⟨q17, q18⟩ := hSw); go_simp; (try with_reducible rfl))
  simp only [st0, st1]
  refine hr_t 3 (v := ?_) ?_ ?_
  rotate_left
  focus (intro wS hSw; (obtain ⟨q17, q18⟩ := hSw); go_simp; (try with_reducible rfl))
  simp only [st0, st1]
  refine hr_t 4 (v := ?_) ?_ ?_
  rotate_left
  focus (intro wS hSw; (obtain ⟨q17, q18⟩ := hSw); go_simp; (try with_reducible rfl))
  simp only [st0, st1]
  refine hr_t 5 (v := ?_) ?_ ?_
  rotate_left
  focus (intro wS hSw; (obtain ⟨q17, q18⟩ := hSw); go_simp; (try with_reducible rfl))
  simp only [st0, st1]
  refine hr_t 6 (v := ?_) ?_ ?_
  rotate_left
  focus (intro wS hSw; (obtain ⟨q17, q18⟩ := hSw); go_simp; (try with_reducible rfl))
  simp only [st0, st1]
  refine hr_t 7 (v := ?_) ?_ ?_
  rotate_left
  focus (intro wS hSw; (obtain ⟨q17, q18⟩ := hSw); go_simp; (try with_reducible rfl))
  simp only [st0, st1]
  refine hr_t 8 (v := ?_) ?_ ?_
  rotate_left
  focus (intro wS hSw; (obtain ⟨q17, q18⟩ := hSw); go_simp; (try with_reducible rfl))
  simp only [st0, st1]
  refine hr_t 9 (v := ?_) ?_ ?_
  rotate_left
  focus (intro wS hSw; (obtain ⟨q17, q18⟩ := hSw); go_simp; (try with_reducible rfl))
  simp only [st0, st1]
  refine hr_two (i := 1) (j := 10) rfl rfl rfl rfl (by kernel_rfl) (by kernel_rfl) (by kernel_rfl) (fun K hK => ?_) (fun K hK => ?_)
  · (have qS := SBlk.isScr hN.x.B; have qL := SBlk.cells hN.x.B; have qZ := IsScr.lt qS; go_simp; clear qS qL qZ)
    refine hK.out _ _ ?_ (fun hHeld => ?_)
    · ((try dsimp only); (first | exact hN.mar | exact hN2.mar))
    clear hK K
    simp only [st0, st1]
    refine hr_o 10 (fun K hK => ?_)
    refine wp_scr_load hN.x.B rfl rfl ?_
    refine hK.out _ _ ?_ (fun hHeld => ?_)
    · ((try dsimp only); (first | exact hN.mar | exact hN2.mar))
    clear hK K
    simp only [st0, st1]
    refine hr_o 11 (fun K hK => ?_)
    (try go_simp)
    ((with_reducible refine (ground_c s _).mono ?_); rintro e w1 ⟨rfl, hg⟩; replace hg := hg.below; replace hN := hN.below hg)
    (try go_wp2_with fail)
    refine hK.out _ _ ?_ (fun hHeld => ?_)
    · ((try dsimp only); (first | exact hN.mar | exact hN2.mar))
    clear hK K
    simp only [st0, st1]
    refine hr_o 12 (fun K hK => ?_)
    (try go_simp)
    ((with_reducible refine (down_i (.slice s.gA s.gn s.gc) s.gn F s.T s.B s.T.toNat s.B.toNat q KV 0 s.bg 0 _ hN.rows HGS.out HPN.out HTN.out HBN.out HTB.out HBH.out HQ.out).mono ?_); rintro e w2 ⟨g2, c2, B2, rfl, hg, hc2, hr2, hf2⟩; have hzn := hN.sz; replace hN := hN.below hg)
    (try go_wp2_with fail)
    refine hK.out _ _ ?_ (fun hHeld => ?_)
    · ((try dsimp only); (first | exact hN.mar | exact hN2.mar))
    clear hK K
    simp only [st0, st1]
    refine hr_t 13 (v := ?_) ?_ ?_
    rotate_left
    focus (intro wS hSw; (obtain ⟨q17, q18⟩ := hSw); go_simp; (try with_reducible rfl))
    simp only [st0, st1]
    refine hr_op0 (i := 14) rfl (by kernel_rfl) (by kernel_rfl) (fun K hK => ?_)
    have qS := SBlk.isScr hN.x.B; have qL := SBlk.cells hN.x.B; have qZ := IsScr.lt qS
    (try go_simp)
    clear qS qL qZ
    (generalize hW5 : World.setCell _ _ _ = W5; have hN2 : WS w.heap.size (w.heap.size + 1) 2 ⟨s, F, zs, L⟩ w W5 ⟨{ s with gA := some ⟨g2, 0, none⟩, gn := s.gn, gc := c2 }, _, zs, L⟩ := hW5 ▸ hN.cell (by omega) 0 _ (fun v => v.grid hr2 ((hf2 _ hX1.v.out.1).mono (out_since (by omega))) (fun P hP => (hf2 _ (hX1.v.gen P hP).1).mono (gen_since (k := 2) (by omega)))) rfl; clear hW5)
    (try go_wp2_with fail)
    refine hK.out _ ?_ (fun hHeld => ?_)
    · ((try dsimp only); (first | exact hN.mar | exact hN2.mar))
    clear hK K
    refine hr_done (by kernel_rfl) ?_
    (go_wp2_with (first | (refine hN2.wload rfl rfl rfl ?_) | (refine hN2.wstore hN2.v (by rfl) (by rfl) (by rfl) (by rfl) (by rfl) ?_)); exact bodyPost_ret (results_scr rfl rfl (hN2.res hN2.v)) rfl (hN2.fin hN2.v (by omega) (dn_md s F zs L _ _ q g2 c2 B2)))
  · refine wp_scr_load hN.x.B rfl rfl ?_
    refine hK.out _ _ ?_ (fun hHeld => ?_)
    · ((try dsimp only); (first | exact hN.mar | exact hN2.mar))
    clear hK K
    simp only [st0, st1]
    refine hr_two (i := 1) (j := 11) rfl rfl rfl rfl (by kernel_rfl) (by kernel_rfl) (by kernel_rfl) (fun K hK => ?_) (fun K hK => ?_)
    · (have qS := SBlk.isScr hN.x.B; have qL := SBlk.cells hN.x.B; have qZ := IsScr.lt qS; go_simp; clear qS qL qZ)
      refine hK.out _ _ ?_ (fun hHeld => ?_)
      · ((try dsimp only); (first | exact hN.mar | exact hN2.mar))
      clear hK K
      simp only [st0, st1]
      refine hr_o 11 (fun K hK => ?_)
      (try go_simp)
      ((with_reducible refine (ground_c s _).mono ?_); rintro e w1 ⟨rfl, hg⟩; replace hg := hg.below; replace hN := hN.below hg)
      (try go_wp2_with fail)
      refine hK.out _ _ ?_ (fun hHeld => ?_)
      · ((try dsimp only); (first | exact hN.mar | exact hN2.mar))
      clear hK K
      simp only [st0, st1]
      refine hr_o 12 (fun K hK => ?_)
      (try go_simp)
      ((with_reducible refine (down_i (.slice s.gA s.gn s.gc) s.gn F s.T s.B s.T.toNat s.B.toNat q KV 0 s.bg 0 _ hN.rows HGS.out HPN.out HTN.out HBN.out HTB.out HBH.out HQ.out).mono ?_); rintro e w2 ⟨g2, c2, B2, rfl, hg, hc2, hr2, hf2⟩; have hzn := hN.sz; replace hN := hN.below hg)
      (try go_wp2_with fail)
      refine hK.out _ _ ?_ (fun hHeld => ?_)
      · ((try dsimp only); (first | exact hN.mar | exact hN2.mar))
      clear hK K
      simp only [st0, st1]
      refine hr_t 13 (v := ?_) ?_ ?_
      rotate_left
      focus (intro wS hSw; (obtain ⟨q17, q18⟩ := hSw); go_simp; (try with_reducible rfl))
      simp only [st0, st1]
      refine hr_op0 (i := 14) rfl (by kernel_rfl) (by kernel_rfl) (fun K hK => ?_)
      have qS := SBlk.isScr hN.x.B; have qL := SBlk.cells hN.x.B; have qZ := IsScr.lt qS
      (try go_simp)
      clear qS qL qZ
      (generalize hW5 : World.setCell _ _ _ = W5; have hN2 : WS w.heap.size (w.heap.size + 1) 2 ⟨s, F, zs, L⟩ w W5 ⟨{ s with gA := some ⟨g2, 0, none⟩, gn := s.gn, gc := c2 }, _, zs, L⟩ := hW5 ▸ hN.cell (by omega) 0 _ (fun v => v.grid hr2 ((hf2 _ hX1.v.out.1).mono (out_since (by omega))) (fun P hP => (hf2 _ (hX1.v.gen P hP).1).mono (gen_since (k := 2) (by omega)))) rfl; clear hW5)
      (try go_wp2_with fail)
      refine hK.out _ ?_ (fun hHeld => ?_)
      · ((try dsimp only); (first | exact hN.mar | exact hN2.mar))
      clear hK K
      refine hr_done (by kernel_rfl) ?_
      (go_wp2_with (first | (refine hN2.wload rfl rfl rfl ?_) | (refine hN2.wstore hN2.v (by rfl) (by rfl) (by rfl) (by rfl) (by rfl) ?_)); exact bodyPost_ret (results_scr rfl rfl (hN2.res hN2.v)) rfl (hN2.fin hN2.v (by omega) (dn_md s F zs L _ _ q g2 c2 B2)))
    · (try go_simp)
      ((with_reducible refine (ground_c s _).mono ?_); rintro e w1 ⟨rfl, hg⟩; replace hg := hg.below; replace hN := hN.below hg)
      (try go_wp2_with fail)
      refine hK.out _ _ ?_ (fun hHeld => ?_)
      · ((try dsimp only); (first | exact hN.mar | exact hN2.mar))
      clear hK K
      simp only [st0, st1]
      refine hr_o 1 (fun K hK => ?_)
      (have qS := SBlk.isScr hN.x.B; have qL := SBlk.cells hN.x.B; have qZ := IsScr.lt qS; go_simp; clear qS qL qZ)
      refine hK.out _ _ ?_ (fun hHeld => ?_)
      · ((try dsimp only); (first | exact hN.mar | exact hN2.mar))
      clear hK K
      simp only [st0, st1]
      refine hr_o 12 (fun K hK => ?_)
      (try go_simp)
      ((with_reducible refine (down_i (.slice s.gA s.gn s.gc) s.gn F s.T s.B s.T.toNat s.B.toNat q KV 0 s.bg 0 _ hN.rows HGS.out HPN.out HTN.out HBN.out HTB.out HBH.out HQ.out).mono ?_); rintro e w2 ⟨g2, c2, B2, rfl, hg, hc2, hr2, hf2⟩; have hzn := hN.sz; replace hN := hN.below hg)
      (try go_wp2_with fail)
      refine hK.out _ _ ?_ (fun hHeld => ?_)
      · ((try dsimp only); (first | exact hN.mar | exact hN2.mar))
      clear hK K
      simp only [st0, st1]
      refine hr_t 13 (v := ?_) ?_ ?_
      rotate_left
      focus (intro wS hSw; (obtain ⟨q17, q18⟩ := hSw); go_simp; (try with_reducible rfl))
      simp only [st0, st1]
      refine hr_op0 (i := 14) rfl (by kernel_rfl) (by kernel_rfl) (fun K hK => ?_)
      have qS := SBlk.isScr hN.x.B; have qL := SBlk.cells hN.x.B; have qZ := IsScr.lt qS
      (try go_simp)
      clear qS qL qZ
      (generalize hW5 : World.setCell _ _ _ = W5; have hN2 : WS w.heap.size (w.heap.size + 1) 2 ⟨s, F, zs, L⟩ w W5 ⟨{ s with gA := some ⟨g2, 0, none⟩, gn := s.gn, gc := c2 }, _, zs, L⟩ := hW5 ▸ hN.cell (by omega) 0 _ (fun v => v.grid hr2 ((hf2 _ hX1.v.out.1).mono (out_since (by omega))) (fun P hP => (hf2 _ (hX1.v.gen P hP).1).mono (gen_since (k := 2) (by omega)))) rfl; clear hW5)
      (try go_wp2_with fail)
      refine hK.out _ ?_ (fun hHeld => ?_)
      · ((try dsimp only); (first | exact hN.mar | exact hN2.mar))
      clear hK K
      refine hr_done (by kernel_rfl) ?_
      (go_wp2_with (first | (refine hN2.wload rfl rfl rfl ?_) | (refine hN2.wstore hN2.v (by rfl) (by rfl) (by rfl) (by rfl) (by rfl) ?_)); exact bodyPost_ret (results_scr rfl rfl (hN2.res hN2.v)) rfl (hN2.fin hN2.v (by omega) (dn_md s F zs L _ _ q g2 c2 B2)))
end Go.Proofs.YtlchffkabpfjpaaGreat.Scr
