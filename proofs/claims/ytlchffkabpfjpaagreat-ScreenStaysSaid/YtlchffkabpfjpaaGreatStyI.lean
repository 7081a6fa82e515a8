/- screen.Erase. -/
import Derived.Test.YtlchffkabpfjpaaGreatStyC
namespace Go.Proofs.YtlchffkabpfjpaaGreat.Scr
open Go.RowKit Go.Proofs.YtlchffkabpfjpaaGreat.Row
attribute [local go_sem ↓] scr_load_pre scr_store_pre
attribute [local go_sem] scr_cell scr_frozen
theorem Sty.trans {a b c : Md} (h : Sty a b) (k : Sty b c) : Sty a c := ⟨k.ok, k.H.trans h.H, k.W.trans h.W, k.T.trans h.T, k.B.trans h.B, k.fg.trans h.fg, k.bg.trans h.bg, k.fl.trans h.fl, k.dir.trans h.dir⟩
theorem lay_ok {m : Md} (h : m.Ok) (t q : Nat) : Md.Ok { m with G := layC m.G t q (m.G 0).n 0 m.bg 0 } := h.withG (gsC_sub h.gs h.ground fun i hi => by
  unfold layC
  split
  · exact .inr rfl
  · exact .inl ⟨i, hi, rfl⟩)
theorem sty_lay {s : Sc} {F : Nat → Rw} {zs : List Int} {L : List Rw} {t q g2 c2 : Nat} {B2 : Nat → Nat} (hO : (Sn.md ⟨s, F, zs, L⟩).Ok) :
    Sty (Sn.md ⟨s, F, zs, L⟩) (Sn.md ⟨{ s with wr := false, gA := some ⟨g2, 0, none⟩, gn := s.gn, gc := c2 }, layG F t q B2 (F 0).n 0 s.bg 0, zs, L⟩) := by
  have e2 : Sn.md ⟨{ s with wr := false, gA := some ⟨g2, 0, none⟩, gn := s.gn, gc := c2 }, layG F t q B2 (F 0).n 0 s.bg 0, zs, L⟩ = { ({ (Sn.md ⟨s, F, zs, L⟩) with G := layC (Sn.md ⟨s, F, zs, L⟩).G t q ((Sn.md ⟨s, F, zs, L⟩).G 0).n 0 (Sn.md ⟨s, F, zs, L⟩).bg 0 } : Md) with wr := false } := by
    simp only [Sn.md, ct_lay]
    rfl
  refine ⟨?_, rfl, rfl, rfl, rfl, rfl, rfl, rfl, rfl⟩
  rw [e2]
  exact (lay_ok hO t q).dry
theorem sty_hist {s : Sc} {F : Nat → Rw} {zs : List Int} {L : List Rw} (hO : (Sn.md ⟨s, F, zs, L⟩).Ok) : Sty (Sn.md ⟨s, F, zs, L⟩) (Sn.md ⟨{ s with wr := false, kA := none, kn := 0, kc := 0, kp := max 0 (min s.kp 200) }, F, zs, []⟩) := by
  have hk := hO.hs
  unfold hsC at hk
  obtain ⟨k1, k2, -, -⟩ := of_decide_eq_true hk
  have e : max 0 (min s.kp 200) = s.kp := by
    have k1' : 0 ≤ s.kp := k1
    have k2' : s.kp ≤ 200 := k2
    omega
  refine ⟨?_, rfl, rfl, rfl, rfl, rfl, rfl, rfl, rfl⟩
  rw [e]
  have h : Md.Ok { (Sn.md ⟨s, F, zs, L⟩) with K := [] } := hO.withK (by
    unfold hsC
    exact decide_eq_true ⟨k1, k2, by simpa using k1, fun c hc => by cases hc⟩)
  exact h.dry
set_option maxRecDepth 100000 in
set_option maxHeartbeats 4000000 in
theorem Erase_2 (S : Sn) (w : World) (hs : S.md.Ok) (hr : S.rd w) : Calls Tryz.prog 23 #[.agg #[.slice S.s.gA S.s.gn S.s.gc, .int .i64 S.s.x, .int .i64 S.s.y, .bool S.s.wr, .bool S.s.og, .int .i64 S.s.fg, .int .i64 S.s.bg, .int .i64 S.s.fl, .int .u8 S.s.g0, .int .u8 S.s.g1, .int .u8 S.s.g2, .int .u8 S.s.g3, .int .i64 S.s.gl, .int .i64 S.s.gr, .int .i64 S.s.on, .int .i64 S.s.H, .int .i64 S.s.W, .int .i64 S.s.T, .int .i64 S.s.B, .slice S.s.tA S.s.tn S.s.tc, .int .i64 S.s.tw, .slice S.s.kA S.s.kn S.s.kc, .int .i64 S.s.kp, .int .i64 S.s.dir, .bool S.s.ex], .int .i64 2] w (SPost S w (Sty S.md)) := by
  have HR := Lib.hid hr; have HS := Lib.hid hs; obtain ⟨s, F, zs, L⟩ := S; clear hr hs; dsimp only at *; go_enter Tryz.func23, Tryz.ntmps23; go_upto_region 1 with fail; generalize hW : (w.alloc _).alloc _ = W; have hX : WS w.heap.size (w.heap.size + 1) 2 ⟨s, F, zs, L⟩ w W ⟨s, F, zs, L⟩ := hW ▸ WS.start HR.out; clear hW; go_wp2_with (refine hX.wload rfl rfl rfl ?_); refine (sane_ok ⟨s, F, zs, L⟩ _ hX.v.rd HS.out).mono ?_; rintro e w0 ⟨rfl, hg⟩; have hX0 := hX.below hg.below; clear hg hX; have hz := hX0.sz; go_upto_region 4 with (first | (refine hX0.wload rfl rfl rfl ?_) | ((with_reducible refine (ground_c s _).mono ?_); rintro e w1 ⟨rfl, hg⟩; replace hg := hg.below)); generalize hW1 : w1.alloc _ = W1; have hX1 : WS w.heap.size (w.heap.size + 1) 2 ⟨s, F, zs, L⟩ w W1 ⟨s, F, zs, L⟩ := (by rw [← hW1]; exact (hX0.below hg).alloc _); have hPB : Blk W1 w1.heap.size 26 #[.int .i64 0, .int .i64 s.bg, .int .i64 0] := (by rw [← hW1]; exact Blk.new _ _ _); have hpb : w.heap.size + 2 ≤ w1.heap.size := (by have := hg.size; have := hX0.sz; omega); clear hW1 hX0 hz hg; generalize w1.heap.size = pb at *; generalize (.agg #[.slice s.gA s.gn s.gc, .int .i64 s.x, .int .i64 s.y, .bool s.wr, .bool s.og, .int .i64 s.fg, .int .i64 s.bg, .int .i64 s.fl, .int .u8 s.g0, .int .u8 s.g1, .int .u8 s.g2, .int .u8 s.g3, .int .i64 s.gl, .int .i64 s.gr, .int .i64 s.on, .int .i64 s.H, .int .i64 s.W, .int .i64 s.T, .int .i64 s.B, .slice s.tA s.tn s.tc, .int .i64 s.tw, .slice s.kA s.kn s.kc, .int .i64 s.kp, .int .i64 s.dir, .bool s.ex] : Value) = V0
  have HGS := Lib.hid (show gsaneB (listG s.gn F) = true from (gs_ct _ _).symm.trans HS.out.gs)
  have HPN := Lib.hid (show penB 0 s.bg 0 = true from HS.out.ground)
  have HF := Lib.hid (show max 0 (min (0 : Int) (s.gn : Int)) = ((0 : Nat) : Int) by omega)
  have HT := Lib.hid (show max 0 (min s.H (s.gn : Int)) = ((s.gn : Nat) : Int) by have h : (s.gn : Int) = s.H := HS.out.nH; omega)
  have HQ := Lib.hid (show 0 + s.gn = max 0 s.gn by omega)
  obtain ⟨d0, d1, d2, df, dl⟩ := hPB.facts3
  have rS := SBlk.isScr hX1.x.B; have rL := SBlk.cells hX1.x.B; have rZ := IsScr.lt rS
  go_upto_region 13 with fail
  go_wp2_with fail
  refine (clear_f (.slice s.gA s.gn s.gc) s.gn F 0 s.gn s.gn 0 s.H 0 s.bg 0 _ hX1.rows HGS.out HPN.out HF.out HT.out HQ.out).mono ?_
  rintro e w2 ⟨g2, c2, B2, rfl, hg, hc2, hr2, hf2⟩
  have hz := hX1.sz
  have hN := hX1.below hg
  clear rS rL rZ d0 d1 d2 df dl
  have rS := SBlk.isScr hN.x.B; have rL := SBlk.cells hN.x.B; have rZ := IsScr.lt rS
  go_upto_region 17 with fail
  clear rS rL rZ
  generalize hW6 : World.setCell _ _ _ = W6
  have hX6 : WS w.heap.size (w.heap.size + 1) 2 ⟨s, F, zs, L⟩ w W6 ⟨{ s with wr := false, gA := some ⟨g2, 0, none⟩, gn := s.gn, gc := c2 }, layG F 0 s.gn B2 (F 0).n 0 s.bg 0, zs, L⟩ := by
    rw [← hW6]
    exact hN.cell2 (by omega) 0 3 (.slice (some ⟨g2, 0, none⟩) s.gn c2) (.bool false) (fun v => by
      have u := v.grid hr2 ((hf2 _ hX1.v.out.1).mono (out_since (by omega))) (fun P hP => (hf2 _ (hX1.v.gen P hP).1).mono (gen_since (k := 2) (by omega)))
      exact ⟨u.rd, u.out, u.gen⟩) rfl
  clear hW6
  go_wp2_with (first | (refine hX6.wload rfl rfl rfl ?_) | (refine hX6.wstore hX6.v (by rfl) (by rfl) (by rfl) (by rfl) (by rfl) ?_)); exact bodyPost_ret (results_scr rfl rfl (hX6.res hX6.v)) rfl (hX6.fin hX6.v (by omega) (by exact sty_lay HS.out))
set_option maxRecDepth 100000 in
set_option maxHeartbeats 4000000 in
theorem Erase_3 (S : Sn) (w : World) (hs : S.md.Ok) (hr : S.rd w) : Calls Tryz.prog 23 #[.agg #[.slice S.s.gA S.s.gn S.s.gc, .int .i64 S.s.x, .int .i64 S.s.y, .bool S.s.wr, .bool S.s.og, .int .i64 S.s.fg, .int .i64 S.s.bg, .int .i64 S.s.fl, .int .u8 S.s.g0, .int .u8 S.s.g1, .int .u8 S.s.g2, .int .u8 S.s.g3, .int .i64 S.s.gl, .int .i64 S.s.gr, .int .i64 S.s.on, .int .i64 S.s.H, .int .i64 S.s.W, .int .i64 S.s.T, .int .i64 S.s.B, .slice S.s.tA S.s.tn S.s.tc, .int .i64 S.s.tw, .slice S.s.kA S.s.kn S.s.kc, .int .i64 S.s.kp, .int .i64 S.s.dir, .bool S.s.ex], .int .i64 3] w (SPost S w (Sty S.md)) := by
  have HR := Lib.hid hr; have HS := Lib.hid hs; obtain ⟨s, F, zs, L⟩ := S; clear hr hs; dsimp only at *; go_enter Tryz.func23, Tryz.ntmps23; go_upto_region 1 with fail; generalize hW : (w.alloc _).alloc _ = W; have hX : WS w.heap.size (w.heap.size + 1) 2 ⟨s, F, zs, L⟩ w W ⟨s, F, zs, L⟩ := hW ▸ WS.start HR.out; clear hW; go_wp2_with (refine hX.wload rfl rfl rfl ?_); refine (sane_ok ⟨s, F, zs, L⟩ _ hX.v.rd HS.out).mono ?_; rintro e w0 ⟨rfl, hg⟩; have hX0 := hX.below hg.below; clear hg hX; have hz := hX0.sz; go_upto_region 4 with (first | (refine hX0.wload rfl rfl rfl ?_) | ((with_reducible refine (ground_c s _).mono ?_); rintro e w1 ⟨rfl, hg⟩; replace hg := hg.below)); generalize hW1 : w1.alloc _ = W1; have hX1 : WS w.heap.size (w.heap.size + 1) 2 ⟨s, F, zs, L⟩ w W1 ⟨s, F, zs, L⟩ := (by rw [← hW1]; exact (hX0.below hg).alloc _); have hPB : Blk W1 w1.heap.size 26 #[.int .i64 0, .int .i64 s.bg, .int .i64 0] := (by rw [← hW1]; exact Blk.new _ _ _); have hpb : w.heap.size + 2 ≤ w1.heap.size := (by have := hg.size; have := hX0.sz; omega); clear hW1 hX0 hz hg; generalize w1.heap.size = pb at *; generalize (.agg #[.slice s.gA s.gn s.gc, .int .i64 s.x, .int .i64 s.y, .bool s.wr, .bool s.og, .int .i64 s.fg, .int .i64 s.bg, .int .i64 s.fl, .int .u8 s.g0, .int .u8 s.g1, .int .u8 s.g2, .int .u8 s.g3, .int .i64 s.gl, .int .i64 s.gr, .int .i64 s.on, .int .i64 s.H, .int .i64 s.W, .int .i64 s.T, .int .i64 s.B, .slice s.tA s.tn s.tc, .int .i64 s.tw, .slice s.kA s.kn s.kc, .int .i64 s.kp, .int .i64 s.dir, .bool s.ex] : Value) = V0
  have rS := SBlk.isScr hX1.x.B; have rL := SBlk.cells hX1.x.B; have rZ := IsScr.lt rS
  go_upto_region 15 with fail
  go_wp2_with fail
  refine (hnew_c s.kp _).mono ?_
  rintro e w2 ⟨rfl, hg⟩
  have hz := hX1.sz
  have hN := hX1.below hg.below
  have hnil : RdR w2 (.slice none 0 0) [] := ⟨RdX.nil _ _ _, fun r hr => by cases hr⟩
  have hfn : ∀ P : Nat → Prop, Ft P (.slice none 0 0) [] := fun P => ⟨fun h => by simp at h, fun r hr => by cases hr⟩
  clear rS rL rZ
  have rS := SBlk.isScr hN.x.B; have rL := SBlk.cells hN.x.B; have rZ := IsScr.lt rS
  go_upto_region 17 with fail
  clear rS rL rZ
  generalize hW6 : World.setCell _ _ _ = W6
  have hX6 : WS w.heap.size (w.heap.size + 1) 2 ⟨s, F, zs, L⟩ w W6 ⟨{ s with wr := false, kA := none, kn := 0, kc := 0, kp := max 0 (min s.kp 200) }, F, zs, []⟩ := by
    rw [← hW6]
    have h1 : WS w.heap.size (w.heap.size + 1) 2 ⟨s, F, zs, L⟩ w _ ⟨{ s with kA := none, kn := 0, kc := 0, kp := max 0 (min s.kp 200) }, F, zs, []⟩ := hN.cell2 (by omega) 21 22 (.slice none 0 0) (.int .i64 (max 0 (min s.kp 200))) (fun v => v.hist hnil (hfn _) (fun P _ => hfn _)) rfl
    exact h1.cell (by omega) 3 (.bool false) (fun v => ⟨v.rd, v.out, v.gen⟩) rfl
  clear hW6
  go_wp2_with (first | (refine hX6.wload rfl rfl rfl ?_) | (refine hX6.wstore hX6.v (by rfl) (by rfl) (by rfl) (by rfl) (by rfl) ?_)); exact bodyPost_ret (results_scr rfl rfl (hX6.res hX6.v)) rfl (hX6.fin hX6.v (by omega) (by exact sty_hist HS.out))
set_option maxRecDepth 100000 in
set_option maxHeartbeats 4000000 in
theorem Erase_no (S : Sn) (k : Int) (w : World) (hs : S.md.Ok) (hr : S.rd w) (h0 : k ≠ 0) (h1 : k ≠ 1) (h2 : k ≠ 2) (h3 : k ≠ 3) : Calls Tryz.prog 23 #[.agg #[.slice S.s.gA S.s.gn S.s.gc, .int .i64 S.s.x, .int .i64 S.s.y, .bool S.s.wr, .bool S.s.og, .int .i64 S.s.fg, .int .i64 S.s.bg, .int .i64 S.s.fl, .int .u8 S.s.g0, .int .u8 S.s.g1, .int .u8 S.s.g2, .int .u8 S.s.g3, .int .i64 S.s.gl, .int .i64 S.s.gr, .int .i64 S.s.on, .int .i64 S.s.H, .int .i64 S.s.W, .int .i64 S.s.T, .int .i64 S.s.B, .slice S.s.tA S.s.tn S.s.tc, .int .i64 S.s.tw, .slice S.s.kA S.s.kn S.s.kc, .int .i64 S.s.kp, .int .i64 S.s.dir, .bool S.s.ex], .int .i64 k] w (SPost S w (Sty S.md)) := by
  have d0 : (k == 0) = false := by simpa using h0
  have d1 : (k == 1) = false := by simpa using h1
  have d2 : (k == 2) = false := by simpa using h2
  have d3 : (k == 3) = false := by simpa using h3
  clear h0 h1 h2 h3
  have HR := Lib.hid hr; have HS := Lib.hid hs; obtain ⟨s, F, zs, L⟩ := S; clear hr hs; dsimp only at *; go_enter Tryz.func23, Tryz.ntmps23; go_upto_region 1 with fail; generalize hW : (w.alloc _).alloc _ = W; have hX : WS w.heap.size (w.heap.size + 1) 2 ⟨s, F, zs, L⟩ w W ⟨s, F, zs, L⟩ := hW ▸ WS.start HR.out; clear hW; go_wp2_with (refine hX.wload rfl rfl rfl ?_); refine (sane_ok ⟨s, F, zs, L⟩ _ hX.v.rd HS.out).mono ?_; rintro e w0 ⟨rfl, hg⟩; have hX0 := hX.below hg.below; clear hg hX; have hz := hX0.sz; go_upto_region 4 with (first | (refine hX0.wload rfl rfl rfl ?_) | ((with_reducible refine (ground_c s _).mono ?_); rintro e w1 ⟨rfl, hg⟩; replace hg := hg.below)); generalize hW1 : w1.alloc _ = W1; have hX1 : WS w.heap.size (w.heap.size + 1) 2 ⟨s, F, zs, L⟩ w W1 ⟨s, F, zs, L⟩ := (by rw [← hW1]; exact (hX0.below hg).alloc _); have hPB : Blk W1 w1.heap.size 26 #[.int .i64 0, .int .i64 s.bg, .int .i64 0] := (by rw [← hW1]; exact Blk.new _ _ _); have hpb : w.heap.size + 2 ≤ w1.heap.size := (by have := hg.size; have := hX0.sz; omega); clear hW1 hX0 hz hg; generalize w1.heap.size = pb at *; generalize (.agg #[.slice s.gA s.gn s.gc, .int .i64 s.x, .int .i64 s.y, .bool s.wr, .bool s.og, .int .i64 s.fg, .int .i64 s.bg, .int .i64 s.fl, .int .u8 s.g0, .int .u8 s.g1, .int .u8 s.g2, .int .u8 s.g3, .int .i64 s.gl, .int .i64 s.gr, .int .i64 s.on, .int .i64 s.H, .int .i64 s.W, .int .i64 s.T, .int .i64 s.B, .slice s.tA s.tn s.tc, .int .i64 s.tw, .slice s.kA s.kn s.kc, .int .i64 s.kp, .int .i64 s.dir, .bool s.ex] : Value) = V0
  go_upto_region 5 with fail
  go_wp2_with (first | (refine hX1.wload rfl rfl rfl ?_) | (refine hX1.wstore hX1.v (by rfl) (by rfl) (by rfl) (by rfl) (by rfl) ?_)); exact bodyPost_ret (results_scr rfl rfl (hX1.res hX1.v)) rfl (hX1.fin hX1.v (by omega) (Sty.refl HS.out))
set_option maxRecDepth 100000 in
set_option maxHeartbeats 4000000 in
theorem Erase_0 (S : Sn) (w : World) (hs : S.md.Ok) (hr : S.rd w) : Calls Tryz.prog 23 #[.agg #[.slice S.s.gA S.s.gn S.s.gc, .int .i64 S.s.x, .int .i64 S.s.y, .bool S.s.wr, .bool S.s.og, .int .i64 S.s.fg, .int .i64 S.s.bg, .int .i64 S.s.fl, .int .u8 S.s.g0, .int .u8 S.s.g1, .int .u8 S.s.g2, .int .u8 S.s.g3, .int .i64 S.s.gl, .int .i64 S.s.gr, .int .i64 S.s.on, .int .i64 S.s.H, .int .i64 S.s.W, .int .i64 S.s.T, .int .i64 S.s.B, .slice S.s.tA S.s.tn S.s.tc, .int .i64 S.s.tw, .slice S.s.kA S.s.kn S.s.kc, .int .i64 S.s.kp, .int .i64 S.s.dir, .bool S.s.ex], .int .i64 0] w (SPost S w (Sty S.md)) := by
  have HR := Lib.hid hr; have HS := Lib.hid hs; obtain ⟨s, F, zs, L⟩ := S; clear hr hs; dsimp only at *; go_enter Tryz.func23, Tryz.ntmps23; go_upto_region 1 with fail; generalize hW : (w.alloc _).alloc _ = W; have hX : WS w.heap.size (w.heap.size + 1) 2 ⟨s, F, zs, L⟩ w W ⟨s, F, zs, L⟩ := hW ▸ WS.start HR.out; clear hW; go_wp2_with (refine hX.wload rfl rfl rfl ?_); refine (sane_ok ⟨s, F, zs, L⟩ _ hX.v.rd HS.out).mono ?_; rintro e w0 ⟨rfl, hg⟩; have hX0 := hX.below hg.below; clear hg hX; have hz := hX0.sz; go_upto_region 4 with (first | (refine hX0.wload rfl rfl rfl ?_) | ((with_reducible refine (ground_c s _).mono ?_); rintro e w1 ⟨rfl, hg⟩; replace hg := hg.below)); generalize hW1 : w1.alloc _ = W1; have hX1 : WS w.heap.size (w.heap.size + 1) 2 ⟨s, F, zs, L⟩ w W1 ⟨s, F, zs, L⟩ := (by rw [← hW1]; exact (hX0.below hg).alloc _); have hPB : Blk W1 w1.heap.size 26 #[.int .i64 0, .int .i64 s.bg, .int .i64 0] := (by rw [← hW1]; exact Blk.new _ _ _); have hpb : w.heap.size + 2 ≤ w1.heap.size := (by have := hg.size; have := hX0.sz; omega); clear hW1 hX0 hz hg; generalize w1.heap.size = pb at *; generalize (.agg #[.slice s.gA s.gn s.gc, .int .i64 s.x, .int .i64 s.y, .bool s.wr, .bool s.og, .int .i64 s.fg, .int .i64 s.bg, .int .i64 s.fl, .int .u8 s.g0, .int .u8 s.g1, .int .u8 s.g2, .int .u8 s.g3, .int .i64 s.gl, .int .i64 s.gr, .int .i64 s.on, .int .i64 s.H, .int .i64 s.W, .int .i64 s.T, .int .i64 s.B, .slice s.tA s.tn s.tc, .int .i64 s.tw, .slice s.kA s.kn s.kc, .int .i64 s.kp, .int .i64 s.dir, .bool s.ex] : Value) = V0
  have hz := hX1.sz
  go_upto_region 7 with fail
  go_wp2_with (refine hX1.wload rfl rfl rfl ?_)
  refine (eraseLine_c ⟨s, F, zs, L⟩ 0 _ HS.out hX1.v.rd).mono ?_
  intro e w3 hp
  have hPB3 := hPB.below (WS.step hp) hPB.lt
  obtain ⟨S1, rfl, hX3, hV3, hE, hz3⟩ := hX1.post (by omega) hp
  go_upto_region 8 with (refine wpList_scr_store S1.s hX3.x.B.isScr rfl rfl rfl rfl rfl ?_)
  generalize hW5 : World.setRow _ _ _ = W5
  have hX5 : WS w.heap.size (w.heap.size + 1) 2 ⟨s, F, zs, L⟩ w W5 S1 := hW5 ▸ hX3.row (by omega) hV3
  have hPB5 : Blk W5 pb 26 #[.int .i64 0, .int .i64 s.bg, .int .i64 0] := hW5 ▸ (setRow_other _ _ _ _ (by omega)).trans hPB3
  clear hW5 hX3 hV3 hPB3 hPB hX1 hp
  obtain ⟨s1, F1, zs1, L1⟩ := S1
  have HE := Lib.hid hE
  have hbg : s.bg = s1.bg := hE.1.bg.symm
  rw [hbg] at hPB5
  have HS1 : Hid (Sn.md ⟨s1, F1, zs1, L1⟩).Ok := Lib.hid hE.1.ok
  clear hbg hE
  have hf := HS1.out.cf
  simp only [Sn.md] at hf
  have hnH : (s1.gn : Int) = s1.H := HS1.out.nH
  have HGS := Lib.hid (show gsaneB (listG s1.gn F1) = true from (gs_ct _ _).symm.trans HS1.out.gs)
  have HPN := Lib.hid (show penB 0 s1.bg 0 = true from HS1.out.ground)
  have HF := Lib.hid (show max 0 (min (s1.y + 1) (s1.gn : Int)) = (((s1.y + 1).toNat : Nat) : Int) by have := hf.y0; have := hf.y1; omega)
  have HT := Lib.hid (show max 0 (min s1.H (s1.gn : Int)) = ((s1.gn : Nat) : Int) by have := hf.y0; have := hf.y1; omega)
  have HQ := Lib.hid (show (s1.y + 1).toNat + (s1.gn - (s1.y + 1).toNat) = max (s1.y + 1).toNat s1.gn by have := hf.y0; have := hf.y1; omega)
  have hw1 : wrap64 (s1.y + 1) = s1.y + 1 := IntWalk.wrap64_in _ (by have := hf.y0; have := hf.y1; have := hf.h2; omega)
  clear hf hnH
  dsimp only at *
  obtain ⟨d0, d1, d2, df, dl⟩ := hPB5.facts3
  generalize (.agg #[.slice s1.gA s1.gn s1.gc, .int .i64 s1.x, .int .i64 s1.y, .bool s1.wr, .bool s1.og, .int .i64 s1.fg, .int .i64 s1.bg, .int .i64 s1.fl, .int .u8 s1.g0, .int .u8 s1.g1, .int .u8 s1.g2, .int .u8 s1.g3, .int .i64 s1.gl, .int .i64 s1.gr, .int .i64 s1.on, .int .i64 s1.H, .int .i64 s1.W, .int .i64 s1.T, .int .i64 s1.B, .slice s1.tA s1.tn s1.tc, .int .i64 s1.tw, .slice s1.kA s1.kn s1.kc, .int .i64 s1.kp, .int .i64 s1.dir, .bool s1.ex] : Value) = V1
  have rS := SBlk.isScr hX5.x.B; have rL := SBlk.cells hX5.x.B; have rZ := IsScr.lt rS
  go_wp2_with fail
  refine (clear_f (.slice s1.gA s1.gn s1.gc) s1.gn F1 (s1.y + 1).toNat (s1.gn - (s1.y + 1).toNat) s1.gn (s1.y + 1) s1.H 0 s1.bg 0 _ hX5.rows HGS.out HPN.out HF.out HT.out HQ.out).mono ?_
  rintro e w2 ⟨g2, c2, B2, rfl, hg, hc2, hr2, hf2⟩
  have hz5 := hX5.sz
  have hN := hX5.below hg
  clear rS rL rZ d0 d1 d2 df dl
  have rS := SBlk.isScr hN.x.B; have rL := SBlk.cells hN.x.B; have rZ := IsScr.lt rS
  go_upto_region 17 with fail
  clear rS rL rZ
  generalize hW6 : World.setCell _ _ _ = W6
  have hX6 : WS w.heap.size (w.heap.size + 1) 2 ⟨s, F, zs, L⟩ w W6 ⟨{ s1 with wr := false, gA := some ⟨g2, 0, none⟩, gn := s1.gn, gc := c2 }, layG F1 (s1.y + 1).toNat (s1.gn - (s1.y + 1).toNat) B2 (F1 0).n 0 s1.bg 0, zs1, L1⟩ := by
    rw [← hW6]
    exact hN.cell2 (by omega) 0 3 (.slice (some ⟨g2, 0, none⟩) s1.gn c2) (.bool false) (fun v => by
      have u := v.grid hr2 ((hf2 _ hX5.v.out.1).mono (out_since (by omega))) (fun P hP => (hf2 _ (hX5.v.gen P hP).1).mono (gen_since (k := 2) (by omega)))
      exact ⟨u.rd, u.out, u.gen⟩) rfl
  clear hW6
  go_wp2_with (first | (refine hX6.wload rfl rfl rfl ?_) | (refine hX6.wstore hX6.v (by rfl) (by rfl) (by rfl) (by rfl) (by rfl) ?_)); exact bodyPost_ret (results_scr rfl rfl (hX6.res hX6.v)) rfl (hX6.fin hX6.v (by omega) (by exact HE.out.1.trans (sty_lay HS1.out)))
set_option maxRecDepth 100000 in
set_option maxHeartbeats 4000000 in
theorem Erase_1 (S : Sn) (w : World) (hs : S.md.Ok) (hr : S.rd w) : Calls Tryz.prog 23 #[.agg #[.slice S.s.gA S.s.gn S.s.gc, .int .i64 S.s.x, .int .i64 S.s.y, .bool S.s.wr, .bool S.s.og, .int .i64 S.s.fg, .int .i64 S.s.bg, .int .i64 S.s.fl, .int .u8 S.s.g0, .int .u8 S.s.g1, .int .u8 S.s.g2, .int .u8 S.s.g3, .int .i64 S.s.gl, .int .i64 S.s.gr, .int .i64 S.s.on, .int .i64 S.s.H, .int .i64 S.s.W, .int .i64 S.s.T, .int .i64 S.s.B, .slice S.s.tA S.s.tn S.s.tc, .int .i64 S.s.tw, .slice S.s.kA S.s.kn S.s.kc, .int .i64 S.s.kp, .int .i64 S.s.dir, .bool S.s.ex], .int .i64 1] w (SPost S w (Sty S.md)) := by
  have HR := Lib.hid hr; have HS := Lib.hid hs; obtain ⟨s, F, zs, L⟩ := S; clear hr hs; dsimp only at *; go_enter Tryz.func23, Tryz.ntmps23; go_upto_region 1 with fail; generalize hW : (w.alloc _).alloc _ = W; have hX : WS w.heap.size (w.heap.size + 1) 2 ⟨s, F, zs, L⟩ w W ⟨s, F, zs, L⟩ := hW ▸ WS.start HR.out; clear hW; go_wp2_with (refine hX.wload rfl rfl rfl ?_); refine (sane_ok ⟨s, F, zs, L⟩ _ hX.v.rd HS.out).mono ?_; rintro e w0 ⟨rfl, hg⟩; have hX0 := hX.below hg.below; clear hg hX; have hz := hX0.sz; go_upto_region 4 with (first | (refine hX0.wload rfl rfl rfl ?_) | ((with_reducible refine (ground_c s _).mono ?_); rintro e w1 ⟨rfl, hg⟩; replace hg := hg.below)); generalize hW1 : w1.alloc _ = W1; have hX1 : WS w.heap.size (w.heap.size + 1) 2 ⟨s, F, zs, L⟩ w W1 ⟨s, F, zs, L⟩ := (by rw [← hW1]; exact (hX0.below hg).alloc _); have hPB : Blk W1 w1.heap.size 26 #[.int .i64 0, .int .i64 s.bg, .int .i64 0] := (by rw [← hW1]; exact Blk.new _ _ _); have hpb : w.heap.size + 2 ≤ w1.heap.size := (by have := hg.size; have := hX0.sz; omega); clear hW1 hX0 hz hg; generalize w1.heap.size = pb at *; generalize (.agg #[.slice s.gA s.gn s.gc, .int .i64 s.x, .int .i64 s.y, .bool s.wr, .bool s.og, .int .i64 s.fg, .int .i64 s.bg, .int .i64 s.fl, .int .u8 s.g0, .int .u8 s.g1, .int .u8 s.g2, .int .u8 s.g3, .int .i64 s.gl, .int .i64 s.gr, .int .i64 s.on, .int .i64 s.H, .int .i64 s.W, .int .i64 s.T, .int .i64 s.B, .slice s.tA s.tn s.tc, .int .i64 s.tw, .slice s.kA s.kn s.kc, .int .i64 s.kp, .int .i64 s.dir, .bool s.ex] : Value) = V0
  have hz := hX1.sz
  go_upto_region 10 with fail
  go_wp2_with (refine hX1.wload rfl rfl rfl ?_)
  refine (eraseLine_c ⟨s, F, zs, L⟩ 1 _ HS.out hX1.v.rd).mono ?_
  intro e w3 hp
  have hPB3 := hPB.below (WS.step hp) hPB.lt
  obtain ⟨S1, rfl, hX3, hV3, hE, hz3⟩ := hX1.post (by omega) hp
  go_upto_region 11 with (refine wpList_scr_store S1.s hX3.x.B.isScr rfl rfl rfl rfl rfl ?_)
  generalize hW5 : World.setRow _ _ _ = W5
  have hX5 : WS w.heap.size (w.heap.size + 1) 2 ⟨s, F, zs, L⟩ w W5 S1 := hW5 ▸ hX3.row (by omega) hV3
  have hPB5 : Blk W5 pb 26 #[.int .i64 0, .int .i64 s.bg, .int .i64 0] := hW5 ▸ (setRow_other _ _ _ _ (by omega)).trans hPB3
  clear hW5 hX3 hV3 hPB3 hPB hX1 hp
  obtain ⟨s1, F1, zs1, L1⟩ := S1
  have HE := Lib.hid hE
  have hbg : s.bg = s1.bg := hE.1.bg.symm
  rw [hbg] at hPB5
  have HS1 : Hid (Sn.md ⟨s1, F1, zs1, L1⟩).Ok := Lib.hid hE.1.ok
  clear hbg hE
  have hf := HS1.out.cf
  simp only [Sn.md] at hf
  have hnH : (s1.gn : Int) = s1.H := HS1.out.nH
  have HGS := Lib.hid (show gsaneB (listG s1.gn F1) = true from (gs_ct _ _).symm.trans HS1.out.gs)
  have HPN := Lib.hid (show penB 0 s1.bg 0 = true from HS1.out.ground)
  have HF := Lib.hid (show max 0 (min 0 (s1.gn : Int)) = ((0 : Nat) : Int) by have := hf.y0; have := hf.y1; omega)
  have HT := Lib.hid (show max 0 (min s1.y (s1.gn : Int)) = ((s1.y.toNat : Nat) : Int) by have := hf.y0; have := hf.y1; omega)
  have HQ := Lib.hid (show 0 + s1.y.toNat = max 0 s1.y.toNat by have := hf.y0; have := hf.y1; omega)
  have hw1 : wrap64 (s1.y + 1) = s1.y + 1 := IntWalk.wrap64_in _ (by have := hf.y0; have := hf.y1; have := hf.h2; omega)
  clear hf hnH
  dsimp only at *
  obtain ⟨d0, d1, d2, df, dl⟩ := hPB5.facts3
  generalize (.agg #[.slice s1.gA s1.gn s1.gc, .int .i64 s1.x, .int .i64 s1.y, .bool s1.wr, .bool s1.og, .int .i64 s1.fg, .int .i64 s1.bg, .int .i64 s1.fl, .int .u8 s1.g0, .int .u8 s1.g1, .int .u8 s1.g2, .int .u8 s1.g3, .int .i64 s1.gl, .int .i64 s1.gr, .int .i64 s1.on, .int .i64 s1.H, .int .i64 s1.W, .int .i64 s1.T, .int .i64 s1.B, .slice s1.tA s1.tn s1.tc, .int .i64 s1.tw, .slice s1.kA s1.kn s1.kc, .int .i64 s1.kp, .int .i64 s1.dir, .bool s1.ex] : Value) = V1
  have rS := SBlk.isScr hX5.x.B; have rL := SBlk.cells hX5.x.B; have rZ := IsScr.lt rS
  go_wp2_with fail
  refine (clear_f (.slice s1.gA s1.gn s1.gc) s1.gn F1 0 s1.y.toNat s1.y.toNat 0 s1.y 0 s1.bg 0 _ hX5.rows HGS.out HPN.out HF.out HT.out HQ.out).mono ?_
  rintro e w2 ⟨g2, c2, B2, rfl, hg, hc2, hr2, hf2⟩
  have hz5 := hX5.sz
  have hN := hX5.below hg
  clear rS rL rZ d0 d1 d2 df dl
  have rS := SBlk.isScr hN.x.B; have rL := SBlk.cells hN.x.B; have rZ := IsScr.lt rS
  go_upto_region 17 with fail
  clear rS rL rZ
  generalize hW6 : World.setCell _ _ _ = W6
  have hX6 : WS w.heap.size (w.heap.size + 1) 2 ⟨s, F, zs, L⟩ w W6 ⟨{ s1 with wr := false, gA := some ⟨g2, 0, none⟩, gn := s1.gn, gc := c2 }, layG F1 0 s1.y.toNat B2 (F1 0).n 0 s1.bg 0, zs1, L1⟩ := by
    rw [← hW6]
    exact hN.cell2 (by omega) 0 3 (.slice (some ⟨g2, 0, none⟩) s1.gn c2) (.bool false) (fun v => by
      have u := v.grid hr2 ((hf2 _ hX5.v.out.1).mono (out_since (by omega))) (fun P hP => (hf2 _ (hX5.v.gen P hP).1).mono (gen_since (k := 2) (by omega)))
      exact ⟨u.rd, u.out, u.gen⟩) rfl
  clear hW6
  go_wp2_with (first | (refine hX6.wload rfl rfl rfl ?_) | (refine hX6.wstore hX6.v (by rfl) (by rfl) (by rfl) (by rfl) (by rfl) ?_)); exact bodyPost_ret (results_scr rfl rfl (hX6.res hX6.v)) rfl (hX6.fin hX6.v (by omega) (by exact HE.out.1.trans (sty_lay HS1.out)))
theorem Erase_c (S : Sn) (k : Int) (w : World) (hs : S.md.Ok) (hr : S.rd w) : Calls Tryz.prog 23 #[.agg #[.slice S.s.gA S.s.gn S.s.gc, .int .i64 S.s.x, .int .i64 S.s.y, .bool S.s.wr, .bool S.s.og, .int .i64 S.s.fg, .int .i64 S.s.bg, .int .i64 S.s.fl, .int .u8 S.s.g0, .int .u8 S.s.g1, .int .u8 S.s.g2, .int .u8 S.s.g3, .int .i64 S.s.gl, .int .i64 S.s.gr, .int .i64 S.s.on, .int .i64 S.s.H, .int .i64 S.s.W, .int .i64 S.s.T, .int .i64 S.s.B, .slice S.s.tA S.s.tn S.s.tc, .int .i64 S.s.tw, .slice S.s.kA S.s.kn S.s.kc, .int .i64 S.s.kp, .int .i64 S.s.dir, .bool S.s.ex], .int .i64 k] w (SPost S w (Sty S.md)) := by
  by_cases h0 : k = 0
  · subst h0; exact Erase_0 S w hs hr
  · by_cases h1 : k = 1
    · subst h1; exact Erase_1 S w hs hr
    · by_cases h2 : k = 2
      · subst h2; exact Erase_2 S w hs hr
      · by_cases h3 : k = 3
        · subst h3; exact Erase_3 S w hs hr
        · exact Erase_no S k w hs hr h0 h1 h2 h3
end Go.Proofs.YtlchffkabpfjpaaGreat.Scr
