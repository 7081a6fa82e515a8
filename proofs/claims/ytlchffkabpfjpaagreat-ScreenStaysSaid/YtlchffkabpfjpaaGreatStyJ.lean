/- screen.Down, Up, Print, Scroll: they stay. -/
import Derived.Test.YtlchffkabpfjpaaGreatStyI
import Derived.Test.YtlchffkabpfjpaaGreatScrW
namespace Go.Proofs.YtlchffkabpfjpaaGreat.Scr
open Go.RowKit Go.Proofs.YtlchffkabpfjpaaGreat.Row
attribute [local go_sem ↓] scr_load_pre scr_store_pre
attribute [local go_sem] scr_cell scr_frozen
theorem Sty.of {m m' : Md} (h : m'.Ok) (k : m.Same m') : Sty m m' := ⟨h, k.H_, k.W_, k.T_, k.B_, k.fg_, k.bg_, k.fl_, k.dir_⟩
theorem Sty.down {m : Md} (h : m.Ok) : Sty m m.down := .of h.down (down_same m)
theorem Sty.upC {m : Md} (h : m.Ok) : Sty m m.upC := by
  refine ⟨h.upC, ?_, ?_, ?_, ?_, ?_, ?_, ?_, ?_⟩ <;> · unfold Md.upC; split <;> rfl
theorem Sty.print {m : Md} (h : m.Ok) {R v : Int} (h1 : 1 ≤ R) (h2 : R ≤ 1114111) (hv : v = 1 ∨ v = 2) (hW : v ≤ m.W) (ins au : Bool) : Sty m (m.print R v ins au) := .of (h.print h1 h2 hv hW ins au) (print_same m R v ins au)
theorem Down_s (S : Sn) (w : World) (hs : S.md.Ok) (hr : S.rd w) : Calls Tryz.prog 20 #[.agg #[.slice S.s.gA S.s.gn S.s.gc, .int .i64 S.s.x, .int .i64 S.s.y, .bool S.s.wr, .bool S.s.og, .int .i64 S.s.fg, .int .i64 S.s.bg, .int .i64 S.s.fl, .int .u8 S.s.g0, .int .u8 S.s.g1, .int .u8 S.s.g2, .int .u8 S.s.g3, .int .i64 S.s.gl, .int .i64 S.s.gr, .int .i64 S.s.on, .int .i64 S.s.H, .int .i64 S.s.W, .int .i64 S.s.T, .int .i64 S.s.B, .slice S.s.tA S.s.tn S.s.tc, .int .i64 S.s.tw, .slice S.s.kA S.s.kn S.s.kc, .int .i64 S.s.kp, .int .i64 S.s.dir, .bool S.s.ex]] w (SPost S w (Sty S.md)) :=
  (Down_c S w hs hr).mono fun _ _ ⟨S', a, b, c, d, e⟩ => ⟨S', a, b, c, by rw [d]; exact Sty.down hs, e⟩
theorem Up_s (S : Sn) (w : World) (hs : S.md.Ok) (hr : S.rd w) : Calls Tryz.prog 21 #[.agg #[.slice S.s.gA S.s.gn S.s.gc, .int .i64 S.s.x, .int .i64 S.s.y, .bool S.s.wr, .bool S.s.og, .int .i64 S.s.fg, .int .i64 S.s.bg, .int .i64 S.s.fl, .int .u8 S.s.g0, .int .u8 S.s.g1, .int .u8 S.s.g2, .int .u8 S.s.g3, .int .i64 S.s.gl, .int .i64 S.s.gr, .int .i64 S.s.on, .int .i64 S.s.H, .int .i64 S.s.W, .int .i64 S.s.T, .int .i64 S.s.B, .slice S.s.tA S.s.tn S.s.tc, .int .i64 S.s.tw, .slice S.s.kA S.s.kn S.s.kc, .int .i64 S.s.kp, .int .i64 S.s.dir, .bool S.s.ex]] w (SPost S w (Sty S.md)) :=
  (Up_c S w hs hr).mono fun _ _ ⟨S', a, b, c, d, e⟩ => ⟨S', a, b, c, by rw [d]; exact Sty.upC hs, e⟩
set_option maxRecDepth 100000 in
set_option maxHeartbeats 4000000 in
theorem Print_b1 (S : Sn) (R v : Int) (ins au : Bool) (w : World) (hs : S.md.Ok) (hr : S.rd w) (d1 : decide (R < 1) = true) :
    Calls Tryz.prog 12 #[.agg #[.slice S.s.gA S.s.gn S.s.gc, .int .i64 S.s.x, .int .i64 S.s.y, .bool S.s.wr, .bool S.s.og, .int .i64 S.s.fg, .int .i64 S.s.bg, .int .i64 S.s.fl, .int .u8 S.s.g0, .int .u8 S.s.g1, .int .u8 S.s.g2, .int .u8 S.s.g3, .int .i64 S.s.gl, .int .i64 S.s.gr, .int .i64 S.s.on, .int .i64 S.s.H, .int .i64 S.s.W, .int .i64 S.s.T, .int .i64 S.s.B, .slice S.s.tA S.s.tn S.s.tc, .int .i64 S.s.tw, .slice S.s.kA S.s.kn S.s.kc, .int .i64 S.s.kp, .int .i64 S.s.dir, .bool S.s.ex], .int .i64 R, .int .i64 v, .bool ins, .bool au] w (SPost S w (Sty S.md)) := by
  have HR := Lib.hid hr; have HS := Lib.hid hs; obtain ⟨s, F, zs, L⟩ := S; clear hr hs; dsimp only at *; go_enter Tryz.func12, Tryz.ntmps12; go_upto_region 1 with fail; generalize hW0 : (((w.alloc _).alloc _).alloc _).alloc _ = W0; have hP : P0 ⟨s, F, zs, L⟩ R v w W0 := (by rw [← hW0]; exact p0_start HR.out); clear hW0; go_wp2_with (refine hP.1.wload rfl rfl rfl ?_); refine (sane_ok ⟨s, F, zs, L⟩ _ hP.1.v.rd HS.out).mono ?_; rintro e w1 ⟨rfl, hg⟩; obtain ⟨hX, hA, hB, hz⟩ := hP.below hg.below; clear hg hP; obtain ⟨a0, al⟩ := blk_one hA; obtain ⟨b0, bl⟩ := blk_one hB
  have rS := SBlk.isScr hX.x.B; have rL := SBlk.cells hX.x.B; have rZ := IsScr.lt rS
  go_upto_region 2 with fail
  go_wp2_with (first | (refine hX.wload rfl rfl rfl ?_) | (refine hX.wstore hX.v (by rfl) (by rfl) (by rfl) (by rfl) (by rfl) ?_)); exact bodyPost_ret (results_scr rfl rfl (hX.res hX.v)) rfl (hX.fin hX.v (by omega) (Sty.refl HS.out))
set_option maxRecDepth 100000 in
set_option maxHeartbeats 4000000 in
theorem Print_b2 (S : Sn) (R v : Int) (ins au : Bool) (w : World) (hs : S.md.Ok) (hr : S.rd w) (d1 : decide (R < 1) = false) (d2 : decide (1114111 < R) = true) :
    Calls Tryz.prog 12 #[.agg #[.slice S.s.gA S.s.gn S.s.gc, .int .i64 S.s.x, .int .i64 S.s.y, .bool S.s.wr, .bool S.s.og, .int .i64 S.s.fg, .int .i64 S.s.bg, .int .i64 S.s.fl, .int .u8 S.s.g0, .int .u8 S.s.g1, .int .u8 S.s.g2, .int .u8 S.s.g3, .int .i64 S.s.gl, .int .i64 S.s.gr, .int .i64 S.s.on, .int .i64 S.s.H, .int .i64 S.s.W, .int .i64 S.s.T, .int .i64 S.s.B, .slice S.s.tA S.s.tn S.s.tc, .int .i64 S.s.tw, .slice S.s.kA S.s.kn S.s.kc, .int .i64 S.s.kp, .int .i64 S.s.dir, .bool S.s.ex], .int .i64 R, .int .i64 v, .bool ins, .bool au] w (SPost S w (Sty S.md)) := by
  have HR := Lib.hid hr; have HS := Lib.hid hs; obtain ⟨s, F, zs, L⟩ := S; clear hr hs; dsimp only at *; go_enter Tryz.func12, Tryz.ntmps12; go_upto_region 1 with fail; generalize hW0 : (((w.alloc _).alloc _).alloc _).alloc _ = W0; have hP : P0 ⟨s, F, zs, L⟩ R v w W0 := (by rw [← hW0]; exact p0_start HR.out); clear hW0; go_wp2_with (refine hP.1.wload rfl rfl rfl ?_); refine (sane_ok ⟨s, F, zs, L⟩ _ hP.1.v.rd HS.out).mono ?_; rintro e w1 ⟨rfl, hg⟩; obtain ⟨hX, hA, hB, hz⟩ := hP.below hg.below; clear hg hP; obtain ⟨a0, al⟩ := blk_one hA; obtain ⟨b0, bl⟩ := blk_one hB
  have rS := SBlk.isScr hX.x.B; have rL := SBlk.cells hX.x.B; have rZ := IsScr.lt rS
  go_upto_region 2 with fail
  go_wp2_with (first | (refine hX.wload rfl rfl rfl ?_) | (refine hX.wstore hX.v (by rfl) (by rfl) (by rfl) (by rfl) (by rfl) ?_)); exact bodyPost_ret (results_scr rfl rfl (hX.res hX.v)) rfl (hX.fin hX.v (by omega) (Sty.refl HS.out))
set_option maxRecDepth 100000 in
set_option maxHeartbeats 4000000 in
theorem Print_b3 (S : Sn) (R v : Int) (ins au : Bool) (w : World) (hs : S.md.Ok) (hr : S.rd w) (d1 : decide (R < 1) = false) (d2 : decide (1114111 < R) = false) (d3 : decide (v < 1) = true) :
    Calls Tryz.prog 12 #[.agg #[.slice S.s.gA S.s.gn S.s.gc, .int .i64 S.s.x, .int .i64 S.s.y, .bool S.s.wr, .bool S.s.og, .int .i64 S.s.fg, .int .i64 S.s.bg, .int .i64 S.s.fl, .int .u8 S.s.g0, .int .u8 S.s.g1, .int .u8 S.s.g2, .int .u8 S.s.g3, .int .i64 S.s.gl, .int .i64 S.s.gr, .int .i64 S.s.on, .int .i64 S.s.H, .int .i64 S.s.W, .int .i64 S.s.T, .int .i64 S.s.B, .slice S.s.tA S.s.tn S.s.tc, .int .i64 S.s.tw, .slice S.s.kA S.s.kn S.s.kc, .int .i64 S.s.kp, .int .i64 S.s.dir, .bool S.s.ex], .int .i64 R, .int .i64 v, .bool ins, .bool au] w (SPost S w (Sty S.md)) := by
  have HR := Lib.hid hr; have HS := Lib.hid hs; obtain ⟨s, F, zs, L⟩ := S; clear hr hs; dsimp only at *; go_enter Tryz.func12, Tryz.ntmps12; go_upto_region 1 with fail; generalize hW0 : (((w.alloc _).alloc _).alloc _).alloc _ = W0; have hP : P0 ⟨s, F, zs, L⟩ R v w W0 := (by rw [← hW0]; exact p0_start HR.out); clear hW0; go_wp2_with (refine hP.1.wload rfl rfl rfl ?_); refine (sane_ok ⟨s, F, zs, L⟩ _ hP.1.v.rd HS.out).mono ?_; rintro e w1 ⟨rfl, hg⟩; obtain ⟨hX, hA, hB, hz⟩ := hP.below hg.below; clear hg hP; obtain ⟨a0, al⟩ := blk_one hA; obtain ⟨b0, bl⟩ := blk_one hB
  have rS := SBlk.isScr hX.x.B; have rL := SBlk.cells hX.x.B; have rZ := IsScr.lt rS
  go_upto_region 2 with fail
  go_wp2_with (first | (refine hX.wload rfl rfl rfl ?_) | (refine hX.wstore hX.v (by rfl) (by rfl) (by rfl) (by rfl) (by rfl) ?_)); exact bodyPost_ret (results_scr rfl rfl (hX.res hX.v)) rfl (hX.fin hX.v (by omega) (Sty.refl HS.out))
set_option maxRecDepth 100000 in
set_option maxHeartbeats 4000000 in
theorem Print_b4 (S : Sn) (R v : Int) (ins au : Bool) (w : World) (hs : S.md.Ok) (hr : S.rd w) (d1 : decide (R < 1) = false) (d2 : decide (1114111 < R) = false) (d3 : decide (v < 1) = false) (d4 : decide (2 < v) = true) :
    Calls Tryz.prog 12 #[.agg #[.slice S.s.gA S.s.gn S.s.gc, .int .i64 S.s.x, .int .i64 S.s.y, .bool S.s.wr, .bool S.s.og, .int .i64 S.s.fg, .int .i64 S.s.bg, .int .i64 S.s.fl, .int .u8 S.s.g0, .int .u8 S.s.g1, .int .u8 S.s.g2, .int .u8 S.s.g3, .int .i64 S.s.gl, .int .i64 S.s.gr, .int .i64 S.s.on, .int .i64 S.s.H, .int .i64 S.s.W, .int .i64 S.s.T, .int .i64 S.s.B, .slice S.s.tA S.s.tn S.s.tc, .int .i64 S.s.tw, .slice S.s.kA S.s.kn S.s.kc, .int .i64 S.s.kp, .int .i64 S.s.dir, .bool S.s.ex], .int .i64 R, .int .i64 v, .bool ins, .bool au] w (SPost S w (Sty S.md)) := by
  have HR := Lib.hid hr; have HS := Lib.hid hs; obtain ⟨s, F, zs, L⟩ := S; clear hr hs; dsimp only at *; go_enter Tryz.func12, Tryz.ntmps12; go_upto_region 1 with fail; generalize hW0 : (((w.alloc _).alloc _).alloc _).alloc _ = W0; have hP : P0 ⟨s, F, zs, L⟩ R v w W0 := (by rw [← hW0]; exact p0_start HR.out); clear hW0; go_wp2_with (refine hP.1.wload rfl rfl rfl ?_); refine (sane_ok ⟨s, F, zs, L⟩ _ hP.1.v.rd HS.out).mono ?_; rintro e w1 ⟨rfl, hg⟩; obtain ⟨hX, hA, hB, hz⟩ := hP.below hg.below; clear hg hP; obtain ⟨a0, al⟩ := blk_one hA; obtain ⟨b0, bl⟩ := blk_one hB
  have rS := SBlk.isScr hX.x.B; have rL := SBlk.cells hX.x.B; have rZ := IsScr.lt rS
  go_upto_region 2 with fail
  go_wp2_with (first | (refine hX.wload rfl rfl rfl ?_) | (refine hX.wstore hX.v (by rfl) (by rfl) (by rfl) (by rfl) (by rfl) ?_)); exact bodyPost_ret (results_scr rfl rfl (hX.res hX.v)) rfl (hX.fin hX.v (by omega) (Sty.refl HS.out))
set_option maxRecDepth 100000 in
set_option maxHeartbeats 4000000 in
theorem Print_b5 (S : Sn) (R v : Int) (ins au : Bool) (w : World) (hs : S.md.Ok) (hr : S.rd w) (d1 : decide (R < 1) = false) (d2 : decide (1114111 < R) = false) (d3 : decide (v < 1) = false) (d4 : decide (2 < v) = false) (d5 : decide (S.s.W < v) = true) :
    Calls Tryz.prog 12 #[.agg #[.slice S.s.gA S.s.gn S.s.gc, .int .i64 S.s.x, .int .i64 S.s.y, .bool S.s.wr, .bool S.s.og, .int .i64 S.s.fg, .int .i64 S.s.bg, .int .i64 S.s.fl, .int .u8 S.s.g0, .int .u8 S.s.g1, .int .u8 S.s.g2, .int .u8 S.s.g3, .int .i64 S.s.gl, .int .i64 S.s.gr, .int .i64 S.s.on, .int .i64 S.s.H, .int .i64 S.s.W, .int .i64 S.s.T, .int .i64 S.s.B, .slice S.s.tA S.s.tn S.s.tc, .int .i64 S.s.tw, .slice S.s.kA S.s.kn S.s.kc, .int .i64 S.s.kp, .int .i64 S.s.dir, .bool S.s.ex], .int .i64 R, .int .i64 v, .bool ins, .bool au] w (SPost S w (Sty S.md)) := by
  have HR := Lib.hid hr; have HS := Lib.hid hs; obtain ⟨s, F, zs, L⟩ := S; clear hr hs; dsimp only at *; go_enter Tryz.func12, Tryz.ntmps12; go_upto_region 1 with fail; generalize hW0 : (((w.alloc _).alloc _).alloc _).alloc _ = W0; have hP : P0 ⟨s, F, zs, L⟩ R v w W0 := (by rw [← hW0]; exact p0_start HR.out); clear hW0; go_wp2_with (refine hP.1.wload rfl rfl rfl ?_); refine (sane_ok ⟨s, F, zs, L⟩ _ hP.1.v.rd HS.out).mono ?_; rintro e w1 ⟨rfl, hg⟩; obtain ⟨hX, hA, hB, hz⟩ := hP.below hg.below; clear hg hP; obtain ⟨a0, al⟩ := blk_one hA; obtain ⟨b0, bl⟩ := blk_one hB
  have rS := SBlk.isScr hX.x.B; have rL := SBlk.cells hX.x.B; have rZ := IsScr.lt rS
  go_upto_region 2 with fail
  go_wp2_with (first | (refine hX.wload rfl rfl rfl ?_) | (refine hX.wstore hX.v (by rfl) (by rfl) (by rfl) (by rfl) (by rfl) ?_)); exact bodyPost_ret (results_scr rfl rfl (hX.res hX.v)) rfl (hX.fin hX.v (by omega) (Sty.refl HS.out))
theorem Print_s (S : Sn) (R v : Int) (ins au : Bool) (w : World) (hs : S.md.Ok) (hr : S.rd w) :
    Calls Tryz.prog 12 #[.agg #[.slice S.s.gA S.s.gn S.s.gc, .int .i64 S.s.x, .int .i64 S.s.y, .bool S.s.wr, .bool S.s.og, .int .i64 S.s.fg, .int .i64 S.s.bg, .int .i64 S.s.fl, .int .u8 S.s.g0, .int .u8 S.s.g1, .int .u8 S.s.g2, .int .u8 S.s.g3, .int .i64 S.s.gl, .int .i64 S.s.gr, .int .i64 S.s.on, .int .i64 S.s.H, .int .i64 S.s.W, .int .i64 S.s.T, .int .i64 S.s.B, .slice S.s.tA S.s.tn S.s.tc, .int .i64 S.s.tw, .slice S.s.kA S.s.kn S.s.kc, .int .i64 S.s.kp, .int .i64 S.s.dir, .bool S.s.ex], .int .i64 R, .int .i64 v, .bool ins, .bool au] w (SPost S w (Sty S.md)) := by
  by_cases d1 : R < 1
  · exact Print_b1 S R v ins au w hs hr (decide_eq_true d1)
  · have e1 : decide (R < 1) = false := decide_eq_false d1
    by_cases d2 : 1114111 < R
    · exact Print_b2 S R v ins au w hs hr e1 (decide_eq_true d2)
    · have e2 : decide (1114111 < R) = false := decide_eq_false d2
      by_cases d3 : v < 1
      · exact Print_b3 S R v ins au w hs hr e1 e2 (decide_eq_true d3)
      · have e3 : decide (v < 1) = false := decide_eq_false d3
        by_cases d4 : 2 < v
        · exact Print_b4 S R v ins au w hs hr e1 e2 e3 (decide_eq_true d4)
        · have e4 : decide (2 < v) = false := decide_eq_false d4
          by_cases d5 : S.s.W < v
          · exact Print_b5 S R v ins au w hs hr e1 e2 e3 e4 (decide_eq_true d5)
          · have r1 : 1 ≤ R := by omega
            have r2 : R ≤ 1114111 := by omega
            have hv : v = 1 ∨ v = 2 := by omega
            have hW : v ≤ S.s.W := by omega
            exact (Print_c S R v ins au w hs hr r1 r2 hv hW).mono fun _ _ ⟨S', a, b, c, d, e⟩ => ⟨S', a, b, c, by rw [d]; exact Sty.print hs r1 r2 hv hW ins au, e⟩
set_option maxRecDepth 100000 in
set_option maxHeartbeats 4000000 in
theorem Scroll_min (S : Sn) (q : Nat) (w : World) (hs : S.md.Ok) (hr : S.rd w) (hq : (q : Int) = max 0 (min S.s.H (S.s.B - S.s.T))) : Calls Tryz.prog 57 #[.agg #[.slice S.s.gA S.s.gn S.s.gc, .int .i64 S.s.x, .int .i64 S.s.y, .bool S.s.wr, .bool S.s.og, .int .i64 S.s.fg, .int .i64 S.s.bg, .int .i64 S.s.fl, .int .u8 S.s.g0, .int .u8 S.s.g1, .int .u8 S.s.g2, .int .u8 S.s.g3, .int .i64 S.s.gl, .int .i64 S.s.gr, .int .i64 S.s.on, .int .i64 S.s.H, .int .i64 S.s.W, .int .i64 S.s.T, .int .i64 S.s.B, .slice S.s.tA S.s.tn S.s.tc, .int .i64 S.s.tw, .slice S.s.kA S.s.kn S.s.kc, .int .i64 S.s.kp, .int .i64 S.s.dir, .bool S.s.ex], .int .i64 (-9223372036854775808)] w (SPost S w (fun m => m = S.md.dnG S.s.T.toNat S.s.B.toNat q)) := by
  have HR := Lib.hid hr
  have HQ := Lib.hid hq
  obtain ⟨s, F, zs, L⟩ := S; have hf := hs.cf; simp only [Sn.md] at hf; have HGS := Lib.hid (show gsaneB (listG s.gn F) = true from (gs_ct _ _).symm.trans hs.gs); have HPN := Lib.hid (show penB 0 s.bg 0 = true from hs.ground); have HTN := Lib.hid (show ((s.T.toNat : Nat) : Int) = s.T by have := hf.t0; omega); have HBN := Lib.hid (show ((s.B.toNat : Nat) : Int) = s.B by have := hf.t0; have := hf.tb; omega); have HTB := Lib.hid (show s.T.toNat < s.B.toNat by have := hf.t0; have := hf.tb; omega); have HBH := Lib.hid (show s.B.toNat ≤ s.gn by have := hf.bh; have h := hs.nH; simp only [Sn.md] at h; have := hf.t0; have := hf.tb; omega)
  have h1 := hf.h1
  have h2 := hf.h2
  have HS := Lib.hid hs
  clear hr hs hq hf
  dsimp only at *
  go_enter Tryz.func57, Tryz.ntmps57
  go_upto_region 1 with fail
  generalize hW : (w.alloc _).alloc _ = W; have hX : WS w.heap.size (w.heap.size + 1) 2 ⟨s, F, zs, L⟩ w W ⟨s, F, zs, L⟩ := hW ▸ WS.start HR.out; clear hW
  go_wp2_with (refine hX.wload rfl rfl rfl ?_)
  refine (sane_ok ⟨s, F, zs, L⟩ _ hX.v.rd HS.out).mono ?_
  rintro e w1 ⟨rfl, hg⟩
  have hX1 := hX.below hg.below
  clear hg hX
  have hz := hX1.sz
  have hwr0 : IntKind.i64.wrap (-s.H) = -s.H := IntWalk.i64_in _ (by omega)
  have hwr : IntKind.i64.wrap (- -s.H) = s.H := by rw [Int.neg_neg]; exact IntWalk.i64_in _ (by omega)
  have rS := SBlk.isScr hX1.x.B; have rL := SBlk.cells hX1.x.B; have rZ := IsScr.lt rS
  go_upto_region 7 with fail
  have hN := hX1.drew
  generalize -s.H = NV at *
  obtain ⟨KV, hkv⟩ : ∃ KV, KV = s.H := ⟨_, rfl⟩
  simp only [← hkv] at HQ hwr
  clear hkv hwr0 h1 h2
  refine hr_start (S := (fun w' => w'.cell? ⟨w.heap.size, 17, none⟩ = some (.int .i64 s.T) ∧ w'.cell? ⟨w.heap.size, 18, none⟩ = some (.int .i64 s.B))) (by kernel_rfl) rfl ?_ (fun hHeld => ?_)
  · ((try dsimp only); (first | exact hN.mar | exact hN2.mar))
  refine hr_t 0 (v := ?_) ?_ ?_
  rotate_left
  focus (intro wS hSw; (obtain ⟨q17, q18⟩ := hSw); go_simp; (try with_reducible rfl))
  simp only [st0, st1]
  refine hr_t 2 (v := ?_) ?_ ?_
  rotate_left
  focus (intro wS hSw; (obtain ⟨q17, q18⟩ := hSw); go_simp; (try with_reducible rfl))
  simp only [st0, st1]
  refine hr_t 3 (v := ?_) ?_ ?_
  rotate_left
  focus (intro wS hSw; (obtain ⟨q17, q18⟩ := hSw); go_simp; (try with_reducible rfl))
  simp only [st0, st1]
  refine hr_t 4 (v := ?_) ?_ ?_
  rotate_left
  focus (intro wS hSw; (obtain ⟨q17, q18⟩ := hSw); go_simp; (try with_reducible rfl))
  simp only [st0, st1]
  refine hr_t 5 (v := ?_) ?_ ?_
  rotate_left
  focus (intro wS hSw; (obtain ⟨q17, q18⟩ := hSw); go_simp; (try with_reducible rfl))
  simp only [st0, st1]
  refine hr_t 6 (v := ?_) ?_ ?_
  rotate_left
  focus (intro wS hSw; (obtain ⟨q17, q18⟩ := hSw); go_simp; (try with_reducible rfl))
  simp only [st0, st1]
  refine hr_t 7 (v := ?_) ?_ ?_
  rotate_left
  focus (intro wS hSw; (obtain ⟨q17, q18⟩ := hSw); go_simp; (try with_reducible rfl))
  simp only [st0, st1]
  refine hr_t 8 (v := ?_) ?_ ?_
  rotate_left
  focus (intro wS hSw; (obtain ⟨q17, q18⟩ := hSw); go_simp; (try with_reducible rfl))
  simp only [st0, st1]
  refine hr_t 9 (v := ?_) ?_ ?_
  rotate_left
  focus (intro wS hSw; (obtain ⟨q17, q18⟩ := hSw); go_simp; (try with_reducible rfl))
  simp only [st0, st1]
  refine hr_two (i := 1) (j := 10) rfl rfl rfl rfl (by kernel_rfl) (by kernel_rfl) (by kernel_rfl) (fun K hK => ?_) (fun K hK => ?_)
  · (have qS := SBlk.isScr hN.x.B; have qL := SBlk.cells hN.x.B; have qZ := IsScr.lt qS; go_simp; clear qS qL qZ)
    refine hK.out _ _ ?_ (fun hHeld => ?_)
    · ((try dsimp only); (first | exact hN.mar | exact hN2.mar))
    clear hK K
    simp only [st0, st1]
    refine hr_o 10 (fun K hK => ?_)
    refine wp_scr_load hN.x.B rfl rfl ?_
    refine hK.out _ _ ?_ (fun hHeld => ?_)
    · ((try dsimp only); (first | exact hN.mar | exact hN2.mar))
    clear hK K
    simp only [st0, st1]
    refine hr_o 11 (fun K hK => ?_)
    (try go_simp)
    ((with_reducible refine (ground_c s _).mono ?_); rintro e w1 ⟨rfl, hg⟩; replace hg := hg.below; replace hN := hN.below hg)
    (try go_wp2_with fail)
    refine hK.out _ _ ?_ (fun hHeld => ?_)
    · ((try dsimp only); (first | exact hN.mar | exact hN2.mar))
    clear hK K
    simp only [st0, st1]
    refine hr_o 12 (fun K hK => ?_)
    (try go_simp)
    ((with_reducible refine (down_i (.slice s.gA s.gn s.gc) s.gn F s.T s.B s.T.toNat s.B.toNat q KV 0 s.bg 0 _ hN.rows HGS.out HPN.out HTN.out HBN.out HTB.out HBH.out HQ.out).mono ?_); rintro e w2 ⟨g2, c2, B2, rfl, hg, hc2, hr2, hf2⟩; have hzn := hN.sz; replace hN := hN.below hg)
    (try go_wp2_with fail)
    refine hK.out _ _ ?_ (fun hHeld => ?_)
    · ((try dsimp only); (first | exact hN.mar | exact hN2.mar))
    clear hK K
    simp only [st0, st1]
    refine hr_t 13 (v := ?_) ?_ ?_
    rotate_left
    focus (intro wS hSw; (obtain ⟨q17, q18⟩ := hSw); go_simp; (try with_reducible rfl))
    simp only [st0, st1]
    refine hr_op0 (i := 14) rfl (by kernel_rfl) (by kernel_rfl) (fun K hK => ?_)
    have qS := SBlk.isScr hN.x.B; have qL := SBlk.cells hN.x.B; have qZ := IsScr.lt qS
    (try go_simp)
    clear qS qL qZ
    (generalize hW5 : World.setCell _ _ _ = W5; have hN2 : WS w.heap.size (w.heap.size + 1) 2 ⟨s, F, zs, L⟩ w W5 ⟨{ s with gA := some ⟨g2, 0, none⟩, gn := s.gn, gc := c2 }, _, zs, L⟩ := hW5 ▸ hN.cell (by omega) 0 _ (fun v => v.grid hr2 ((hf2 _ hX1.v.out.1).mono (out_since (by omega))) (fun P hP => (hf2 _ (hX1.v.gen P hP).1).mono (gen_since (k := 2) (by omega)))) rfl; clear hW5)
    (try go_wp2_with fail)
    refine hK.out _ ?_ (fun hHeld => ?_)
    · ((try dsimp only); (first | exact hN.mar | exact hN2.mar))
    clear hK K
    refine hr_done (by kernel_rfl) ?_
    (go_wp2_with (first | (refine hN2.wload rfl rfl rfl ?_) | (refine hN2.wstore hN2.v (by rfl) (by rfl) (by rfl) (by rfl) (by rfl) ?_)); exact bodyPost_ret (results_scr rfl rfl (hN2.res hN2.v)) rfl (hN2.fin hN2.v (by omega) (dn_md s F zs L _ _ q g2 c2 B2)))
  · refine wp_scr_load hN.x.B rfl rfl ?_
    refine hK.out _ _ ?_ (fun hHeld => ?_)
    · ((try dsimp only); (first | exact hN.mar | exact hN2.mar))
    clear hK K
    simp only [st0, st1]
    refine hr_two (i := 1) (j := 11) rfl rfl rfl rfl (by kernel_rfl) (by kernel_rfl) (by kernel_rfl) (fun K hK => ?_) (fun K hK => ?_)
    · (have qS := SBlk.isScr hN.x.B; have qL := SBlk.cells hN.x.B; have qZ := IsScr.lt qS; go_simp; clear qS qL qZ)
      refine hK.out _ _ ?_ (fun hHeld => ?_)
      · ((try dsimp only); (first | exact hN.mar | exact hN2.mar))
      clear hK K
      simp only [st0, st1]
      refine hr_o 11 (fun K hK => ?_)
      (try go_simp)
      ((with_reducible refine (ground_c s _).mono ?_); rintro e w1 ⟨rfl, hg⟩; replace hg := hg.below; replace hN := hN.below hg)
      (try go_wp2_with fail)
      refine hK.out _ _ ?_ (fun hHeld => ?_)
      · ((try dsimp only); (first | exact hN.mar | exact hN2.mar))
      clear hK K
      simp only [st0, st1]
      refine hr_o 12 (fun K hK => ?_)
      (try go_simp)
      ((with_reducible refine (down_i (.slice s.gA s.gn s.gc) s.gn F s.T s.B s.T.toNat s.B.toNat q KV 0 s.bg 0 _ hN.rows HGS.out HPN.out HTN.out HBN.out HTB.out HBH.out HQ.out).mono ?_); rintro e w2 ⟨g2, c2, B2, rfl, hg, hc2, hr2, hf2⟩; have hzn := hN.sz; replace hN := hN.below hg)
      (try go_wp2_with fail)
      refine hK.out _ _ ?_ (fun hHeld => ?_)
      · ((try dsimp only); (first | exact hN.mar | exact hN2.mar))
      clear hK K
      simp only [st0, st1]
      refine hr_t 13 (v := ?_) ?_ ?_
      rotate_left
      focus (intro wS hSw; (obtain ⟨q17, q18⟩ := hSw); go_simp; (try with_reducible rfl))
      simp only [st0, st1]
      refine hr_op0 (i := 14) rfl (by kernel_rfl) (by kernel_rfl) (fun K hK => ?_)
      have qS := SBlk.isScr hN.x.B; have qL := SBlk.cells hN.x.B; have qZ := IsScr.lt qS
      (try go_simp)
      clear qS qL qZ
      (generalize hW5 : World.setCell _ _ _ = W5; have hN2 : WS w.heap.size (w.heap.size + 1) 2 ⟨s, F, zs, L⟩ w W5 ⟨{ s with gA := some ⟨g2, 0, none⟩, gn := s.gn, gc := c2 }, _, zs, L⟩ := hW5 ▸ hN.cell (by omega) 0 _ (fun v => v.grid hr2 ((hf2 _ hX1.v.out.1).mono (out_since (by omega))) (fun P hP => (hf2 _ (hX1.v.gen P hP).1).mono (gen_since (k := 2) (by omega)))) rfl; clear hW5)
      (try go_wp2_with fail)
      refine hK.out _ ?_ (fun hHeld => ?_)
      · ((try dsimp only); (first | exact hN.mar | exact hN2.mar))
      clear hK K
      refine hr_done (by kernel_rfl) ?_
      (go_wp2_with (first | (refine hN2.wload rfl rfl rfl ?_) | (refine hN2.wstore hN2.v (by rfl) (by rfl) (by rfl) (by rfl) (by rfl) ?_)); exact bodyPost_ret (results_scr rfl rfl (hN2.res hN2.v)) rfl (hN2.fin hN2.v (by omega) (dn_md s F zs L _ _ q g2 c2 B2)))
    · (try go_simp)
      ((with_reducible refine (ground_c s _).mono ?_); rintro e w1 ⟨rfl, hg⟩; replace hg := hg.below; replace hN := hN.below hg)
      (try go_wp2_with fail)
      refine hK.out _ _ ?_ (fun hHeld => ?_)
      · ((try dsimp only); (first | exact hN.mar | exact hN2.mar))
      clear hK K
      simp only [st0, st1]
      refine hr_o 1 (fun K hK => ?_)
      (have qS := SBlk.isScr hN.x.B; have qL := SBlk.cells hN.x.B; have qZ := IsScr.lt qS; go_simp; clear qS qL qZ)
      refine hK.out _ _ ?_ (fun hHeld => ?_)
      · ((try dsimp only); (first | exact hN.mar | exact hN2.mar))
      clear hK K
      simp only [st0, st1]
      refine hr_o 12 (fun K hK => ?_)
      (try go_simp)
      ((with_reducible refine (down_i (.slice s.gA s.gn s.gc) s.gn F s.T s.B s.T.toNat s.B.toNat q KV 0 s.bg 0 _ hN.rows HGS.out HPN.out HTN.out HBN.out HTB.out HBH.out HQ.out).mono ?_); rintro e w2 ⟨g2, c2, B2, rfl, hg, hc2, hr2, hf2⟩; have hzn := hN.sz; replace hN := hN.below hg)
      (try go_wp2_with fail)
      refine hK.out _ _ ?_ (fun hHeld => ?_)
      · ((try dsimp only); (first | exact hN.mar | exact hN2.mar))
      clear hK K
      simp only [st0, st1]
      refine hr_t 13 (v := ?_) ?_ ?_
      rotate_left
      focus (intro wS hSw; (obtain ⟨q17, q18⟩ := hSw); go_simp; (try with_reducible rfl))
      simp only [st0, st1]
      refine hr_op0 (i := 14) rfl (by kernel_rfl) (by kernel_rfl) (fun K hK => ?_)
      have qS := SBlk.isScr hN.x.B; have qL := SBlk.cells hN.x.B; have qZ := IsScr.lt qS
      (try go_simp)
      clear qS qL qZ
      (generalize hW5 : World.setCell _ _ _ = W5; have hN2 : WS w.heap.size (w.heap.size + 1) 2 ⟨s, F, zs, L⟩ w W5 ⟨{ s with gA := some ⟨g2, 0, none⟩, gn := s.gn, gc := c2 }, _, zs, L⟩ := hW5 ▸ hN.cell (by omega) 0 _ (fun v => v.grid hr2 ((hf2 _ hX1.v.out.1).mono (out_since (by omega))) (fun P hP => (hf2 _ (hX1.v.gen P hP).1).mono (gen_since (k := 2) (by omega)))) rfl; clear hW5)
      (try go_wp2_with fail)
      refine hK.out _ ?_ (fun hHeld => ?_)
      · ((try dsimp only); (first | exact hN.mar | exact hN2.mar))
      clear hK K
      refine hr_done (by kernel_rfl) ?_
      (go_wp2_with (first | (refine hN2.wload rfl rfl rfl ?_) | (refine hN2.wstore hN2.v (by rfl) (by rfl) (by rfl) (by rfl) (by rfl) ?_)); exact bodyPost_ret (results_scr rfl rfl (hN2.res hN2.v)) rfl (hN2.fin hN2.v (by omega) (dn_md s F zs L _ _ q g2 c2 B2)))
theorem Scroll_s (S : Sn) (k : Int) (w : World) (hs : S.md.Ok) (hr : S.rd w) (hk : -9223372036854775808 ≤ k) : Calls Tryz.prog 57 #[.agg #[.slice S.s.gA S.s.gn S.s.gc, .int .i64 S.s.x, .int .i64 S.s.y, .bool S.s.wr, .bool S.s.og, .int .i64 S.s.fg, .int .i64 S.s.bg, .int .i64 S.s.fl, .int .u8 S.s.g0, .int .u8 S.s.g1, .int .u8 S.s.g2, .int .u8 S.s.g3, .int .i64 S.s.gl, .int .i64 S.s.gr, .int .i64 S.s.on, .int .i64 S.s.H, .int .i64 S.s.W, .int .i64 S.s.T, .int .i64 S.s.B, .slice S.s.tA S.s.tn S.s.tc, .int .i64 S.s.tw, .slice S.s.kA S.s.kn S.s.kc, .int .i64 S.s.kp, .int .i64 S.s.dir, .bool S.s.ex], .int .i64 k] w (SPost S w (Sty S.md)) := by
  have hm := hs.mar
  have e1 : (S.md.T.toNat : Int) = S.s.T := hm.2.2.1
  have e2 : (S.md.B.toNat : Int) = S.s.B := hm.2.2.2
  by_cases h0 : 0 ≤ k
  · refine (Scroll_up S k (max 0 (min k (S.s.B - S.s.T))).toNat w hs hr h0 (by omega)).mono fun _ _ ⟨S', a, b, c, d, e⟩ => ⟨S', a, b, c, ?_, e⟩
    rw [d]
    exact Sty.of (hs.up (by omega)) (up_same _ _)
  · by_cases h1 : k = -9223372036854775808
    · subst h1
      refine (Scroll_min S (max 0 (min S.s.H (S.s.B - S.s.T))).toNat w hs hr (by omega)).mono fun _ _ ⟨S', a, b, c, d, e⟩ => ⟨S', a, b, c, ?_, e⟩
      rw [d]
      exact ⟨hs.dnG (by have h : S.md.T.toNat = S.s.T.toNat := rfl; have h' : S.md.B.toNat = S.s.B.toNat := rfl; omega) hm.2.1, rfl, rfl, rfl, rfl, rfl, rfl, rfl, rfl⟩
    · refine (Scroll_dn1 S k (max 0 (min (-k) (S.s.B - S.s.T))).toNat w hs hr (by omega) (by omega) (by omega)).mono fun _ _ ⟨S', a, b, c, d, e⟩ => ⟨S', a, b, c, ?_, e⟩
      rw [d]
      exact ⟨hs.dnG (by have h : S.md.T.toNat = S.s.T.toNat := rfl; have h' : S.md.B.toNat = S.s.B.toNat := rfl; omega) hm.2.1, rfl, rfl, rfl, rfl, rfl, rfl, rfl, rfl⟩
end Go.Proofs.YtlchffkabpfjpaaGreat.Scr
