/- screen.EraseLine; what stays. -/
import Derived.Test.YtlchffkabpfjpaaGreatStyB
namespace Go.Proofs.YtlchffkabpfjpaaGreat.Scr
open Go.RowKit Go.Proofs.YtlchffkabpfjpaaGreat.Row
attribute [local go_sem ↓] scr_load_pre scr_store_pre
attribute [local go_sem] scr_cell scr_frozen
/-- it may be, and is of the same size, margins, pen and direction -/
structure Sty (m m' : Md) : Prop where
  ok : m'.Ok
  H : m'.H = m.H
  W : m'.W = m.W
  T : m'.T = m.T
  B : m'.B = m.B
  fg : m'.fg = m.fg
  bg : m'.bg = m.bg
  fl : m'.fl = m.fl
  dir : m'.dir = m.dir
theorem Sty.refl {m : Md} (h : m.Ok) : Sty m m := ⟨h, rfl, rfl, rfl, rfl, rfl, rfl, rfl, rfl⟩
theorem Sty.row {m : Md} (h : m.Ok) {c : Ct} (hc : c.sane = true ∧ (c.n : Int) = m.W) : Sty m { m.setR c with wr := false } := ⟨(h.setR hc.1 hc.2).dry, rfl, rfl, rfl, rfl, rfl, rfl, rfl, rfl⟩
theorem ers_ok {m : Md} (h : m.Ok) (F T : Nat) (fg bg fl : Int) : (ersC F T fg bg fl m.here).sane = true ∧ ((ersC F T fg bg fl m.here).n : Int) = m.W := ⟨erase_sane h.here.1 F T fg bg fl, h.here.2⟩
/-- what erasing in a row gives -/
def ErL (m m' : Md) : Prop := Sty m m' ∧ m'.y = m.y ∧ m'.n = m.n
theorem eraseLine_c (S : Sn) (k : Int) (w : World) (hs : S.md.Ok) (hr : S.rd w) : Calls Tryz.prog 50 #[.agg #[.slice S.s.gA S.s.gn S.s.gc, .int .i64 S.s.x, .int .i64 S.s.y, .bool S.s.wr, .bool S.s.og, .int .i64 S.s.fg, .int .i64 S.s.bg, .int .i64 S.s.fl, .int .u8 S.s.g0, .int .u8 S.s.g1, .int .u8 S.s.g2, .int .u8 S.s.g3, .int .i64 S.s.gl, .int .i64 S.s.gr, .int .i64 S.s.on, .int .i64 S.s.H, .int .i64 S.s.W, .int .i64 S.s.T, .int .i64 S.s.B, .slice S.s.tA S.s.tn S.s.tc, .int .i64 S.s.tw, .slice S.s.kA S.s.kn S.s.kc, .int .i64 S.s.kp, .int .i64 S.s.dir, .bool S.s.ex], .int .i64 k] w (SPost S w (ErL S.md)) := by
  by_cases h0 : k = 0
  · subst h0
    exact (eraseLine_0 S w hs hr).mono fun _ _ ⟨S', a, b, c, d, e⟩ => ⟨S', a, b, c, by rw [d]; exact ⟨Sty.row hs (ers_ok hs _ _ _ _ _), rfl, rfl⟩, e⟩
  · by_cases h1 : k = 1
    · subst h1
      exact (eraseLine_1 S w hs hr).mono fun _ _ ⟨S', a, b, c, d, e⟩ => ⟨S', a, b, c, by rw [d]; exact ⟨Sty.row hs (ers_ok hs _ _ _ _ _), rfl, rfl⟩, e⟩
    · by_cases h2 : k = 2
      · subst h2
        exact (eraseLine_2 S w hs hr).mono fun _ _ ⟨S', a, b, c, d, e⟩ => ⟨S', a, b, c, by rw [d]; exact ⟨Sty.row hs (ers_ok hs _ _ _ _ _), rfl, rfl⟩, e⟩
      · exact (eraseLine_no S k w hr h0 h1 h2).mono fun _ _ ⟨S', a, b, c, d, e⟩ => ⟨S', a, b, c, by rw [d]; exact ⟨Sty.refl hs, rfl, rfl⟩, e⟩
set_option maxRecDepth 100000 in
set_option maxHeartbeats 4000000 in
theorem EraseLine_c (S : Sn) (k : Int) (w : World) (hs : S.md.Ok) (hr : S.rd w) : Calls Tryz.prog 22 #[.agg #[.slice S.s.gA S.s.gn S.s.gc, .int .i64 S.s.x, .int .i64 S.s.y, .bool S.s.wr, .bool S.s.og, .int .i64 S.s.fg, .int .i64 S.s.bg, .int .i64 S.s.fl, .int .u8 S.s.g0, .int .u8 S.s.g1, .int .u8 S.s.g2, .int .u8 S.s.g3, .int .i64 S.s.gl, .int .i64 S.s.gr, .int .i64 S.s.on, .int .i64 S.s.H, .int .i64 S.s.W, .int .i64 S.s.T, .int .i64 S.s.B, .slice S.s.tA S.s.tn S.s.tc, .int .i64 S.s.tw, .slice S.s.kA S.s.kn S.s.kc, .int .i64 S.s.kp, .int .i64 S.s.dir, .bool S.s.ex], .int .i64 k] w (SPost S w (ErL S.md)) := by
  have HR := Lib.hid hr
  have HS := Lib.hid hs
  obtain ⟨s, F, zs, L⟩ := S
  clear hr hs
  dsimp only at *
  go_enter Tryz.func22, Tryz.ntmps22
  go_upto_region 1 with fail
  generalize hW : (w.alloc _).alloc _ = W; have hX : WS w.heap.size (w.heap.size + 1) 2 ⟨s, F, zs, L⟩ w W ⟨s, F, zs, L⟩ := hW ▸ WS.start HR.out; clear hW
  go_wp2_with (refine hX.wload rfl rfl rfl ?_)
  refine (sane_ok ⟨s, F, zs, L⟩ _ hX.v.rd HS.out).mono ?_
  rintro e w1 ⟨rfl, hg⟩
  have hX1 := hX.below hg.below
  clear hg hX
  have hz := hX1.sz
  go_wp2_with (refine hX1.wload rfl rfl rfl ?_)
  refine (eraseLine_c ⟨s, F, zs, L⟩ k _ HS.out hX1.v.rd).mono ?_
  intro e w3 hp
  obtain ⟨S', rfl, hX3, hV3, hm, hz3⟩ := hX1.post (by omega) hp
  go_wp2_with (first | (refine hX3.wload rfl rfl rfl ?_) | (refine hX3.wstore hV3 (by rfl) (by rfl) (by rfl) (by rfl) (by rfl) ?_)); exact bodyPost_ret (results_scr rfl rfl (hX3.res hV3)) rfl (hX3.fin hV3 (by omega) hm)
end Go.Proofs.YtlchffkabpfjpaaGreat.Scr
