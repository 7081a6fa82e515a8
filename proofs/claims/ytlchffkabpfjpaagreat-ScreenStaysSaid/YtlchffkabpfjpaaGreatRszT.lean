/- screen.Resize to the same size; screen.Resize. -/
import Derived.Test.YtlchffkabpfjpaaGreatRszS
namespace Go.Proofs.YtlchffkabpfjpaaGreat.Scr
open Go.RowKit Go.Proofs.YtlchffkabpfjpaaGreat.Row
attribute [local go_sem ↓] scr_load_pre scr_store_pre
attribute [local go_sem] scr_cell scr_frozen
set_option maxRecDepth 100000 in
set_option maxHeartbeats 4000000 in
theorem Resize_same (S : Sn) (a b : Int) (h q : Nat) (w : World) (hO : S.md.Ok) (hr : S.rd w) (hh : max 1 (min a 1000) = (h : Int)) (hq : max 1 (min b 4096) = (q : Int)) (heq : (h : Int) = S.s.H ∧ (q : Int) = S.s.W) :
    Calls Tryz.prog 59 #[.agg #[.slice S.s.gA S.s.gn S.s.gc, .int .i64 S.s.x, .int .i64 S.s.y, .bool S.s.wr, .bool S.s.og, .int .i64 S.s.fg, .int .i64 S.s.bg, .int .i64 S.s.fl, .int .u8 S.s.g0, .int .u8 S.s.g1, .int .u8 S.s.g2, .int .u8 S.s.g3, .int .i64 S.s.gl, .int .i64 S.s.gr, .int .i64 S.s.on, .int .i64 S.s.H, .int .i64 S.s.W, .int .i64 S.s.T, .int .i64 S.s.B, .slice S.s.tA S.s.tn S.s.tc, .int .i64 S.s.tw, .slice S.s.kA S.s.kn S.s.kc, .int .i64 S.s.kp, .int .i64 S.s.dir, .bool S.s.ex], .int .i64 a, .int .i64 b] w (SPost S w (fun m => m = S.md)) := by
  have HR := Lib.hid hr
  have HO := Lib.hid hO
  obtain ⟨s, F, zs, L⟩ := S
  obtain ⟨m1, e1, e2⟩ := mm_1000 hh
  obtain ⟨m2, e3, e4⟩ := mm_4096 hq
  have HNE := Lib.hid heq
  clear hr hO hh hq heq
  dsimp only at *
  go_enter Tryz.func59, Tryz.ntmps59
  go_upto_region 1 with fail
  generalize hW : (w.alloc _).alloc _ = W; have hX : WS w.heap.size (w.heap.size + 1) 2 ⟨s, F, zs, L⟩ w W ⟨s, F, zs, L⟩ := hW ▸ WS.start HR.out; clear hW
  go_wp2_with (refine hX.wload rfl rfl rfl ?_)
  refine (sane_ok ⟨s, F, zs, L⟩ _ hX.v.rd HO.out).mono ?_
  rintro e w1 ⟨rfl, hg⟩
  have hX1 := hX.below hg.below
  clear hg hX
  have hz := hX1.sz
  go_upto_region 5 with fail
  clear e1 e2 e3 e4
  generalize (.agg #[.slice s.gA s.gn s.gc, .int .i64 s.x, .int .i64 s.y, .bool s.wr, .bool s.og, .int .i64 s.fg, .int .i64 s.bg, .int .i64 s.fl, .int .u8 s.g0, .int .u8 s.g1, .int .u8 s.g2, .int .u8 s.g3, .int .i64 s.gl, .int .i64 s.gr, .int .i64 s.on, .int .i64 s.H, .int .i64 s.W, .int .i64 s.T, .int .i64 s.B, .slice s.tA s.tn s.tc, .int .i64 s.tw, .slice s.kA s.kn s.kc, .int .i64 s.kp, .int .i64 s.dir, .bool s.ex] : Value) = V0
  go_cut [35] from 24 to 35 (fun v wc => v = .bool true ∧ wc = w1)
  case first =>
    have rS := SBlk.isScr hX1.x.B; have rL := SBlk.cells hX1.x.B; have rZ := IsScr.lt rS
    have d1 : ((h : Int) == s.H) = true := by simpa using HNE.out.1
    have d2 : ((q : Int) == s.W) = true := by simpa using HNE.out.2
    go_wp2_with fail
    go_meet
    case rel => exact ⟨rfl, rfl⟩
  case rest =>
    obtain ⟨rfl, rfl⟩ := hcut
    go_wp2_with (first | (refine hX1.wload rfl rfl rfl ?_) | (refine hX1.wstore hX1.v (by rfl) (by rfl) (by rfl) (by rfl) (by rfl) ?_)); exact bodyPost_ret (results_scr rfl rfl (hX1.res hX1.v)) rfl (hX1.fin hX1.v (by omega) rfl)
theorem Resize_any (S : Sn) (a b : Int) (h q : Nat) (w : World) (hO : S.md.Ok) (hr : S.rd w) (hh : max 1 (min a 1000) = (h : Int)) (hq : max 1 (min b 4096) = (q : Int)) (hsz : S.s.gn * S.s.W.toNat ≤ 90000) :
    Calls Tryz.prog 59 #[.agg #[.slice S.s.gA S.s.gn S.s.gc, .int .i64 S.s.x, .int .i64 S.s.y, .bool S.s.wr, .bool S.s.og, .int .i64 S.s.fg, .int .i64 S.s.bg, .int .i64 S.s.fl, .int .u8 S.s.g0, .int .u8 S.s.g1, .int .u8 S.s.g2, .int .u8 S.s.g3, .int .i64 S.s.gl, .int .i64 S.s.gr, .int .i64 S.s.on, .int .i64 S.s.H, .int .i64 S.s.W, .int .i64 S.s.T, .int .i64 S.s.B, .slice S.s.tA S.s.tn S.s.tc, .int .i64 S.s.tw, .slice S.s.kA S.s.kn S.s.kc, .int .i64 S.s.kp, .int .i64 S.s.dir, .bool S.s.ex], .int .i64 a, .int .i64 b] w (SPost S w (fun m => ((h : Int) = S.s.H ∧ (q : Int) = S.s.W ∧ m = S.md) ∨ ∃ k R Y X gone, Rsz S h q k R Y X gone m)) := by
  by_cases e : (h : Int) = S.s.H ∧ (q : Int) = S.s.W
  · exact (Resize_same S a b h q w hO hr hh hq e).mono fun _ _ ⟨S', h1, h2, h3, h4, h5⟩ => ⟨S', h1, h2, h3, .inl ⟨e.1, e.2, h4⟩, h5⟩
  · exact (Resize_c S a b h q w hO hr hh hq e hsz).mono fun _ _ ⟨S', h1, h2, h3, h4, h5⟩ => ⟨S', h1, h2, h3, .inr h4, h5⟩
end Go.Proofs.YtlchffkabpfjpaaGreat.Scr
