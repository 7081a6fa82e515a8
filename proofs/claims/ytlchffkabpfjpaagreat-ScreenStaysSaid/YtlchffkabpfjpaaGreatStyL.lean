/- screen.Mark. -/
import Derived.Test.YtlchffkabpfjpaaGreatStyK
namespace Go.Proofs.YtlchffkabpfjpaaGreat.Scr
open Go.RowKit Go.Proofs.YtlchffkabpfjpaaGreat.Row
attribute [local go_sem ↓] scr_load_pre scr_store_pre
attribute [local go_sem] scr_cell scr_frozen
def D0 (S : Sn) (k : Int) (w wc : World) : Prop := WS w.heap.size (w.heap.size + 2) 3 S w wc S ∧ Blk wc (w.heap.size + 1) 3 #[.int .i64 k] ∧ w.heap.size + 3 ≤ wc.heap.size
theorem d0_start {S : Sn} {k : Int} {w : World} (hr : S.rd w) : D0 S k w (((w.alloc (.cells #[.slice S.s.gA S.s.gn S.s.gc, .int .i64 S.s.x, .int .i64 S.s.y, .bool S.s.wr, .bool S.s.og, .int .i64 S.s.fg, .int .i64 S.s.bg, .int .i64 S.s.fl, .int .u8 S.s.g0, .int .u8 S.s.g1, .int .u8 S.s.g2, .int .u8 S.s.g3, .int .i64 S.s.gl, .int .i64 S.s.gr, .int .i64 S.s.on, .int .i64 S.s.H, .int .i64 S.s.W, .int .i64 S.s.T, .int .i64 S.s.B, .slice S.s.tA S.s.tn S.s.tc, .int .i64 S.s.tw, .slice S.s.kA S.s.kn S.s.kc, .int .i64 S.s.kp, .int .i64 S.s.dir, .bool S.s.ex] 54)).alloc (.cells #[.int .i64 k] 3)).alloc (.cells #[.slice dummy.gA dummy.gn dummy.gc, .int .i64 dummy.x, .int .i64 dummy.y, .bool dummy.wr, .bool dummy.og, .int .i64 dummy.fg, .int .i64 dummy.bg, .int .i64 dummy.fl, .int .u8 dummy.g0, .int .u8 dummy.g1, .int .u8 dummy.g2, .int .u8 dummy.g3, .int .i64 dummy.gl, .int .i64 dummy.gr, .int .i64 dummy.on, .int .i64 dummy.H, .int .i64 dummy.W, .int .i64 dummy.T, .int .i64 dummy.B, .slice dummy.tA dummy.tn dummy.tc, .int .i64 dummy.tw, .slice dummy.kA dummy.kn dummy.kc, .int .i64 dummy.kp, .int .i64 dummy.dir, .bool dummy.ex] 54)) := by
  have hb : Below w.heap.size w (((w.alloc (.cells #[.slice S.s.gA S.s.gn S.s.gc, .int .i64 S.s.x, .int .i64 S.s.y, .bool S.s.wr, .bool S.s.og, .int .i64 S.s.fg, .int .i64 S.s.bg, .int .i64 S.s.fl, .int .u8 S.s.g0, .int .u8 S.s.g1, .int .u8 S.s.g2, .int .u8 S.s.g3, .int .i64 S.s.gl, .int .i64 S.s.gr, .int .i64 S.s.on, .int .i64 S.s.H, .int .i64 S.s.W, .int .i64 S.s.T, .int .i64 S.s.B, .slice S.s.tA S.s.tn S.s.tc, .int .i64 S.s.tw, .slice S.s.kA S.s.kn S.s.kc, .int .i64 S.s.kp, .int .i64 S.s.dir, .bool S.s.ex] 54)).alloc (.cells #[.int .i64 k] 3)).alloc (.cells #[.slice dummy.gA dummy.gn dummy.gc, .int .i64 dummy.x, .int .i64 dummy.y, .bool dummy.wr, .bool dummy.og, .int .i64 dummy.fg, .int .i64 dummy.bg, .int .i64 dummy.fl, .int .u8 dummy.g0, .int .u8 dummy.g1, .int .u8 dummy.g2, .int .u8 dummy.g3, .int .i64 dummy.gl, .int .i64 dummy.gr, .int .i64 dummy.on, .int .i64 dummy.H, .int .i64 dummy.W, .int .i64 dummy.T, .int .i64 dummy.B, .slice dummy.tA dummy.tn dummy.tc, .int .i64 dummy.tw, .slice dummy.kA dummy.kn dummy.kc, .int .i64 dummy.kp, .int .i64 dummy.dir, .bool dummy.ex] 54)) := by exact bcAll
  exact ⟨⟨⟨hb, ((Blk.new _ _ _).alloc _).alloc _, ⟨dummy, Blk.new_at (by simp)⟩, Nat.le_refl _, by omega, by omega⟩, Vt.start 3 hr hb⟩, (Blk.new_at (by simp)).alloc _, by simp⟩
theorem D0.below {S : Sn} {k : Int} {w wc wd : World} (h : D0 S k w wc) (hb : Below wc.heap.size wc wd) : D0 S k w wd := ⟨h.1.below hb, h.2.1.below hb h.2.1.lt, Nat.le_trans h.2.2 hb.size⟩
theorem D0.lt1 {S : Sn} {k : Int} {w wc : World} (h : D0 S k w wc) : w.heap.size + 3 ≤ wc.heap.size := h.2.2
set_option maxRecDepth 100000 in
set_option maxHeartbeats 4000000 in
theorem mark_step (q k b1 b2 : Nat) (m : Int) (w0 : World) (h1 : Blk w0 b1 3 #[.int .i64 k]) (h2 : Blk w0 b2 3 #[.int .i64 m]) (hk : k < q) :
    StepOk q w0 ⟨46, #[.pointer (some ⟨b1, 0, none⟩), .pointer (some ⟨b2, 0, none⟩)]⟩ (mkC k m) := by
  refine ⟨callFunc_enter Tryz.func46 (by kernel_rfl) (by kernel_rfl), fun r w hb hok hsn hrq => ?_, fun c hc hn => ⟨mark_sane hc k m, hn⟩⟩
  subst hrq
  have H1 := Lib.hid (h1.below hb h1.lt)
  have H2 := Lib.hid (h2.below hb h2.lt)
  have HOK := Lib.hid hok
  have HSN := Lib.hid (show saneRw r = true from hsn)
  have HK := Lib.hid hk
  clear h1 h2 hk hok hsn hb
  show Calls _ _ #[.agg #[.slice r.A r.n r.cap, .bool r.wb, .int .i64 r.dir, .bool r.ex], .pointer (some ⟨b1, 0, none⟩), .pointer (some ⟨b2, 0, none⟩)] _ _
  go_enter Tryz.func46, Tryz.ntmps46
  go_upto_region 1 with fail
  generalize hW1 : (w.alloc _).alloc _ = W1
  have hbw : Below w.heap.size w W1 := by rw [← hW1]; exact bcAll
  have hX : Blk W1 w.heap.size 64 #[.slice r.A r.n r.cap, .bool r.wb, .int .i64 r.dir, .bool r.ex] := by rw [← hW1]; exact (Blk.new _ _ _).alloc _
  have hY : Blk W1 (w.heap.size + 1) 64 #[.slice none 0 0, .bool false, .int .i64 0, .bool false] := by rw [← hW1]; exact Blk.new_at (by simp)
  clear hW1
  obtain ⟨a0, al⟩ := blk_one (H1.out.below hbw H1.out.lt)
  obtain ⟨b0, bl⟩ := blk_one (H2.out.below hbw H2.out.lt)
  obtain ⟨x0, x1, x2, x3, xf, xl⟩ := hX.facts4
  go_wp2_with fail
  refine (mark_p r k m _ (HOK.out.below hbw) HSN.out HK.out).mono ?_
  rintro e w2 ⟨r2, rfl, hg, hok2, hct, hft⟩
  have hY2 := hY.below hg hY.lt
  have hbw2 := hbw.trans (hg.mono hbw.size)
  have hz1 := hY.lt
  have hz2 := hbw.size
  have HOK2 := Lib.hid hok2
  have HCT := Lib.hid hct
  have hnot : ∀ P : Nat → Prop, ftR P r → ftR (since P w.heap.size) r2 := fun P hP => (hft P hP).mono (since_mono hz2)
  have hfar : ftR (· ≠ w.heap.size + 1) r2 := (hft (· < w.heap.size) (ok_ft HOK.out)).mono fun b hb => by rcases hb with hb | hb <;> omega
  clear hX hY hbw a0 al b0 bl x0 x1 x2 x3 xf xl hok2 hct hg hft
  obtain ⟨y0, y1, y2, y3, yf, yl⟩ := hY2.facts4
  go_wp2_with fail
  exact bodyPost_ret (results_row rfl rfl (blk_set4 hY2)) rfl ⟨r2, rfl, by exact bcAll, ok_keep (ok_keep (ok_keep (ok_keep HOK2.out hfar (Keeps.cell _ _ (fun h => h rfl))) hfar (Keeps.cell _ _ (fun h => h rfl))) hfar (Keeps.cell _ _ (fun h => h rfl))) hfar (Keeps.cell _ _ (fun h => h rfl)), HCT.out, hnot⟩
theorem Sty.row1 {m : Md} (h : m.Ok) {c : Ct} (hc : c.sane = true ∧ (c.n : Int) = m.W) : Sty m (m.setR c) := ⟨h.setR hc.1 hc.2, rfl, rfl, rfl, rfl, rfl, rfl, rfl, rfl⟩
theorem mk_ok {m : Md} (h : m.Ok) (k : Nat) (v : Int) : (mkC k v m.here).sane = true ∧ ((mkC k v m.here).n : Int) = m.W := ⟨mark_sane h.here.1 k v, h.here.2⟩
set_option maxRecDepth 100000 in
set_option maxHeartbeats 4000000 in
theorem Mark_0 (S : Sn) (m : Int) (kk : Nat) (w : World) (hs : S.md.Ok) (hr : S.rd w) (hw : S.s.wr = true) (hk : (kk : Int) = S.s.x) : Calls Tryz.prog 19 #[.agg #[.slice S.s.gA S.s.gn S.s.gc, .int .i64 S.s.x, .int .i64 S.s.y, .bool S.s.wr, .bool S.s.og, .int .i64 S.s.fg, .int .i64 S.s.bg, .int .i64 S.s.fl, .int .u8 S.s.g0, .int .u8 S.s.g1, .int .u8 S.s.g2, .int .u8 S.s.g3, .int .i64 S.s.gl, .int .i64 S.s.gr, .int .i64 S.s.on, .int .i64 S.s.H, .int .i64 S.s.W, .int .i64 S.s.T, .int .i64 S.s.B, .slice S.s.tA S.s.tn S.s.tc, .int .i64 S.s.tw, .slice S.s.kA S.s.kn S.s.kc, .int .i64 S.s.kp, .int .i64 S.s.dir, .bool S.s.ex], .int .i64 m] w (SPost S w (Sty S.md)) := by
  have HR := Lib.hid hr; have HS := Lib.hid hs; obtain ⟨s, F, zs, L⟩ := S; have hf := hs.cf; simp only [Sn.md] at hf; have HWQ := Lib.hid (show ((s.W.toNat : Nat) : Int) = s.W by have := hf.w1; omega)
  have dn : (!s.wr) = false := by simpa using hw
  have HK := Lib.hid (show kk < s.W.toNat by have := hf.x1; have := hf.w1; dsimp only at hk; omega)
  have HKX := Lib.hid hk
  clear hs hr hf hw hk
  dsimp only at *; go_enter Tryz.func19, Tryz.ntmps19; go_upto_region 1 with fail; generalize hW : World.alloc _ _ = W; have hD : D0 ⟨s, F, zs, L⟩ m w W := (by rw [← hW]; exact d0_start HR.out); clear hW; go_wp2_with (refine hD.1.wload rfl rfl rfl ?_); refine (sane_ok ⟨s, F, zs, L⟩ _ hD.1.v.rd HS.out).mono ?_; rintro e w0 ⟨rfl, hg⟩; replace hD := hD.below hg.below; clear hg; have rS := SBlk.isScr hD.1.x.B; have rL := SBlk.cells hD.1.x.B; have rZ := IsScr.lt rS; go_upto_region 6 with fail
  rw [show s.x = (kk : Int) from HKX.out.symm]
  generalize hW4 : w0.alloc _ = W4
  have hD4 : D0 ⟨s, F, zs, L⟩ m w W4 := by rw [← hW4]; exact hD.below (by exact bcAll)
  have hA : Blk W4 w0.heap.size 3 #[.int .i64 ((kk : Nat) : Int)] := by rw [← hW4]; exact Blk.new _ _ _
  have hab := hD.lt1
  clear hW4 hD
  clear rS rL rZ
  generalize w0.heap.size = ab at *
  obtain ⟨a0, al⟩ := blk_one hA
  have dk : decide (((kk : Nat) : Int) < 0) = false := decide_eq_false (by omega)
  have hmf : ∀ (fn : Fn) (first cap : Array Value) (w : World), (Instr.makeFunc fn first cap).run Tryz.prog w = .ok (.func fn first cap) w := fun _ _ _ _ => rfl
  go_wp2_with (refine hD4.1.wload rfl rfl rfl ?_)
  have hx : RdX encF (W4.alloc (.cells #[.func (.func 46) #[] #[.pointer (some ⟨ab, 0, none⟩), .pointer (some ⟨w.heap.size + 1, 0, none⟩)]] 88)) (.slice (some ⟨W4.heap.size, 0, none⟩) 1 1) [⟨46, #[.pointer (some ⟨ab, 0, none⟩), .pointer (some ⟨w.heap.size + 1, 0, none⟩)]⟩] := rdX_one (E := encF) _ _ _ _ _ rfl rfl
  have hk1 := hA.alloc (.cells #[.func (.func 46) #[] #[.pointer (some ⟨ab, 0, none⟩), .pointer (some ⟨w.heap.size + 1, 0, none⟩)]] 88)
  have hk2 := hD4.2.1.alloc (.cells #[.func (.func 46) #[] #[.pointer (some ⟨ab, 0, none⟩), .pointer (some ⟨w.heap.size + 1, 0, none⟩)]] 88)
  have hN := hD4.1.alloc (.cells #[.func (.func 46) #[] #[.pointer (some ⟨ab, 0, none⟩), .pointer (some ⟨w.heap.size + 1, 0, none⟩)]] 88)
  have hzz := hD4.lt1
  (with_reducible refine (onRow_1 ⟨s, F, zs, L⟩ _ s.W.toNat _ _ _ HS.out.bare hN.v.rd hx HWQ.out (mark_step s.W.toNat kk ab (w.heap.size + 1) m _ hk1 hk2 HK.out)).mono ?_)
  intro e w3 hp
  obtain ⟨S1, rfl, hX3, hV3, hm1, hz3⟩ := hN.post (by have := hN.sz; omega) hp
  have hph : Sty (Sn.md ⟨s, F, zs, L⟩) S1.md := by rw [hm1]; exact Sty.row1 HS.out (mk_ok HS.out _ _)
  clear hx hk1 hk2 hm1 a0 al hD4 hA hp
  go_wp2_with (first | (refine hX3.wload rfl rfl rfl ?_) | (refine hX3.wstore hV3 (by rfl) (by rfl) (by rfl) (by rfl) (by rfl) ?_)); exact bodyPost_ret (results_scr rfl rfl (hX3.res hV3)) rfl (hX3.fin hV3 (by omega) hph)
set_option maxRecDepth 100000 in
set_option maxHeartbeats 4000000 in
theorem Mark_1 (S : Sn) (m : Int) (kk : Nat) (w : World) (hs : S.md.Ok) (hr : S.rd w) (hw : S.s.wr = false) (hk : (kk : Int) = S.s.x - 1) : Calls Tryz.prog 19 #[.agg #[.slice S.s.gA S.s.gn S.s.gc, .int .i64 S.s.x, .int .i64 S.s.y, .bool S.s.wr, .bool S.s.og, .int .i64 S.s.fg, .int .i64 S.s.bg, .int .i64 S.s.fl, .int .u8 S.s.g0, .int .u8 S.s.g1, .int .u8 S.s.g2, .int .u8 S.s.g3, .int .i64 S.s.gl, .int .i64 S.s.gr, .int .i64 S.s.on, .int .i64 S.s.H, .int .i64 S.s.W, .int .i64 S.s.T, .int .i64 S.s.B, .slice S.s.tA S.s.tn S.s.tc, .int .i64 S.s.tw, .slice S.s.kA S.s.kn S.s.kc, .int .i64 S.s.kp, .int .i64 S.s.dir, .bool S.s.ex], .int .i64 m] w (SPost S w (Sty S.md)) := by
  have HR := Lib.hid hr; have HS := Lib.hid hs; obtain ⟨s, F, zs, L⟩ := S; have hf := hs.cf; simp only [Sn.md] at hf; have HWQ := Lib.hid (show ((s.W.toNat : Nat) : Int) = s.W by have := hf.w1; omega)
  have dn : (!s.wr) = true := by simpa using hw
  have HK := Lib.hid (show kk < s.W.toNat by have := hf.x1; have := hf.w1; dsimp only at hk; omega)
  have HKX := Lib.hid hk
  have hwr : IntKind.i64.wrap (s.x - 1) = (kk : Int) := by rw [← HKX.out]; exact IntWalk.i64_in _ (by have := hf.x1; have := hf.w2; dsimp only at hk; omega)
  clear hs hr hf hw hk
  dsimp only at *; go_enter Tryz.func19, Tryz.ntmps19; go_upto_region 1 with fail; generalize hW : World.alloc _ _ = W; have hD : D0 ⟨s, F, zs, L⟩ m w W := (by rw [← hW]; exact d0_start HR.out); clear hW; go_wp2_with (refine hD.1.wload rfl rfl rfl ?_); refine (sane_ok ⟨s, F, zs, L⟩ _ hD.1.v.rd HS.out).mono ?_; rintro e w0 ⟨rfl, hg⟩; replace hD := hD.below hg.below; clear hg; have rS := SBlk.isScr hD.1.x.B; have rL := SBlk.cells hD.1.x.B; have rZ := IsScr.lt rS; go_upto_region 6 with fail
  generalize hW4 : w0.alloc _ = W4
  have hD4 : D0 ⟨s, F, zs, L⟩ m w W4 := by rw [← hW4]; exact hD.below (by exact bcAll)
  have hA : Blk W4 w0.heap.size 3 #[.int .i64 ((kk : Nat) : Int)] := by rw [← hW4]; exact Blk.new _ _ _
  have hab := hD.lt1
  clear hW4 hD
  clear rS rL rZ
  generalize w0.heap.size = ab at *
  obtain ⟨a0, al⟩ := blk_one hA
  have dk : decide (((kk : Nat) : Int) < 0) = false := decide_eq_false (by omega)
  have hmf : ∀ (fn : Fn) (first cap : Array Value) (w : World), (Instr.makeFunc fn first cap).run Tryz.prog w = .ok (.func fn first cap) w := fun _ _ _ _ => rfl
  go_wp2_with (refine hD4.1.wload rfl rfl rfl ?_)
  have hx : RdX encF (W4.alloc (.cells #[.func (.func 46) #[] #[.pointer (some ⟨ab, 0, none⟩), .pointer (some ⟨w.heap.size + 1, 0, none⟩)]] 88)) (.slice (some ⟨W4.heap.size, 0, none⟩) 1 1) [⟨46, #[.pointer (some ⟨ab, 0, none⟩), .pointer (some ⟨w.heap.size + 1, 0, none⟩)]⟩] := rdX_one (E := encF) _ _ _ _ _ rfl rfl
  have hk1 := hA.alloc (.cells #[.func (.func 46) #[] #[.pointer (some ⟨ab, 0, none⟩), .pointer (some ⟨w.heap.size + 1, 0, none⟩)]] 88)
  have hk2 := hD4.2.1.alloc (.cells #[.func (.func 46) #[] #[.pointer (some ⟨ab, 0, none⟩), .pointer (some ⟨w.heap.size + 1, 0, none⟩)]] 88)
  have hN := hD4.1.alloc (.cells #[.func (.func 46) #[] #[.pointer (some ⟨ab, 0, none⟩), .pointer (some ⟨w.heap.size + 1, 0, none⟩)]] 88)
  have hzz := hD4.lt1
  (with_reducible refine (onRow_1 ⟨s, F, zs, L⟩ _ s.W.toNat _ _ _ HS.out.bare hN.v.rd hx HWQ.out (mark_step s.W.toNat kk ab (w.heap.size + 1) m _ hk1 hk2 HK.out)).mono ?_)
  intro e w3 hp
  obtain ⟨S1, rfl, hX3, hV3, hm1, hz3⟩ := hN.post (by have := hN.sz; omega) hp
  have hph : Sty (Sn.md ⟨s, F, zs, L⟩) S1.md := by rw [hm1]; exact Sty.row1 HS.out (mk_ok HS.out _ _)
  clear hx hk1 hk2 hm1 a0 al hD4 hA hp
  go_wp2_with (first | (refine hX3.wload rfl rfl rfl ?_) | (refine hX3.wstore hV3 (by rfl) (by rfl) (by rfl) (by rfl) (by rfl) ?_)); exact bodyPost_ret (results_scr rfl rfl (hX3.res hV3)) rfl (hX3.fin hV3 (by omega) hph)
set_option maxRecDepth 100000 in
set_option maxHeartbeats 4000000 in
theorem Mark_2 (S : Sn) (m : Int) (w : World) (hs : S.md.Ok) (hr : S.rd w) (hw : S.s.wr = false) (hk : S.s.x = 0) : Calls Tryz.prog 19 #[.agg #[.slice S.s.gA S.s.gn S.s.gc, .int .i64 S.s.x, .int .i64 S.s.y, .bool S.s.wr, .bool S.s.og, .int .i64 S.s.fg, .int .i64 S.s.bg, .int .i64 S.s.fl, .int .u8 S.s.g0, .int .u8 S.s.g1, .int .u8 S.s.g2, .int .u8 S.s.g3, .int .i64 S.s.gl, .int .i64 S.s.gr, .int .i64 S.s.on, .int .i64 S.s.H, .int .i64 S.s.W, .int .i64 S.s.T, .int .i64 S.s.B, .slice S.s.tA S.s.tn S.s.tc, .int .i64 S.s.tw, .slice S.s.kA S.s.kn S.s.kc, .int .i64 S.s.kp, .int .i64 S.s.dir, .bool S.s.ex], .int .i64 m] w (SPost S w (Sty S.md)) := by
  have HR := Lib.hid hr; have HS := Lib.hid hs; obtain ⟨s, F, zs, L⟩ := S; have hf := hs.cf; simp only [Sn.md] at hf; have HWQ := Lib.hid (show ((s.W.toNat : Nat) : Int) = s.W by have := hf.w1; omega)
  have dn : (!s.wr) = true := by simpa using hw
  have hwr : IntKind.i64.wrap (s.x - 1) = -1 := by rw [show s.x = 0 from hk]; exact IntWalk.i64_in _ (by omega)
  clear hs hr hf hw hk
  dsimp only at *; go_enter Tryz.func19, Tryz.ntmps19; go_upto_region 1 with fail; generalize hW : World.alloc _ _ = W; have hD : D0 ⟨s, F, zs, L⟩ m w W := (by rw [← hW]; exact d0_start HR.out); clear hW; go_wp2_with (refine hD.1.wload rfl rfl rfl ?_); refine (sane_ok ⟨s, F, zs, L⟩ _ hD.1.v.rd HS.out).mono ?_; rintro e w0 ⟨rfl, hg⟩; replace hD := hD.below hg.below; clear hg; have rS := SBlk.isScr hD.1.x.B; have rL := SBlk.cells hD.1.x.B; have rZ := IsScr.lt rS; go_upto_region 6 with fail
  have hD4 : D0 ⟨s, F, zs, L⟩ m w (w0.alloc (.cells #[.int .i64 (-1)] 3)) := hD.below (by exact bcAll)
  have hA : Blk (w0.alloc (.cells #[.int .i64 (-1)] 3)) w0.heap.size 3 #[.int .i64 (-1)] := Blk.new _ _ _
  generalize w0.alloc (.cells #[.int .i64 (-1)] 3) = W4 at *
  have hab := hD.lt1
  clear hD
  clear rS rL rZ
  generalize w0.heap.size = ab at *
  obtain ⟨a0, al⟩ := blk_one hA
  clear hwr
  go_upto_region 7 with fail
  go_wp2_with (first | (refine hD4.1.wload rfl rfl rfl ?_) | (refine hD4.1.wstore hD4.1.v (by rfl) (by rfl) (by rfl) (by rfl) (by rfl) ?_)); exact bodyPost_ret (results_scr rfl rfl (hD4.1.res hD4.1.v)) rfl (hD4.1.fin hD4.1.v (by omega) (Sty.refl HS.out))
theorem Mark_c (S : Sn) (m : Int) (w : World) (hs : S.md.Ok) (hr : S.rd w) : Calls Tryz.prog 19 #[.agg #[.slice S.s.gA S.s.gn S.s.gc, .int .i64 S.s.x, .int .i64 S.s.y, .bool S.s.wr, .bool S.s.og, .int .i64 S.s.fg, .int .i64 S.s.bg, .int .i64 S.s.fl, .int .u8 S.s.g0, .int .u8 S.s.g1, .int .u8 S.s.g2, .int .u8 S.s.g3, .int .i64 S.s.gl, .int .i64 S.s.gr, .int .i64 S.s.on, .int .i64 S.s.H, .int .i64 S.s.W, .int .i64 S.s.T, .int .i64 S.s.B, .slice S.s.tA S.s.tn S.s.tc, .int .i64 S.s.tw, .slice S.s.kA S.s.kn S.s.kc, .int .i64 S.s.kp, .int .i64 S.s.dir, .bool S.s.ex], .int .i64 m] w (SPost S w (Sty S.md)) := by
  have hf := hs.cf
  have h0 : 0 ≤ S.s.x := hf.x0
  by_cases hw : S.s.wr = true
  · exact Mark_0 S m S.s.x.toNat w hs hr hw (by omega)
  · have hw' : S.s.wr = false := by simpa using hw
    by_cases hx : S.s.x = 0
    · exact Mark_2 S m w hs hr hw' hx
    · exact Mark_1 S m (S.s.x - 1).toNat w hs hr hw' (by omega)
end Go.Proofs.YtlchffkabpfjpaaGreat.Scr
