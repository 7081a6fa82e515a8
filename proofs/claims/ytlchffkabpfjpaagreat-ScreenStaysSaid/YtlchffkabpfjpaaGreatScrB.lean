/- screen.down, Sane. -/
import Derived.Test.YtlchffkabpfjpaaGreatScrA
import Derived.Test.YtlchffkabpfjpaaGreatGA
namespace Go.Proofs.YtlchffkabpfjpaaGreat.Scr
open Go.RowKit Go.Proofs.YtlchffkabpfjpaaGreat.Row
attribute [local go_sem ↓] scr_load_pre scr_store_pre
attribute [local go_sem] scr_cell scr_frozen
/-- the cursor elsewhere -/
theorem Md.Ok.move {m : Md} (h : m.Ok) {x y : Int} {wr : Bool} (F : Cur.Facts x y wr m.og m.H m.W m.T m.B) : Md.Ok { m with x := x, y := y, wr := wr } :=
  ⟨h.d0, h.d2, cur_move h.cu F, h.tb, h.tw, h.gs, h.nH, h.nW, h.hs⟩
theorem Md.Ok.dry {m : Md} (h : m.Ok) : Md.Ok { m with wr := false } := by
  obtain ⟨h1, h2, w1, w2, t0, tb, bh, x0, x1, y0, y1, wx, oy⟩ := h.cf
  exact h.move ⟨h1, h2, w1, w2, t0, tb, bh, x0, x1, y0, y1, (fun h => by cases h), oy⟩
def Md.down (m : Md) : Md := if m.y = m.B - 1 then { m with wr := false }.up 1 else { m with wr := false, y := min (m.y + 1) (m.H - 1) }
set_option maxRecDepth 100000 in
set_option maxHeartbeats 4000000 in
theorem down_c (S : Sn) (w : World) (hs : S.md.Ok) (hr : S.rd w) : Calls Tryz.prog 48 #[.agg #[.slice S.s.gA S.s.gn S.s.gc, .int .i64 S.s.x, .int .i64 S.s.y, .bool S.s.wr, .bool S.s.og, .int .i64 S.s.fg, .int .i64 S.s.bg, .int .i64 S.s.fl, .int .u8 S.s.g0, .int .u8 S.s.g1, .int .u8 S.s.g2, .int .u8 S.s.g3, .int .i64 S.s.gl, .int .i64 S.s.gr, .int .i64 S.s.on, .int .i64 S.s.H, .int .i64 S.s.W, .int .i64 S.s.T, .int .i64 S.s.B, .slice S.s.tA S.s.tn S.s.tc, .int .i64 S.s.tw, .slice S.s.kA S.s.kn S.s.kc, .int .i64 S.s.kp, .int .i64 S.s.dir, .bool S.s.ex]] w (SPost S w (fun m => m = S.md.down)) := by
  have HR := Lib.hid hr
  obtain ⟨s, F, zs, L⟩ := S
  have hf := hs.cf
  have HO := Lib.hid hs.dry
  simp only [Sn.md] at hf
  obtain ⟨h1, h2, w1, w2, t0, tb, bh, x0, x1, y0, y1, -, -⟩ := hf
  clear hr hs
  dsimp only at *
  have HMD := Lib.hid (show (Sn.md ⟨s, F, zs, L⟩).down = if s.y = s.B - 1 then (Sn.md ⟨{ s with wr := false }, F, zs, L⟩).up 1 else Sn.md ⟨{ s with wr := false, y := min (s.y + 1) (s.H - 1) }, F, zs, L⟩ from rfl)
  go_enter Tryz.func48, Tryz.ntmps48
  go_upto_region 1 with fail
  generalize hW : (w.alloc _).alloc _ = W; have hX : WS w.heap.size (w.heap.size + 1) 2 ⟨s, F, zs, L⟩ w W ⟨s, F, zs, L⟩ := hW ▸ WS.start HR.out; clear hW
  have hz := hX.sz
  have rS := SBlk.isScr hX.x.B; have rL := SBlk.cells hX.x.B; have rZ := IsScr.lt rS
  go_upto_region 2 with fail
  clear rS rL rZ
  generalize hW2 : World.setCell _ _ _ = W2
  have hX2 : WS w.heap.size (w.heap.size + 1) 2 ⟨s, F, zs, L⟩ w W2 ⟨{ s with wr := false }, F, zs, L⟩ := hW2 ▸ hX.cell (by omega) 3 _ (fun v => ⟨v.rd, v.out, v.gen⟩) rfl
  clear hW2 hX
  have hz2 := hX2.sz
  by_cases hy : s.y = s.B - 1
  · have hy' : (s.y == s.B - 1) = true := by simpa using hy
    have HY := Lib.hid hy
    clear hy
    have rS := SBlk.isScr hX2.x.B; have rL := SBlk.cells hX2.x.B; have rZ := IsScr.lt rS
    go_wp2_with (refine hX2.wload rfl rfl rfl ?_)
    refine (up_c ⟨{ s with wr := false }, F, zs, L⟩ 1 1 _ HO.out hX2.v.rd (by show _ = max 0 (min 1 (s.B - s.T)); omega)).mono ?_
    intro e w3 hp
    obtain ⟨S', rfl, hX3, hV3, hm, hz3⟩ := hX2.post (by omega) hp
    clear rS rL rZ
    go_wp2_with (first | (refine hX3.wload rfl rfl rfl ?_) | (refine hX3.wstore hV3 (by rfl) (by rfl) (by rfl) (by rfl) (by rfl) ?_)); exact bodyPost_ret (results_scr rfl rfl (hX3.res hV3)) rfl (hX3.fin hV3 (by omega) (by rw [HMD.out, if_pos HY.out]; exact hm))
  · have hy' : (s.y == s.B - 1) = false := by simpa using hy
    have HY := Lib.hid hy
    clear hy
    have rS := SBlk.isScr hX2.x.B; have rL := SBlk.cells hX2.x.B; have rZ := IsScr.lt rS
    go_upto_region 5 with fail
    clear rS rL rZ
    generalize hyv : (if s.H - 1 < s.y + 1 then s.H - 1 else s.y + 1) = yv
    have HM := Lib.hid (show yv = min (s.y + 1) (s.H - 1) by omega)
    clear hyv
    generalize hW3 : World.setCell _ _ _ = W3
    have hX3 : WS w.heap.size (w.heap.size + 1) 2 ⟨s, F, zs, L⟩ w W3 ⟨{ s with wr := false, y := yv }, F, zs, L⟩ := hW3 ▸ hX2.cell (by omega) 2 _ (fun v => ⟨v.rd, v.out, v.gen⟩) rfl
    clear hW3
    go_wp2_with (first | (refine hX3.wload rfl rfl rfl ?_) | (refine hX3.wstore hX3.v (by rfl) (by rfl) (by rfl) (by rfl) (by rfl) ?_)); exact bodyPost_ret (results_scr rfl rfl (hX3.res hX3.v)) rfl (hX3.fin hX3.v (by omega) (by rw [HMD.out, if_neg HY.out, ← HM.out]))
theorem size_no (x : Value) (L : List Rw) (w : World) (hx : RdR w x L) (hl : L.length ≤ 5000) (hs : gsaneB L = false) :
    Calls Tryz.prog 16 #[.agg #[x]] w fun e w' => e = .returned (.tuple #[.int .i64 0, .int .i64 0]) ∧ Grew w w' := by
  obtain ⟨A, cap, rfl, hc⟩ := hx.1.len
  have HX := Lib.hid hx
  have HLL := Lib.hid hl
  have HS := Lib.hid hs
  clear hx hl hs
  go_enter Tryz.func16, Tryz.ntmps16
  go_wp2_with fail
  refine (gsane_c (.slice A L.length cap) L _ (HX.out.below (by exact bcAll)) HLL.out).mono ?_
  rw [HS.out]
  rintro e w1 ⟨rfl, X1, d1, rfl⟩
  go_wp2_with fail
  go_ret2
  exact ⟨rfl, (Below.toGrow (by exact bcAll))⟩
/-- screen.Sane tells whether a screen may be -/
theorem sane_md (s : Sc) (F : Nat → Rw) (zs : List Int) (L : List Rw) : (Sn.md ⟨s, F, zs, L⟩).sane = (decide (0 ≤ s.dir ∧ s.dir ≤ 2) && (Cur.csaneB s.x s.y s.wr s.og s.fg s.bg s.fl s.g0 s.g1 s.g2 s.g3 s.gl s.gr s.on s.H s.W s.T s.B && (Tab.tsaneB s.tw zs && (decide (s.tw = s.W) && (gsaneB (listG s.gn F) && (decide ((s.gn : Int) = s.H ∧ ((F 0).n : Int) = s.W) && hsaneB L s.kp)))))) := by
  show (decide _ && (_ && (_ && (decide _ && (gsC _ (ct ∘ F) && (decide _ && hsC (L.map ct) _)))))) = _
  rw [gs_ct, hs_ct]
  rfl
set_option maxRecDepth 100000 in
set_option maxHeartbeats 4000000 in
theorem sane_c1 (S : Sn) (w : World) (hr : S.rd w) (hg : S.s.gn ≤ 5000) (hl : S.L.length ≤ 5000) (hz : S.zs.length ≤ 65536) (hW1 : S.s.W ≤ 9223372036854775807) (hW2 : -9223372036854775808 ≤ S.s.W) (h1 : S.s.dir < 0 ∨ 2 < S.s.dir) : Calls Tryz.prog 6 #[.agg #[.slice S.s.gA S.s.gn S.s.gc, .int .i64 S.s.x, .int .i64 S.s.y, .bool S.s.wr, .bool S.s.og, .int .i64 S.s.fg, .int .i64 S.s.bg, .int .i64 S.s.fl, .int .u8 S.s.g0, .int .u8 S.s.g1, .int .u8 S.s.g2, .int .u8 S.s.g3, .int .i64 S.s.gl, .int .i64 S.s.gr, .int .i64 S.s.on, .int .i64 S.s.H, .int .i64 S.s.W, .int .i64 S.s.T, .int .i64 S.s.B, .slice S.s.tA S.s.tn S.s.tc, .int .i64 S.s.tw, .slice S.s.kA S.s.kn S.s.kc, .int .i64 S.s.kp, .int .i64 S.s.dir, .bool S.s.ex]] w fun e w' => e = .returned (.bool S.md.sane) ∧ Grew w w' := by
  have HW1 := Lib.hid hW1; have HW2 := Lib.hid hW2; have HZ := Lib.hid hz; have HKL := Lib.hid hl; have HG := Lib.hid hr.1; have HT := Lib.hid hr.2.1; have HK := Lib.hid hr.2.2; obtain ⟨s, F, zs, L⟩ := S; have HGL := Lib.hid (show (listG s.gn F).length ≤ 5000 by rw [listG_len]; exact hg); rw [sane_md]; dsimp only at *; clear hr hg hl hz hW1 hW2
  have hd : decide (0 ≤ s.dir ∧ s.dir ≤ 2) = false := by simp; omega
  rw [hd, Bool.false_and]
  clear hd
  rcases h1 with h1 | h1
  · have h2 : decide (s.dir < 0) = true := by simpa using h1
    go_enter Tryz.func6, Tryz.ntmps6
    go_wp2_with fail
    go_ret
    exact ⟨rfl, (Below.toGrow (by exact bcAll))⟩
  · have h2 : decide (s.dir < 0) = false := by simp; omega
    have h3 : decide (2 < s.dir) = true := by simpa using h1
    go_enter Tryz.func6, Tryz.ntmps6
    go_wp2_with fail
    go_ret
    exact ⟨rfl, (Below.toGrow (by exact bcAll))⟩
set_option maxRecDepth 100000 in
set_option maxHeartbeats 4000000 in
theorem sane_c2 (S : Sn) (w : World) (hr : S.rd w) (hg : S.s.gn ≤ 5000) (hl : S.L.length ≤ 5000) (hz : S.zs.length ≤ 65536) (hW1 : S.s.W ≤ 9223372036854775807) (hW2 : -9223372036854775808 ≤ S.s.W) (h0 : 0 ≤ S.s.dir ∧ S.s.dir ≤ 2) (h1 : Cur.csaneB S.s.x S.s.y S.s.wr S.s.og S.s.fg S.s.bg S.s.fl S.s.g0 S.s.g1 S.s.g2 S.s.g3 S.s.gl S.s.gr S.s.on S.s.H S.s.W S.s.T S.s.B = false) : Calls Tryz.prog 6 #[.agg #[.slice S.s.gA S.s.gn S.s.gc, .int .i64 S.s.x, .int .i64 S.s.y, .bool S.s.wr, .bool S.s.og, .int .i64 S.s.fg, .int .i64 S.s.bg, .int .i64 S.s.fl, .int .u8 S.s.g0, .int .u8 S.s.g1, .int .u8 S.s.g2, .int .u8 S.s.g3, .int .i64 S.s.gl, .int .i64 S.s.gr, .int .i64 S.s.on, .int .i64 S.s.H, .int .i64 S.s.W, .int .i64 S.s.T, .int .i64 S.s.B, .slice S.s.tA S.s.tn S.s.tc, .int .i64 S.s.tw, .slice S.s.kA S.s.kn S.s.kc, .int .i64 S.s.kp, .int .i64 S.s.dir, .bool S.s.ex]] w fun e w' => e = .returned (.bool S.md.sane) ∧ Grew w w' := by
  have HC := Lib.hid h1
  clear h1
  have HW1 := Lib.hid hW1; have HW2 := Lib.hid hW2; have HZ := Lib.hid hz; have HKL := Lib.hid hl; have HG := Lib.hid hr.1; have HT := Lib.hid hr.2.1; have HK := Lib.hid hr.2.2; obtain ⟨s, F, zs, L⟩ := S; have HGL := Lib.hid (show (listG s.gn F).length ≤ 5000 by rw [listG_len]; exact hg); rw [sane_md]; dsimp only at *; clear hr hg hl hz hW1 hW2
  have e1 : decide (s.dir < 0) = false := decide_eq_false (by omega); have e2 : decide (2 < s.dir) = false := decide_eq_false (by omega); have ed : decide (0 ≤ s.dir ∧ s.dir ≤ 2) = true := decide_eq_true (by omega); rw [ed, Bool.true_and]; clear ed h0
  rw [HC.out, Bool.false_and]
  go_enter Tryz.func6, Tryz.ntmps6
  go_wp2_with (first | (go_at_call 14; (with_reducible refine (Cur.csane_c _ _ _ _ _ _ _ _ _ _ _ _ _ _ _ _ _ _ _ HW1.out HW2.out).mono ?_); rw [HC.out]; rintro e w1 ⟨rfl, X1, d1, rfl⟩) | (go_at_call 15; (with_reducible refine (Tab.sane_c _ s.tw zs _ (HT.out.below (by exact bcAll)) HZ.out).mono ?_); rw [HTS.out]; rintro e w2 ⟨rfl, hg⟩; obtain ⟨X2, d2, rfl⟩ := Below.toGrow hg; clear hg) | (go_at_call 16; (with_reducible refine (size_no _ (listG s.gn F) _ (HG.out.below (by exact bcAll)) HGL.out HGS.out).mono ?_); rintro e w3 ⟨rfl, X3, d3, rfl⟩) | (go_at_call 16; (with_reducible refine (size_c _ s.gn F _ (HG.out.below (by exact bcAll)) HGS.out).mono ?_); rintro e w3 ⟨rfl, X3, d3, rfl⟩) | (go_at_call 17; (with_reducible refine (hsane_c _ s.kp L _ (HK.out.below (by exact bcAll)) HKL.out).mono ?_); rintro e w4 ⟨rfl, X4, d4, rfl⟩))
  go_ret
  exact ⟨rfl, (Below.toGrow (by exact bcAll))⟩
set_option maxRecDepth 100000 in
set_option maxHeartbeats 4000000 in
theorem sane_c3 (S : Sn) (w : World) (hr : S.rd w) (hg : S.s.gn ≤ 5000) (hl : S.L.length ≤ 5000) (hz : S.zs.length ≤ 65536) (hW1 : S.s.W ≤ 9223372036854775807) (hW2 : -9223372036854775808 ≤ S.s.W) (h0 : 0 ≤ S.s.dir ∧ S.s.dir ≤ 2) (h1 : Cur.csaneB S.s.x S.s.y S.s.wr S.s.og S.s.fg S.s.bg S.s.fl S.s.g0 S.s.g1 S.s.g2 S.s.g3 S.s.gl S.s.gr S.s.on S.s.H S.s.W S.s.T S.s.B = true) (h2 : Tab.tsaneB S.s.tw S.zs = false) : Calls Tryz.prog 6 #[.agg #[.slice S.s.gA S.s.gn S.s.gc, .int .i64 S.s.x, .int .i64 S.s.y, .bool S.s.wr, .bool S.s.og, .int .i64 S.s.fg, .int .i64 S.s.bg, .int .i64 S.s.fl, .int .u8 S.s.g0, .int .u8 S.s.g1, .int .u8 S.s.g2, .int .u8 S.s.g3, .int .i64 S.s.gl, .int .i64 S.s.gr, .int .i64 S.s.on, .int .i64 S.s.H, .int .i64 S.s.W, .int .i64 S.s.T, .int .i64 S.s.B, .slice S.s.tA S.s.tn S.s.tc, .int .i64 S.s.tw, .slice S.s.kA S.s.kn S.s.kc, .int .i64 S.s.kp, .int .i64 S.s.dir, .bool S.s.ex]] w fun e w' => e = .returned (.bool S.md.sane) ∧ Grew w w' := by
  have HC := Lib.hid h1
  have HTS := Lib.hid h2
  clear h1 h2
  have HW1 := Lib.hid hW1; have HW2 := Lib.hid hW2; have HZ := Lib.hid hz; have HKL := Lib.hid hl; have HG := Lib.hid hr.1; have HT := Lib.hid hr.2.1; have HK := Lib.hid hr.2.2; obtain ⟨s, F, zs, L⟩ := S; have HGL := Lib.hid (show (listG s.gn F).length ≤ 5000 by rw [listG_len]; exact hg); rw [sane_md]; dsimp only at *; clear hr hg hl hz hW1 hW2
  have e1 : decide (s.dir < 0) = false := decide_eq_false (by omega); have e2 : decide (2 < s.dir) = false := decide_eq_false (by omega); have ed : decide (0 ≤ s.dir ∧ s.dir ≤ 2) = true := decide_eq_true (by omega); rw [ed, Bool.true_and]; clear ed h0
  rw [HC.out, HTS.out, Bool.false_and, Bool.and_false]
  go_enter Tryz.func6, Tryz.ntmps6
  go_wp2_with (first | (go_at_call 14; (with_reducible refine (Cur.csane_c _ _ _ _ _ _ _ _ _ _ _ _ _ _ _ _ _ _ _ HW1.out HW2.out).mono ?_); rw [HC.out]; rintro e w1 ⟨rfl, X1, d1, rfl⟩) | (go_at_call 15; (with_reducible refine (Tab.sane_c _ s.tw zs _ (HT.out.below (by exact bcAll)) HZ.out).mono ?_); rw [HTS.out]; rintro e w2 ⟨rfl, hg⟩; obtain ⟨X2, d2, rfl⟩ := Below.toGrow hg; clear hg) | (go_at_call 16; (with_reducible refine (size_no _ (listG s.gn F) _ (HG.out.below (by exact bcAll)) HGL.out HGS.out).mono ?_); rintro e w3 ⟨rfl, X3, d3, rfl⟩) | (go_at_call 16; (with_reducible refine (size_c _ s.gn F _ (HG.out.below (by exact bcAll)) HGS.out).mono ?_); rintro e w3 ⟨rfl, X3, d3, rfl⟩) | (go_at_call 17; (with_reducible refine (hsane_c _ s.kp L _ (HK.out.below (by exact bcAll)) HKL.out).mono ?_); rintro e w4 ⟨rfl, X4, d4, rfl⟩))
  go_ret
  exact ⟨rfl, (Below.toGrow (by exact bcAll))⟩
set_option maxRecDepth 100000 in
set_option maxHeartbeats 4000000 in
theorem sane_c4 (S : Sn) (w : World) (hr : S.rd w) (hg : S.s.gn ≤ 5000) (hl : S.L.length ≤ 5000) (hz : S.zs.length ≤ 65536) (hW1 : S.s.W ≤ 9223372036854775807) (hW2 : -9223372036854775808 ≤ S.s.W) (h0 : 0 ≤ S.s.dir ∧ S.s.dir ≤ 2) (h1 : Cur.csaneB S.s.x S.s.y S.s.wr S.s.og S.s.fg S.s.bg S.s.fl S.s.g0 S.s.g1 S.s.g2 S.s.g3 S.s.gl S.s.gr S.s.on S.s.H S.s.W S.s.T S.s.B = true) (h2 : Tab.tsaneB S.s.tw S.zs = true) (h3 : ¬ S.s.tw = S.s.W) : Calls Tryz.prog 6 #[.agg #[.slice S.s.gA S.s.gn S.s.gc, .int .i64 S.s.x, .int .i64 S.s.y, .bool S.s.wr, .bool S.s.og, .int .i64 S.s.fg, .int .i64 S.s.bg, .int .i64 S.s.fl, .int .u8 S.s.g0, .int .u8 S.s.g1, .int .u8 S.s.g2, .int .u8 S.s.g3, .int .i64 S.s.gl, .int .i64 S.s.gr, .int .i64 S.s.on, .int .i64 S.s.H, .int .i64 S.s.W, .int .i64 S.s.T, .int .i64 S.s.B, .slice S.s.tA S.s.tn S.s.tc, .int .i64 S.s.tw, .slice S.s.kA S.s.kn S.s.kc, .int .i64 S.s.kp, .int .i64 S.s.dir, .bool S.s.ex]] w fun e w' => e = .returned (.bool S.md.sane) ∧ Grew w w' := by
  have HC := Lib.hid h1
  have HTS := Lib.hid h2
  clear h1 h2
  have HW1 := Lib.hid hW1; have HW2 := Lib.hid hW2; have HZ := Lib.hid hz; have HKL := Lib.hid hl; have HG := Lib.hid hr.1; have HT := Lib.hid hr.2.1; have HK := Lib.hid hr.2.2; obtain ⟨s, F, zs, L⟩ := S; have HGL := Lib.hid (show (listG s.gn F).length ≤ 5000 by rw [listG_len]; exact hg); rw [sane_md]; dsimp only at *; clear hr hg hl hz hW1 hW2
  have e1 : decide (s.dir < 0) = false := decide_eq_false (by omega); have e2 : decide (2 < s.dir) = false := decide_eq_false (by omega); have ed : decide (0 ≤ s.dir ∧ s.dir ≤ 2) = true := decide_eq_true (by omega); rw [ed, Bool.true_and]; clear ed h0
  rw [HC.out, HTS.out, decide_eq_false h3, Bool.false_and, Bool.and_false, Bool.and_false]
  have h4 : (s.tw == s.W) = false := by simpa using h3
  have h5 : (s.tw != s.W) = true := by simpa using h3
  clear h3
  go_enter Tryz.func6, Tryz.ntmps6
  go_wp2_with (first | (go_at_call 14; (with_reducible refine (Cur.csane_c _ _ _ _ _ _ _ _ _ _ _ _ _ _ _ _ _ _ _ HW1.out HW2.out).mono ?_); rw [HC.out]; rintro e w1 ⟨rfl, X1, d1, rfl⟩) | (go_at_call 15; (with_reducible refine (Tab.sane_c _ s.tw zs _ (HT.out.below (by exact bcAll)) HZ.out).mono ?_); rw [HTS.out]; rintro e w2 ⟨rfl, hg⟩; obtain ⟨X2, d2, rfl⟩ := Below.toGrow hg; clear hg) | (go_at_call 16; (with_reducible refine (size_no _ (listG s.gn F) _ (HG.out.below (by exact bcAll)) HGL.out HGS.out).mono ?_); rintro e w3 ⟨rfl, X3, d3, rfl⟩) | (go_at_call 16; (with_reducible refine (size_c _ s.gn F _ (HG.out.below (by exact bcAll)) HGS.out).mono ?_); rintro e w3 ⟨rfl, X3, d3, rfl⟩) | (go_at_call 17; (with_reducible refine (hsane_c _ s.kp L _ (HK.out.below (by exact bcAll)) HKL.out).mono ?_); rintro e w4 ⟨rfl, X4, d4, rfl⟩))
  go_ret
  exact ⟨rfl, (Below.toGrow (by exact bcAll))⟩
set_option maxRecDepth 100000 in
set_option maxHeartbeats 4000000 in
theorem sane_c5 (S : Sn) (w : World) (hr : S.rd w) (hg : S.s.gn ≤ 5000) (hl : S.L.length ≤ 5000) (hz : S.zs.length ≤ 65536) (hW1 : S.s.W ≤ 9223372036854775807) (hW2 : -9223372036854775808 ≤ S.s.W) (h0 : 0 ≤ S.s.dir ∧ S.s.dir ≤ 2) (h1 : Cur.csaneB S.s.x S.s.y S.s.wr S.s.og S.s.fg S.s.bg S.s.fl S.s.g0 S.s.g1 S.s.g2 S.s.g3 S.s.gl S.s.gr S.s.on S.s.H S.s.W S.s.T S.s.B = true) (h2 : Tab.tsaneB S.s.tw S.zs = true) (h3 : S.s.tw = S.s.W) (h4 : gsaneB (listG S.s.gn S.F) = false) : Calls Tryz.prog 6 #[.agg #[.slice S.s.gA S.s.gn S.s.gc, .int .i64 S.s.x, .int .i64 S.s.y, .bool S.s.wr, .bool S.s.og, .int .i64 S.s.fg, .int .i64 S.s.bg, .int .i64 S.s.fl, .int .u8 S.s.g0, .int .u8 S.s.g1, .int .u8 S.s.g2, .int .u8 S.s.g3, .int .i64 S.s.gl, .int .i64 S.s.gr, .int .i64 S.s.on, .int .i64 S.s.H, .int .i64 S.s.W, .int .i64 S.s.T, .int .i64 S.s.B, .slice S.s.tA S.s.tn S.s.tc, .int .i64 S.s.tw, .slice S.s.kA S.s.kn S.s.kc, .int .i64 S.s.kp, .int .i64 S.s.dir, .bool S.s.ex]] w fun e w' => e = .returned (.bool S.md.sane) ∧ Grew w w' := by
  have HC := Lib.hid h1
  have HTS := Lib.hid h2
  have HGS := Lib.hid h4
  have hf := Cur.facts h1
  have k1 := hf.h1
  clear h1 h2 h4 hf
  have HW1 := Lib.hid hW1; have HW2 := Lib.hid hW2; have HZ := Lib.hid hz; have HKL := Lib.hid hl; have HG := Lib.hid hr.1; have HT := Lib.hid hr.2.1; have HK := Lib.hid hr.2.2; obtain ⟨s, F, zs, L⟩ := S; have HGL := Lib.hid (show (listG s.gn F).length ≤ 5000 by rw [listG_len]; exact hg); rw [sane_md]; dsimp only at *; clear hr hg hl hz hW1 hW2
  have e1 : decide (s.dir < 0) = false := decide_eq_false (by omega); have e2 : decide (2 < s.dir) = false := decide_eq_false (by omega); have ed : decide (0 ≤ s.dir ∧ s.dir ≤ 2) = true := decide_eq_true (by omega); rw [ed, Bool.true_and]; clear ed h0
  rw [HC.out, HTS.out, HGS.out, decide_eq_true h3, Bool.false_and, Bool.and_false, Bool.and_false, Bool.and_false]
  have h5 : (s.tw != s.W) = false := by simpa using h3
  have h6 : ((0 : Int) != s.H) = true := by simp; omega
  clear h3
  go_enter Tryz.func6, Tryz.ntmps6
  go_wp2_with (first | (go_at_call 14; (with_reducible refine (Cur.csane_c _ _ _ _ _ _ _ _ _ _ _ _ _ _ _ _ _ _ _ HW1.out HW2.out).mono ?_); rw [HC.out]; rintro e w1 ⟨rfl, X1, d1, rfl⟩) | (go_at_call 15; (with_reducible refine (Tab.sane_c _ s.tw zs _ (HT.out.below (by exact bcAll)) HZ.out).mono ?_); rw [HTS.out]; rintro e w2 ⟨rfl, hg⟩; obtain ⟨X2, d2, rfl⟩ := Below.toGrow hg; clear hg) | (go_at_call 16; (with_reducible refine (size_no _ (listG s.gn F) _ (HG.out.below (by exact bcAll)) HGL.out HGS.out).mono ?_); rintro e w3 ⟨rfl, X3, d3, rfl⟩) | (go_at_call 16; (with_reducible refine (size_c _ s.gn F _ (HG.out.below (by exact bcAll)) HGS.out).mono ?_); rintro e w3 ⟨rfl, X3, d3, rfl⟩) | (go_at_call 17; (with_reducible refine (hsane_c _ s.kp L _ (HK.out.below (by exact bcAll)) HKL.out).mono ?_); rintro e w4 ⟨rfl, X4, d4, rfl⟩))
  go_ret
  exact ⟨rfl, (Below.toGrow (by exact bcAll))⟩
set_option maxRecDepth 100000 in
set_option maxHeartbeats 4000000 in
theorem sane_c6 (S : Sn) (w : World) (hr : S.rd w) (hg : S.s.gn ≤ 5000) (hl : S.L.length ≤ 5000) (hz : S.zs.length ≤ 65536) (hW1 : S.s.W ≤ 9223372036854775807) (hW2 : -9223372036854775808 ≤ S.s.W) (h0 : 0 ≤ S.s.dir ∧ S.s.dir ≤ 2) (h1 : Cur.csaneB S.s.x S.s.y S.s.wr S.s.og S.s.fg S.s.bg S.s.fl S.s.g0 S.s.g1 S.s.g2 S.s.g3 S.s.gl S.s.gr S.s.on S.s.H S.s.W S.s.T S.s.B = true) (h2 : Tab.tsaneB S.s.tw S.zs = true) (h3 : S.s.tw = S.s.W) (h4 : gsaneB (listG S.s.gn S.F) = true) (h5 : ¬ ((S.s.gn : Int) = S.s.H ∧ ((S.F 0).n : Int) = S.s.W)) : Calls Tryz.prog 6 #[.agg #[.slice S.s.gA S.s.gn S.s.gc, .int .i64 S.s.x, .int .i64 S.s.y, .bool S.s.wr, .bool S.s.og, .int .i64 S.s.fg, .int .i64 S.s.bg, .int .i64 S.s.fl, .int .u8 S.s.g0, .int .u8 S.s.g1, .int .u8 S.s.g2, .int .u8 S.s.g3, .int .i64 S.s.gl, .int .i64 S.s.gr, .int .i64 S.s.on, .int .i64 S.s.H, .int .i64 S.s.W, .int .i64 S.s.T, .int .i64 S.s.B, .slice S.s.tA S.s.tn S.s.tc, .int .i64 S.s.tw, .slice S.s.kA S.s.kn S.s.kc, .int .i64 S.s.kp, .int .i64 S.s.dir, .bool S.s.ex]] w fun e w' => e = .returned (.bool S.md.sane) ∧ Grew w w' := by
  have HC := Lib.hid h1
  have HTS := Lib.hid h2
  have HGS := Lib.hid h4
  clear h1 h2 h4
  have HW1 := Lib.hid hW1; have HW2 := Lib.hid hW2; have HZ := Lib.hid hz; have HKL := Lib.hid hl; have HG := Lib.hid hr.1; have HT := Lib.hid hr.2.1; have HK := Lib.hid hr.2.2; obtain ⟨s, F, zs, L⟩ := S; have HGL := Lib.hid (show (listG s.gn F).length ≤ 5000 by rw [listG_len]; exact hg); rw [sane_md]; dsimp only at *; clear hr hg hl hz hW1 hW2
  have e1 : decide (s.dir < 0) = false := decide_eq_false (by omega); have e2 : decide (2 < s.dir) = false := decide_eq_false (by omega); have ed : decide (0 ≤ s.dir ∧ s.dir ≤ 2) = true := decide_eq_true (by omega); rw [ed, Bool.true_and]; clear ed h0
  rw [HC.out, HTS.out, HGS.out, decide_eq_true h3, decide_eq_false h5, Bool.false_and, Bool.and_false, Bool.and_false, Bool.and_false, Bool.and_false]
  have h6 : (s.tw != s.W) = false := by simpa using h3
  clear h3
  by_cases h7 : (s.gn : Int) = s.H
  · have h8 : ¬ ((F 0).n : Int) = s.W := fun h => h5 ⟨h7, h⟩
    have h9 : ((s.gn : Int) != s.H) = false := by simpa using h7
    have h10 : (((F 0).n : Int) != s.W) = true := by simpa using h8
    clear h5 h7 h8
    go_enter Tryz.func6, Tryz.ntmps6
    go_wp2_with (first | (go_at_call 14; (with_reducible refine (Cur.csane_c _ _ _ _ _ _ _ _ _ _ _ _ _ _ _ _ _ _ _ HW1.out HW2.out).mono ?_); rw [HC.out]; rintro e w1 ⟨rfl, X1, d1, rfl⟩) | (go_at_call 15; (with_reducible refine (Tab.sane_c _ s.tw zs _ (HT.out.below (by exact bcAll)) HZ.out).mono ?_); rw [HTS.out]; rintro e w2 ⟨rfl, hg⟩; obtain ⟨X2, d2, rfl⟩ := Below.toGrow hg; clear hg) | (go_at_call 16; (with_reducible refine (size_no _ (listG s.gn F) _ (HG.out.below (by exact bcAll)) HGL.out HGS.out).mono ?_); rintro e w3 ⟨rfl, X3, d3, rfl⟩) | (go_at_call 16; (with_reducible refine (size_c _ s.gn F _ (HG.out.below (by exact bcAll)) HGS.out).mono ?_); rintro e w3 ⟨rfl, X3, d3, rfl⟩) | (go_at_call 17; (with_reducible refine (hsane_c _ s.kp L _ (HK.out.below (by exact bcAll)) HKL.out).mono ?_); rintro e w4 ⟨rfl, X4, d4, rfl⟩))
    go_ret
    exact ⟨rfl, (Below.toGrow (by exact bcAll))⟩
  · have h9 : ((s.gn : Int) != s.H) = true := by simpa using h7
    clear h5 h7
    go_enter Tryz.func6, Tryz.ntmps6
    go_wp2_with (first | (go_at_call 14; (with_reducible refine (Cur.csane_c _ _ _ _ _ _ _ _ _ _ _ _ _ _ _ _ _ _ _ HW1.out HW2.out).mono ?_); rw [HC.out]; rintro e w1 ⟨rfl, X1, d1, rfl⟩) | (go_at_call 15; (with_reducible refine (Tab.sane_c _ s.tw zs _ (HT.out.below (by exact bcAll)) HZ.out).mono ?_); rw [HTS.out]; rintro e w2 ⟨rfl, hg⟩; obtain ⟨X2, d2, rfl⟩ := Below.toGrow hg; clear hg) | (go_at_call 16; (with_reducible refine (size_no _ (listG s.gn F) _ (HG.out.below (by exact bcAll)) HGL.out HGS.out).mono ?_); rintro e w3 ⟨rfl, X3, d3, rfl⟩) | (go_at_call 16; (with_reducible refine (size_c _ s.gn F _ (HG.out.below (by exact bcAll)) HGS.out).mono ?_); rintro e w3 ⟨rfl, X3, d3, rfl⟩) | (go_at_call 17; (with_reducible refine (hsane_c _ s.kp L _ (HK.out.below (by exact bcAll)) HKL.out).mono ?_); rintro e w4 ⟨rfl, X4, d4, rfl⟩))
    go_ret
    exact ⟨rfl, (Below.toGrow (by exact bcAll))⟩
set_option maxRecDepth 100000 in
set_option maxHeartbeats 4000000 in
theorem sane_c7 (S : Sn) (w : World) (hr : S.rd w) (hg : S.s.gn ≤ 5000) (hl : S.L.length ≤ 5000) (hz : S.zs.length ≤ 65536) (hW1 : S.s.W ≤ 9223372036854775807) (hW2 : -9223372036854775808 ≤ S.s.W) (h0 : 0 ≤ S.s.dir ∧ S.s.dir ≤ 2) (h1 : Cur.csaneB S.s.x S.s.y S.s.wr S.s.og S.s.fg S.s.bg S.s.fl S.s.g0 S.s.g1 S.s.g2 S.s.g3 S.s.gl S.s.gr S.s.on S.s.H S.s.W S.s.T S.s.B = true) (h2 : Tab.tsaneB S.s.tw S.zs = true) (h3 : S.s.tw = S.s.W) (h4 : gsaneB (listG S.s.gn S.F) = true) (h5 : (S.s.gn : Int) = S.s.H ∧ ((S.F 0).n : Int) = S.s.W) : Calls Tryz.prog 6 #[.agg #[.slice S.s.gA S.s.gn S.s.gc, .int .i64 S.s.x, .int .i64 S.s.y, .bool S.s.wr, .bool S.s.og, .int .i64 S.s.fg, .int .i64 S.s.bg, .int .i64 S.s.fl, .int .u8 S.s.g0, .int .u8 S.s.g1, .int .u8 S.s.g2, .int .u8 S.s.g3, .int .i64 S.s.gl, .int .i64 S.s.gr, .int .i64 S.s.on, .int .i64 S.s.H, .int .i64 S.s.W, .int .i64 S.s.T, .int .i64 S.s.B, .slice S.s.tA S.s.tn S.s.tc, .int .i64 S.s.tw, .slice S.s.kA S.s.kn S.s.kc, .int .i64 S.s.kp, .int .i64 S.s.dir, .bool S.s.ex]] w fun e w' => e = .returned (.bool S.md.sane) ∧ Grew w w' := by
  have HC := Lib.hid h1
  have HTS := Lib.hid h2
  have HGS := Lib.hid h4
  clear h1 h2 h4
  have HW1 := Lib.hid hW1; have HW2 := Lib.hid hW2; have HZ := Lib.hid hz; have HKL := Lib.hid hl; have HG := Lib.hid hr.1; have HT := Lib.hid hr.2.1; have HK := Lib.hid hr.2.2; obtain ⟨s, F, zs, L⟩ := S; have HGL := Lib.hid (show (listG s.gn F).length ≤ 5000 by rw [listG_len]; exact hg); rw [sane_md]; dsimp only at *; clear hr hg hl hz hW1 hW2
  have e1 : decide (s.dir < 0) = false := decide_eq_false (by omega); have e2 : decide (2 < s.dir) = false := decide_eq_false (by omega); have ed : decide (0 ≤ s.dir ∧ s.dir ≤ 2) = true := decide_eq_true (by omega); rw [ed, Bool.true_and]; clear ed h0
  rw [HC.out, HTS.out, HGS.out, decide_eq_true h3, decide_eq_true h5, Bool.true_and, Bool.true_and, Bool.true_and, Bool.true_and, Bool.true_and]
  have h6 : (s.tw != s.W) = false := by simpa using h3
  have h7 : ((s.gn : Int) != s.H) = false := by simpa using h5.1
  have h8 : (((F 0).n : Int) != s.W) = false := by simpa using h5.2
  clear h3 h5
  go_enter Tryz.func6, Tryz.ntmps6
  go_wp2_with (first | (go_at_call 14; (with_reducible refine (Cur.csane_c _ _ _ _ _ _ _ _ _ _ _ _ _ _ _ _ _ _ _ HW1.out HW2.out).mono ?_); rw [HC.out]; rintro e w1 ⟨rfl, X1, d1, rfl⟩) | (go_at_call 15; (with_reducible refine (Tab.sane_c _ s.tw zs _ (HT.out.below (by exact bcAll)) HZ.out).mono ?_); rw [HTS.out]; rintro e w2 ⟨rfl, hg⟩; obtain ⟨X2, d2, rfl⟩ := Below.toGrow hg; clear hg) | (go_at_call 16; (with_reducible refine (size_no _ (listG s.gn F) _ (HG.out.below (by exact bcAll)) HGL.out HGS.out).mono ?_); rintro e w3 ⟨rfl, X3, d3, rfl⟩) | (go_at_call 16; (with_reducible refine (size_c _ s.gn F _ (HG.out.below (by exact bcAll)) HGS.out).mono ?_); rintro e w3 ⟨rfl, X3, d3, rfl⟩) | (go_at_call 17; (with_reducible refine (hsane_c _ s.kp L _ (HK.out.below (by exact bcAll)) HKL.out).mono ?_); rintro e w4 ⟨rfl, X4, d4, rfl⟩))
  go_ret
  exact ⟨rfl, (Below.toGrow (by exact bcAll))⟩
theorem sane_c (S : Sn) (w : World) (hr : S.rd w) (hg : S.s.gn ≤ 5000) (hl : S.L.length ≤ 5000) (hz : S.zs.length ≤ 65536) (hW1 : S.s.W ≤ 9223372036854775807) (hW2 : -9223372036854775808 ≤ S.s.W) : Calls Tryz.prog 6 #[.agg #[.slice S.s.gA S.s.gn S.s.gc, .int .i64 S.s.x, .int .i64 S.s.y, .bool S.s.wr, .bool S.s.og, .int .i64 S.s.fg, .int .i64 S.s.bg, .int .i64 S.s.fl, .int .u8 S.s.g0, .int .u8 S.s.g1, .int .u8 S.s.g2, .int .u8 S.s.g3, .int .i64 S.s.gl, .int .i64 S.s.gr, .int .i64 S.s.on, .int .i64 S.s.H, .int .i64 S.s.W, .int .i64 S.s.T, .int .i64 S.s.B, .slice S.s.tA S.s.tn S.s.tc, .int .i64 S.s.tw, .slice S.s.kA S.s.kn S.s.kc, .int .i64 S.s.kp, .int .i64 S.s.dir, .bool S.s.ex]] w fun e w' => e = .returned (.bool S.md.sane) ∧ Grew w w' := by
  by_cases h0 : 0 ≤ S.s.dir ∧ S.s.dir ≤ 2
  · by_cases h1 : Cur.csaneB S.s.x S.s.y S.s.wr S.s.og S.s.fg S.s.bg S.s.fl S.s.g0 S.s.g1 S.s.g2 S.s.g3 S.s.gl S.s.gr S.s.on S.s.H S.s.W S.s.T S.s.B = true
    · by_cases h2 : Tab.tsaneB S.s.tw S.zs = true
      · by_cases h3 : S.s.tw = S.s.W
        · by_cases h4 : gsaneB (listG S.s.gn S.F) = true
          · by_cases h5 : (S.s.gn : Int) = S.s.H ∧ ((S.F 0).n : Int) = S.s.W
            · exact sane_c7 S w hr hg hl hz hW1 hW2 h0 h1 h2 h3 h4 h5
            · exact sane_c6 S w hr hg hl hz hW1 hW2 h0 h1 h2 h3 h4 h5
          · exact sane_c5 S w hr hg hl hz hW1 hW2 h0 h1 h2 h3 (by simpa using h4)
        · exact sane_c4 S w hr hg hl hz hW1 hW2 h0 h1 h2 h3
      · exact sane_c3 S w hr hg hl hz hW1 hW2 h0 h1 (by simpa using h2)
    · exact sane_c2 S w hr hg hl hz hW1 hW2 h0 (by simpa using h1)
  · exact sane_c1 S w hr hg hl hz hW1 hW2 (by omega)
theorem okL_len {W : Int} : ∀ (zs : List Int) (p : Int), p < W → Tab.okL p W zs = true → p + (zs.length : Int) < W
  | [], p, hp, _ => by simpa using hp
  | z :: zs, p, hp, h => by
    unfold Tab.okL at h
    simp only [Bool.and_eq_true, decide_eq_true_eq] at h
    have := okL_len zs z h.1.2 h.2
    simp only [List.length_cons]
    omega
theorem Md.Ok.stops {m : Md} (h : m.Ok) : m.zs.length ≤ 4096 := by
  obtain ⟨⟨h1, h2⟩, h3⟩ := Tab.tsane_iff.1 h.tb
  have := okL_len m.zs (-1) (by omega) h3
  omega
theorem Md.Ok.kept {m : Md} (h : m.Ok) : m.K.length ≤ 200 := by
  have := h.hs
  unfold hsC at this
  have := of_decide_eq_true this
  omega
/-- .. of one that may be -/
theorem sane_ok (S : Sn) (w : World) (hr : S.rd w) (hs : S.md.Ok) : Calls Tryz.prog 6 #[.agg #[.slice S.s.gA S.s.gn S.s.gc, .int .i64 S.s.x, .int .i64 S.s.y, .bool S.s.wr, .bool S.s.og, .int .i64 S.s.fg, .int .i64 S.s.bg, .int .i64 S.s.fl, .int .u8 S.s.g0, .int .u8 S.s.g1, .int .u8 S.s.g2, .int .u8 S.s.g3, .int .i64 S.s.gl, .int .i64 S.s.gr, .int .i64 S.s.on, .int .i64 S.s.H, .int .i64 S.s.W, .int .i64 S.s.T, .int .i64 S.s.B, .slice S.s.tA S.s.tn S.s.tc, .int .i64 S.s.tw, .slice S.s.kA S.s.kn S.s.kc, .int .i64 S.s.kp, .int .i64 S.s.dir, .bool S.s.ex]] w fun e w' => e = .returned (.bool true) ∧ Grew w w' := by
  have hf := hs.cf
  have h1 := hs.stops
  have h2 := hs.kept
  obtain ⟨s, F, zs, L⟩ := S
  simp only [Sn.md, List.length_map] at hf h1 h2
  have h3 : s.gn ≤ 5000 := by
    have := hf.h2
    have h := hs.nH
    simp only [Sn.md] at h
    omega
  have h := sane_c ⟨s, F, zs, L⟩ w hr h3 (by show L.length ≤ _; omega) (by show zs.length ≤ _; omega) (by have := hf.w2; show s.W ≤ _; omega) (by have := hf.w1; show _ ≤ s.W; omega)
  rw [Md.sane_iff.2 hs] at h
  exact h
end Go.Proofs.YtlchffkabpfjpaaGreat.Scr
