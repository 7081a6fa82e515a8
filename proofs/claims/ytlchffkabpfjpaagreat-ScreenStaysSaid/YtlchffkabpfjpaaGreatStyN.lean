/- lapwinglaw15.rest, do: what is done leaves a screen that may be. -/
import Derived.Test.YtlchffkabpfjpaaGreatStyD
import Derived.Test.YtlchffkabpfjpaaGreatStyE
import Derived.Test.YtlchffkabpfjpaaGreatStyF
import Derived.Test.YtlchffkabpfjpaaGreatJD
import Derived.Test.YtlchffkabpfjpaaGreatStyI
import Derived.Test.YtlchffkabpfjpaaGreatStyJ
import Derived.Test.YtlchffkabpfjpaaGreatStyL
import Derived.Test.YtlchffkabpfjpaaGreatRszT
namespace Go.Proofs.YtlchffkabpfjpaaGreat.Scr
open Go.RowKit Go.Proofs.YtlchffkabpfjpaaGreat.Row
attribute [local go_sem ↓] scr_load_pre scr_store_pre
attribute [local go_sem] scr_cell scr_frozen
/-- what a call leaves: it may be, is of the same size and margins (but by Resize), pen and direction -/
structure Stz (o : Int) (m m' : Md) : Prop where
  ok : m'.Ok
  sz : o = 13 ∨ (m'.H = m.H ∧ m'.W = m.W ∧ m'.T = m.T ∧ m'.B = m.B)
  fg : m'.fg = m.fg
  bg : m'.bg = m.bg
  fl : m'.fl = m.fl
  dir : m'.dir = m.dir
theorem Sty.z {m m' : Md} (h : Sty m m') (o : Int) : Stz o m m' := ⟨h.ok, .inr ⟨h.H, h.W, h.T, h.B⟩, h.fg, h.bg, h.fl, h.dir⟩
theorem SPost.z {S : Sn} {w w' : World} {e : Ending} (o : Int) (h : SPost S w (Sty S.md) e w') : SPost S w (Stz o S.md) e w' := by
  obtain ⟨S', a, b, c, d, f⟩ := h
  exact ⟨S', a, b, c, d.z o, f⟩
theorem SPost.ez {S : Sn} {w w' : World} {e : Ending} (o : Int) (h : SPost S w (ErL S.md) e w') : SPost S w (Stz o S.md) e w' := by
  obtain ⟨S', a, b, c, d, f⟩ := h
  exact ⟨S', a, b, c, d.1.z o, f⟩
theorem Resize_z (S : Sn) (a b : Int) (w : World) (hs : S.md.Ok) (hr : S.rd w) (hsz : S.s.gn * S.s.W.toNat ≤ 90000) :
    Calls Tryz.prog 59 #[.agg #[.slice S.s.gA S.s.gn S.s.gc, .int .i64 S.s.x, .int .i64 S.s.y, .bool S.s.wr, .bool S.s.og, .int .i64 S.s.fg, .int .i64 S.s.bg, .int .i64 S.s.fl, .int .u8 S.s.g0, .int .u8 S.s.g1, .int .u8 S.s.g2, .int .u8 S.s.g3, .int .i64 S.s.gl, .int .i64 S.s.gr, .int .i64 S.s.on, .int .i64 S.s.H, .int .i64 S.s.W, .int .i64 S.s.T, .int .i64 S.s.B, .slice S.s.tA S.s.tn S.s.tc, .int .i64 S.s.tw, .slice S.s.kA S.s.kn S.s.kc, .int .i64 S.s.kp, .int .i64 S.s.dir, .bool S.s.ex], .int .i64 a, .int .i64 b] w (SPost S w (Stz 13 S.md)) := by
  obtain ⟨h, hh⟩ : ∃ h : Nat, max 1 (min a 1000) = (h : Int) := ⟨(max 1 (min a 1000)).toNat, by omega⟩
  obtain ⟨q, hq⟩ : ∃ q : Nat, max 1 (min b 4096) = (q : Int) := ⟨(max 1 (min b 4096)).toNat, by omega⟩
  refine (Resize_any S a b h q w hs hr hh hq hsz).mono ?_
  rintro e w' ⟨S', h1, h2, h3, h4, h5⟩
  refine ⟨S', h1, h2, h3, ?_, h5⟩
  rcases h4 with ⟨-, -, e⟩ | ⟨k, R, Y, X, gone, z⟩
  · rw [e]
    exact (Sty.refl hs).z 13
  · exact ⟨z.ok hs (by omega) (by omega), .inl rfl, z.pen.1, z.pen.2.1, z.pen.2.2, z.dir⟩
/-- the boxes of do and rest: the screen's, the thing's, the result's -/
def A0 (S : Sn) (o a b : Int) (i u : Bool) (p q r : Int) (w wc : World) : Prop := WS w.heap.size (w.heap.size + 2) 3 S w wc S ∧ Blk wc (w.heap.size + 1) 42 #[.int .i64 o, .int .i64 a, .int .i64 b, .bool i, .bool u, .int .i64 p, .int .i64 q, .int .i64 r] ∧ w.heap.size + 3 ≤ wc.heap.size
theorem a0_start {S : Sn} {o a b : Int} {i u : Bool} {p q r : Int} {w : World} (hr : S.rd w) : A0 S o a b i u p q r w (((w.alloc (.cells #[.slice S.s.gA S.s.gn S.s.gc, .int .i64 S.s.x, .int .i64 S.s.y, .bool S.s.wr, .bool S.s.og, .int .i64 S.s.fg, .int .i64 S.s.bg, .int .i64 S.s.fl, .int .u8 S.s.g0, .int .u8 S.s.g1, .int .u8 S.s.g2, .int .u8 S.s.g3, .int .i64 S.s.gl, .int .i64 S.s.gr, .int .i64 S.s.on, .int .i64 S.s.H, .int .i64 S.s.W, .int .i64 S.s.T, .int .i64 S.s.B, .slice S.s.tA S.s.tn S.s.tc, .int .i64 S.s.tw, .slice S.s.kA S.s.kn S.s.kc, .int .i64 S.s.kp, .int .i64 S.s.dir, .bool S.s.ex] 54)).alloc (.cells #[.int .i64 o, .int .i64 a, .int .i64 b, .bool i, .bool u, .int .i64 p, .int .i64 q, .int .i64 r] 42)).alloc (.cells #[.slice dummy.gA dummy.gn dummy.gc, .int .i64 dummy.x, .int .i64 dummy.y, .bool dummy.wr, .bool dummy.og, .int .i64 dummy.fg, .int .i64 dummy.bg, .int .i64 dummy.fl, .int .u8 dummy.g0, .int .u8 dummy.g1, .int .u8 dummy.g2, .int .u8 dummy.g3, .int .i64 dummy.gl, .int .i64 dummy.gr, .int .i64 dummy.on, .int .i64 dummy.H, .int .i64 dummy.W, .int .i64 dummy.T, .int .i64 dummy.B, .slice dummy.tA dummy.tn dummy.tc, .int .i64 dummy.tw, .slice dummy.kA dummy.kn dummy.kc, .int .i64 dummy.kp, .int .i64 dummy.dir, .bool dummy.ex] 54)) := by
  have hb : Below w.heap.size w (((w.alloc (.cells #[.slice S.s.gA S.s.gn S.s.gc, .int .i64 S.s.x, .int .i64 S.s.y, .bool S.s.wr, .bool S.s.og, .int .i64 S.s.fg, .int .i64 S.s.bg, .int .i64 S.s.fl, .int .u8 S.s.g0, .int .u8 S.s.g1, .int .u8 S.s.g2, .int .u8 S.s.g3, .int .i64 S.s.gl, .int .i64 S.s.gr, .int .i64 S.s.on, .int .i64 S.s.H, .int .i64 S.s.W, .int .i64 S.s.T, .int .i64 S.s.B, .slice S.s.tA S.s.tn S.s.tc, .int .i64 S.s.tw, .slice S.s.kA S.s.kn S.s.kc, .int .i64 S.s.kp, .int .i64 S.s.dir, .bool S.s.ex] 54)).alloc (.cells #[.int .i64 o, .int .i64 a, .int .i64 b, .bool i, .bool u, .int .i64 p, .int .i64 q, .int .i64 r] 42)).alloc (.cells #[.slice dummy.gA dummy.gn dummy.gc, .int .i64 dummy.x, .int .i64 dummy.y, .bool dummy.wr, .bool dummy.og, .int .i64 dummy.fg, .int .i64 dummy.bg, .int .i64 dummy.fl, .int .u8 dummy.g0, .int .u8 dummy.g1, .int .u8 dummy.g2, .int .u8 dummy.g3, .int .i64 dummy.gl, .int .i64 dummy.gr, .int .i64 dummy.on, .int .i64 dummy.H, .int .i64 dummy.W, .int .i64 dummy.T, .int .i64 dummy.B, .slice dummy.tA dummy.tn dummy.tc, .int .i64 dummy.tw, .slice dummy.kA dummy.kn dummy.kc, .int .i64 dummy.kp, .int .i64 dummy.dir, .bool dummy.ex] 54)) := by exact bcAll
  exact ⟨⟨⟨hb, ((Blk.new _ _ _).alloc _).alloc _, ⟨dummy, Blk.new_at (by simp)⟩, Nat.le_refl _, by omega, by omega⟩, Vt.start 3 hr hb⟩, (Blk.new_at (by simp)).alloc _, by simp⟩
theorem A0.facts {S : Sn} {o a b : Int} {i u : Bool} {p q r : Int} {w wc : World} (h : A0 S o a b i u p q r w wc) : wc.cell? ⟨w.heap.size + 1, 0, none⟩ = some (.int .i64 o) ∧ wc.cell? ⟨w.heap.size + 1, 1, none⟩ = some (.int .i64 a) ∧ wc.cell? ⟨w.heap.size + 1, 2, none⟩ = some (.int .i64 b) ∧ wc.cell? ⟨w.heap.size + 1, 3, none⟩ = some (.bool i) ∧ wc.cell? ⟨w.heap.size + 1, 4, none⟩ = some (.bool u) ∧ wc.cell? ⟨w.heap.size + 1, 5, none⟩ = some (.int .i64 p) ∧ wc.cell? ⟨w.heap.size + 1, 6, none⟩ = some (.int .i64 q) ∧ wc.cell? ⟨w.heap.size + 1, 7, none⟩ = some (.int .i64 r) ∧ (∀ i, wc.frozen? ⟨w.heap.size + 1, i, none⟩ = false) ∧ w.heap.size + 1 < wc.heap.size :=
  ⟨h.2.1.cell 0, h.2.1.cell 1, h.2.1.cell 2, h.2.1.cell 3, h.2.1.cell 4, h.2.1.cell 5, h.2.1.cell 6, h.2.1.cell 7, h.2.1.frozen, h.2.1.lt⟩
set_option maxRecDepth 100000 in
set_option maxHeartbeats 4000000 in
theorem rest_7 (S : Sn) (a b : Int) (i u : Bool) (p q r : Int) (w : World) (hs : S.md.Ok) (hr : S.rd w) (hsz : S.s.gn * S.s.W.toNat ≤ 90000) (ha1 : -9223372036854775808 ≤ a) (ha2 : a ≤ 9223372036854775807) : Calls Tryz.prog 25 #[.agg #[.slice S.s.gA S.s.gn S.s.gc, .int .i64 S.s.x, .int .i64 S.s.y, .bool S.s.wr, .bool S.s.og, .int .i64 S.s.fg, .int .i64 S.s.bg, .int .i64 S.s.fl, .int .u8 S.s.g0, .int .u8 S.s.g1, .int .u8 S.s.g2, .int .u8 S.s.g3, .int .i64 S.s.gl, .int .i64 S.s.gr, .int .i64 S.s.on, .int .i64 S.s.H, .int .i64 S.s.W, .int .i64 S.s.T, .int .i64 S.s.B, .slice S.s.tA S.s.tn S.s.tc, .int .i64 S.s.tw, .slice S.s.kA S.s.kn S.s.kc, .int .i64 S.s.kp, .int .i64 S.s.dir, .bool S.s.ex], .agg #[.int .i64 7, .int .i64 a, .int .i64 b, .bool i, .bool u, .int .i64 p, .int .i64 q, .int .i64 r]] w (SPost S w (Stz 7 S.md)) := by
  have HA1 := Lib.hid ha1; have HA2 := Lib.hid ha2; clear ha1 ha2; have HR := Lib.hid hr; have HS := Lib.hid hs; have HZ := Lib.hid hsz; obtain ⟨s, F, zs, L⟩ := S; clear hr hs hsz; dsimp only at *
  go_enter Tryz.func25, Tryz.ntmps25; go_upto_region 1 with fail; generalize hW : World.alloc _ _ = W; have hD : A0 ⟨s, F, zs, L⟩ 7 a b i u p q r w W := (by rw [← hW]; exact a0_start HR.out); clear hW; have hX := hD.1; have hLT := hD.2.2; obtain ⟨a0, a1, a2, a3, a4, a5, a6, a7, af, al⟩ := hD.facts; clear hD
  go_wp2_with (refine hX.wload rfl rfl rfl ?_)
  (with_reducible refine (InsertCells_c ⟨s, F, zs, L⟩ a _ HS.out hX.v.rd).mono ?_)
  intro e w3 hp
  replace hp := hp.z 7
  obtain ⟨S1, rfl, hX3, hV3, hm1, hz3⟩ := hX.post hLT hp
  clear hp a0 a1 a2 a3 a4 a5 a6 a7 af al hX
  go_wp2_with (first | (refine hX3.wload rfl rfl rfl ?_) | (refine hX3.wstore hV3 (by rfl) (by rfl) (by rfl) (by rfl) (by rfl) ?_)); exact bodyPost_ret (results_scr rfl rfl (hX3.res hV3)) rfl (hX3.fin hV3 (by omega) hm1)
set_option maxRecDepth 100000 in
set_option maxHeartbeats 4000000 in
theorem rest_8 (S : Sn) (a b : Int) (i u : Bool) (p q r : Int) (w : World) (hs : S.md.Ok) (hr : S.rd w) (hsz : S.s.gn * S.s.W.toNat ≤ 90000) (ha1 : -9223372036854775808 ≤ a) (ha2 : a ≤ 9223372036854775807) : Calls Tryz.prog 25 #[.agg #[.slice S.s.gA S.s.gn S.s.gc, .int .i64 S.s.x, .int .i64 S.s.y, .bool S.s.wr, .bool S.s.og, .int .i64 S.s.fg, .int .i64 S.s.bg, .int .i64 S.s.fl, .int .u8 S.s.g0, .int .u8 S.s.g1, .int .u8 S.s.g2, .int .u8 S.s.g3, .int .i64 S.s.gl, .int .i64 S.s.gr, .int .i64 S.s.on, .int .i64 S.s.H, .int .i64 S.s.W, .int .i64 S.s.T, .int .i64 S.s.B, .slice S.s.tA S.s.tn S.s.tc, .int .i64 S.s.tw, .slice S.s.kA S.s.kn S.s.kc, .int .i64 S.s.kp, .int .i64 S.s.dir, .bool S.s.ex], .agg #[.int .i64 8, .int .i64 a, .int .i64 b, .bool i, .bool u, .int .i64 p, .int .i64 q, .int .i64 r]] w (SPost S w (Stz 8 S.md)) := by
  have HA1 := Lib.hid ha1; have HA2 := Lib.hid ha2; clear ha1 ha2; have HR := Lib.hid hr; have HS := Lib.hid hs; have HZ := Lib.hid hsz; obtain ⟨s, F, zs, L⟩ := S; clear hr hs hsz; dsimp only at *
  go_enter Tryz.func25, Tryz.ntmps25; go_upto_region 1 with fail; generalize hW : World.alloc _ _ = W; have hD : A0 ⟨s, F, zs, L⟩ 8 a b i u p q r w W := (by rw [← hW]; exact a0_start HR.out); clear hW; have hX := hD.1; have hLT := hD.2.2; obtain ⟨a0, a1, a2, a3, a4, a5, a6, a7, af, al⟩ := hD.facts; clear hD
  go_wp2_with (refine hX.wload rfl rfl rfl ?_)
  (with_reducible refine (DeleteCells_c ⟨s, F, zs, L⟩ a _ HS.out hX.v.rd).mono ?_)
  intro e w3 hp
  replace hp := hp.z 8
  obtain ⟨S1, rfl, hX3, hV3, hm1, hz3⟩ := hX.post hLT hp
  clear hp a0 a1 a2 a3 a4 a5 a6 a7 af al hX
  go_wp2_with (first | (refine hX3.wload rfl rfl rfl ?_) | (refine hX3.wstore hV3 (by rfl) (by rfl) (by rfl) (by rfl) (by rfl) ?_)); exact bodyPost_ret (results_scr rfl rfl (hX3.res hV3)) rfl (hX3.fin hV3 (by omega) hm1)
set_option maxRecDepth 100000 in
set_option maxHeartbeats 4000000 in
theorem rest_9 (S : Sn) (a b : Int) (i u : Bool) (p q r : Int) (w : World) (hs : S.md.Ok) (hr : S.rd w) (hsz : S.s.gn * S.s.W.toNat ≤ 90000) (ha1 : -9223372036854775808 ≤ a) (ha2 : a ≤ 9223372036854775807) : Calls Tryz.prog 25 #[.agg #[.slice S.s.gA S.s.gn S.s.gc, .int .i64 S.s.x, .int .i64 S.s.y, .bool S.s.wr, .bool S.s.og, .int .i64 S.s.fg, .int .i64 S.s.bg, .int .i64 S.s.fl, .int .u8 S.s.g0, .int .u8 S.s.g1, .int .u8 S.s.g2, .int .u8 S.s.g3, .int .i64 S.s.gl, .int .i64 S.s.gr, .int .i64 S.s.on, .int .i64 S.s.H, .int .i64 S.s.W, .int .i64 S.s.T, .int .i64 S.s.B, .slice S.s.tA S.s.tn S.s.tc, .int .i64 S.s.tw, .slice S.s.kA S.s.kn S.s.kc, .int .i64 S.s.kp, .int .i64 S.s.dir, .bool S.s.ex], .agg #[.int .i64 9, .int .i64 a, .int .i64 b, .bool i, .bool u, .int .i64 p, .int .i64 q, .int .i64 r]] w (SPost S w (Stz 9 S.md)) := by
  have HA1 := Lib.hid ha1; have HA2 := Lib.hid ha2; clear ha1 ha2; have HR := Lib.hid hr; have HS := Lib.hid hs; have HZ := Lib.hid hsz; obtain ⟨s, F, zs, L⟩ := S; clear hr hs hsz; dsimp only at *
  go_enter Tryz.func25, Tryz.ntmps25; go_upto_region 1 with fail; generalize hW : World.alloc _ _ = W; have hD : A0 ⟨s, F, zs, L⟩ 9 a b i u p q r w W := (by rw [← hW]; exact a0_start HR.out); clear hW; have hX := hD.1; have hLT := hD.2.2; obtain ⟨a0, a1, a2, a3, a4, a5, a6, a7, af, al⟩ := hD.facts; clear hD
  go_wp2_with (refine hX.wload rfl rfl rfl ?_)
  (with_reducible refine (InsertRows_c ⟨s, F, zs, L⟩ a _ HS.out hX.v.rd).mono ?_)
  intro e w3 hp
  replace hp := hp.z 9
  obtain ⟨S1, rfl, hX3, hV3, hm1, hz3⟩ := hX.post hLT hp
  clear hp a0 a1 a2 a3 a4 a5 a6 a7 af al hX
  go_wp2_with (first | (refine hX3.wload rfl rfl rfl ?_) | (refine hX3.wstore hV3 (by rfl) (by rfl) (by rfl) (by rfl) (by rfl) ?_)); exact bodyPost_ret (results_scr rfl rfl (hX3.res hV3)) rfl (hX3.fin hV3 (by omega) hm1)
set_option maxRecDepth 100000 in
set_option maxHeartbeats 4000000 in
theorem rest_10 (S : Sn) (a b : Int) (i u : Bool) (p q r : Int) (w : World) (hs : S.md.Ok) (hr : S.rd w) (hsz : S.s.gn * S.s.W.toNat ≤ 90000) (ha1 : -9223372036854775808 ≤ a) (ha2 : a ≤ 9223372036854775807) : Calls Tryz.prog 25 #[.agg #[.slice S.s.gA S.s.gn S.s.gc, .int .i64 S.s.x, .int .i64 S.s.y, .bool S.s.wr, .bool S.s.og, .int .i64 S.s.fg, .int .i64 S.s.bg, .int .i64 S.s.fl, .int .u8 S.s.g0, .int .u8 S.s.g1, .int .u8 S.s.g2, .int .u8 S.s.g3, .int .i64 S.s.gl, .int .i64 S.s.gr, .int .i64 S.s.on, .int .i64 S.s.H, .int .i64 S.s.W, .int .i64 S.s.T, .int .i64 S.s.B, .slice S.s.tA S.s.tn S.s.tc, .int .i64 S.s.tw, .slice S.s.kA S.s.kn S.s.kc, .int .i64 S.s.kp, .int .i64 S.s.dir, .bool S.s.ex], .agg #[.int .i64 10, .int .i64 a, .int .i64 b, .bool i, .bool u, .int .i64 p, .int .i64 q, .int .i64 r]] w (SPost S w (Stz 10 S.md)) := by
  have HA1 := Lib.hid ha1; have HA2 := Lib.hid ha2; clear ha1 ha2; have HR := Lib.hid hr; have HS := Lib.hid hs; have HZ := Lib.hid hsz; obtain ⟨s, F, zs, L⟩ := S; clear hr hs hsz; dsimp only at *
  go_enter Tryz.func25, Tryz.ntmps25; go_upto_region 1 with fail; generalize hW : World.alloc _ _ = W; have hD : A0 ⟨s, F, zs, L⟩ 10 a b i u p q r w W := (by rw [← hW]; exact a0_start HR.out); clear hW; have hX := hD.1; have hLT := hD.2.2; obtain ⟨a0, a1, a2, a3, a4, a5, a6, a7, af, al⟩ := hD.facts; clear hD
  go_wp2_with (refine hX.wload rfl rfl rfl ?_)
  (with_reducible refine (DeleteRows_c ⟨s, F, zs, L⟩ a _ HS.out hX.v.rd).mono ?_)
  intro e w3 hp
  replace hp := hp.z 10
  obtain ⟨S1, rfl, hX3, hV3, hm1, hz3⟩ := hX.post hLT hp
  clear hp a0 a1 a2 a3 a4 a5 a6 a7 af al hX
  go_wp2_with (first | (refine hX3.wload rfl rfl rfl ?_) | (refine hX3.wstore hV3 (by rfl) (by rfl) (by rfl) (by rfl) (by rfl) ?_)); exact bodyPost_ret (results_scr rfl rfl (hX3.res hV3)) rfl (hX3.fin hV3 (by omega) hm1)
set_option maxRecDepth 100000 in
set_option maxHeartbeats 4000000 in
theorem rest_11 (S : Sn) (a b : Int) (i u : Bool) (p q r : Int) (w : World) (hs : S.md.Ok) (hr : S.rd w) (hsz : S.s.gn * S.s.W.toNat ≤ 90000) (ha1 : -9223372036854775808 ≤ a) (ha2 : a ≤ 9223372036854775807) : Calls Tryz.prog 25 #[.agg #[.slice S.s.gA S.s.gn S.s.gc, .int .i64 S.s.x, .int .i64 S.s.y, .bool S.s.wr, .bool S.s.og, .int .i64 S.s.fg, .int .i64 S.s.bg, .int .i64 S.s.fl, .int .u8 S.s.g0, .int .u8 S.s.g1, .int .u8 S.s.g2, .int .u8 S.s.g3, .int .i64 S.s.gl, .int .i64 S.s.gr, .int .i64 S.s.on, .int .i64 S.s.H, .int .i64 S.s.W, .int .i64 S.s.T, .int .i64 S.s.B, .slice S.s.tA S.s.tn S.s.tc, .int .i64 S.s.tw, .slice S.s.kA S.s.kn S.s.kc, .int .i64 S.s.kp, .int .i64 S.s.dir, .bool S.s.ex], .agg #[.int .i64 11, .int .i64 a, .int .i64 b, .bool i, .bool u, .int .i64 p, .int .i64 q, .int .i64 r]] w (SPost S w (Stz 11 S.md)) := by
  have HA1 := Lib.hid ha1; have HA2 := Lib.hid ha2; clear ha1 ha2; have HR := Lib.hid hr; have HS := Lib.hid hs; have HZ := Lib.hid hsz; obtain ⟨s, F, zs, L⟩ := S; clear hr hs hsz; dsimp only at *
  go_enter Tryz.func25, Tryz.ntmps25; go_upto_region 1 with fail; generalize hW : World.alloc _ _ = W; have hD : A0 ⟨s, F, zs, L⟩ 11 a b i u p q r w W := (by rw [← hW]; exact a0_start HR.out); clear hW; have hX := hD.1; have hLT := hD.2.2; obtain ⟨a0, a1, a2, a3, a4, a5, a6, a7, af, al⟩ := hD.facts; clear hD
  go_wp2_with (refine hX.wload rfl rfl rfl ?_)
  (with_reducible refine (Scroll_s ⟨s, F, zs, L⟩ a _ HS.out hX.v.rd HA1.out).mono ?_)
  intro e w3 hp
  replace hp := hp.z 11
  obtain ⟨S1, rfl, hX3, hV3, hm1, hz3⟩ := hX.post hLT hp
  clear hp a0 a1 a2 a3 a4 a5 a6 a7 af al hX
  go_wp2_with (first | (refine hX3.wload rfl rfl rfl ?_) | (refine hX3.wstore hV3 (by rfl) (by rfl) (by rfl) (by rfl) (by rfl) ?_)); exact bodyPost_ret (results_scr rfl rfl (hX3.res hV3)) rfl (hX3.fin hV3 (by omega) hm1)
set_option maxRecDepth 100000 in
set_option maxHeartbeats 4000000 in
theorem rest_12 (S : Sn) (a b : Int) (i u : Bool) (p q r : Int) (w : World) (hs : S.md.Ok) (hr : S.rd w) (hsz : S.s.gn * S.s.W.toNat ≤ 90000) (ha1 : -9223372036854775808 ≤ a) (ha2 : a ≤ 9223372036854775807) : Calls Tryz.prog 25 #[.agg #[.slice S.s.gA S.s.gn S.s.gc, .int .i64 S.s.x, .int .i64 S.s.y, .bool S.s.wr, .bool S.s.og, .int .i64 S.s.fg, .int .i64 S.s.bg, .int .i64 S.s.fl, .int .u8 S.s.g0, .int .u8 S.s.g1, .int .u8 S.s.g2, .int .u8 S.s.g3, .int .i64 S.s.gl, .int .i64 S.s.gr, .int .i64 S.s.on, .int .i64 S.s.H, .int .i64 S.s.W, .int .i64 S.s.T, .int .i64 S.s.B, .slice S.s.tA S.s.tn S.s.tc, .int .i64 S.s.tw, .slice S.s.kA S.s.kn S.s.kc, .int .i64 S.s.kp, .int .i64 S.s.dir, .bool S.s.ex], .agg #[.int .i64 12, .int .i64 a, .int .i64 b, .bool i, .bool u, .int .i64 p, .int .i64 q, .int .i64 r]] w (SPost S w (Stz 12 S.md)) := by
  have HA1 := Lib.hid ha1; have HA2 := Lib.hid ha2; clear ha1 ha2; have HR := Lib.hid hr; have HS := Lib.hid hs; have HZ := Lib.hid hsz; obtain ⟨s, F, zs, L⟩ := S; clear hr hs hsz; dsimp only at *
  go_enter Tryz.func25, Tryz.ntmps25; go_upto_region 1 with fail; generalize hW : World.alloc _ _ = W; have hD : A0 ⟨s, F, zs, L⟩ 12 a b i u p q r w W := (by rw [← hW]; exact a0_start HR.out); clear hW; have hX := hD.1; have hLT := hD.2.2; obtain ⟨a0, a1, a2, a3, a4, a5, a6, a7, af, al⟩ := hD.facts; clear hD
  go_wp2_with (refine hX.wload rfl rfl rfl ?_)
  (with_reducible refine (Tab_c ⟨s, F, zs, L⟩ a _ HS.out hX.v.rd HA1.out HA2.out).mono ?_)
  intro e w3 hp
  replace hp := hp.z 12
  obtain ⟨S1, rfl, hX3, hV3, hm1, hz3⟩ := hX.post hLT hp
  clear hp a0 a1 a2 a3 a4 a5 a6 a7 af al hX
  go_wp2_with (first | (refine hX3.wload rfl rfl rfl ?_) | (refine hX3.wstore hV3 (by rfl) (by rfl) (by rfl) (by rfl) (by rfl) ?_)); exact bodyPost_ret (results_scr rfl rfl (hX3.res hV3)) rfl (hX3.fin hV3 (by omega) hm1)
set_option maxRecDepth 100000 in
set_option maxHeartbeats 4000000 in
theorem rest_13 (S : Sn) (a b : Int) (i u : Bool) (p q r : Int) (w : World) (hs : S.md.Ok) (hr : S.rd w) (hsz : S.s.gn * S.s.W.toNat ≤ 90000) (ha1 : -9223372036854775808 ≤ a) (ha2 : a ≤ 9223372036854775807) : Calls Tryz.prog 25 #[.agg #[.slice S.s.gA S.s.gn S.s.gc, .int .i64 S.s.x, .int .i64 S.s.y, .bool S.s.wr, .bool S.s.og, .int .i64 S.s.fg, .int .i64 S.s.bg, .int .i64 S.s.fl, .int .u8 S.s.g0, .int .u8 S.s.g1, .int .u8 S.s.g2, .int .u8 S.s.g3, .int .i64 S.s.gl, .int .i64 S.s.gr, .int .i64 S.s.on, .int .i64 S.s.H, .int .i64 S.s.W, .int .i64 S.s.T, .int .i64 S.s.B, .slice S.s.tA S.s.tn S.s.tc, .int .i64 S.s.tw, .slice S.s.kA S.s.kn S.s.kc, .int .i64 S.s.kp, .int .i64 S.s.dir, .bool S.s.ex], .agg #[.int .i64 13, .int .i64 a, .int .i64 b, .bool i, .bool u, .int .i64 p, .int .i64 q, .int .i64 r]] w (SPost S w (Stz 13 S.md)) := by
  have HA1 := Lib.hid ha1; have HA2 := Lib.hid ha2; clear ha1 ha2; have HR := Lib.hid hr; have HS := Lib.hid hs; have HZ := Lib.hid hsz; obtain ⟨s, F, zs, L⟩ := S; clear hr hs hsz; dsimp only at *
  go_enter Tryz.func25, Tryz.ntmps25; go_upto_region 1 with fail; generalize hW : World.alloc _ _ = W; have hD : A0 ⟨s, F, zs, L⟩ 13 a b i u p q r w W := (by rw [← hW]; exact a0_start HR.out); clear hW; have hX := hD.1; have hLT := hD.2.2; obtain ⟨a0, a1, a2, a3, a4, a5, a6, a7, af, al⟩ := hD.facts; clear hD
  go_wp2_with (refine hX.wload rfl rfl rfl ?_)
  all_goals
    (with_reducible refine (Resize_z ⟨s, F, zs, L⟩ _ _ _ HS.out hX.v.rd HZ.out).mono ?_)
    intro e w3 hp
    replace hp := hp
    obtain ⟨S1, rfl, hX3, hV3, hm1, hz3⟩ := hX.post hLT hp
    clear hp a0 a1 a2 a3 a4 a5 a6 a7 af al hX
    go_wp2_with (first | (refine hX3.wload rfl rfl rfl ?_) | (refine hX3.wstore hV3 (by rfl) (by rfl) (by rfl) (by rfl) (by rfl) ?_)); exact bodyPost_ret (results_scr rfl rfl (hX3.res hV3)) rfl (hX3.fin hV3 (by omega) hm1)
set_option maxRecDepth 100000 in
set_option maxHeartbeats 4000000 in
theorem do_0 (S : Sn) (a b : Int) (i u : Bool) (p q r : Int) (w : World) (hs : S.md.Ok) (hr : S.rd w) (hsz : S.s.gn * S.s.W.toNat ≤ 90000) (ha1 : -9223372036854775808 ≤ a) (ha2 : a ≤ 9223372036854775807) : Calls Tryz.prog 8 #[.agg #[.slice S.s.gA S.s.gn S.s.gc, .int .i64 S.s.x, .int .i64 S.s.y, .bool S.s.wr, .bool S.s.og, .int .i64 S.s.fg, .int .i64 S.s.bg, .int .i64 S.s.fl, .int .u8 S.s.g0, .int .u8 S.s.g1, .int .u8 S.s.g2, .int .u8 S.s.g3, .int .i64 S.s.gl, .int .i64 S.s.gr, .int .i64 S.s.on, .int .i64 S.s.H, .int .i64 S.s.W, .int .i64 S.s.T, .int .i64 S.s.B, .slice S.s.tA S.s.tn S.s.tc, .int .i64 S.s.tw, .slice S.s.kA S.s.kn S.s.kc, .int .i64 S.s.kp, .int .i64 S.s.dir, .bool S.s.ex], .agg #[.int .i64 0, .int .i64 a, .int .i64 b, .bool i, .bool u, .int .i64 p, .int .i64 q, .int .i64 r]] w (SPost S w (Stz 0 S.md)) := by
  have HA1 := Lib.hid ha1; have HA2 := Lib.hid ha2; clear ha1 ha2; have HR := Lib.hid hr; have HS := Lib.hid hs; have HZ := Lib.hid hsz; obtain ⟨s, F, zs, L⟩ := S; clear hr hs hsz; dsimp only at *
  go_enter Tryz.func8, Tryz.ntmps8; go_upto_region 1 with fail; generalize hW : World.alloc _ _ = W; have hD : A0 ⟨s, F, zs, L⟩ 0 a b i u p q r w W := (by rw [← hW]; exact a0_start HR.out); clear hW; have hX := hD.1; have hLT := hD.2.2; obtain ⟨a0, a1, a2, a3, a4, a5, a6, a7, af, al⟩ := hD.facts; clear hD
  go_wp2_with (refine hX.wload rfl rfl rfl ?_)
  (with_reducible refine (Print_s ⟨s, F, zs, L⟩ a b i u _ HS.out hX.v.rd).mono ?_)
  intro e w3 hp
  replace hp := hp.z 0
  obtain ⟨S1, rfl, hX3, hV3, hm1, hz3⟩ := hX.post hLT hp
  clear hp a0 a1 a2 a3 a4 a5 a6 a7 af al hX
  go_wp2_with (first | (refine hX3.wload rfl rfl rfl ?_) | (refine hX3.wstore hV3 (by rfl) (by rfl) (by rfl) (by rfl) (by rfl) ?_)); exact bodyPost_ret (results_scr rfl rfl (hX3.res hV3)) rfl (hX3.fin hV3 (by omega) hm1)
set_option maxRecDepth 100000 in
set_option maxHeartbeats 4000000 in
theorem do_1 (S : Sn) (a b : Int) (i u : Bool) (p q r : Int) (w : World) (hs : S.md.Ok) (hr : S.rd w) (hsz : S.s.gn * S.s.W.toNat ≤ 90000) (ha1 : -9223372036854775808 ≤ a) (ha2 : a ≤ 9223372036854775807) : Calls Tryz.prog 8 #[.agg #[.slice S.s.gA S.s.gn S.s.gc, .int .i64 S.s.x, .int .i64 S.s.y, .bool S.s.wr, .bool S.s.og, .int .i64 S.s.fg, .int .i64 S.s.bg, .int .i64 S.s.fl, .int .u8 S.s.g0, .int .u8 S.s.g1, .int .u8 S.s.g2, .int .u8 S.s.g3, .int .i64 S.s.gl, .int .i64 S.s.gr, .int .i64 S.s.on, .int .i64 S.s.H, .int .i64 S.s.W, .int .i64 S.s.T, .int .i64 S.s.B, .slice S.s.tA S.s.tn S.s.tc, .int .i64 S.s.tw, .slice S.s.kA S.s.kn S.s.kc, .int .i64 S.s.kp, .int .i64 S.s.dir, .bool S.s.ex], .agg #[.int .i64 1, .int .i64 a, .int .i64 b, .bool i, .bool u, .int .i64 p, .int .i64 q, .int .i64 r]] w (SPost S w (Stz 1 S.md)) := by
  have HA1 := Lib.hid ha1; have HA2 := Lib.hid ha2; clear ha1 ha2; have HR := Lib.hid hr; have HS := Lib.hid hs; have HZ := Lib.hid hsz; obtain ⟨s, F, zs, L⟩ := S; clear hr hs hsz; dsimp only at *
  go_enter Tryz.func8, Tryz.ntmps8; go_upto_region 1 with fail; generalize hW : World.alloc _ _ = W; have hD : A0 ⟨s, F, zs, L⟩ 1 a b i u p q r w W := (by rw [← hW]; exact a0_start HR.out); clear hW; have hX := hD.1; have hLT := hD.2.2; obtain ⟨a0, a1, a2, a3, a4, a5, a6, a7, af, al⟩ := hD.facts; clear hD
  go_wp2_with (refine hX.wload rfl rfl rfl ?_)
  (with_reducible refine (Mark_c ⟨s, F, zs, L⟩ a _ HS.out hX.v.rd).mono ?_)
  intro e w3 hp
  replace hp := hp.z 1
  obtain ⟨S1, rfl, hX3, hV3, hm1, hz3⟩ := hX.post hLT hp
  clear hp a0 a1 a2 a3 a4 a5 a6 a7 af al hX
  go_wp2_with (first | (refine hX3.wload rfl rfl rfl ?_) | (refine hX3.wstore hV3 (by rfl) (by rfl) (by rfl) (by rfl) (by rfl) ?_)); exact bodyPost_ret (results_scr rfl rfl (hX3.res hV3)) rfl (hX3.fin hV3 (by omega) hm1)
set_option maxRecDepth 100000 in
set_option maxHeartbeats 4000000 in
theorem do_2 (S : Sn) (a b : Int) (i u : Bool) (p q r : Int) (w : World) (hs : S.md.Ok) (hr : S.rd w) (hsz : S.s.gn * S.s.W.toNat ≤ 90000) (ha1 : -9223372036854775808 ≤ a) (ha2 : a ≤ 9223372036854775807) : Calls Tryz.prog 8 #[.agg #[.slice S.s.gA S.s.gn S.s.gc, .int .i64 S.s.x, .int .i64 S.s.y, .bool S.s.wr, .bool S.s.og, .int .i64 S.s.fg, .int .i64 S.s.bg, .int .i64 S.s.fl, .int .u8 S.s.g0, .int .u8 S.s.g1, .int .u8 S.s.g2, .int .u8 S.s.g3, .int .i64 S.s.gl, .int .i64 S.s.gr, .int .i64 S.s.on, .int .i64 S.s.H, .int .i64 S.s.W, .int .i64 S.s.T, .int .i64 S.s.B, .slice S.s.tA S.s.tn S.s.tc, .int .i64 S.s.tw, .slice S.s.kA S.s.kn S.s.kc, .int .i64 S.s.kp, .int .i64 S.s.dir, .bool S.s.ex], .agg #[.int .i64 2, .int .i64 a, .int .i64 b, .bool i, .bool u, .int .i64 p, .int .i64 q, .int .i64 r]] w (SPost S w (Stz 2 S.md)) := by
  have HA1 := Lib.hid ha1; have HA2 := Lib.hid ha2; clear ha1 ha2; have HR := Lib.hid hr; have HS := Lib.hid hs; have HZ := Lib.hid hsz; obtain ⟨s, F, zs, L⟩ := S; clear hr hs hsz; dsimp only at *
  go_enter Tryz.func8, Tryz.ntmps8; go_upto_region 1 with fail; generalize hW : World.alloc _ _ = W; have hD : A0 ⟨s, F, zs, L⟩ 2 a b i u p q r w W := (by rw [← hW]; exact a0_start HR.out); clear hW; have hX := hD.1; have hLT := hD.2.2; obtain ⟨a0, a1, a2, a3, a4, a5, a6, a7, af, al⟩ := hD.facts; clear hD
  go_wp2_with (refine hX.wload rfl rfl rfl ?_)
  (with_reducible refine (Down_s ⟨s, F, zs, L⟩ _ HS.out hX.v.rd).mono ?_)
  intro e w3 hp
  replace hp := hp.z 2
  obtain ⟨S1, rfl, hX3, hV3, hm1, hz3⟩ := hX.post hLT hp
  clear hp a0 a1 a2 a3 a4 a5 a6 a7 af al hX
  go_wp2_with (first | (refine hX3.wload rfl rfl rfl ?_) | (refine hX3.wstore hV3 (by rfl) (by rfl) (by rfl) (by rfl) (by rfl) ?_)); exact bodyPost_ret (results_scr rfl rfl (hX3.res hV3)) rfl (hX3.fin hV3 (by omega) hm1)
set_option maxRecDepth 100000 in
set_option maxHeartbeats 4000000 in
theorem do_3 (S : Sn) (a b : Int) (i u : Bool) (p q r : Int) (w : World) (hs : S.md.Ok) (hr : S.rd w) (hsz : S.s.gn * S.s.W.toNat ≤ 90000) (ha1 : -9223372036854775808 ≤ a) (ha2 : a ≤ 9223372036854775807) : Calls Tryz.prog 8 #[.agg #[.slice S.s.gA S.s.gn S.s.gc, .int .i64 S.s.x, .int .i64 S.s.y, .bool S.s.wr, .bool S.s.og, .int .i64 S.s.fg, .int .i64 S.s.bg, .int .i64 S.s.fl, .int .u8 S.s.g0, .int .u8 S.s.g1, .int .u8 S.s.g2, .int .u8 S.s.g3, .int .i64 S.s.gl, .int .i64 S.s.gr, .int .i64 S.s.on, .int .i64 S.s.H, .int .i64 S.s.W, .int .i64 S.s.T, .int .i64 S.s.B, .slice S.s.tA S.s.tn S.s.tc, .int .i64 S.s.tw, .slice S.s.kA S.s.kn S.s.kc, .int .i64 S.s.kp, .int .i64 S.s.dir, .bool S.s.ex], .agg #[.int .i64 3, .int .i64 a, .int .i64 b, .bool i, .bool u, .int .i64 p, .int .i64 q, .int .i64 r]] w (SPost S w (Stz 3 S.md)) := by
  have HA1 := Lib.hid ha1; have HA2 := Lib.hid ha2; clear ha1 ha2; have HR := Lib.hid hr; have HS := Lib.hid hs; have HZ := Lib.hid hsz; obtain ⟨s, F, zs, L⟩ := S; clear hr hs hsz; dsimp only at *
  go_enter Tryz.func8, Tryz.ntmps8; go_upto_region 1 with fail; generalize hW : World.alloc _ _ = W; have hD : A0 ⟨s, F, zs, L⟩ 3 a b i u p q r w W := (by rw [← hW]; exact a0_start HR.out); clear hW; have hX := hD.1; have hLT := hD.2.2; obtain ⟨a0, a1, a2, a3, a4, a5, a6, a7, af, al⟩ := hD.facts; clear hD
  go_wp2_with (refine hX.wload rfl rfl rfl ?_)
  (with_reducible refine (Up_s ⟨s, F, zs, L⟩ _ HS.out hX.v.rd).mono ?_)
  intro e w3 hp
  replace hp := hp.z 3
  obtain ⟨S1, rfl, hX3, hV3, hm1, hz3⟩ := hX.post hLT hp
  clear hp a0 a1 a2 a3 a4 a5 a6 a7 af al hX
  go_wp2_with (first | (refine hX3.wload rfl rfl rfl ?_) | (refine hX3.wstore hV3 (by rfl) (by rfl) (by rfl) (by rfl) (by rfl) ?_)); exact bodyPost_ret (results_scr rfl rfl (hX3.res hV3)) rfl (hX3.fin hV3 (by omega) hm1)
set_option maxRecDepth 100000 in
set_option maxHeartbeats 4000000 in
theorem do_4 (S : Sn) (a b : Int) (i u : Bool) (p q r : Int) (w : World) (hs : S.md.Ok) (hr : S.rd w) (hsz : S.s.gn * S.s.W.toNat ≤ 90000) (ha1 : -9223372036854775808 ≤ a) (ha2 : a ≤ 9223372036854775807) : Calls Tryz.prog 8 #[.agg #[.slice S.s.gA S.s.gn S.s.gc, .int .i64 S.s.x, .int .i64 S.s.y, .bool S.s.wr, .bool S.s.og, .int .i64 S.s.fg, .int .i64 S.s.bg, .int .i64 S.s.fl, .int .u8 S.s.g0, .int .u8 S.s.g1, .int .u8 S.s.g2, .int .u8 S.s.g3, .int .i64 S.s.gl, .int .i64 S.s.gr, .int .i64 S.s.on, .int .i64 S.s.H, .int .i64 S.s.W, .int .i64 S.s.T, .int .i64 S.s.B, .slice S.s.tA S.s.tn S.s.tc, .int .i64 S.s.tw, .slice S.s.kA S.s.kn S.s.kc, .int .i64 S.s.kp, .int .i64 S.s.dir, .bool S.s.ex], .agg #[.int .i64 4, .int .i64 a, .int .i64 b, .bool i, .bool u, .int .i64 p, .int .i64 q, .int .i64 r]] w (SPost S w (Stz 4 S.md)) := by
  have HA1 := Lib.hid ha1; have HA2 := Lib.hid ha2; clear ha1 ha2; have HR := Lib.hid hr; have HS := Lib.hid hs; have HZ := Lib.hid hsz; obtain ⟨s, F, zs, L⟩ := S; clear hr hs hsz; dsimp only at *
  go_enter Tryz.func8, Tryz.ntmps8; go_upto_region 1 with fail; generalize hW : World.alloc _ _ = W; have hD : A0 ⟨s, F, zs, L⟩ 4 a b i u p q r w W := (by rw [← hW]; exact a0_start HR.out); clear hW; have hX := hD.1; have hLT := hD.2.2; obtain ⟨a0, a1, a2, a3, a4, a5, a6, a7, af, al⟩ := hD.facts; clear hD
  go_wp2_with (refine hX.wload rfl rfl rfl ?_)
  (with_reducible refine (EraseLine_c ⟨s, F, zs, L⟩ a _ HS.out hX.v.rd).mono ?_)
  intro e w3 hp
  replace hp := hp.ez 4
  obtain ⟨S1, rfl, hX3, hV3, hm1, hz3⟩ := hX.post hLT hp
  clear hp a0 a1 a2 a3 a4 a5 a6 a7 af al hX
  go_wp2_with (first | (refine hX3.wload rfl rfl rfl ?_) | (refine hX3.wstore hV3 (by rfl) (by rfl) (by rfl) (by rfl) (by rfl) ?_)); exact bodyPost_ret (results_scr rfl rfl (hX3.res hV3)) rfl (hX3.fin hV3 (by omega) hm1)
set_option maxRecDepth 100000 in
set_option maxHeartbeats 4000000 in
theorem do_5 (S : Sn) (a b : Int) (i u : Bool) (p q r : Int) (w : World) (hs : S.md.Ok) (hr : S.rd w) (hsz : S.s.gn * S.s.W.toNat ≤ 90000) (ha1 : -9223372036854775808 ≤ a) (ha2 : a ≤ 9223372036854775807) : Calls Tryz.prog 8 #[.agg #[.slice S.s.gA S.s.gn S.s.gc, .int .i64 S.s.x, .int .i64 S.s.y, .bool S.s.wr, .bool S.s.og, .int .i64 S.s.fg, .int .i64 S.s.bg, .int .i64 S.s.fl, .int .u8 S.s.g0, .int .u8 S.s.g1, .int .u8 S.s.g2, .int .u8 S.s.g3, .int .i64 S.s.gl, .int .i64 S.s.gr, .int .i64 S.s.on, .int .i64 S.s.H, .int .i64 S.s.W, .int .i64 S.s.T, .int .i64 S.s.B, .slice S.s.tA S.s.tn S.s.tc, .int .i64 S.s.tw, .slice S.s.kA S.s.kn S.s.kc, .int .i64 S.s.kp, .int .i64 S.s.dir, .bool S.s.ex], .agg #[.int .i64 5, .int .i64 a, .int .i64 b, .bool i, .bool u, .int .i64 p, .int .i64 q, .int .i64 r]] w (SPost S w (Stz 5 S.md)) := by
  have HA1 := Lib.hid ha1; have HA2 := Lib.hid ha2; clear ha1 ha2; have HR := Lib.hid hr; have HS := Lib.hid hs; have HZ := Lib.hid hsz; obtain ⟨s, F, zs, L⟩ := S; clear hr hs hsz; dsimp only at *
  go_enter Tryz.func8, Tryz.ntmps8; go_upto_region 1 with fail; generalize hW : World.alloc _ _ = W; have hD : A0 ⟨s, F, zs, L⟩ 5 a b i u p q r w W := (by rw [← hW]; exact a0_start HR.out); clear hW; have hX := hD.1; have hLT := hD.2.2; obtain ⟨a0, a1, a2, a3, a4, a5, a6, a7, af, al⟩ := hD.facts; clear hD
  go_wp2_with (refine hX.wload rfl rfl rfl ?_)
  (with_reducible refine (Erase_c ⟨s, F, zs, L⟩ a _ HS.out hX.v.rd).mono ?_)
  intro e w3 hp
  replace hp := hp.z 5
  obtain ⟨S1, rfl, hX3, hV3, hm1, hz3⟩ := hX.post hLT hp
  clear hp a0 a1 a2 a3 a4 a5 a6 a7 af al hX
  go_wp2_with (first | (refine hX3.wload rfl rfl rfl ?_) | (refine hX3.wstore hV3 (by rfl) (by rfl) (by rfl) (by rfl) (by rfl) ?_)); exact bodyPost_ret (results_scr rfl rfl (hX3.res hV3)) rfl (hX3.fin hV3 (by omega) hm1)
set_option maxRecDepth 100000 in
set_option maxHeartbeats 4000000 in
theorem do_6 (S : Sn) (a b : Int) (i u : Bool) (p q r : Int) (w : World) (hs : S.md.Ok) (hr : S.rd w) (hsz : S.s.gn * S.s.W.toNat ≤ 90000) (ha1 : -9223372036854775808 ≤ a) (ha2 : a ≤ 9223372036854775807) : Calls Tryz.prog 8 #[.agg #[.slice S.s.gA S.s.gn S.s.gc, .int .i64 S.s.x, .int .i64 S.s.y, .bool S.s.wr, .bool S.s.og, .int .i64 S.s.fg, .int .i64 S.s.bg, .int .i64 S.s.fl, .int .u8 S.s.g0, .int .u8 S.s.g1, .int .u8 S.s.g2, .int .u8 S.s.g3, .int .i64 S.s.gl, .int .i64 S.s.gr, .int .i64 S.s.on, .int .i64 S.s.H, .int .i64 S.s.W, .int .i64 S.s.T, .int .i64 S.s.B, .slice S.s.tA S.s.tn S.s.tc, .int .i64 S.s.tw, .slice S.s.kA S.s.kn S.s.kc, .int .i64 S.s.kp, .int .i64 S.s.dir, .bool S.s.ex], .agg #[.int .i64 6, .int .i64 a, .int .i64 b, .bool i, .bool u, .int .i64 p, .int .i64 q, .int .i64 r]] w (SPost S w (Stz 6 S.md)) := by
  have HA1 := Lib.hid ha1; have HA2 := Lib.hid ha2; clear ha1 ha2; have HR := Lib.hid hr; have HS := Lib.hid hs; have HZ := Lib.hid hsz; obtain ⟨s, F, zs, L⟩ := S; clear hr hs hsz; dsimp only at *
  go_enter Tryz.func8, Tryz.ntmps8; go_upto_region 1 with fail; generalize hW : World.alloc _ _ = W; have hD : A0 ⟨s, F, zs, L⟩ 6 a b i u p q r w W := (by rw [← hW]; exact a0_start HR.out); clear hW; have hX := hD.1; have hLT := hD.2.2; obtain ⟨a0, a1, a2, a3, a4, a5, a6, a7, af, al⟩ := hD.facts; clear hD
  go_wp2_with (refine hX.wload rfl rfl rfl ?_)
  (with_reducible refine (EraseCells_c ⟨s, F, zs, L⟩ a _ HS.out hX.v.rd).mono ?_)
  intro e w3 hp
  replace hp := hp.z 6
  obtain ⟨S1, rfl, hX3, hV3, hm1, hz3⟩ := hX.post hLT hp
  clear hp a0 a1 a2 a3 a4 a5 a6 a7 af al hX
  go_wp2_with (first | (refine hX3.wload rfl rfl rfl ?_) | (refine hX3.wstore hV3 (by rfl) (by rfl) (by rfl) (by rfl) (by rfl) ?_)); exact bodyPost_ret (results_scr rfl rfl (hX3.res hV3)) rfl (hX3.fin hV3 (by omega) hm1)
set_option maxRecDepth 100000 in
set_option maxHeartbeats 4000000 in
theorem do_7 (S : Sn) (a b : Int) (i u : Bool) (p q r : Int) (w : World) (hs : S.md.Ok) (hr : S.rd w) (hsz : S.s.gn * S.s.W.toNat ≤ 90000) (ha1 : -9223372036854775808 ≤ a) (ha2 : a ≤ 9223372036854775807) : Calls Tryz.prog 8 #[.agg #[.slice S.s.gA S.s.gn S.s.gc, .int .i64 S.s.x, .int .i64 S.s.y, .bool S.s.wr, .bool S.s.og, .int .i64 S.s.fg, .int .i64 S.s.bg, .int .i64 S.s.fl, .int .u8 S.s.g0, .int .u8 S.s.g1, .int .u8 S.s.g2, .int .u8 S.s.g3, .int .i64 S.s.gl, .int .i64 S.s.gr, .int .i64 S.s.on, .int .i64 S.s.H, .int .i64 S.s.W, .int .i64 S.s.T, .int .i64 S.s.B, .slice S.s.tA S.s.tn S.s.tc, .int .i64 S.s.tw, .slice S.s.kA S.s.kn S.s.kc, .int .i64 S.s.kp, .int .i64 S.s.dir, .bool S.s.ex], .agg #[.int .i64 7, .int .i64 a, .int .i64 b, .bool i, .bool u, .int .i64 p, .int .i64 q, .int .i64 r]] w (SPost S w (Stz 7 S.md)) := by
  have HA1 := Lib.hid ha1; have HA2 := Lib.hid ha2; clear ha1 ha2; have HR := Lib.hid hr; have HS := Lib.hid hs; have HZ := Lib.hid hsz; obtain ⟨s, F, zs, L⟩ := S; clear hr hs hsz; dsimp only at *
  go_enter Tryz.func8, Tryz.ntmps8; go_upto_region 1 with fail; generalize hW : World.alloc _ _ = W; have hD : A0 ⟨s, F, zs, L⟩ 7 a b i u p q r w W := (by rw [← hW]; exact a0_start HR.out); clear hW; have hX := hD.1; have hLT := hD.2.2; obtain ⟨a0, a1, a2, a3, a4, a5, a6, a7, af, al⟩ := hD.facts; clear hD
  go_wp2_with (refine hX.wload rfl rfl rfl ?_)
  (with_reducible refine (rest_7 ⟨s, F, zs, L⟩ a b i u p q r _ HS.out hX.v.rd HZ.out HA1.out HA2.out).mono ?_)
  intro e w3 hp
  replace hp := hp
  obtain ⟨S1, rfl, hX3, hV3, hm1, hz3⟩ := hX.post hLT hp
  clear hp a0 a1 a2 a3 a4 a5 a6 a7 af al hX
  go_wp2_with (first | (refine hX3.wload rfl rfl rfl ?_) | (refine hX3.wstore hV3 (by rfl) (by rfl) (by rfl) (by rfl) (by rfl) ?_)); exact bodyPost_ret (results_scr rfl rfl (hX3.res hV3)) rfl (hX3.fin hV3 (by omega) hm1)
set_option maxRecDepth 100000 in
set_option maxHeartbeats 4000000 in
theorem do_8 (S : Sn) (a b : Int) (i u : Bool) (p q r : Int) (w : World) (hs : S.md.Ok) (hr : S.rd w) (hsz : S.s.gn * S.s.W.toNat ≤ 90000) (ha1 : -9223372036854775808 ≤ a) (ha2 : a ≤ 9223372036854775807) : Calls Tryz.prog 8 #[.agg #[.slice S.s.gA S.s.gn S.s.gc, .int .i64 S.s.x, .int .i64 S.s.y, .bool S.s.wr, .bool S.s.og, .int .i64 S.s.fg, .int .i64 S.s.bg, .int .i64 S.s.fl, .int .u8 S.s.g0, .int .u8 S.s.g1, .int .u8 S.s.g2, .int .u8 S.s.g3, .int .i64 S.s.gl, .int .i64 S.s.gr, .int .i64 S.s.on, .int .i64 S.s.H, .int .i64 S.s.W, .int .i64 S.s.T, .int .i64 S.s.B, .slice S.s.tA S.s.tn S.s.tc, .int .i64 S.s.tw, .slice S.s.kA S.s.kn S.s.kc, .int .i64 S.s.kp, .int .i64 S.s.dir, .bool S.s.ex], .agg #[.int .i64 8, .int .i64 a, .int .i64 b, .bool i, .bool u, .int .i64 p, .int .i64 q, .int .i64 r]] w (SPost S w (Stz 8 S.md)) := by
  have HA1 := Lib.hid ha1; have HA2 := Lib.hid ha2; clear ha1 ha2; have HR := Lib.hid hr; have HS := Lib.hid hs; have HZ := Lib.hid hsz; obtain ⟨s, F, zs, L⟩ := S; clear hr hs hsz; dsimp only at *
  go_enter Tryz.func8, Tryz.ntmps8; go_upto_region 1 with fail; generalize hW : World.alloc _ _ = W; have hD : A0 ⟨s, F, zs, L⟩ 8 a b i u p q r w W := (by rw [← hW]; exact a0_start HR.out); clear hW; have hX := hD.1; have hLT := hD.2.2; obtain ⟨a0, a1, a2, a3, a4, a5, a6, a7, af, al⟩ := hD.facts; clear hD
  go_wp2_with (refine hX.wload rfl rfl rfl ?_)
  (with_reducible refine (rest_8 ⟨s, F, zs, L⟩ a b i u p q r _ HS.out hX.v.rd HZ.out HA1.out HA2.out).mono ?_)
  intro e w3 hp
  replace hp := hp
  obtain ⟨S1, rfl, hX3, hV3, hm1, hz3⟩ := hX.post hLT hp
  clear hp a0 a1 a2 a3 a4 a5 a6 a7 af al hX
  go_wp2_with (first | (refine hX3.wload rfl rfl rfl ?_) | (refine hX3.wstore hV3 (by rfl) (by rfl) (by rfl) (by rfl) (by rfl) ?_)); exact bodyPost_ret (results_scr rfl rfl (hX3.res hV3)) rfl (hX3.fin hV3 (by omega) hm1)
set_option maxRecDepth 100000 in
set_option maxHeartbeats 4000000 in
theorem do_9 (S : Sn) (a b : Int) (i u : Bool) (p q r : Int) (w : World) (hs : S.md.Ok) (hr : S.rd w) (hsz : S.s.gn * S.s.W.toNat ≤ 90000) (ha1 : -9223372036854775808 ≤ a) (ha2 : a ≤ 9223372036854775807) : Calls Tryz.prog 8 #[.agg #[.slice S.s.gA S.s.gn S.s.gc, .int .i64 S.s.x, .int .i64 S.s.y, .bool S.s.wr, .bool S.s.og, .int .i64 S.s.fg, .int .i64 S.s.bg, .int .i64 S.s.fl, .int .u8 S.s.g0, .int .u8 S.s.g1, .int .u8 S.s.g2, .int .u8 S.s.g3, .int .i64 S.s.gl, .int .i64 S.s.gr, .int .i64 S.s.on, .int .i64 S.s.H, .int .i64 S.s.W, .int .i64 S.s.T, .int .i64 S.s.B, .slice S.s.tA S.s.tn S.s.tc, .int .i64 S.s.tw, .slice S.s.kA S.s.kn S.s.kc, .int .i64 S.s.kp, .int .i64 S.s.dir, .bool S.s.ex], .agg #[.int .i64 9, .int .i64 a, .int .i64 b, .bool i, .bool u, .int .i64 p, .int .i64 q, .int .i64 r]] w (SPost S w (Stz 9 S.md)) := by
  have HA1 := Lib.hid ha1; have HA2 := Lib.hid ha2; clear ha1 ha2; have HR := Lib.hid hr; have HS := Lib.hid hs; have HZ := Lib.hid hsz; obtain ⟨s, F, zs, L⟩ := S; clear hr hs hsz; dsimp only at *
  go_enter Tryz.func8, Tryz.ntmps8; go_upto_region 1 with fail; generalize hW : World.alloc _ _ = W; have hD : A0 ⟨s, F, zs, L⟩ 9 a b i u p q r w W := (by rw [← hW]; exact a0_start HR.out); clear hW; have hX := hD.1; have hLT := hD.2.2; obtain ⟨a0, a1, a2, a3, a4, a5, a6, a7, af, al⟩ := hD.facts; clear hD
  go_wp2_with (refine hX.wload rfl rfl rfl ?_)
  (with_reducible refine (rest_9 ⟨s, F, zs, L⟩ a b i u p q r _ HS.out hX.v.rd HZ.out HA1.out HA2.out).mono ?_)
  intro e w3 hp
  replace hp := hp
  obtain ⟨S1, rfl, hX3, hV3, hm1, hz3⟩ := hX.post hLT hp
  clear hp a0 a1 a2 a3 a4 a5 a6 a7 af al hX
  go_wp2_with (first | (refine hX3.wload rfl rfl rfl ?_) | (refine hX3.wstore hV3 (by rfl) (by rfl) (by rfl) (by rfl) (by rfl) ?_)); exact bodyPost_ret (results_scr rfl rfl (hX3.res hV3)) rfl (hX3.fin hV3 (by omega) hm1)
set_option maxRecDepth 100000 in
set_option maxHeartbeats 4000000 in
theorem do_10 (S : Sn) (a b : Int) (i u : Bool) (p q r : Int) (w : World) (hs : S.md.Ok) (hr : S.rd w) (hsz : S.s.gn * S.s.W.toNat ≤ 90000) (ha1 : -9223372036854775808 ≤ a) (ha2 : a ≤ 9223372036854775807) : Calls Tryz.prog 8 #[.agg #[.slice S.s.gA S.s.gn S.s.gc, .int .i64 S.s.x, .int .i64 S.s.y, .bool S.s.wr, .bool S.s.og, .int .i64 S.s.fg, .int .i64 S.s.bg, .int .i64 S.s.fl, .int .u8 S.s.g0, .int .u8 S.s.g1, .int .u8 S.s.g2, .int .u8 S.s.g3, .int .i64 S.s.gl, .int .i64 S.s.gr, .int .i64 S.s.on, .int .i64 S.s.H, .int .i64 S.s.W, .int .i64 S.s.T, .int .i64 S.s.B, .slice S.s.tA S.s.tn S.s.tc, .int .i64 S.s.tw, .slice S.s.kA S.s.kn S.s.kc, .int .i64 S.s.kp, .int .i64 S.s.dir, .bool S.s.ex], .agg #[.int .i64 10, .int .i64 a, .int .i64 b, .bool i, .bool u, .int .i64 p, .int .i64 q, .int .i64 r]] w (SPost S w (Stz 10 S.md)) := by
  have HA1 := Lib.hid ha1; have HA2 := Lib.hid ha2; clear ha1 ha2; have HR := Lib.hid hr; have HS := Lib.hid hs; have HZ := Lib.hid hsz; obtain ⟨s, F, zs, L⟩ := S; clear hr hs hsz; dsimp only at *
  go_enter Tryz.func8, Tryz.ntmps8; go_upto_region 1 with fail; generalize hW : World.alloc _ _ = W; have hD : A0 ⟨s, F, zs, L⟩ 10 a b i u p q r w W := (by rw [← hW]; exact a0_start HR.out); clear hW; have hX := hD.1; have hLT := hD.2.2; obtain ⟨a0, a1, a2, a3, a4, a5, a6, a7, af, al⟩ := hD.facts; clear hD
  go_wp2_with (refine hX.wload rfl rfl rfl ?_)
  (with_reducible refine (rest_10 ⟨s, F, zs, L⟩ a b i u p q r _ HS.out hX.v.rd HZ.out HA1.out HA2.out).mono ?_)
  intro e w3 hp
  replace hp := hp
  obtain ⟨S1, rfl, hX3, hV3, hm1, hz3⟩ := hX.post hLT hp
  clear hp a0 a1 a2 a3 a4 a5 a6 a7 af al hX
  go_wp2_with (first | (refine hX3.wload rfl rfl rfl ?_) | (refine hX3.wstore hV3 (by rfl) (by rfl) (by rfl) (by rfl) (by rfl) ?_)); exact bodyPost_ret (results_scr rfl rfl (hX3.res hV3)) rfl (hX3.fin hV3 (by omega) hm1)
set_option maxRecDepth 100000 in
set_option maxHeartbeats 4000000 in
theorem do_11 (S : Sn) (a b : Int) (i u : Bool) (p q r : Int) (w : World) (hs : S.md.Ok) (hr : S.rd w) (hsz : S.s.gn * S.s.W.toNat ≤ 90000) (ha1 : -9223372036854775808 ≤ a) (ha2 : a ≤ 9223372036854775807) : Calls Tryz.prog 8 #[.agg #[.slice S.s.gA S.s.gn S.s.gc, .int .i64 S.s.x, .int .i64 S.s.y, .bool S.s.wr, .bool S.s.og, .int .i64 S.s.fg, .int .i64 S.s.bg, .int .i64 S.s.fl, .int .u8 S.s.g0, .int .u8 S.s.g1, .int .u8 S.s.g2, .int .u8 S.s.g3, .int .i64 S.s.gl, .int .i64 S.s.gr, .int .i64 S.s.on, .int .i64 S.s.H, .int .i64 S.s.W, .int .i64 S.s.T, .int .i64 S.s.B, .slice S.s.tA S.s.tn S.s.tc, .int .i64 S.s.tw, .slice S.s.kA S.s.kn S.s.kc, .int .i64 S.s.kp, .int .i64 S.s.dir, .bool S.s.ex], .agg #[.int .i64 11, .int .i64 a, .int .i64 b, .bool i, .bool u, .int .i64 p, .int .i64 q, .int .i64 r]] w (SPost S w (Stz 11 S.md)) := by
  have HA1 := Lib.hid ha1; have HA2 := Lib.hid ha2; clear ha1 ha2; have HR := Lib.hid hr; have HS := Lib.hid hs; have HZ := Lib.hid hsz; obtain ⟨s, F, zs, L⟩ := S; clear hr hs hsz; dsimp only at *
  go_enter Tryz.func8, Tryz.ntmps8; go_upto_region 1 with fail; generalize hW : World.alloc _ _ = W; have hD : A0 ⟨s, F, zs, L⟩ 11 a b i u p q r w W := (by rw [← hW]; exact a0_start HR.out); clear hW; have hX := hD.1; have hLT := hD.2.2; obtain ⟨a0, a1, a2, a3, a4, a5, a6, a7, af, al⟩ := hD.facts; clear hD
  go_wp2_with (refine hX.wload rfl rfl rfl ?_)
  (with_reducible refine (rest_11 ⟨s, F, zs, L⟩ a b i u p q r _ HS.out hX.v.rd HZ.out HA1.out HA2.out).mono ?_)
  intro e w3 hp
  replace hp := hp
  obtain ⟨S1, rfl, hX3, hV3, hm1, hz3⟩ := hX.post hLT hp
  clear hp a0 a1 a2 a3 a4 a5 a6 a7 af al hX
  go_wp2_with (first | (refine hX3.wload rfl rfl rfl ?_) | (refine hX3.wstore hV3 (by rfl) (by rfl) (by rfl) (by rfl) (by rfl) ?_)); exact bodyPost_ret (results_scr rfl rfl (hX3.res hV3)) rfl (hX3.fin hV3 (by omega) hm1)
set_option maxRecDepth 100000 in
set_option maxHeartbeats 4000000 in
theorem do_12 (S : Sn) (a b : Int) (i u : Bool) (p q r : Int) (w : World) (hs : S.md.Ok) (hr : S.rd w) (hsz : S.s.gn * S.s.W.toNat ≤ 90000) (ha1 : -9223372036854775808 ≤ a) (ha2 : a ≤ 9223372036854775807) : Calls Tryz.prog 8 #[.agg #[.slice S.s.gA S.s.gn S.s.gc, .int .i64 S.s.x, .int .i64 S.s.y, .bool S.s.wr, .bool S.s.og, .int .i64 S.s.fg, .int .i64 S.s.bg, .int .i64 S.s.fl, .int .u8 S.s.g0, .int .u8 S.s.g1, .int .u8 S.s.g2, .int .u8 S.s.g3, .int .i64 S.s.gl, .int .i64 S.s.gr, .int .i64 S.s.on, .int .i64 S.s.H, .int .i64 S.s.W, .int .i64 S.s.T, .int .i64 S.s.B, .slice S.s.tA S.s.tn S.s.tc, .int .i64 S.s.tw, .slice S.s.kA S.s.kn S.s.kc, .int .i64 S.s.kp, .int .i64 S.s.dir, .bool S.s.ex], .agg #[.int .i64 12, .int .i64 a, .int .i64 b, .bool i, .bool u, .int .i64 p, .int .i64 q, .int .i64 r]] w (SPost S w (Stz 12 S.md)) := by
  have HA1 := Lib.hid ha1; have HA2 := Lib.hid ha2; clear ha1 ha2; have HR := Lib.hid hr; have HS := Lib.hid hs; have HZ := Lib.hid hsz; obtain ⟨s, F, zs, L⟩ := S; clear hr hs hsz; dsimp only at *
  go_enter Tryz.func8, Tryz.ntmps8; go_upto_region 1 with fail; generalize hW : World.alloc _ _ = W; have hD : A0 ⟨s, F, zs, L⟩ 12 a b i u p q r w W := (by rw [← hW]; exact a0_start HR.out); clear hW; have hX := hD.1; have hLT := hD.2.2; obtain ⟨a0, a1, a2, a3, a4, a5, a6, a7, af, al⟩ := hD.facts; clear hD
  go_wp2_with (refine hX.wload rfl rfl rfl ?_)
  (with_reducible refine (rest_12 ⟨s, F, zs, L⟩ a b i u p q r _ HS.out hX.v.rd HZ.out HA1.out HA2.out).mono ?_)
  intro e w3 hp
  replace hp := hp
  obtain ⟨S1, rfl, hX3, hV3, hm1, hz3⟩ := hX.post hLT hp
  clear hp a0 a1 a2 a3 a4 a5 a6 a7 af al hX
  go_wp2_with (first | (refine hX3.wload rfl rfl rfl ?_) | (refine hX3.wstore hV3 (by rfl) (by rfl) (by rfl) (by rfl) (by rfl) ?_)); exact bodyPost_ret (results_scr rfl rfl (hX3.res hV3)) rfl (hX3.fin hV3 (by omega) hm1)
set_option maxRecDepth 100000 in
set_option maxHeartbeats 4000000 in
theorem do_13 (S : Sn) (a b : Int) (i u : Bool) (p q r : Int) (w : World) (hs : S.md.Ok) (hr : S.rd w) (hsz : S.s.gn * S.s.W.toNat ≤ 90000) (ha1 : -9223372036854775808 ≤ a) (ha2 : a ≤ 9223372036854775807) : Calls Tryz.prog 8 #[.agg #[.slice S.s.gA S.s.gn S.s.gc, .int .i64 S.s.x, .int .i64 S.s.y, .bool S.s.wr, .bool S.s.og, .int .i64 S.s.fg, .int .i64 S.s.bg, .int .i64 S.s.fl, .int .u8 S.s.g0, .int .u8 S.s.g1, .int .u8 S.s.g2, .int .u8 S.s.g3, .int .i64 S.s.gl, .int .i64 S.s.gr, .int .i64 S.s.on, .int .i64 S.s.H, .int .i64 S.s.W, .int .i64 S.s.T, .int .i64 S.s.B, .slice S.s.tA S.s.tn S.s.tc, .int .i64 S.s.tw, .slice S.s.kA S.s.kn S.s.kc, .int .i64 S.s.kp, .int .i64 S.s.dir, .bool S.s.ex], .agg #[.int .i64 13, .int .i64 a, .int .i64 b, .bool i, .bool u, .int .i64 p, .int .i64 q, .int .i64 r]] w (SPost S w (Stz 13 S.md)) := by
  have HA1 := Lib.hid ha1; have HA2 := Lib.hid ha2; clear ha1 ha2; have HR := Lib.hid hr; have HS := Lib.hid hs; have HZ := Lib.hid hsz; obtain ⟨s, F, zs, L⟩ := S; clear hr hs hsz; dsimp only at *
  go_enter Tryz.func8, Tryz.ntmps8; go_upto_region 1 with fail; generalize hW : World.alloc _ _ = W; have hD : A0 ⟨s, F, zs, L⟩ 13 a b i u p q r w W := (by rw [← hW]; exact a0_start HR.out); clear hW; have hX := hD.1; have hLT := hD.2.2; obtain ⟨a0, a1, a2, a3, a4, a5, a6, a7, af, al⟩ := hD.facts; clear hD
  go_wp2_with (refine hX.wload rfl rfl rfl ?_)
  (with_reducible refine (rest_13 ⟨s, F, zs, L⟩ a b i u p q r _ HS.out hX.v.rd HZ.out HA1.out HA2.out).mono ?_)
  intro e w3 hp
  replace hp := hp
  obtain ⟨S1, rfl, hX3, hV3, hm1, hz3⟩ := hX.post hLT hp
  clear hp a0 a1 a2 a3 a4 a5 a6 a7 af al hX
  go_wp2_with (first | (refine hX3.wload rfl rfl rfl ?_) | (refine hX3.wstore hV3 (by rfl) (by rfl) (by rfl) (by rfl) (by rfl) ?_)); exact bodyPost_ret (results_scr rfl rfl (hX3.res hV3)) rfl (hX3.fin hV3 (by omega) hm1)
theorem do_c (S : Sn) (o a b : Int) (i u : Bool) (p q r : Int) (w : World) (hs : S.md.Ok) (hr : S.rd w) (hsz : S.s.gn * S.s.W.toNat ≤ 90000) (ha1 : -9223372036854775808 ≤ a) (ha2 : a ≤ 9223372036854775807) (h0 : 0 ≤ o) (h1 : o ≤ 13) : Calls Tryz.prog 8 #[.agg #[.slice S.s.gA S.s.gn S.s.gc, .int .i64 S.s.x, .int .i64 S.s.y, .bool S.s.wr, .bool S.s.og, .int .i64 S.s.fg, .int .i64 S.s.bg, .int .i64 S.s.fl, .int .u8 S.s.g0, .int .u8 S.s.g1, .int .u8 S.s.g2, .int .u8 S.s.g3, .int .i64 S.s.gl, .int .i64 S.s.gr, .int .i64 S.s.on, .int .i64 S.s.H, .int .i64 S.s.W, .int .i64 S.s.T, .int .i64 S.s.B, .slice S.s.tA S.s.tn S.s.tc, .int .i64 S.s.tw, .slice S.s.kA S.s.kn S.s.kc, .int .i64 S.s.kp, .int .i64 S.s.dir, .bool S.s.ex], .agg #[.int .i64 o, .int .i64 a, .int .i64 b, .bool i, .bool u, .int .i64 p, .int .i64 q, .int .i64 r]] w (SPost S w (Stz o S.md)) := by
  have h : o = 0 ∨ o = 1 ∨ o = 2 ∨ o = 3 ∨ o = 4 ∨ o = 5 ∨ o = 6 ∨ o = 7 ∨ o = 8 ∨ o = 9 ∨ o = 10 ∨ o = 11 ∨ o = 12 ∨ o = 13 := by omega
  rcases h with rfl | rfl | rfl | rfl | rfl | rfl | rfl | rfl | rfl | rfl | rfl | rfl | rfl | rfl
  · exact do_0 S a b i u p q r w hs hr hsz ha1 ha2
  · exact do_1 S a b i u p q r w hs hr hsz ha1 ha2
  · exact do_2 S a b i u p q r w hs hr hsz ha1 ha2
  · exact do_3 S a b i u p q r w hs hr hsz ha1 ha2
  · exact do_4 S a b i u p q r w hs hr hsz ha1 ha2
  · exact do_5 S a b i u p q r w hs hr hsz ha1 ha2
  · exact do_6 S a b i u p q r w hs hr hsz ha1 ha2
  · exact do_7 S a b i u p q r w hs hr hsz ha1 ha2
  · exact do_8 S a b i u p q r w hs hr hsz ha1 ha2
  · exact do_9 S a b i u p q r w hs hr hsz ha1 ha2
  · exact do_10 S a b i u p q r w hs hr hsz ha1 ha2
  · exact do_11 S a b i u p q r w hs hr hsz ha1 ha2
  · exact do_12 S a b i u p q r w hs hr hsz ha1 ha2
  · exact do_13 S a b i u p q r w hs hr hsz ha1 ha2
end Go.Proofs.YtlchffkabpfjpaaGreat.Scr
