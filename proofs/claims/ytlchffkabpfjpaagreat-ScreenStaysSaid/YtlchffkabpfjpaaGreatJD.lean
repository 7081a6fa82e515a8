/- Joined: StyG StyH. -/
import Derived.Test.YtlchffkabpfjpaaGreatStyC
section
/- tabs.Next, Prev any number of times. -/
namespace Go.Proofs.YtlchffkabpfjpaaGreat.Tab
open Go.RowKit
theorem seekN_in {f W : Int} {zs : List Int} (hW : 1 ≤ W) (h : ∀ z ∈ zs, 0 ≤ z ∧ z < W) : 0 ≤ seekN f W zs ∧ seekN f W zs ≤ W - 1 := by
  unfold seekN
  cases hf : zs.find? (fun z => decide (f < z)) with
  | none => simp; omega
  | some z =>
    have := h z (List.mem_of_find?_eq_some hf)
    simp
    omega
theorem seekP_in {f W : Int} {zs : List Int} (hW : 1 ≤ W) (h : ∀ z ∈ zs, 0 ≤ z ∧ z < W) : 0 ≤ seekP f zs ∧ seekP f zs ≤ W - 1 := by
  unfold seekP
  cases hf : zs.reverse.find? (fun z => decide (z < f)) with
  | none => simp; omega
  | some z =>
    have := h z (List.mem_reverse.1 (List.mem_of_find?_eq_some hf))
    simp
    omega
theorem seek_wrap {j : Nat} {n : Int} (h : (j : Int) < n) (hn : n ≤ 9223372036854775807) : wrap64 ((j : Int) + 1) = (j : Int) + 1 := IntWalk.wrap64_in _ (by omega)
theorem seek_meas {j : Nat} {n : Int} (h : (j : Int) < n) : (n - intOf (.int .i64 ((j : Int) + 1))).toNat < (n - intOf (.int .i64 (j : Int))).toNat := by
  simp [intOf]
  omega
theorem tsane_in {W : Int} {zs : List Int} (h : tsaneB W zs = true) : ∀ z ∈ zs, 0 ≤ z ∧ z < W := fun z hz => by
  obtain ⟨h1, h2⟩ := tsane_iff.1 h
  have := (okL_iff.1 h2).1 z hz
  omega
set_option maxRecDepth 100000 in
set_option maxHeartbeats 2000000 in
theorem nextn_c (at_ W n : Int) (x : Value) (zs : List Int) (w : World) (hx : RdI w x zs) (hn : zs.length ≤ 65536) (hs : tsaneB W zs = true) (h1 : 0 ≤ at_) (h2 : at_ ≤ W - 1) (hn2 : n ≤ 9223372036854775807) :
    Calls Tryz.prog 91 #[.agg #[x, .int .i64 W], .int .i64 at_, .int .i64 n] w fun e w' => ∃ z : Int, e = .returned (.int .i64 z) ∧ 0 ≤ z ∧ z ≤ W - 1 ∧ Below w.heap.size w w' := by
  have hmf : ∀ (fn : Fn) (first cap : Array Value) (w : World), (Instr.makeFunc fn first cap).run Tryz.prog w = .ok (.func fn first cap) w := fun _ _ _ _ => rfl
  have HS := Lib.hid hs
  have HX := Lib.hid hx
  have HW := Lib.hid (tsane_iff.1 hs).1
  have hW1 := HW.out.1
  have hW2 := HW.out.2
  have e1 : (if W - 1 < at_ then W - 1 else at_) = at_ := by split <;> omega
  have e2 : (if 0 < at_ then at_ else 0) = at_ := by split <;> omega
  obtain ⟨A, c, rfl, -⟩ := id hx
  clear hs hx
  go_enter Tryz.func91, Tryz.ntmps91
  go_upto_region 6 with (go_at_call 15; refine (sane_c _ W zs _ (HX.out.below (by exact bcAll)) hn).mono ?_; rw [HS.out]; rintro e w1 ⟨rfl, hg⟩; obtain ⟨X1, d1, rfl⟩ := Below.toGrow hg; clear hg)
  generalize hW0 : (w.alloc _).grow _ _ = W0
  have HB : Hid (Blk W0 w.heap.size 51 #[.slice A zs.length c, .int .i64 W]) := Lib.hid (by rw [← hW0]; exact (Blk.new _ _ _).grow _ _)
  have HB0 : Hid (Below w.heap.size w W0) := Lib.hid (by rw [← hW0]; exact bcAll)
  have HX0 := Lib.hid (HX.out.below HB0.out)
  have HIN := Lib.hid (tsane_in HS.out)
  have HN := Lib.hid hn
  have HN2 := Lib.hid hn2
  clear hW0 e1 e2 hn hn2
  generalize (Value.agg #[.slice A zs.length c, .int .i64 W]) = V0
  go_loopw [1, 8] (fun a i wz => ∃ (z : Int) (j : Nat), a = .int .i64 z ∧ 0 ≤ z ∧ z ≤ W - 1 ∧ i = .int .i64 j ∧ wz = W0) (fun _ i _ => (n - intOf i).toNat)
  case atStart => exact ⟨at_, 0, rfl, h1, h2, rfl, rfl⟩
  case round =>
    obtain ⟨z, j, rfl, hz1, hz2, rfl, rfl⟩ := hrel
    obtain ⟨r0, r1, rf, rl⟩ := HB.out.facts2
    have HZ := Lib.hid (And.intro hz1 hz2)
    by_cases hj : (j : Int) < n
    · by_cases hz : z < W - 1
      · have hjw := seek_wrap hj HN2.out
        have HJ := Lib.hid hj
        go_wp2_with (go_at_call 106; refine (seekn_c z W w.heap.size _ zs _ HB.out HX0.out HN.out HW.out).mono ?_; rintro e w2 ⟨rfl, rfl⟩)
        go_roundw
        case rel => exact ⟨_, j + 1, rfl, (seekN_in HW.out.1 HIN.out).1, (seekN_in HW.out.1 HIN.out).2, by (try rw [hjw]); rfl, trivial⟩
        case measure =>
          (try rw [hjw])
          exact seek_meas HJ.out
      · go_wp2_with fail
        exact bodyPost_ret (v := .int .i64 z) (by simp [results, Tryz.results91, go_sem]) rfl ⟨z, rfl, HZ.out.1, HZ.out.2, HB0.out⟩
    · go_wp2_with fail
      exact bodyPost_ret (v := .int .i64 z) (by simp [results, Tryz.results91, go_sem]) rfl ⟨z, rfl, HZ.out.1, HZ.out.2, HB0.out⟩
set_option maxRecDepth 100000 in
set_option maxHeartbeats 2000000 in
theorem prevn_c (at_ W n : Int) (x : Value) (zs : List Int) (w : World) (hx : RdI w x zs) (hn : zs.length ≤ 65536) (hs : tsaneB W zs = true) (h1 : 0 ≤ at_) (h2 : at_ ≤ W - 1) (hn2 : n ≤ 9223372036854775807) :
    Calls Tryz.prog 92 #[.agg #[x, .int .i64 W], .int .i64 at_, .int .i64 n] w fun e w' => ∃ z : Int, e = .returned (.int .i64 z) ∧ 0 ≤ z ∧ z ≤ W - 1 ∧ Below w.heap.size w w' := by
  have hmf : ∀ (fn : Fn) (first cap : Array Value) (w : World), (Instr.makeFunc fn first cap).run Tryz.prog w = .ok (.func fn first cap) w := fun _ _ _ _ => rfl
  have HS := Lib.hid hs
  have HX := Lib.hid hx
  have HW := Lib.hid (tsane_iff.1 hs).1
  have hW1 := HW.out.1
  have hW2 := HW.out.2
  have e1 : (if W - 1 < at_ then W - 1 else at_) = at_ := by split <;> omega
  have e2 : (if 0 < at_ then at_ else 0) = at_ := by split <;> omega
  obtain ⟨A, c, rfl, -⟩ := id hx
  clear hs hx
  go_enter Tryz.func92, Tryz.ntmps92
  go_upto_region 6 with (go_at_call 15; refine (sane_c _ W zs _ (HX.out.below (by exact bcAll)) hn).mono ?_; rw [HS.out]; rintro e w1 ⟨rfl, hg⟩; obtain ⟨X1, d1, rfl⟩ := Below.toGrow hg; clear hg)
  generalize hW0 : (w.alloc _).grow _ _ = W0
  have HB : Hid (Blk W0 w.heap.size 51 #[.slice A zs.length c, .int .i64 W]) := Lib.hid (by rw [← hW0]; exact (Blk.new _ _ _).grow _ _)
  have HB0 : Hid (Below w.heap.size w W0) := Lib.hid (by rw [← hW0]; exact bcAll)
  have HX0 := Lib.hid (HX.out.below HB0.out)
  have HIN := Lib.hid (tsane_in HS.out)
  have HN := Lib.hid hn
  have HN2 := Lib.hid hn2
  clear hW0 e1 e2 hn hn2
  generalize (Value.agg #[.slice A zs.length c, .int .i64 W]) = V0
  go_loopw [1, 8] (fun a i wz => ∃ (z : Int) (j : Nat), a = .int .i64 z ∧ 0 ≤ z ∧ z ≤ W - 1 ∧ i = .int .i64 j ∧ wz = W0) (fun _ i _ => (n - intOf i).toNat)
  case atStart => exact ⟨at_, 0, rfl, h1, h2, rfl, rfl⟩
  case round =>
    obtain ⟨z, j, rfl, hz1, hz2, rfl, rfl⟩ := hrel
    obtain ⟨r0, r1, rf, rl⟩ := HB.out.facts2
    have HZ := Lib.hid (And.intro hz1 hz2)
    by_cases hj : (j : Int) < n
    · by_cases hz : 0 < z
      · have hjw := seek_wrap hj HN2.out
        have HJ := Lib.hid hj
        go_wp2_with (go_at_call 107; refine (seekp_c z W w.heap.size _ zs _ HB.out HX0.out HN.out).mono ?_; rintro e w2 ⟨rfl, rfl⟩)
        go_roundw
        case rel => exact ⟨_, j + 1, rfl, (seekP_in HW.out.1 HIN.out).1, (seekP_in HW.out.1 HIN.out).2, by (try rw [hjw]); rfl, trivial⟩
        case measure =>
          (try rw [hjw])
          exact seek_meas HJ.out
      · go_wp2_with fail
        exact bodyPost_ret (v := .int .i64 z) (by simp [results, Tryz.results92, go_sem]) rfl ⟨z, rfl, HZ.out.1, HZ.out.2, HB0.out⟩
    · go_wp2_with fail
      exact bodyPost_ret (v := .int .i64 z) (by simp [results, Tryz.results92, go_sem]) rfl ⟨z, rfl, HZ.out.1, HZ.out.2, HB0.out⟩
end Go.Proofs.YtlchffkabpfjpaaGreat.Tab
end
section
/- screen.Tab. -/
namespace Go.Proofs.YtlchffkabpfjpaaGreat.Scr
open Go.RowKit Go.Proofs.YtlchffkabpfjpaaGreat.Row
attribute [local go_sem ↓] scr_load_pre scr_store_pre
attribute [local go_sem] scr_cell scr_frozen
theorem sty_x {s : Sc} {F : Nat → Rw} {zs : List Int} {L : List Rw} {z : Int} (hO : (Sn.md ⟨s, F, zs, L⟩).Ok) (h1 : 0 ≤ z) (h2 : z ≤ s.tw - 1) : Sty (Sn.md ⟨s, F, zs, L⟩) (Sn.md ⟨{ s with x := z, wr := false }, F, zs, L⟩) := by
  have ht : s.tw = s.W := hO.tw
  obtain ⟨a1, a2, w1, w2, t0, tb, bh, x0, x1, y0, y1, wx, oy⟩ := hO.cf
  have h : Md.Ok { (Sn.md ⟨s, F, zs, L⟩) with x := z, y := (Sn.md ⟨s, F, zs, L⟩).y, wr := false } := hO.move ⟨a1, a2, w1, w2, t0, tb, bh, h1, (by show z < s.W; omega), y0, y1, (fun h => by cases h), oy⟩
  exact ⟨h, rfl, rfl, rfl, rfl, rfl, rfl, rfl, rfl⟩
set_option maxRecDepth 100000 in
set_option maxHeartbeats 4000000 in
theorem Tab_next (S : Sn) (k : Int) (w : World) (hs : S.md.Ok) (hr : S.rd w) (h0 : 0 ≤ k) (hk : k ≤ 9223372036854775807) : Calls Tryz.prog 58 #[.agg #[.slice S.s.gA S.s.gn S.s.gc, .int .i64 S.s.x, .int .i64 S.s.y, .bool S.s.wr, .bool S.s.og, .int .i64 S.s.fg, .int .i64 S.s.bg, .int .i64 S.s.fl, .int .u8 S.s.g0, .int .u8 S.s.g1, .int .u8 S.s.g2, .int .u8 S.s.g3, .int .i64 S.s.gl, .int .i64 S.s.gr, .int .i64 S.s.on, .int .i64 S.s.H, .int .i64 S.s.W, .int .i64 S.s.T, .int .i64 S.s.B, .slice S.s.tA S.s.tn S.s.tc, .int .i64 S.s.tw, .slice S.s.kA S.s.kn S.s.kc, .int .i64 S.s.kp, .int .i64 S.s.dir, .bool S.s.ex], .int .i64 k] w (SPost S w (Sty S.md)) := by
  have HK := Lib.hid hk
  have HK0 := Lib.hid h0
  have d0 : decide (0 ≤ k) = true := decide_eq_true h0
  clear hk h0
  have HR := Lib.hid hr; have HS := Lib.hid hs; have HST := Lib.hid hs.stops; obtain ⟨s, F, zs, L⟩ := S; have hf := hs.cf; simp only [Sn.md] at hf; have HTB := Lib.hid (show Tab.tsaneB s.tw zs = true from hs.tb); have HX0 := Lib.hid (show 0 ≤ s.x from hf.x0); have HX1 := Lib.hid (show s.x ≤ s.tw - 1 by have := hf.x1; have h : s.tw = s.W := hs.tw; omega); have HZL := Lib.hid (show zs.length ≤ 65536 by have := HST.out; simp only [Sn.md] at this; omega); clear hr hs hf; dsimp only at *; go_enter Tryz.func58, Tryz.ntmps58; go_upto_region 1 with fail; generalize hW : (w.alloc _).alloc _ = W; have hX : WS w.heap.size (w.heap.size + 1) 2 ⟨s, F, zs, L⟩ w W ⟨s, F, zs, L⟩ := hW ▸ WS.start HR.out; clear hW; go_wp2_with (refine hX.wload rfl rfl rfl ?_); refine (sane_ok ⟨s, F, zs, L⟩ _ hX.v.rd HS.out).mono ?_; rintro e w0 ⟨rfl, hg⟩; have hX1 := hX.below hg.below; clear hg hX; have hz := hX1.sz
  generalize (.agg #[.slice s.gA s.gn s.gc, .int .i64 s.x, .int .i64 s.y, .bool s.wr, .bool s.og, .int .i64 s.fg, .int .i64 s.bg, .int .i64 s.fl, .int .u8 s.g0, .int .u8 s.g1, .int .u8 s.g2, .int .u8 s.g3, .int .i64 s.gl, .int .i64 s.gr, .int .i64 s.on, .int .i64 s.H, .int .i64 s.W, .int .i64 s.T, .int .i64 s.B, .slice s.tA s.tn s.tc, .int .i64 s.tw, .slice s.kA s.kn s.kc, .int .i64 s.kp, .int .i64 s.dir, .bool s.ex] : Value) = V0
  have rS := SBlk.isScr hX1.x.B; have rL := SBlk.cells hX1.x.B; have rZ := IsScr.lt rS
  go_upto_region 5 with fail
  go_wp2_with fail
  refine (Tab.nextn_c s.x s.tw k (.slice s.tA s.tn s.tc) zs _ hX1.stops HZL.out HTB.out HX0.out HX1.out HK.out).mono ?_
  intro e w3 hp
  obtain ⟨z, rfl, hz1, hz2, hg3⟩ := hp; have HZ := Lib.hid (And.intro hz1 hz2); have hX3 := hX1.below hg3; clear rS rL rZ hz1 hz2 hX1 hg3; have rS := SBlk.isScr hX3.x.B; have rL := SBlk.cells hX3.x.B; have rZ := IsScr.lt rS; have hzz := hX3.sz; go_upto_region 9 with fail; clear rS rL rZ; generalize hW6 : World.setCell _ _ _ = W6; have hX6 : WS w.heap.size (w.heap.size + 1) 2 ⟨s, F, zs, L⟩ w W6 ⟨{ s with x := z, wr := false }, F, zs, L⟩ := (by rw [← hW6]; exact hX3.cell2 (by omega) 1 3 (.int .i64 z) (.bool false) (fun v => ⟨v.rd, v.out, v.gen⟩) rfl); clear hW6; go_wp2_with (first | (refine hX6.wload rfl rfl rfl ?_) | (refine hX6.wstore hX6.v (by rfl) (by rfl) (by rfl) (by rfl) (by rfl) ?_)); exact bodyPost_ret (results_scr rfl rfl (hX6.res hX6.v)) rfl (hX6.fin hX6.v (by omega) (by exact sty_x HS.out HZ.out.1 HZ.out.2))
set_option maxRecDepth 100000 in
set_option maxHeartbeats 4000000 in
theorem Tab_min (S : Sn) (w : World) (hs : S.md.Ok) (hr : S.rd w) : Calls Tryz.prog 58 #[.agg #[.slice S.s.gA S.s.gn S.s.gc, .int .i64 S.s.x, .int .i64 S.s.y, .bool S.s.wr, .bool S.s.og, .int .i64 S.s.fg, .int .i64 S.s.bg, .int .i64 S.s.fl, .int .u8 S.s.g0, .int .u8 S.s.g1, .int .u8 S.s.g2, .int .u8 S.s.g3, .int .i64 S.s.gl, .int .i64 S.s.gr, .int .i64 S.s.on, .int .i64 S.s.H, .int .i64 S.s.W, .int .i64 S.s.T, .int .i64 S.s.B, .slice S.s.tA S.s.tn S.s.tc, .int .i64 S.s.tw, .slice S.s.kA S.s.kn S.s.kc, .int .i64 S.s.kp, .int .i64 S.s.dir, .bool S.s.ex], .int .i64 (-9223372036854775808)] w (SPost S w (Sty S.md)) := by
  have HR := Lib.hid hr; have HS := Lib.hid hs; have HST := Lib.hid hs.stops; obtain ⟨s, F, zs, L⟩ := S; have hf := hs.cf; simp only [Sn.md] at hf; have HTB := Lib.hid (show Tab.tsaneB s.tw zs = true from hs.tb); have HX0 := Lib.hid (show 0 ≤ s.x from hf.x0); have HX1 := Lib.hid (show s.x ≤ s.tw - 1 by have := hf.x1; have h : s.tw = s.W := hs.tw; omega); have HZL := Lib.hid (show zs.length ≤ 65536 by have := HST.out; simp only [Sn.md] at this; omega); clear hr hs hf; dsimp only at *; go_enter Tryz.func58, Tryz.ntmps58; go_upto_region 1 with fail; generalize hW : (w.alloc _).alloc _ = W; have hX : WS w.heap.size (w.heap.size + 1) 2 ⟨s, F, zs, L⟩ w W ⟨s, F, zs, L⟩ := hW ▸ WS.start HR.out; clear hW; go_wp2_with (refine hX.wload rfl rfl rfl ?_); refine (sane_ok ⟨s, F, zs, L⟩ _ hX.v.rd HS.out).mono ?_; rintro e w0 ⟨rfl, hg⟩; have hX1 := hX.below hg.below; clear hg hX; have hz := hX1.sz
  generalize (.agg #[.slice s.gA s.gn s.gc, .int .i64 s.x, .int .i64 s.y, .bool s.wr, .bool s.og, .int .i64 s.fg, .int .i64 s.bg, .int .i64 s.fl, .int .u8 s.g0, .int .u8 s.g1, .int .u8 s.g2, .int .u8 s.g3, .int .i64 s.gl, .int .i64 s.gr, .int .i64 s.on, .int .i64 s.H, .int .i64 s.W, .int .i64 s.T, .int .i64 s.B, .slice s.tA s.tn s.tc, .int .i64 s.tw, .slice s.kA s.kn s.kc, .int .i64 s.kp, .int .i64 s.dir, .bool s.ex] : Value) = V0
  have rS := SBlk.isScr hX1.x.B; have rL := SBlk.cells hX1.x.B; have rZ := IsScr.lt rS
  go_upto_region 7 with fail
  go_wp2_with fail
  refine (Tab.prevn_c s.x s.tw 9223372036854775807 (.slice s.tA s.tn s.tc) zs _ hX1.stops HZL.out HTB.out HX0.out HX1.out (Int.le_refl _)).mono ?_
  intro e w3 hp
  obtain ⟨z, rfl, hz1, hz2, hg3⟩ := hp; have HZ := Lib.hid (And.intro hz1 hz2); have hX3 := hX1.below hg3; clear rS rL rZ hz1 hz2 hX1 hg3; have rS := SBlk.isScr hX3.x.B; have rL := SBlk.cells hX3.x.B; have rZ := IsScr.lt rS; have hzz := hX3.sz; go_upto_region 9 with fail; clear rS rL rZ; generalize hW6 : World.setCell _ _ _ = W6; have hX6 : WS w.heap.size (w.heap.size + 1) 2 ⟨s, F, zs, L⟩ w W6 ⟨{ s with x := z, wr := false }, F, zs, L⟩ := (by rw [← hW6]; exact hX3.cell2 (by omega) 1 3 (.int .i64 z) (.bool false) (fun v => ⟨v.rd, v.out, v.gen⟩) rfl); clear hW6; go_wp2_with (first | (refine hX6.wload rfl rfl rfl ?_) | (refine hX6.wstore hX6.v (by rfl) (by rfl) (by rfl) (by rfl) (by rfl) ?_)); exact bodyPost_ret (results_scr rfl rfl (hX6.res hX6.v)) rfl (hX6.fin hX6.v (by omega) (by exact sty_x HS.out HZ.out.1 HZ.out.2))
set_option maxRecDepth 100000 in
set_option maxHeartbeats 4000000 in
theorem Tab_prev (S : Sn) (k : Int) (w : World) (hs : S.md.Ok) (hr : S.rd w) (h0 : k < 0) (hk : -9223372036854775808 < k) : Calls Tryz.prog 58 #[.agg #[.slice S.s.gA S.s.gn S.s.gc, .int .i64 S.s.x, .int .i64 S.s.y, .bool S.s.wr, .bool S.s.og, .int .i64 S.s.fg, .int .i64 S.s.bg, .int .i64 S.s.fl, .int .u8 S.s.g0, .int .u8 S.s.g1, .int .u8 S.s.g2, .int .u8 S.s.g3, .int .i64 S.s.gl, .int .i64 S.s.gr, .int .i64 S.s.on, .int .i64 S.s.H, .int .i64 S.s.W, .int .i64 S.s.T, .int .i64 S.s.B, .slice S.s.tA S.s.tn S.s.tc, .int .i64 S.s.tw, .slice S.s.kA S.s.kn S.s.kc, .int .i64 S.s.kp, .int .i64 S.s.dir, .bool S.s.ex], .int .i64 k] w (SPost S w (Sty S.md)) := by
  have HK := Lib.hid (show -k ≤ 9223372036854775807 by omega)
  have d0 : decide (0 ≤ k) = false := decide_eq_false (by omega)
  have d1 : (k == -9223372036854775808) = false := by simp; omega
  have hwk : wrap64 (-k) = -k := IntWalk.wrap64_in _ (by omega)
  clear hk h0
  have HR := Lib.hid hr; have HS := Lib.hid hs; have HST := Lib.hid hs.stops; obtain ⟨s, F, zs, L⟩ := S; have hf := hs.cf; simp only [Sn.md] at hf; have HTB := Lib.hid (show Tab.tsaneB s.tw zs = true from hs.tb); have HX0 := Lib.hid (show 0 ≤ s.x from hf.x0); have HX1 := Lib.hid (show s.x ≤ s.tw - 1 by have := hf.x1; have h : s.tw = s.W := hs.tw; omega); have HZL := Lib.hid (show zs.length ≤ 65536 by have := HST.out; simp only [Sn.md] at this; omega); clear hr hs hf; dsimp only at *; go_enter Tryz.func58, Tryz.ntmps58; go_upto_region 1 with fail; generalize hW : (w.alloc _).alloc _ = W; have hX : WS w.heap.size (w.heap.size + 1) 2 ⟨s, F, zs, L⟩ w W ⟨s, F, zs, L⟩ := hW ▸ WS.start HR.out; clear hW; go_wp2_with (refine hX.wload rfl rfl rfl ?_); refine (sane_ok ⟨s, F, zs, L⟩ _ hX.v.rd HS.out).mono ?_; rintro e w0 ⟨rfl, hg⟩; have hX1 := hX.below hg.below; clear hg hX; have hz := hX1.sz
  generalize (.agg #[.slice s.gA s.gn s.gc, .int .i64 s.x, .int .i64 s.y, .bool s.wr, .bool s.og, .int .i64 s.fg, .int .i64 s.bg, .int .i64 s.fl, .int .u8 s.g0, .int .u8 s.g1, .int .u8 s.g2, .int .u8 s.g3, .int .i64 s.gl, .int .i64 s.gr, .int .i64 s.on, .int .i64 s.H, .int .i64 s.W, .int .i64 s.T, .int .i64 s.B, .slice s.tA s.tn s.tc, .int .i64 s.tw, .slice s.kA s.kn s.kc, .int .i64 s.kp, .int .i64 s.dir, .bool s.ex] : Value) = V0
  have rS := SBlk.isScr hX1.x.B; have rL := SBlk.cells hX1.x.B; have rZ := IsScr.lt rS
  go_upto_region 3 with fail
  go_wp2_with fail
  refine (Tab.prevn_c s.x s.tw (-k) (.slice s.tA s.tn s.tc) zs _ hX1.stops HZL.out HTB.out HX0.out HX1.out HK.out).mono ?_
  intro e w3 hp
  obtain ⟨z, rfl, hz1, hz2, hg3⟩ := hp; have HZ := Lib.hid (And.intro hz1 hz2); have hX3 := hX1.below hg3; clear rS rL rZ hz1 hz2 hX1 hg3; have rS := SBlk.isScr hX3.x.B; have rL := SBlk.cells hX3.x.B; have rZ := IsScr.lt rS; have hzz := hX3.sz; go_upto_region 9 with fail; clear rS rL rZ; generalize hW6 : World.setCell _ _ _ = W6; have hX6 : WS w.heap.size (w.heap.size + 1) 2 ⟨s, F, zs, L⟩ w W6 ⟨{ s with x := z, wr := false }, F, zs, L⟩ := (by rw [← hW6]; exact hX3.cell2 (by omega) 1 3 (.int .i64 z) (.bool false) (fun v => ⟨v.rd, v.out, v.gen⟩) rfl); clear hW6; go_wp2_with (first | (refine hX6.wload rfl rfl rfl ?_) | (refine hX6.wstore hX6.v (by rfl) (by rfl) (by rfl) (by rfl) (by rfl) ?_)); exact bodyPost_ret (results_scr rfl rfl (hX6.res hX6.v)) rfl (hX6.fin hX6.v (by omega) (by exact sty_x HS.out HZ.out.1 HZ.out.2))
theorem Tab_c (S : Sn) (k : Int) (w : World) (hs : S.md.Ok) (hr : S.rd w) (h1 : -9223372036854775808 ≤ k) (h2 : k ≤ 9223372036854775807) : Calls Tryz.prog 58 #[.agg #[.slice S.s.gA S.s.gn S.s.gc, .int .i64 S.s.x, .int .i64 S.s.y, .bool S.s.wr, .bool S.s.og, .int .i64 S.s.fg, .int .i64 S.s.bg, .int .i64 S.s.fl, .int .u8 S.s.g0, .int .u8 S.s.g1, .int .u8 S.s.g2, .int .u8 S.s.g3, .int .i64 S.s.gl, .int .i64 S.s.gr, .int .i64 S.s.on, .int .i64 S.s.H, .int .i64 S.s.W, .int .i64 S.s.T, .int .i64 S.s.B, .slice S.s.tA S.s.tn S.s.tc, .int .i64 S.s.tw, .slice S.s.kA S.s.kn S.s.kc, .int .i64 S.s.kp, .int .i64 S.s.dir, .bool S.s.ex], .int .i64 k] w (SPost S w (Sty S.md)) := by
  by_cases h0 : 0 ≤ k
  · exact Tab_next S k w hs hr h0 h2
  · by_cases h3 : k = -9223372036854775808
    · subst h3
      exact Tab_min S w hs hr
    · exact Tab_prev S k w hs hr (by omega) (by omega)
end Go.Proofs.YtlchffkabpfjpaaGreat.Scr
end
