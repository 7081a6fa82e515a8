/- screen.wraps and its step; screen.next. -/
import Derived.Test.YtlchffkabpfjpaaScrQ
namespace Go.Proofs.Ytlchffkabpfjpaa.Scr
open Go.RowKit Go.Proofs.Ytlchffkabpfjpaa.Row
attribute [local go_sem ↓] scr_load_pre scr_store_pre
attribute [local go_sem] scr_cell scr_frozen
def FnPost (f : FuncId) (w : World) (Φ : Array Value → World → Prop) (e : Ending) (w' : World) : Prop := ∃ caps, e = .returned (.func (.func f) #[] caps) ∧ Below w.heap.size w w' ∧ Φ caps w'
set_option maxHeartbeats 4000000 in
theorem wraps_c (on : Bool) (w : World) : Calls Try.prog 56 #[.bool on] w (FnPost 80 w fun caps w' => ∃ b, caps = #[.pointer (some ⟨b, 0, none⟩)] ∧ Blk w' b 4 #[.bool on]) := by
  have hmf : ∀ (fn : Fn) (first cap : Array Value) (w : World), (Instr.makeFunc fn first cap).run Try.prog w = .ok (.func fn first cap) w := fun _ _ _ _ => rfl
  go_enter Try.func56, Try.ntmps56
  go_wp2_with fail
  go_ret
  exact ⟨_, rfl, (Below.refl _ _).alloc (Nat.le_refl _) _, _, rfl, Blk.new _ _ _⟩
theorem blk_one {w : World} {b : Nat} {t : TypeId} {v : Value} (h : Blk w b t #[v]) : w.cell? ⟨b, 0, none⟩ = some v ∧ b < w.heap.size := ⟨h.cell 0, h.lt⟩
set_option maxHeartbeats 4000000 in
theorem wraps_step (on : Bool) (b q : Nat) (w0 : World) (hB : Blk w0 b 4 #[.bool on]) : StepOk q w0 ⟨80, #[.pointer (some ⟨b, 0, none⟩)]⟩ (wrapC on) := by
  refine ⟨callFunc_enter Try.func80 (by kernel_rfl) (by kernel_rfl), fun r w hb hok _ hrq => ?_, fun c hc hn => ⟨hc, hn⟩⟩
  clear hrq
  obtain ⟨c0, cl⟩ := blk_one (hB.below hb hB.lt)
  have HOK := Lib.hid hok
  clear hB hb hok
  show Calls _ _ #[.agg #[.slice r.A r.n r.cap, .bool r.wb, .int .i64 r.dir, .bool r.ex], .pointer (some ⟨b, 0, none⟩)] _ _
  go_enter Try.func80, Try.ntmps80
  go_wp2_with fail
  refine bodyPost_ret (v := .agg #[.slice r.A r.n r.cap, .bool on, .int .i64 r.dir, .bool r.ex]) (by simp [results, Try.results80, go_sem]) rfl ⟨{ r with wb := on }, rfl, by (repeat (first | (with_reducible exact Below.refl _ _) | (with_reducible assumption) | (with_reducible refine Below.grow ?_ ?_ _ _) | (with_reducible refine Below.drewN' ?_ _) | (with_reducible refine Below.drew ?_) | (with_reducible refine Below.alloc ?_ ?_ _) | (with_reducible refine Below.setCell ?_ ?_ _) | omega | (focus (simp; done)) | (focus (simp; omega)))), HOK.out.below (by (repeat (first | (with_reducible exact Below.refl _ _) | (with_reducible assumption) | (with_reducible refine Below.grow ?_ ?_ _ _) | (with_reducible refine Below.drewN' ?_ _) | (with_reducible refine Below.drew ?_) | (with_reducible refine Below.alloc ?_ ?_ _) | (with_reducible refine Below.setCell ?_ ?_ _) | omega | (focus (simp; done)) | (focus (simp; omega))))), rfl, fun P hP => hP.mono fun b hb => .inl hb⟩
theorem steps1 {q : Nat} {w : World} {v : Fv} {T : Ct → Ct} (h : StepOk q w v T) : StepsOk q w [v] [T] := ⟨h, trivial⟩
theorem steps2 {q : Nat} {w : World} {v v' : Fv} {T T' : Ct → Ct} (h : StepOk q w v T) (h' : StepOk q w v' T') : StepsOk q w [v, v'] [T, T'] := ⟨h, h', trivial⟩
theorem Md.Ok.bare {m : Md} (h : m.Ok) : Md.Ok { m with x := 0, wr := false } := h.dry.x0 rfl
theorem onRow_1 (S : Sn) (x : Value) (q : Nat) (v : Fv) (T : Ct → Ct) (w : World) (hs : Md.Ok { S.md with x := 0, wr := false }) (hr : S.rd w) (hx : RdX encF w x [v]) (hq : (q : Int) = S.s.W) (hst : StepOk q w v T) :
    Calls Try.prog 30 #[.agg #[.slice S.s.gA S.s.gn S.s.gc, .int .i64 S.s.x, .int .i64 S.s.y, .bool S.s.wr, .bool S.s.og, .int .i64 S.s.fg, .int .i64 S.s.bg, .int .i64 S.s.fl, .int .u8 S.s.g0, .int .u8 S.s.g1, .int .u8 S.s.g2, .int .u8 S.s.g3, .int .i64 S.s.gl, .int .i64 S.s.gr, .int .i64 S.s.on, .int .i64 S.s.H, .int .i64 S.s.W, .int .i64 S.s.T, .int .i64 S.s.B, .slice S.s.tA S.s.tn S.s.tc, .int .i64 S.s.tw, .slice S.s.kA S.s.kn S.s.kc, .int .i64 S.s.kp, .int .i64 S.s.dir, .bool S.s.ex], x] w (SPost S w (fun m => m = S.md.setR (T S.md.here))) := onRow_c S x q [v] [T] w hs hr hx hq (steps1 hst) (by simp) (by simp)
theorem onRow_2 (S : Sn) (x : Value) (q : Nat) (v v' : Fv) (T T' : Ct → Ct) (w : World) (hs : Md.Ok { S.md with x := 0, wr := false }) (hr : S.rd w) (hx : RdX encF w x [v, v']) (hq : (q : Int) = S.s.W) (hst : StepOk q w v T) (hst' : StepOk q w v' T') :
    Calls Try.prog 30 #[.agg #[.slice S.s.gA S.s.gn S.s.gc, .int .i64 S.s.x, .int .i64 S.s.y, .bool S.s.wr, .bool S.s.og, .int .i64 S.s.fg, .int .i64 S.s.bg, .int .i64 S.s.fl, .int .u8 S.s.g0, .int .u8 S.s.g1, .int .u8 S.s.g2, .int .u8 S.s.g3, .int .i64 S.s.gl, .int .i64 S.s.gr, .int .i64 S.s.on, .int .i64 S.s.H, .int .i64 S.s.W, .int .i64 S.s.T, .int .i64 S.s.B, .slice S.s.tA S.s.tn S.s.tc, .int .i64 S.s.tw, .slice S.s.kA S.s.kn S.s.kc, .int .i64 S.s.kp, .int .i64 S.s.dir, .bool S.s.ex], x] w (SPost S w (fun m => m = S.md.setR (T' (T S.md.here)))) := onRow_c S x q [v, v'] [T, T'] w hs hr hx hq (steps2 hst hst') (by simp) (by simp)
theorem next_md {S S1 S2 : Sn} (h1 : S1.md = S.md.setR (wrapC true S.md.here)) (h2 : S2.md = S1.md.down) : Sn.md ⟨{ S2.s with x := 0 }, S2.F, S2.zs, S2.L⟩ = S.md.next := by
  unfold Md.next
  rw [show S.md.setR (wrapC true S.md.here) = S1.md from h1.symm, ← h2]
  rfl
set_option maxRecDepth 100000 in
set_option maxHeartbeats 4000000 in
theorem next_c (S : Sn) (w : World) (hs : S.md.Ok) (hr : S.rd w) : Calls Try.prog 25 #[.agg #[.slice S.s.gA S.s.gn S.s.gc, .int .i64 S.s.x, .int .i64 S.s.y, .bool S.s.wr, .bool S.s.og, .int .i64 S.s.fg, .int .i64 S.s.bg, .int .i64 S.s.fl, .int .u8 S.s.g0, .int .u8 S.s.g1, .int .u8 S.s.g2, .int .u8 S.s.g3, .int .i64 S.s.gl, .int .i64 S.s.gr, .int .i64 S.s.on, .int .i64 S.s.H, .int .i64 S.s.W, .int .i64 S.s.T, .int .i64 S.s.B, .slice S.s.tA S.s.tn S.s.tc, .int .i64 S.s.tw, .slice S.s.kA S.s.kn S.s.kc, .int .i64 S.s.kp, .int .i64 S.s.dir, .bool S.s.ex]] w (SPost S w (fun m => m = S.md.next)) := by
  have HR := Lib.hid hr
  have HS := Lib.hid hs
  obtain ⟨s, F, zs, L⟩ := S
  have HWQ := Lib.hid (show ((s.W.toNat : Nat) : Int) = s.W by have := hs.cf.w1; simp only [Sn.md] at this; omega)
  clear hr hs
  dsimp only at *
  go_enter Try.func25, Try.ntmps25
  go_upto_region 1 with fail
  generalize hW : (w.alloc _).alloc _ = W; have hX : WS w.heap.size (w.heap.size + 1) 2 ⟨s, F, zs, L⟩ w W ⟨s, F, zs, L⟩ := hW ▸ WS.start HR.out; clear hW
  have hN := hX.drew
  refine hr_start (S := (fun _ => True)) (by kernel_rfl) rfl ?_ (fun hHeld => ?_)
  · ((try dsimp only); (try exact trivial))
  refine hr_two (i := 0) (j := 1) rfl rfl rfl rfl (by kernel_rfl) (by kernel_rfl) (by kernel_rfl) (fun K hK => ?_) (fun K hK => ?_)
  · refine wp_scr_load hN.x.B rfl rfl ?_
    refine hK.out _ _ ?_ (fun hHeld => ?_)
    · ((try dsimp only); (try exact trivial))
    clear hK K
    simp only [List.set_cons_zero, List.set_cons_succ]
    refine hr_op (i := 1) rfl rfl (by kernel_rfl) (by kernel_rfl) (fun K hK => ?_)
    (try go_simp)
    ((with_reducible refine (wraps_c true _).mono ?_); rintro e w1 ⟨_, rfl, hg, b1, rfl, hbk⟩; have hz1 := hN.sz; replace hN := hN.below hg)
    (try go_wp2_with fail)
    refine hK.out _ _ ?_ (fun hHeld => ?_)
    · ((try dsimp only); (try exact trivial))
    clear hK K
    simp only [List.set_cons_zero, List.set_cons_succ]
    refine hr_op (i := 2) rfl rfl (by kernel_rfl) (by kernel_rfl) (fun K hK => ?_)
    (try go_simp)
    (have hx : RdX encF (w1.alloc (.cells #[.func (.func 80) #[] #[.pointer (some ⟨b1, 0, none⟩)]] 81)) (.slice (some ⟨w1.heap.size, 0, none⟩) 1 1) [⟨80, #[.pointer (some ⟨b1, 0, none⟩)]⟩] := rdX_one (E := encF) _ _ _ _ _ rfl rfl; replace hbk := hbk.alloc (.cells #[.func (.func 80) #[] #[.pointer (some ⟨b1, 0, none⟩)]] 81); replace hN := hN.alloc (.cells #[.func (.func 80) #[] #[.pointer (some ⟨b1, 0, none⟩)]] 81))
    (try go_wp2_with fail)
    refine hK.out _ _ ?_ (fun hHeld => ?_)
    · ((try dsimp only); (try exact trivial))
    clear hK K
    simp only [List.set_cons_zero, List.set_cons_succ]
    refine hr_op (i := 3) rfl rfl (by kernel_rfl) (by kernel_rfl) (fun K hK => ?_)
    (try go_simp)
    ((with_reducible refine (onRow_1 ⟨s, F, zs, L⟩ _ s.W.toNat _ _ _ HS.out.bare hN.v.rd hx HWQ.out (wraps_step true b1 _ _ hbk)).mono ?_); intro e w3 hp; obtain ⟨S1, rfl, hN1, hV1, hm1, hz3⟩ := hN.post (by have := hN.sz; omega) hp; clear hN; have hN := hN1)
    (try go_wp2_with fail)
    refine hK.out _ _ ?_ (fun hHeld => ?_)
    · ((try dsimp only); (try exact trivial))
    clear hK K
    simp only [List.set_cons_zero, List.set_cons_succ]
    refine hr_op (i := 4) rfl rfl (by kernel_rfl) (by kernel_rfl) (fun K hK => ?_)
    (try go_simp)
    ((with_reducible refine (down_c S1 _ (by rw [hm1]; exact HS.out.wrapR true) hV1.rd).mono ?_); intro e w4 hp; obtain ⟨S2, rfl, hg4, hV2, hm2⟩ := hV1.post hz3 hp; replace hN := hN.below hg4)
    (try go_wp2_with fail)
    refine hK.out _ _ ?_ (fun hHeld => ?_)
    · ((try dsimp only); (try exact trivial))
    clear hK K
    simp only [List.set_cons_zero, List.set_cons_succ]
    refine hr_op0 (i := 5) rfl (by kernel_rfl) (by kernel_rfl) (fun K hK => ?_)
    (refine wp_scr_store S2.s hN.x.B.isScr rfl rfl rfl rfl ?_; generalize hW5 : World.setRow _ _ _ = W5; have hN2 : WS w.heap.size (w.heap.size + 1) 2 ⟨s, F, zs, L⟩ w W5 S2 := hW5 ▸ hN.row (by omega) hV2; clear hW5)
    refine hK.out _ ?_ (fun hHeld => ?_)
    · ((try dsimp only); (try exact trivial))
    clear hK K
    refine hr_done (by kernel_rfl) ?_
    (have hz5 := hN2.sz; have rS := SBlk.isScr hN2.x.B; have rL := SBlk.cells hN2.x.B; have rZ := IsScr.lt rS; go_upto_region 3 with fail; clear rS rL rZ; generalize hW6 : World.setCell _ _ _ = W6; have hX6 : WS w.heap.size (w.heap.size + 1) 2 ⟨s, F, zs, L⟩ w W6 ⟨{ S2.s with x := 0 }, S2.F, S2.zs, S2.L⟩ := hW6 ▸ hN2.cell (by omega) 1 _ (fun v => ⟨v.rd, v.out, v.gen⟩) rfl; clear hW6; go_wp2_with (first | (refine hX6.wload rfl rfl rfl ?_) | (refine hX6.wstore hX6.v (by rfl) (by rfl) (by rfl) (by rfl) (by rfl) ?_)); exact bodyPost_ret (results_scr rfl rfl (hX6.res hX6.v)) rfl (hX6.fin hX6.v (by omega) (next_md hm1 hm2)))
  · (try go_simp)
    ((with_reducible refine (wraps_c true _).mono ?_); rintro e w1 ⟨_, rfl, hg, b1, rfl, hbk⟩; have hz1 := hN.sz; replace hN := hN.below hg)
    (try go_wp2_with fail)
    refine hK.out _ _ ?_ (fun hHeld => ?_)
    · ((try dsimp only); (try exact trivial))
    clear hK K
    simp only [List.set_cons_zero, List.set_cons_succ]
    refine hr_two (i := 0) (j := 2) rfl rfl rfl rfl (by kernel_rfl) (by kernel_rfl) (by kernel_rfl) (fun K hK => ?_) (fun K hK => ?_)
    · refine wp_scr_load hN.x.B rfl rfl ?_
      refine hK.out _ _ ?_ (fun hHeld => ?_)
      · ((try dsimp only); (try exact trivial))
      clear hK K
      simp only [List.set_cons_zero, List.set_cons_succ]
      refine hr_op (i := 2) rfl rfl (by kernel_rfl) (by kernel_rfl) (fun K hK => ?_)
      (try go_simp)
      (have hx : RdX encF (w1.alloc (.cells #[.func (.func 80) #[] #[.pointer (some ⟨b1, 0, none⟩)]] 81)) (.slice (some ⟨w1.heap.size, 0, none⟩) 1 1) [⟨80, #[.pointer (some ⟨b1, 0, none⟩)]⟩] := rdX_one (E := encF) _ _ _ _ _ rfl rfl; replace hbk := hbk.alloc (.cells #[.func (.func 80) #[] #[.pointer (some ⟨b1, 0, none⟩)]] 81); replace hN := hN.alloc (.cells #[.func (.func 80) #[] #[.pointer (some ⟨b1, 0, none⟩)]] 81))
      (try go_wp2_with fail)
      refine hK.out _ _ ?_ (fun hHeld => ?_)
      · ((try dsimp only); (try exact trivial))
      clear hK K
      simp only [List.set_cons_zero, List.set_cons_succ]
      refine hr_op (i := 3) rfl rfl (by kernel_rfl) (by kernel_rfl) (fun K hK => ?_)
      (try go_simp)
      ((with_reducible refine (onRow_1 ⟨s, F, zs, L⟩ _ s.W.toNat _ _ _ HS.out.bare hN.v.rd hx HWQ.out (wraps_step true b1 _ _ hbk)).mono ?_); intro e w3 hp; obtain ⟨S1, rfl, hN1, hV1, hm1, hz3⟩ := hN.post (by have := hN.sz; omega) hp; clear hN; have hN := hN1)
      (try go_wp2_with fail)
      refine hK.out _ _ ?_ (fun hHeld => ?_)
      · ((try dsimp only); (try exact trivial))
      clear hK K
      simp only [List.set_cons_zero, List.set_cons_succ]
      refine hr_op (i := 4) rfl rfl (by kernel_rfl) (by kernel_rfl) (fun K hK => ?_)
      (try go_simp)
      ((with_reducible refine (down_c S1 _ (by rw [hm1]; exact HS.out.wrapR true) hV1.rd).mono ?_); intro e w4 hp; obtain ⟨S2, rfl, hg4, hV2, hm2⟩ := hV1.post hz3 hp; replace hN := hN.below hg4)
      (try go_wp2_with fail)
      refine hK.out _ _ ?_ (fun hHeld => ?_)
      · ((try dsimp only); (try exact trivial))
      clear hK K
      simp only [List.set_cons_zero, List.set_cons_succ]
      refine hr_op0 (i := 5) rfl (by kernel_rfl) (by kernel_rfl) (fun K hK => ?_)
      (refine wp_scr_store S2.s hN.x.B.isScr rfl rfl rfl rfl ?_; generalize hW5 : World.setRow _ _ _ = W5; have hN2 : WS w.heap.size (w.heap.size + 1) 2 ⟨s, F, zs, L⟩ w W5 S2 := hW5 ▸ hN.row (by omega) hV2; clear hW5)
      refine hK.out _ ?_ (fun hHeld => ?_)
      · ((try dsimp only); (try exact trivial))
      clear hK K
      refine hr_done (by kernel_rfl) ?_
      (have hz5 := hN2.sz; have rS := SBlk.isScr hN2.x.B; have rL := SBlk.cells hN2.x.B; have rZ := IsScr.lt rS; go_upto_region 3 with fail; clear rS rL rZ; generalize hW6 : World.setCell _ _ _ = W6; have hX6 : WS w.heap.size (w.heap.size + 1) 2 ⟨s, F, zs, L⟩ w W6 ⟨{ S2.s with x := 0 }, S2.F, S2.zs, S2.L⟩ := hW6 ▸ hN2.cell (by omega) 1 _ (fun v => ⟨v.rd, v.out, v.gen⟩) rfl; clear hW6; go_wp2_with (first | (refine hX6.wload rfl rfl rfl ?_) | (refine hX6.wstore hX6.v (by rfl) (by rfl) (by rfl) (by rfl) (by rfl) ?_)); exact bodyPost_ret (results_scr rfl rfl (hX6.res hX6.v)) rfl (hX6.fin hX6.v (by omega) (next_md hm1 hm2)))
    · (try go_simp)
      (have hx : RdX encF (w1.alloc (.cells #[.func (.func 80) #[] #[.pointer (some ⟨b1, 0, none⟩)]] 81)) (.slice (some ⟨w1.heap.size, 0, none⟩) 1 1) [⟨80, #[.pointer (some ⟨b1, 0, none⟩)]⟩] := rdX_one (E := encF) _ _ _ _ _ rfl rfl; replace hbk := hbk.alloc (.cells #[.func (.func 80) #[] #[.pointer (some ⟨b1, 0, none⟩)]] 81); replace hN := hN.alloc (.cells #[.func (.func 80) #[] #[.pointer (some ⟨b1, 0, none⟩)]] 81))
      (try go_wp2_with fail)
      refine hK.out _ _ ?_ (fun hHeld => ?_)
      · ((try dsimp only); (try exact trivial))
      clear hK K
      simp only [List.set_cons_zero, List.set_cons_succ]
      refine hr_op (i := 0) rfl rfl (by kernel_rfl) (by kernel_rfl) (fun K hK => ?_)
      refine wp_scr_load hN.x.B rfl rfl ?_
      refine hK.out _ _ ?_ (fun hHeld => ?_)
      · ((try dsimp only); (try exact trivial))
      clear hK K
      simp only [List.set_cons_zero, List.set_cons_succ]
      refine hr_op (i := 3) rfl rfl (by kernel_rfl) (by kernel_rfl) (fun K hK => ?_)
      (try go_simp)
      ((with_reducible refine (onRow_1 ⟨s, F, zs, L⟩ _ s.W.toNat _ _ _ HS.out.bare hN.v.rd hx HWQ.out (wraps_step true b1 _ _ hbk)).mono ?_); intro e w3 hp; obtain ⟨S1, rfl, hN1, hV1, hm1, hz3⟩ := hN.post (by have := hN.sz; omega) hp; clear hN; have hN := hN1)
      (try go_wp2_with fail)
      refine hK.out _ _ ?_ (fun hHeld => ?_)
      · ((try dsimp only); (try exact trivial))
      clear hK K
      simp only [List.set_cons_zero, List.set_cons_succ]
      refine hr_op (i := 4) rfl rfl (by kernel_rfl) (by kernel_rfl) (fun K hK => ?_)
      (try go_simp)
      ((with_reducible refine (down_c S1 _ (by rw [hm1]; exact HS.out.wrapR true) hV1.rd).mono ?_); intro e w4 hp; obtain ⟨S2, rfl, hg4, hV2, hm2⟩ := hV1.post hz3 hp; replace hN := hN.below hg4)
      (try go_wp2_with fail)
      refine hK.out _ _ ?_ (fun hHeld => ?_)
      · ((try dsimp only); (try exact trivial))
      clear hK K
      simp only [List.set_cons_zero, List.set_cons_succ]
      refine hr_op0 (i := 5) rfl (by kernel_rfl) (by kernel_rfl) (fun K hK => ?_)
      (refine wp_scr_store S2.s hN.x.B.isScr rfl rfl rfl rfl ?_; generalize hW5 : World.setRow _ _ _ = W5; have hN2 : WS w.heap.size (w.heap.size + 1) 2 ⟨s, F, zs, L⟩ w W5 S2 := hW5 ▸ hN.row (by omega) hV2; clear hW5)
      refine hK.out _ ?_ (fun hHeld => ?_)
      · ((try dsimp only); (try exact trivial))
      clear hK K
      refine hr_done (by kernel_rfl) ?_
      (have hz5 := hN2.sz; have rS := SBlk.isScr hN2.x.B; have rL := SBlk.cells hN2.x.B; have rZ := IsScr.lt rS; go_upto_region 3 with fail; clear rS rL rZ; generalize hW6 : World.setCell _ _ _ = W6; have hX6 : WS w.heap.size (w.heap.size + 1) 2 ⟨s, F, zs, L⟩ w W6 ⟨{ S2.s with x := 0 }, S2.F, S2.zs, S2.L⟩ := hW6 ▸ hN2.cell (by omega) 1 _ (fun v => ⟨v.rd, v.out, v.gen⟩) rfl; clear hW6; go_wp2_with (first | (refine hX6.wload rfl rfl rfl ?_) | (refine hX6.wstore hX6.v (by rfl) (by rfl) (by rfl) (by rfl) (by rfl) ?_)); exact bodyPost_ret (results_scr rfl rfl (hX6.res hX6.v)) rfl (hX6.fin hX6.v (by omega) (next_md hm1 hm2)))
end Go.Proofs.Ytlchffkabpfjpaa.Scr
