/- lapwinglaw15.plain, theirs; lapwingref15.Same of a screen with itself. -/
import Derived.Test.YtlchffkabpfjpaaGreatStyD
import Derived.Test.YtlchffkabpfjpaaGreatScrG
namespace Go.Proofs.YtlchffkabpfjpaaGreat.Scr
open Go.RowKit Go.Proofs.YtlchffkabpfjpaaGreat.Row
attribute [local go_sem ↓] scr_load_pre scr_store_pre doc_load_pre
attribute [local go_sem] scr_cell scr_frozen doc_cell doc_frozen
theorem plain15_c (x y : Int) (wr og : Bool) (fg bg fl g0 g1 g2 g3 gl gr on : Int) (w : World) : Calls Tryz.prog 29 #[.agg #[.int .i64 x, .int .i64 y, .bool wr, .bool og, .int .i64 fg, .int .i64 bg, .int .i64 fl, .int .u8 g0, .int .u8 g1, .int .u8 g2, .int .u8 g3, .int .i64 gl, .int .i64 gr, .int .i64 on]] w fun e w' => e = .returned (.agg #[.int .i64 x, .int .i64 y, .bool wr, .bool og, .int .i64 fg, .int .i64 bg, .int .i64 fl, .int .u8 g0, .int .u8 g1, .int .u8 g2, .int .u8 g3, .int .i64 gl, .int .i64 gr, .int .i64 on]) ∧ Grew w w' := by
  go_enter Tryz.func29, Tryz.ntmps29
  go_wp2
  (refine bodyPost_ret (v := _) (by (simp [results, Tryz.results29, go_sem]; exact rfl)) rfl ⟨?_, (Below.toGrow (by exact bcAll))⟩; exact rfl)
theorem doc_store_pre (g : Nat) (w : World) (gA : Option Addr) (gn gc : Nat) (x y : Int) (wr og : Bool) (fg bg fl g0 g1 g2 g3 gl gr on H W T B : Int) (tA : Option Addr) (tn tc : Nat) (tw : Int) (kA : Option Addr) (kn kc : Nat) (kp dir : Int) (ex : Bool) (h : IsDoc w g) : (storeVar 40 ⟨g, 0, none⟩ (.agg #[.slice gA gn gc, .int .i64 x, .int .i64 y, .bool wr, .bool og, .int .i64 fg, .int .i64 bg, .int .i64 fl, .int .u8 g0, .int .u8 g1, .int .u8 g2, .int .u8 g3, .int .i64 gl, .int .i64 gr, .int .i64 on, .int .i64 H, .int .i64 W, .int .i64 T, .int .i64 B, .slice tA tn tc, .int .i64 tw, .slice kA kn kc, .int .i64 kp, .int .i64 dir, .bool ex])).run Tryz.prog w = .ok () (w.setRow g #[.slice gA gn gc, .int .i64 x, .int .i64 y, .bool wr, .bool og, .int .i64 fg, .int .i64 bg, .int .i64 fl, .int .u8 g0, .int .u8 g1, .int .u8 g2, .int .u8 g3, .int .i64 gl, .int .i64 gr, .int .i64 on, .int .i64 H, .int .i64 W, .int .i64 T, .int .i64 B, .slice tA tn tc, .int .i64 tw, .slice kA kn kc, .int .i64 kp, .int .i64 dir, .bool ex]) := by
  obtain ⟨cs, h1, h2⟩ := h
  exact run_storeVar_row w g _ _ _ _ h1 (by rw [doc_info]; rfl) (by rw [h2]; rfl) (by simp [Value.oneCell'])
theorem storeAt_doc {g : Nat} {w : World} {s : Sc} (h : IsDoc w g) : (Instr.storeAt 40 (.pointer (some ⟨g, 0, none⟩)) (.agg #[.slice s.gA s.gn s.gc, .int .i64 s.x, .int .i64 s.y, .bool s.wr, .bool s.og, .int .i64 s.fg, .int .i64 s.bg, .int .i64 s.fl, .int .u8 s.g0, .int .u8 s.g1, .int .u8 s.g2, .int .u8 s.g3, .int .i64 s.gl, .int .i64 s.gr, .int .i64 s.on, .int .i64 s.H, .int .i64 s.W, .int .i64 s.T, .int .i64 s.B, .slice s.tA s.tn s.tc, .int .i64 s.tw, .slice s.kA s.kn s.kc, .int .i64 s.kp, .int .i64 s.dir, .bool s.ex])).run Tryz.prog w = .ok () (w.setRow g #[.slice s.gA s.gn s.gc, .int .i64 s.x, .int .i64 s.y, .bool s.wr, .bool s.og, .int .i64 s.fg, .int .i64 s.bg, .int .i64 s.fl, .int .u8 s.g0, .int .u8 s.g1, .int .u8 s.g2, .int .u8 s.g3, .int .i64 s.gl, .int .i64 s.gr, .int .i64 s.on, .int .i64 s.H, .int .i64 s.W, .int .i64 s.T, .int .i64 s.B, .slice s.tA s.tn s.tc, .int .i64 s.tw, .slice s.kA s.kn s.kc, .int .i64 s.kp, .int .i64 s.dir, .bool s.ex]) := by
  have e : Instr.storeAt 40 (.pointer (some ⟨g, 0, none⟩)) (.agg #[.slice s.gA s.gn s.gc, .int .i64 s.x, .int .i64 s.y, .bool s.wr, .bool s.og, .int .i64 s.fg, .int .i64 s.bg, .int .i64 s.fl, .int .u8 s.g0, .int .u8 s.g1, .int .u8 s.g2, .int .u8 s.g3, .int .i64 s.gl, .int .i64 s.gr, .int .i64 s.on, .int .i64 s.H, .int .i64 s.W, .int .i64 s.T, .int .i64 s.B, .slice s.tA s.tn s.tc, .int .i64 s.tw, .slice s.kA s.kn s.kc, .int .i64 s.kp, .int .i64 s.dir, .bool s.ex]) = storeVar 40 ⟨g, 0, none⟩ (.agg #[.slice s.gA s.gn s.gc, .int .i64 s.x, .int .i64 s.y, .bool s.wr, .bool s.og, .int .i64 s.fg, .int .i64 s.bg, .int .i64 s.fl, .int .u8 s.g0, .int .u8 s.g1, .int .u8 s.g2, .int .u8 s.g3, .int .i64 s.gl, .int .i64 s.gr, .int .i64 s.on, .int .i64 s.H, .int .i64 s.W, .int .i64 s.T, .int .i64 s.B, .slice s.tA s.tn s.tc, .int .i64 s.tw, .slice s.kA s.kn s.kc, .int .i64 s.kp, .int .i64 s.dir, .bool s.ex]) := rfl
  rw [e]
  exact doc_store_pre _ _ _ _ _ _ _ _ _ _ _ _ _ _ _ _ _ _ _ _ _ _ _ _ _ _ _ _ _ _ _ _ _ h
theorem exec_doc_store {g : Nat} {w : World} {s : Sc} {ρ : Operand → Value} {o : Oper} {x y : Operand} (h : IsDoc w g) (ho : o.op = .store 40 x y) (hx : ρ x = .pointer (some ⟨g, 0, none⟩)) (hy : ρ y = .agg #[.slice s.gA s.gn s.gc, .int .i64 s.x, .int .i64 s.y, .bool s.wr, .bool s.og, .int .i64 s.fg, .int .i64 s.bg, .int .i64 s.fl, .int .u8 s.g0, .int .u8 s.g1, .int .u8 s.g2, .int .u8 s.g3, .int .i64 s.gl, .int .i64 s.gr, .int .i64 s.on, .int .i64 s.H, .int .i64 s.W, .int .i64 s.T, .int .i64 s.B, .slice s.tA s.tn s.tc, .int .i64 s.tw, .slice s.kA s.kn s.kc, .int .i64 s.kp, .int .i64 s.dir, .bool s.ex]) : (execOp ρ o).run Tryz.prog w = .ok .skip (w.setRow g #[.slice s.gA s.gn s.gc, .int .i64 s.x, .int .i64 s.y, .bool s.wr, .bool s.og, .int .i64 s.fg, .int .i64 s.bg, .int .i64 s.fl, .int .u8 s.g0, .int .u8 s.g1, .int .u8 s.g2, .int .u8 s.g3, .int .i64 s.gl, .int .i64 s.gr, .int .i64 s.on, .int .i64 s.H, .int .i64 s.W, .int .i64 s.T, .int .i64 s.B, .slice s.tA s.tn s.tc, .int .i64 s.tw, .slice s.kA s.kn s.kc, .int .i64 s.kp, .int .i64 s.dir, .bool s.ex]) := by
  obtain ⟨d, op, t, p, a, gd⟩ := o
  dsimp only at ho
  subst ho
  have := storeAt_doc (s := s) h
  unfold execOp
  dsimp only
  rw [hx, hy, Sem.run_bind, this]
  rfl
theorem wp_doc_store {w : World} {o : Oper} {a : Act} {K : Act → World → Prop} {Q : Exit → Act → World → Prop} {g : Nat} (s : Sc) {x y : Operand} (h : IsDoc w g) (ho : o.op = .store 40 x y) (hx : a.eval x = .pointer (some ⟨g, 0, none⟩)) (hy : a.eval y = .agg #[.slice s.gA s.gn s.gc, .int .i64 s.x, .int .i64 s.y, .bool s.wr, .bool s.og, .int .i64 s.fg, .int .i64 s.bg, .int .i64 s.fl, .int .u8 s.g0, .int .u8 s.g1, .int .u8 s.g2, .int .u8 s.g3, .int .i64 s.gl, .int .i64 s.gr, .int .i64 s.on, .int .i64 s.H, .int .i64 s.W, .int .i64 s.T, .int .i64 s.B, .slice s.tA s.tn s.tc, .int .i64 s.tw, .slice s.kA s.kn s.kc, .int .i64 s.kp, .int .i64 s.dir, .bool s.ex]) (hd : o.dst = none) (hk : K a (w.setRow g #[.slice s.gA s.gn s.gc, .int .i64 s.x, .int .i64 s.y, .bool s.wr, .bool s.og, .int .i64 s.fg, .int .i64 s.bg, .int .i64 s.fl, .int .u8 s.g0, .int .u8 s.g1, .int .u8 s.g2, .int .u8 s.g3, .int .i64 s.gl, .int .i64 s.gr, .int .i64 s.on, .int .i64 s.H, .int .i64 s.W, .int .i64 s.T, .int .i64 s.B, .slice s.tA s.tn s.tc, .int .i64 s.tw, .slice s.kA s.kn s.kc, .int .i64 s.kp, .int .i64 s.dir, .bool s.ex])) : o.wp Tryz.prog a w K Q := by
  unfold Oper.wp
  rw [exec_doc_store (s := s) h ho hx hy]
  show K (a.put o.dst undef) _
  rw [hd]
  exact hk
theorem IsDoc.below {w w' : World} {g : Nat} (h : IsDoc w g) (hb : Below w.heap.size w w') : IsDoc w' g := by
  obtain ⟨cs, h1, h2⟩ := h
  exact ⟨cs, Blk.below h1 hb (Blk.lt h1), h2⟩
theorem results_doc {fn : Func} {t : Tmp} {r : Nat} {w : World} {s : Sc} {tmps : Array Value} (h : fn.results = #[.cell t 40]) (ht : tmps.getD t undef = .pointer (some ⟨r, 0, none⟩)) (hB : DBlk w r s) : (results fn tmps).run Tryz.prog w = .ok (.agg #[.slice s.gA s.gn s.gc, .int .i64 s.x, .int .i64 s.y, .bool s.wr, .bool s.og, .int .i64 s.fg, .int .i64 s.bg, .int .i64 s.fl, .int .u8 s.g0, .int .u8 s.g1, .int .u8 s.g2, .int .u8 s.g3, .int .i64 s.gl, .int .i64 s.gr, .int .i64 s.on, .int .i64 s.H, .int .i64 s.W, .int .i64 s.T, .int .i64 s.B, .slice s.tA s.tn s.tc, .int .i64 s.tw, .slice s.kA s.kn s.kc, .int .i64 s.kp, .int .i64 s.dir, .bool s.ex]) w := by
  have := doc_load hB rfl
  simp only [Array.getD_eq_getD_getElem?] at ht
  simp only [results, h]
  simp [ht, this, asAddr]
set_option maxRecDepth 100000 in
set_option maxHeartbeats 4000000 in
theorem theirs15_c (s : Sc) (w : World) : Calls Tryz.prog 10 #[.agg #[.slice s.gA s.gn s.gc, .int .i64 s.x, .int .i64 s.y, .bool s.wr, .bool s.og, .int .i64 s.fg, .int .i64 s.bg, .int .i64 s.fl, .int .u8 s.g0, .int .u8 s.g1, .int .u8 s.g2, .int .u8 s.g3, .int .i64 s.gl, .int .i64 s.gr, .int .i64 s.on, .int .i64 s.H, .int .i64 s.W, .int .i64 s.T, .int .i64 s.B, .slice s.tA s.tn s.tc, .int .i64 s.tw, .slice s.kA s.kn s.kc, .int .i64 s.kp, .int .i64 s.dir, .bool s.ex]] w fun e w' => e = .returned (.agg #[.slice s.gA s.gn s.gc, .int .i64 s.x, .int .i64 s.y, .bool s.wr, .bool s.og, .int .i64 s.fg, .int .i64 s.bg, .int .i64 s.fl, .int .u8 s.g0, .int .u8 s.g1, .int .u8 s.g2, .int .u8 s.g3, .int .i64 s.gl, .int .i64 s.gr, .int .i64 s.on, .int .i64 s.H, .int .i64 s.W, .int .i64 s.T, .int .i64 s.B, .slice s.tA s.tn s.tc, .int .i64 s.tw, .slice s.kA s.kn s.kc, .int .i64 s.kp, .int .i64 s.dir, .bool s.ex]) ∧ Grew w w' := by
  go_enter Tryz.func10, Tryz.ntmps10
  go_upto_region 1 with fail
  generalize hW : (w.alloc _).alloc _ = W
  have hD : SBlk W w.heap.size s := by rw [← hW]; exact (Blk.new _ _ _).alloc _
  have hS : IsDoc W (w.heap.size + 1) := by rw [← hW]; exact ⟨_, Blk.new_at (by simp), rfl⟩
  have hbW : Below w.heap.size w W := by rw [← hW]; exact ((Below.refl _ _).alloc (Nat.le_refl _) _).alloc (by simp) _
  clear hW
  have qS := SBlk.isScr hD
  have qL := SBlk.cells hD
  go_upto_region 2 with fail
  clear qS qL
  have hzW : w.heap.size + 1 < W.heap.size := hS.lt
  generalize hW2 : W.alloc _ = W2
  have hg2 : Below W.heap.size W W2 := by rw [← hW2]; exact (Below.refl _ _).alloc (Nat.le_refl _) _
  have hB : Blk W2 W.heap.size 50 #[.int .i64 s.H, .int .i64 s.W, .int .i64 s.T, .int .i64 s.B] := by rw [← hW2]; exact Blk.new _ _ _
  replace hD := Blk.below hD hg2 (by omega)
  replace hS := hS.below hg2
  replace hbW := hbW.trans (hg2.mono hbW.size)
  clear hW2 hg2
  generalize W.heap.size = hb at *
  have hbd : Below W2.heap.size W2 W2.drew := Below.drew (Below.refl _ _)
  have hDd : SBlk W2.drew w.heap.size s := Blk.below hD hbd hD.lt
  have hBd := Blk.below hB hbd hB.lt
  have hSd := hS.below hbd
  replace hbW := hbW.trans (hbd.mono hbW.size)
  clear hD hB hS hbd
  refine hr_start (S := (fun w' => SBlk w' w.heap.size s ∧ Blk w' hb 50 #[.int .i64 s.H, .int .i64 s.W, .int .i64 s.T, .int .i64 s.B] ∧ IsDoc w' (w.heap.size + 1))) (by kernel_rfl) rfl ?_ (fun hHeld => ?_)
  · ((try dsimp only); (first | exact ⟨hDd, hBd, hSd⟩ | exact hHeld | exact ⟨Blk.below hHeld.1 hg hHeld.1.lt, Blk.below hHeld.2.1 hg hHeld.2.1.lt, hHeld.2.2.below hg⟩ | exact ⟨(setRow_other _ _ _ _ (by omega)).trans hHeld.1, (setRow_other _ _ _ _ (by omega)).trans hHeld.2.1, hfin.isDoc⟩))
  refine hr_t 0 (v := ?_) ?_ ?_
  rotate_left
  focus (intro wS hSw; (obtain ⟨hSw1, hSw2, -⟩ := hSw; have qS := SBlk.isScr hSw1; have qL := SBlk.cells hSw1; obtain ⟨p0, p1, p2, p3, -, -⟩ := hSw2.facts4); go_simp; (try with_reducible rfl))
  simp only [st0, st1]
  refine hr_t 1 (v := ?_) ?_ ?_
  rotate_left
  focus (intro wS hSw; (obtain ⟨hSw1, hSw2, -⟩ := hSw; have qS := SBlk.isScr hSw1; have qL := SBlk.cells hSw1; obtain ⟨p0, p1, p2, p3, -, -⟩ := hSw2.facts4); go_simp; (try with_reducible rfl))
  simp only [st0, st1]
  refine hr_t 2 (v := ?_) ?_ ?_
  rotate_left
  focus (intro wS hSw; (obtain ⟨hSw1, hSw2, -⟩ := hSw; have qS := SBlk.isScr hSw1; have qL := SBlk.cells hSw1; obtain ⟨p0, p1, p2, p3, -, -⟩ := hSw2.facts4); go_simp; (try with_reducible rfl))
  simp only [st0, st1]
  refine hr_t 3 (v := ?_) ?_ ?_
  rotate_left
  focus (intro wS hSw; (obtain ⟨hSw1, hSw2, -⟩ := hSw; have qS := SBlk.isScr hSw1; have qL := SBlk.cells hSw1; obtain ⟨p0, p1, p2, p3, -, -⟩ := hSw2.facts4); go_simp; (try with_reducible rfl))
  simp only [st0, st1]
  refine hr_t 4 (v := ?_) ?_ ?_
  rotate_left
  focus (intro wS hSw; (obtain ⟨hSw1, hSw2, -⟩ := hSw; have qS := SBlk.isScr hSw1; have qL := SBlk.cells hSw1; obtain ⟨p0, p1, p2, p3, -, -⟩ := hSw2.facts4); go_simp; (try with_reducible rfl))
  simp only [st0, st1]
  refine hr_t 5 (v := ?_) ?_ ?_
  rotate_left
  focus (intro wS hSw; (obtain ⟨hSw1, hSw2, -⟩ := hSw; have qS := SBlk.isScr hSw1; have qL := SBlk.cells hSw1; obtain ⟨p0, p1, p2, p3, -, -⟩ := hSw2.facts4); go_simp; (try with_reducible rfl))
  simp only [st0, st1]
  refine hr_t 7 (v := ?_) ?_ ?_
  rotate_left
  focus (intro wS hSw; (obtain ⟨hSw1, hSw2, -⟩ := hSw; have qS := SBlk.isScr hSw1; have qL := SBlk.cells hSw1; obtain ⟨p0, p1, p2, p3, -, -⟩ := hSw2.facts4); go_simp; (try with_reducible rfl))
  simp only [st0, st1]
  refine hr_t 8 (v := ?_) ?_ ?_
  rotate_left
  focus (intro wS hSw; (obtain ⟨hSw1, hSw2, -⟩ := hSw; have qS := SBlk.isScr hSw1; have qL := SBlk.cells hSw1; obtain ⟨p0, p1, p2, p3, -, -⟩ := hSw2.facts4); go_simp; (try with_reducible rfl))
  simp only [st0, st1]
  refine hr_t 9 (v := ?_) ?_ ?_
  rotate_left
  focus (intro wS hSw; (obtain ⟨hSw1, hSw2, -⟩ := hSw; have qS := SBlk.isScr hSw1; have qL := SBlk.cells hSw1; obtain ⟨p0, p1, p2, p3, -, -⟩ := hSw2.facts4); go_simp; (try with_reducible rfl))
  simp only [st0, st1]
  refine hr_t 10 (v := ?_) ?_ ?_
  rotate_left
  focus (intro wS hSw; (obtain ⟨hSw1, hSw2, -⟩ := hSw; have qS := SBlk.isScr hSw1; have qL := SBlk.cells hSw1; obtain ⟨p0, p1, p2, p3, -, -⟩ := hSw2.facts4); go_simp; (try with_reducible rfl))
  simp only [st0, st1]
  refine hr_t 11 (v := ?_) ?_ ?_
  rotate_left
  focus (intro wS hSw; (obtain ⟨hSw1, hSw2, -⟩ := hSw; have qS := SBlk.isScr hSw1; have qL := SBlk.cells hSw1; obtain ⟨p0, p1, p2, p3, -, -⟩ := hSw2.facts4); go_simp; (try with_reducible rfl))
  simp only [st0, st1]
  refine hr_t 12 (v := ?_) ?_ ?_
  rotate_left
  focus (intro wS hSw; (obtain ⟨hSw1, hSw2, -⟩ := hSw; have qS := SBlk.isScr hSw1; have qL := SBlk.cells hSw1; obtain ⟨p0, p1, p2, p3, -, -⟩ := hSw2.facts4); go_simp; (try with_reducible rfl))
  simp only [st0, st1]
  refine hr_t 13 (v := ?_) ?_ ?_
  rotate_left
  focus (intro wS hSw; (obtain ⟨hSw1, hSw2, -⟩ := hSw; have qS := SBlk.isScr hSw1; have qL := SBlk.cells hSw1; obtain ⟨p0, p1, p2, p3, -, -⟩ := hSw2.facts4); go_simp; (try with_reducible rfl))
  simp only [st0, st1]
  refine hr_t 14 (v := ?_) ?_ ?_
  rotate_left
  focus (intro wS hSw; (obtain ⟨hSw1, hSw2, -⟩ := hSw; have qS := SBlk.isScr hSw1; have qL := SBlk.cells hSw1; obtain ⟨p0, p1, p2, p3, -, -⟩ := hSw2.facts4); go_simp; (try with_reducible rfl))
  simp only [st0, st1]
  refine hr_t 15 (v := ?_) ?_ ?_
  rotate_left
  focus (intro wS hSw; (obtain ⟨hSw1, hSw2, -⟩ := hSw; have qS := SBlk.isScr hSw1; have qL := SBlk.cells hSw1; obtain ⟨p0, p1, p2, p3, -, -⟩ := hSw2.facts4); go_simp; (try with_reducible rfl))
  simp only [st0, st1]
  refine hr_t 16 (v := ?_) ?_ ?_
  rotate_left
  focus (intro wS hSw; (obtain ⟨hSw1, hSw2, -⟩ := hSw; have qS := SBlk.isScr hSw1; have qL := SBlk.cells hSw1; obtain ⟨p0, p1, p2, p3, -, -⟩ := hSw2.facts4); go_simp; (try with_reducible rfl))
  simp only [st0, st1]
  refine hr_t 17 (v := ?_) ?_ ?_
  rotate_left
  focus (intro wS hSw; (obtain ⟨hSw1, hSw2, -⟩ := hSw; have qS := SBlk.isScr hSw1; have qL := SBlk.cells hSw1; obtain ⟨p0, p1, p2, p3, -, -⟩ := hSw2.facts4); go_simp; (try with_reducible rfl))
  simp only [st0, st1]
  refine hr_t 18 (v := ?_) ?_ ?_
  rotate_left
  focus (intro wS hSw; (obtain ⟨hSw1, hSw2, -⟩ := hSw; have qS := SBlk.isScr hSw1; have qL := SBlk.cells hSw1; obtain ⟨p0, p1, p2, p3, -, -⟩ := hSw2.facts4); go_simp; (try with_reducible rfl))
  simp only [st0, st1]
  refine hr_t 19 (v := ?_) ?_ ?_
  rotate_left
  focus (intro wS hSw; (obtain ⟨hSw1, hSw2, -⟩ := hSw; have qS := SBlk.isScr hSw1; have qL := SBlk.cells hSw1; obtain ⟨p0, p1, p2, p3, -, -⟩ := hSw2.facts4); go_simp; (try with_reducible rfl))
  simp only [st0, st1]
  refine hr_t 20 (v := ?_) ?_ ?_
  rotate_left
  focus (intro wS hSw; (obtain ⟨hSw1, hSw2, -⟩ := hSw; have qS := SBlk.isScr hSw1; have qL := SBlk.cells hSw1; obtain ⟨p0, p1, p2, p3, -, -⟩ := hSw2.facts4); go_simp; (try with_reducible rfl))
  simp only [st0, st1]
  refine hr_t 21 (v := ?_) ?_ ?_
  rotate_left
  focus (intro wS hSw; (obtain ⟨hSw1, hSw2, -⟩ := hSw; have qS := SBlk.isScr hSw1; have qL := SBlk.cells hSw1; obtain ⟨p0, p1, p2, p3, -, -⟩ := hSw2.facts4); go_simp; (try with_reducible rfl))
  simp only [st0, st1]
  refine hr_t 22 (v := ?_) ?_ ?_
  rotate_left
  focus (intro wS hSw; (obtain ⟨hSw1, hSw2, -⟩ := hSw; have qS := SBlk.isScr hSw1; have qL := SBlk.cells hSw1; obtain ⟨p0, p1, p2, p3, -, -⟩ := hSw2.facts4); go_simp; (try with_reducible rfl))
  simp only [st0, st1]
  refine hr_t 23 (v := ?_) ?_ ?_
  rotate_left
  focus (intro wS hSw; (obtain ⟨hSw1, hSw2, -⟩ := hSw; have qS := SBlk.isScr hSw1; have qL := SBlk.cells hSw1; obtain ⟨p0, p1, p2, p3, -, -⟩ := hSw2.facts4); go_simp; (try with_reducible rfl))
  simp only [st0, st1]
  refine hr_t 24 (v := ?_) ?_ ?_
  rotate_left
  focus (intro wS hSw; (obtain ⟨hSw1, hSw2, -⟩ := hSw; have qS := SBlk.isScr hSw1; have qL := SBlk.cells hSw1; obtain ⟨p0, p1, p2, p3, -, -⟩ := hSw2.facts4); go_simp; (try with_reducible rfl))
  simp only [st0, st1]
  refine hr_t 25 (v := ?_) ?_ ?_
  rotate_left
  focus (intro wS hSw; (obtain ⟨hSw1, hSw2, -⟩ := hSw; have qS := SBlk.isScr hSw1; have qL := SBlk.cells hSw1; obtain ⟨p0, p1, p2, p3, -, -⟩ := hSw2.facts4); go_simp; (try with_reducible rfl))
  simp only [st0, st1]
  refine hr_t 26 (v := ?_) ?_ ?_
  rotate_left
  focus (intro wS hSw; (obtain ⟨hSw1, hSw2, -⟩ := hSw; have qS := SBlk.isScr hSw1; have qL := SBlk.cells hSw1; obtain ⟨p0, p1, p2, p3, -, -⟩ := hSw2.facts4); go_simp; (try with_reducible rfl))
  simp only [st0, st1]
  refine hr_t 27 (v := ?_) ?_ ?_
  rotate_left
  focus (intro wS hSw; (obtain ⟨hSw1, hSw2, -⟩ := hSw; have qS := SBlk.isScr hSw1; have qL := SBlk.cells hSw1; obtain ⟨p0, p1, p2, p3, -, -⟩ := hSw2.facts4); go_simp; (try with_reducible rfl))
  simp only [st0, st1]
  refine hr_t 28 (v := ?_) ?_ ?_
  rotate_left
  focus (intro wS hSw; (obtain ⟨hSw1, hSw2, -⟩ := hSw; have qS := SBlk.isScr hSw1; have qL := SBlk.cells hSw1; obtain ⟨p0, p1, p2, p3, -, -⟩ := hSw2.facts4); go_simp; (try with_reducible rfl))
  simp only [st0, st1]
  refine hr_t 29 (v := ?_) ?_ ?_
  rotate_left
  focus (intro wS hSw; (obtain ⟨hSw1, hSw2, -⟩ := hSw; have qS := SBlk.isScr hSw1; have qL := SBlk.cells hSw1; obtain ⟨p0, p1, p2, p3, -, -⟩ := hSw2.facts4); go_simp; (try with_reducible rfl))
  simp only [st0, st1]
  refine hr_t 30 (v := ?_) ?_ ?_
  rotate_left
  focus (intro wS hSw; (obtain ⟨hSw1, hSw2, -⟩ := hSw; have qS := SBlk.isScr hSw1; have qL := SBlk.cells hSw1; obtain ⟨p0, p1, p2, p3, -, -⟩ := hSw2.facts4); go_simp; (try with_reducible rfl))
  simp only [st0, st1]
  refine hr_t 31 (v := ?_) ?_ ?_
  rotate_left
  focus (intro wS hSw; (obtain ⟨hSw1, hSw2, -⟩ := hSw; have qS := SBlk.isScr hSw1; have qL := SBlk.cells hSw1; obtain ⟨p0, p1, p2, p3, -, -⟩ := hSw2.facts4); go_simp; (try with_reducible rfl))
  simp only [st0, st1]
  refine hr_t 32 (v := ?_) ?_ ?_
  rotate_left
  focus (intro wS hSw; (obtain ⟨hSw1, hSw2, -⟩ := hSw; have qS := SBlk.isScr hSw1; have qL := SBlk.cells hSw1; obtain ⟨p0, p1, p2, p3, -, -⟩ := hSw2.facts4); go_simp; (try with_reducible rfl))
  simp only [st0, st1]
  refine hr_t 33 (v := ?_) ?_ ?_
  rotate_left
  focus (intro wS hSw; (obtain ⟨hSw1, hSw2, -⟩ := hSw; have qS := SBlk.isScr hSw1; have qL := SBlk.cells hSw1; obtain ⟨p0, p1, p2, p3, -, -⟩ := hSw2.facts4); go_simp; (try with_reducible rfl))
  simp only [st0, st1]
  refine hr_o 6 (fun K hK => ?_)
  (try go_simp)
  ((with_reducible refine (plain15_c s.x s.y s.wr s.og s.fg s.bg s.fl s.g0 s.g1 s.g2 s.g3 s.gl s.gr s.on _).mono ?_); rintro e w4 ⟨rfl, hg⟩; replace hg := hg.below; replace hbW := hbW.trans (hg.mono hbW.size))
  (try go_wp2_with fail)
  refine hK.out _ _ ?_ (fun hHeld => ?_)
  · ((try dsimp only); (first | exact ⟨hDd, hBd, hSd⟩ | exact hHeld | exact ⟨Blk.below hHeld.1 hg hHeld.1.lt, Blk.below hHeld.2.1 hg hHeld.2.1.lt, hHeld.2.2.below hg⟩ | exact ⟨(setRow_other _ _ _ _ (by omega)).trans hHeld.1, (setRow_other _ _ _ _ (by omega)).trans hHeld.2.1, hfin.isDoc⟩))
  clear hK K
  simp only [st0, st1]
  refine hr_t 34 (v := ?_) ?_ ?_
  rotate_left
  focus (intro wS hSw; (obtain ⟨hSw1, hSw2, -⟩ := hSw; have qS := SBlk.isScr hSw1; have qL := SBlk.cells hSw1; obtain ⟨p0, p1, p2, p3, -, -⟩ := hSw2.facts4); go_simp; (try with_reducible rfl))
  simp only [st0, st1]
  refine hr_op0 (i := 35) rfl (by kernel_rfl) (by kernel_rfl) (fun K hK => ?_)
  (refine wp_doc_store s hHeld.2.2 rfl rfl rfl rfl ?_; have hfin : DBlk (w4.setRow (w.heap.size + 1) #[.slice s.gA s.gn s.gc, .int .i64 s.x, .int .i64 s.y, .bool s.wr, .bool s.og, .int .i64 s.fg, .int .i64 s.bg, .int .i64 s.fl, .int .u8 s.g0, .int .u8 s.g1, .int .u8 s.g2, .int .u8 s.g3, .int .i64 s.gl, .int .i64 s.gr, .int .i64 s.on, .int .i64 s.H, .int .i64 s.W, .int .i64 s.T, .int .i64 s.B, .slice s.tA s.tn s.tc, .int .i64 s.tw, .slice s.kA s.kn s.kc, .int .i64 s.kp, .int .i64 s.dir, .bool s.ex]) (w.heap.size + 1) s := by (obtain ⟨cs, k1, _⟩ := hHeld.2.2; exact setRow_heap _ _ _ _ _ _ k1))
  refine hK.out _ ?_ (fun hHeld => ?_)
  · ((try dsimp only); (first | exact ⟨hDd, hBd, hSd⟩ | exact hHeld | exact ⟨Blk.below hHeld.1 hg hHeld.1.lt, Blk.below hHeld.2.1 hg hHeld.2.1.lt, hHeld.2.2.below hg⟩ | exact ⟨(setRow_other _ _ _ _ (by omega)).trans hHeld.1, (setRow_other _ _ _ _ (by omega)).trans hHeld.2.1, hfin.isDoc⟩))
  clear hK K
  refine hr_done (by kernel_rfl) ?_
  (go_wp2_with fail; exact bodyPost_ret (results_doc rfl rfl hfin) rfl ⟨rfl, Below.toGrow (below_row hbW (by omega) _)⟩)
theorem eql_cur15 (x y : Int) (wr og : Bool) (fg bg fl g0 g1 g2 g3 gl gr on : Int) (w : World) : (binOp .eql 31 (.agg #[.int .i64 x, .int .i64 y, .bool wr, .bool og, .int .i64 fg, .int .i64 bg, .int .i64 fl, .int .u8 g0, .int .u8 g1, .int .u8 g2, .int .u8 g3, .int .i64 gl, .int .i64 gr, .int .i64 on]) (.agg #[.int .i64 x, .int .i64 y, .bool wr, .bool og, .int .i64 fg, .int .i64 bg, .int .i64 fl, .int .u8 g0, .int .u8 g1, .int .u8 g2, .int .u8 g3, .int .i64 gl, .int .i64 gr, .int .i64 on])).run Tryz.prog w = .ok (.bool true) w := by
  obtain ⟨i, hi⟩ := info_ok (P := Tryz.prog) (e := 5) (by kernel_rfl)
  have hc : Tryz.prog.cellsOf 5 = 1 := by kernel_rfl
  have h := fun (d : Nat) (w : World) => run_equalIn_array (P := Tryz.prog) (w := w) (d + 1) #[.int .u8 g0, .int .u8 g1, .int .u8 g2, .int .u8 g3] #[.int .u8 g0, .int .u8 g1, .int .u8 g2, .int .u8 g3] Tryz.underlying27 hi
  rw [hc] at h
  have h' : ∀ (d : Nat) (w : World), (Op.equalIn (d + 2) 27 (.agg #[.int .u8 g0, .int .u8 g1, .int .u8 g2, .int .u8 g3]) (.agg #[.int .u8 g0, .int .u8 g1, .int .u8 g2, .int .u8 g3])).run Tryz.prog w = .ok true w := fun d w => by
    rw [h d w]
    simp [go_sem, List.range, List.range.loop]
  simp [go_sem, binOp, Op.equal, Op.maxDepth, h']
theorem eql_reg15 (a b c d : Int) (w : World) : (binOp .eql 33 (.agg #[.int .i64 a, .int .i64 b, .int .i64 c, .int .i64 d]) (.agg #[.int .i64 a, .int .i64 b, .int .i64 c, .int .i64 d])).run Tryz.prog w = .ok (.bool true) w := by
  simp [go_sem, binOp, Op.equal, Op.maxDepth]
theorem sameRw_refl (r : Rw) : sameRw r r = true := by
  unfold sameRw sameRowB sameB
  simp
theorem sameL_refl (L : List Rw) : sameL L L = true := by
  rw [sameL_iff]
  exact ⟨rfl, fun i _ _ => sameRw_refl _⟩
set_option maxRecDepth 100000 in
set_option maxHeartbeats 4000000 in
theorem same15_c (S : Sn) (w : World) (hr : S.rd w) (hg : (listG S.s.gn S.F).length ≤ maxLen) (hk : S.L.length ≤ maxLen) (hz : S.zs.length ≤ 65536) : Calls Tryz.prog 9 #[.agg #[.slice S.s.gA S.s.gn S.s.gc, .int .i64 S.s.x, .int .i64 S.s.y, .bool S.s.wr, .bool S.s.og, .int .i64 S.s.fg, .int .i64 S.s.bg, .int .i64 S.s.fl, .int .u8 S.s.g0, .int .u8 S.s.g1, .int .u8 S.s.g2, .int .u8 S.s.g3, .int .i64 S.s.gl, .int .i64 S.s.gr, .int .i64 S.s.on, .int .i64 S.s.H, .int .i64 S.s.W, .int .i64 S.s.T, .int .i64 S.s.B, .slice S.s.tA S.s.tn S.s.tc, .int .i64 S.s.tw, .slice S.s.kA S.s.kn S.s.kc, .int .i64 S.s.kp, .int .i64 S.s.dir, .bool S.s.ex], .agg #[.slice S.s.gA S.s.gn S.s.gc, .int .i64 S.s.x, .int .i64 S.s.y, .bool S.s.wr, .bool S.s.og, .int .i64 S.s.fg, .int .i64 S.s.bg, .int .i64 S.s.fl, .int .u8 S.s.g0, .int .u8 S.s.g1, .int .u8 S.s.g2, .int .u8 S.s.g3, .int .i64 S.s.gl, .int .i64 S.s.gr, .int .i64 S.s.on, .int .i64 S.s.H, .int .i64 S.s.W, .int .i64 S.s.T, .int .i64 S.s.B, .slice S.s.tA S.s.tn S.s.tc, .int .i64 S.s.tw, .slice S.s.kA S.s.kn S.s.kc, .int .i64 S.s.kp, .int .i64 S.s.dir, .bool S.s.ex]] w fun e w' => e = .returned (.bool true) ∧ Grew w w' := by
  obtain ⟨s, F, zs, L⟩ := S
  have HGL := Lib.hid hg
  have HKL := Lib.hid hk
  have HZL := Lib.hid hz
  have HR := Lib.hid hr
  clear hr hg hk hz
  dsimp only at *
  go_enter Tryz.func9, Tryz.ntmps9
  go_upto_region 1 with fail
  generalize hW : (w.alloc _).alloc _ = W
  have hD : DBlk W w.heap.size s := by rw [← hW]; exact (Blk.new _ _ _).alloc _
  have hE : DBlk W (w.heap.size + 1) s := by rw [← hW]; exact Blk.new_at (by simp)
  have hbW : Below w.heap.size w W := by rw [← hW]; exact ((Below.refl _ _).alloc (Nat.le_refl _) _).alloc (by simp) _
  have HG := Lib.hid (HR.out.below hbW).1
  have HT := Lib.hid (HR.out.below hbW).2.1
  have HK := Lib.hid (HR.out.below hbW).2.2
  have HD := Lib.hid hD
  have HE := Lib.hid hE
  have HBW := Lib.hid hbW
  clear hW HR
  have qS := DBlk.isDoc hD
  have qL := DBlk.cells hD
  have pS := DBlk.isDoc hE
  have pL := DBlk.cells hE
  have eC := eql_cur15 s.x s.y s.wr s.og s.fg s.bg s.fl s.g0 s.g1 s.g2 s.g3 s.gl s.gr s.on
  have eR := eql_reg15 s.H s.W s.T s.B
  clear hD hE hbW
  go_wp2_with (first | ((with_reducible refine (sameL_c (.slice s.gA s.gn s.gc) (.slice s.gA s.gn s.gc) (listG s.gn F) (listG s.gn F) _ HG.out HG.out HGL.out HGL.out).mono ?_); rw [sameL_refl]; rintro e w1 ⟨rfl, hg1⟩; replace hg1 := hg1.below; have HD1 := Lib.hid (Blk.below HD.out hg1 (Blk.lt HD.out)); have HE1 := Lib.hid (Blk.below HE.out hg1 (Blk.lt HE.out)); clear qS qL pS pL; have qS := DBlk.isDoc HD1.out; have qL := DBlk.cells HD1.out; have pS := DBlk.isDoc HE1.out; have pL := DBlk.cells HE1.out) | ((with_reducible refine (Tab.same_refl_c (.slice s.tA s.tn s.tc) (.slice s.tA s.tn s.tc) s.tw zs _ (HT.out.below hg1) (HT.out.below hg1) HZL.out).mono ?_); rintro e w2 ⟨rfl, hg2⟩; have HD2 := Lib.hid (Blk.below HD1.out hg2 (Blk.lt HD1.out)); have HE2 := Lib.hid (Blk.below HE1.out hg2 (Blk.lt HE1.out)); clear qS qL pS pL; have qS := DBlk.isDoc HD2.out; have qL := DBlk.cells HD2.out; have pS := DBlk.isDoc HE2.out; have pL := DBlk.cells HE2.out) | ((with_reducible refine (sameK_c (.slice s.kA s.kn s.kc) (.slice s.kA s.kn s.kc) s.kp s.kp L L _ ((HK.out.below hg1).below hg2) ((HK.out.below hg1).below hg2) HKL.out HKL.out).mono ?_); rw [sameL_refl]; rintro e w3 ⟨rfl, hg3⟩; replace hg3 := hg3.below; have HD3 := Lib.hid (Blk.below HD2.out hg3 (Blk.lt HD2.out)); have HE3 := Lib.hid (Blk.below HE2.out hg3 (Blk.lt HE2.out)); clear qS qL pS pL; have qS := DBlk.isDoc HD3.out; have qL := DBlk.cells HD3.out; have pS := DBlk.isDoc HE3.out; have pL := DBlk.cells HE3.out))
  have hb1 := HBW.out.trans (hg1.mono HBW.out.size)
  have hb2 := hb1.trans (hg2.mono hb1.size)
  exact bodyPost_ret (v := .bool true) (by simp [results, Tryz.results9, go_sem]) rfl ⟨rfl, Below.toGrow (hb2.trans (hg3.mono hb2.size))⟩
end Go.Proofs.YtlchffkabpfjpaaGreat.Scr
