/- The document's screen in a box; lapwinglaw15.cur, ours; lapwingref15.Few. -/
import Derived.Test.YtlchffkabpfjpaaGreatScrW
namespace Go.Proofs.YtlchffkabpfjpaaGreat.Scr
open Go.RowKit Go.Proofs.YtlchffkabpfjpaaGreat.Row
attribute [local go_sem ↓] scr_load_pre scr_store_pre
attribute [local go_sem] scr_cell scr_frozen
def DBlk (w : World) (g : Nat) (s : Sc) : Prop := Blk w g 40 #[.slice s.gA s.gn s.gc, .int .i64 s.x, .int .i64 s.y, .bool s.wr, .bool s.og, .int .i64 s.fg, .int .i64 s.bg, .int .i64 s.fl, .int .u8 s.g0, .int .u8 s.g1, .int .u8 s.g2, .int .u8 s.g3, .int .i64 s.gl, .int .i64 s.gr, .int .i64 s.on, .int .i64 s.H, .int .i64 s.W, .int .i64 s.T, .int .i64 s.B, .slice s.tA s.tn s.tc, .int .i64 s.tw, .slice s.kA s.kn s.kc, .int .i64 s.kp, .int .i64 s.dir, .bool s.ex]
theorem doc_info : (Tryz.prog.info? 40).map (·.size) = some 25 := by kernel_rfl
theorem doc_load {w : World} {g : Nat} {cs : Array Value} (h : Blk w g 40 cs) (hs : cs.size = 25) : (loadVar 40 ⟨g, 0, none⟩).run Tryz.prog w = .ok (.agg cs) w :=
  run_loadVar_row w g _ _ cs (0, 0) _ h Tryz.underlying40 rfl (by rw [doc_info, hs])
def IsDoc (w : World) (g : Nat) : Prop := ∃ cs : Array Value, Blk w g 40 cs ∧ cs.size = 25
theorem doc_load_pre (g : Nat) (w : World) (h : IsDoc w g) : (loadVar 40 ⟨g, 0, none⟩).run Tryz.prog w = .ok (.agg (scells w g)) w := by
  obtain ⟨cs, h1, h2⟩ := h
  have e : scells w g = cs := by
    unfold scells
    unfold Blk at h1
    rw [h1]
  rw [e]
  exact doc_load h1 h2
theorem DBlk.isDoc {w : World} {g : Nat} {s : Sc} (h : DBlk w g s) : IsDoc w g := ⟨_, h, rfl⟩
theorem DBlk.cells {w : World} {g : Nat} {s : Sc} (h : DBlk w g s) : scells w g = #[.slice s.gA s.gn s.gc, .int .i64 s.x, .int .i64 s.y, .bool s.wr, .bool s.og, .int .i64 s.fg, .int .i64 s.bg, .int .i64 s.fl, .int .u8 s.g0, .int .u8 s.g1, .int .u8 s.g2, .int .u8 s.g3, .int .i64 s.gl, .int .i64 s.gr, .int .i64 s.on, .int .i64 s.H, .int .i64 s.W, .int .i64 s.T, .int .i64 s.B, .slice s.tA s.tn s.tc, .int .i64 s.tw, .slice s.kA s.kn s.kc, .int .i64 s.kp, .int .i64 s.dir, .bool s.ex] := by
  unfold scells
  unfold DBlk Blk at h
  rw [h]
theorem doc_cell (g i : Nat) (w : World) (h : IsDoc w g) : w.cell? ⟨g, i, none⟩ = (scells w g)[i]? := by
  obtain ⟨cs, h1, _⟩ := h
  have e : scells w g = cs := by
    unfold scells
    unfold Blk at h1
    rw [h1]
  rw [e]
  exact Blk.cell h1 i
theorem doc_frozen (g i : Nat) (w : World) (h : IsDoc w g) : w.frozen? ⟨g, i, none⟩ = false := by
  obtain ⟨cs, h1, _⟩ := h
  exact Blk.frozen h1 i
theorem IsDoc.lt {w : World} {g : Nat} (h : IsDoc w g) : g < w.heap.size := by
  obtain ⟨cs, h1, _⟩ := h
  exact Blk.lt h1
theorem loadAt_doc {g : Nat} {w : World} {s : Sc} (h : DBlk w g s) : (Instr.loadAt 40 (.pointer (some ⟨g, 0, none⟩))).run Tryz.prog w = .ok (.agg #[.slice s.gA s.gn s.gc, .int .i64 s.x, .int .i64 s.y, .bool s.wr, .bool s.og, .int .i64 s.fg, .int .i64 s.bg, .int .i64 s.fl, .int .u8 s.g0, .int .u8 s.g1, .int .u8 s.g2, .int .u8 s.g3, .int .i64 s.gl, .int .i64 s.gr, .int .i64 s.on, .int .i64 s.H, .int .i64 s.W, .int .i64 s.T, .int .i64 s.B, .slice s.tA s.tn s.tc, .int .i64 s.tw, .slice s.kA s.kn s.kc, .int .i64 s.kp, .int .i64 s.dir, .bool s.ex]) w := by
  have e : Instr.loadAt 40 (.pointer (some ⟨g, 0, none⟩)) = loadVar 40 ⟨g, 0, none⟩ := rfl
  rw [e]
  exact doc_load h rfl
theorem exec_doc {g : Nat} {w : World} {s : Sc} {ρ : Operand → Value} {o : Oper} {x : Operand} (h : DBlk w g s) (ho : o.op = .load 40 x) (hx : ρ x = .pointer (some ⟨g, 0, none⟩)) : (execOp ρ o).run Tryz.prog w = .ok (.value (.agg #[.slice s.gA s.gn s.gc, .int .i64 s.x, .int .i64 s.y, .bool s.wr, .bool s.og, .int .i64 s.fg, .int .i64 s.bg, .int .i64 s.fl, .int .u8 s.g0, .int .u8 s.g1, .int .u8 s.g2, .int .u8 s.g3, .int .i64 s.gl, .int .i64 s.gr, .int .i64 s.on, .int .i64 s.H, .int .i64 s.W, .int .i64 s.T, .int .i64 s.B, .slice s.tA s.tn s.tc, .int .i64 s.tw, .slice s.kA s.kn s.kc, .int .i64 s.kp, .int .i64 s.dir, .bool s.ex])) w := by
  obtain ⟨d, op, t, p, a, gd⟩ := o
  dsimp only at ho
  subst ho
  have := loadAt_doc h
  unfold execOp
  dsimp only
  rw [hx, Sem.run_bind, this]
  rfl
theorem wp_doc_load {w : World} {o : Oper} {a : Act} {K : Act → World → Prop} {Q : Exit → Act → World → Prop} {g : Nat} {s : Sc} {x : Operand} (h : DBlk w g s) (ho : o.op = .load 40 x) (hx : a.eval x = .pointer (some ⟨g, 0, none⟩)) (hk : K (a.put o.dst (.agg #[.slice s.gA s.gn s.gc, .int .i64 s.x, .int .i64 s.y, .bool s.wr, .bool s.og, .int .i64 s.fg, .int .i64 s.bg, .int .i64 s.fl, .int .u8 s.g0, .int .u8 s.g1, .int .u8 s.g2, .int .u8 s.g3, .int .i64 s.gl, .int .i64 s.gr, .int .i64 s.on, .int .i64 s.H, .int .i64 s.W, .int .i64 s.T, .int .i64 s.B, .slice s.tA s.tn s.tc, .int .i64 s.tw, .slice s.kA s.kn s.kc, .int .i64 s.kp, .int .i64 s.dir, .bool s.ex])) w) : o.wp Tryz.prog a w K Q := by
  unfold Oper.wp
  rw [exec_doc h ho hx]
  exact hk
theorem wpList_doc_load {w : World} {ops : Array Oper} {rest : List Oper} {o : Oper} {a : Act} {Q : Exit → Act → World → Prop} {g : Nat} {s : Sc} {x : Operand} (h : DBlk w g s) (ho : o.op = .load 40 x) (hg : o.guard = none) (hx : a.eval x = .pointer (some ⟨g, 0, none⟩)) (hk : wpList Tryz.prog ops Q rest (a.put o.dst (.agg #[.slice s.gA s.gn s.gc, .int .i64 s.x, .int .i64 s.y, .bool s.wr, .bool s.og, .int .i64 s.fg, .int .i64 s.bg, .int .i64 s.fl, .int .u8 s.g0, .int .u8 s.g1, .int .u8 s.g2, .int .u8 s.g3, .int .i64 s.gl, .int .i64 s.gr, .int .i64 s.on, .int .i64 s.H, .int .i64 s.W, .int .i64 s.T, .int .i64 s.B, .slice s.tA s.tn s.tc, .int .i64 s.tw, .slice s.kA s.kn s.kc, .int .i64 s.kp, .int .i64 s.dir, .bool s.ex])) w) : wpList Tryz.prog ops Q (o :: rest) a w :=
  wpList_plain hg fun _ hK => wp_doc_load h ho hx (hK _ _ hk)
attribute [local go_sem ↓] doc_load_pre
attribute [local go_sem] doc_cell doc_frozen
theorem cur15_c (x y : Int) (wr og : Bool) (fg bg fl g0 g1 g2 g3 gl gr on : Int) (w : World) : Calls Tryz.prog 18 #[.agg #[.int .i64 x, .int .i64 y, .bool wr, .bool og, .int .i64 fg, .int .i64 bg, .int .i64 fl, .int .u8 g0, .int .u8 g1, .int .u8 g2, .int .u8 g3, .int .i64 gl, .int .i64 gr, .int .i64 on]] w fun e w' => e = .returned (.agg #[.int .i64 x, .int .i64 y, .bool wr, .bool og, .int .i64 fg, .int .i64 bg, .int .i64 fl, .int .u8 g0, .int .u8 g1, .int .u8 g2, .int .u8 g3, .int .i64 gl, .int .i64 gr, .int .i64 on]) ∧ Grew w w' := by
  go_enter Tryz.func18, Tryz.ntmps18
  go_wp2
  (refine bodyPost_ret (v := _) (by (simp [results, Tryz.results18, go_sem]; exact rfl)) rfl ⟨?_, (Below.toGrow (by exact bcAll))⟩; exact rfl)
set_option maxRecDepth 100000 in
set_option maxHeartbeats 4000000 in
theorem ours15_c (s : Sc) (w : World) : Calls Tryz.prog 7 #[.agg #[.slice s.gA s.gn s.gc, .int .i64 s.x, .int .i64 s.y, .bool s.wr, .bool s.og, .int .i64 s.fg, .int .i64 s.bg, .int .i64 s.fl, .int .u8 s.g0, .int .u8 s.g1, .int .u8 s.g2, .int .u8 s.g3, .int .i64 s.gl, .int .i64 s.gr, .int .i64 s.on, .int .i64 s.H, .int .i64 s.W, .int .i64 s.T, .int .i64 s.B, .slice s.tA s.tn s.tc, .int .i64 s.tw, .slice s.kA s.kn s.kc, .int .i64 s.kp, .int .i64 s.dir, .bool s.ex]] w fun e w' => e = .returned (.agg #[.slice s.gA s.gn s.gc, .int .i64 s.x, .int .i64 s.y, .bool s.wr, .bool s.og, .int .i64 s.fg, .int .i64 s.bg, .int .i64 s.fl, .int .u8 s.g0, .int .u8 s.g1, .int .u8 s.g2, .int .u8 s.g3, .int .i64 s.gl, .int .i64 s.gr, .int .i64 s.on, .int .i64 s.H, .int .i64 s.W, .int .i64 s.T, .int .i64 s.B, .slice s.tA s.tn s.tc, .int .i64 s.tw, .slice s.kA s.kn s.kc, .int .i64 s.kp, .int .i64 s.dir, .bool s.ex]) ∧ Grew w w' := by
  go_enter Tryz.func7, Tryz.ntmps7
  go_upto_region 1 with fail
  generalize hW : (w.alloc _).alloc _ = W
  have hD : DBlk W w.heap.size s := by rw [← hW]; exact (Blk.new _ _ _).alloc _
  have hS : IsScr W (w.heap.size + 1) := by rw [← hW]; exact ⟨_, Blk.new_at (by simp), rfl⟩
  have hbW : Below w.heap.size w W := by rw [← hW]; exact ((Below.refl _ _).alloc (Nat.le_refl _) _).alloc (by simp) _
  clear hW
  have qS := DBlk.isDoc hD
  have qL := DBlk.cells hD
  go_upto_region 2 with fail
  clear qS qL
  have hzW : w.heap.size + 1 < W.heap.size := hS.lt
  generalize hW2 : W.alloc _ = W2
  have hg2 : Below W.heap.size W W2 := by rw [← hW2]; exact (Below.refl _ _).alloc (Nat.le_refl _) _
  have hB : Blk W2 W.heap.size 33 #[.int .i64 s.H, .int .i64 s.W, .int .i64 s.T, .int .i64 s.B] := by rw [← hW2]; exact Blk.new _ _ _
  replace hD := Blk.below hD hg2 (by omega)
  replace hS := hS.below hg2
  replace hbW := hbW.trans (hg2.mono hbW.size)
  clear hW2 hg2
  generalize W.heap.size = hb at *
  have hbd : Below W2.heap.size W2 W2.drew := Below.drew (Below.refl _ _)
  have hDd : DBlk W2.drew w.heap.size s := Blk.below hD hbd hD.lt
  have hBd := Blk.below hB hbd hB.lt
  have hSd := hS.below hbd
  replace hbW := hbW.trans (hbd.mono hbW.size)
  clear hD hB hS hbd
  refine hr_start (S := (fun w' => DBlk w' w.heap.size s ∧ Blk w' hb 33 #[.int .i64 s.H, .int .i64 s.W, .int .i64 s.T, .int .i64 s.B] ∧ IsScr w' (w.heap.size + 1))) (by kernel_rfl) rfl ?_ (fun hHeld => ?_)
  · ((try dsimp only); (first | exact ⟨hDd, hBd, hSd⟩ | exact hHeld | exact ⟨Blk.below hHeld.1 hg hHeld.1.lt, Blk.below hHeld.2.1 hg hHeld.2.1.lt, hHeld.2.2.below hg⟩ | exact ⟨(setRow_other _ _ _ _ (by omega)).trans hHeld.1, (setRow_other _ _ _ _ (by omega)).trans hHeld.2.1, hfin.isScr⟩))
  refine hr_t 0 (v := ?_) ?_ ?_
  rotate_left
  focus (intro wS hSw; (obtain ⟨hSw1, hSw2, -⟩ := hSw; have qS := DBlk.isDoc hSw1; have qL := DBlk.cells hSw1; obtain ⟨p0, p1, p2, p3, -, -⟩ := hSw2.facts4); go_simp; (try with_reducible rfl))
  simp only [st0, st1]
  refine hr_t 1 (v := ?_) ?_ ?_
  rotate_left
  focus (intro wS hSw; (obtain ⟨hSw1, hSw2, -⟩ := hSw; have qS := DBlk.isDoc hSw1; have qL := DBlk.cells hSw1; obtain ⟨p0, p1, p2, p3, -, -⟩ := hSw2.facts4); go_simp; (try with_reducible rfl))
  simp only [st0, st1]
  refine hr_t 2 (v := ?_) ?_ ?_
  rotate_left
  focus (intro wS hSw; (obtain ⟨hSw1, hSw2, -⟩ := hSw; have qS := DBlk.isDoc hSw1; have qL := DBlk.cells hSw1; obtain ⟨p0, p1, p2, p3, -, -⟩ := hSw2.facts4); go_simp; (try with_reducible rfl))
  simp only [st0, st1]
  refine hr_t 3 (v := ?_) ?_ ?_
  rotate_left
  focus (intro wS hSw; (obtain ⟨hSw1, hSw2, -⟩ := hSw; have qS := DBlk.isDoc hSw1; have qL := DBlk.cells hSw1; obtain ⟨p0, p1, p2, p3, -, -⟩ := hSw2.facts4); go_simp; (try with_reducible rfl))
  simp only [st0, st1]
  refine hr_t 4 (v := ?_) ?_ ?_
  rotate_left
  focus (intro wS hSw; (obtain ⟨hSw1, hSw2, -⟩ := hSw; have qS := DBlk.isDoc hSw1; have qL := DBlk.cells hSw1; obtain ⟨p0, p1, p2, p3, -, -⟩ := hSw2.facts4); go_simp; (try with_reducible rfl))
  simp only [st0, st1]
  refine hr_t 5 (v := ?_) ?_ ?_
  rotate_left
  focus (intro wS hSw; (obtain ⟨hSw1, hSw2, -⟩ := hSw; have qS := DBlk.isDoc hSw1; have qL := DBlk.cells hSw1; obtain ⟨p0, p1, p2, p3, -, -⟩ := hSw2.facts4); go_simp; (try with_reducible rfl))
  simp only [st0, st1]
  refine hr_t 7 (v := ?_) ?_ ?_
  rotate_left
  focus (intro wS hSw; (obtain ⟨hSw1, hSw2, -⟩ := hSw; have qS := DBlk.isDoc hSw1; have qL := DBlk.cells hSw1; obtain ⟨p0, p1, p2, p3, -, -⟩ := hSw2.facts4); go_simp; (try with_reducible rfl))
  simp only [st0, st1]
  refine hr_t 8 (v := ?_) ?_ ?_
  rotate_left
  focus (intro wS hSw; (obtain ⟨hSw1, hSw2, -⟩ := hSw; have qS := DBlk.isDoc hSw1; have qL := DBlk.cells hSw1; obtain ⟨p0, p1, p2, p3, -, -⟩ := hSw2.facts4); go_simp; (try with_reducible rfl))
  simp only [st0, st1]
  refine hr_t 9 (v := ?_) ?_ ?_
  rotate_left
  focus (intro wS hSw; (obtain ⟨hSw1, hSw2, -⟩ := hSw; have qS := DBlk.isDoc hSw1; have qL := DBlk.cells hSw1; obtain ⟨p0, p1, p2, p3, -, -⟩ := hSw2.facts4); go_simp; (try with_reducible rfl))
  simp only [st0, st1]
  refine hr_t 10 (v := ?_) ?_ ?_
  rotate_left
  focus (intro wS hSw; (obtain ⟨hSw1, hSw2, -⟩ := hSw; have qS := DBlk.isDoc hSw1; have qL := DBlk.cells hSw1; obtain ⟨p0, p1, p2, p3, -, -⟩ := hSw2.facts4); go_simp; (try with_reducible rfl))
  simp only [st0, st1]
  refine hr_t 11 (v := ?_) ?_ ?_
  rotate_left
  focus (intro wS hSw; (obtain ⟨hSw1, hSw2, -⟩ := hSw; have qS := DBlk.isDoc hSw1; have qL := DBlk.cells hSw1; obtain ⟨p0, p1, p2, p3, -, -⟩ := hSw2.facts4); go_simp; (try with_reducible rfl))
  simp only [st0, st1]
  refine hr_t 12 (v := ?_) ?_ ?_
  rotate_left
  focus (intro wS hSw; (obtain ⟨hSw1, hSw2, -⟩ := hSw; have qS := DBlk.isDoc hSw1; have qL := DBlk.cells hSw1; obtain ⟨p0, p1, p2, p3, -, -⟩ := hSw2.facts4); go_simp; (try with_reducible rfl))
  simp only [st0, st1]
  refine hr_t 13 (v := ?_) ?_ ?_
  rotate_left
  focus (intro wS hSw; (obtain ⟨hSw1, hSw2, -⟩ := hSw; have qS := DBlk.isDoc hSw1; have qL := DBlk.cells hSw1; obtain ⟨p0, p1, p2, p3, -, -⟩ := hSw2.facts4); go_simp; (try with_reducible rfl))
  simp only [st0, st1]
  refine hr_t 14 (v := ?_) ?_ ?_
  rotate_left
  focus (intro wS hSw; (obtain ⟨hSw1, hSw2, -⟩ := hSw; have qS := DBlk.isDoc hSw1; have qL := DBlk.cells hSw1; obtain ⟨p0, p1, p2, p3, -, -⟩ := hSw2.facts4); go_simp; (try with_reducible rfl))
  simp only [st0, st1]
  refine hr_t 15 (v := ?_) ?_ ?_
  rotate_left
  focus (intro wS hSw; (obtain ⟨hSw1, hSw2, -⟩ := hSw; have qS := DBlk.isDoc hSw1; have qL := DBlk.cells hSw1; obtain ⟨p0, p1, p2, p3, -, -⟩ := hSw2.facts4); go_simp; (try with_reducible rfl))
  simp only [st0, st1]
  refine hr_t 16 (v := ?_) ?_ ?_
  rotate_left
  focus (intro wS hSw; (obtain ⟨hSw1, hSw2, -⟩ := hSw; have qS := DBlk.isDoc hSw1; have qL := DBlk.cells hSw1; obtain ⟨p0, p1, p2, p3, -, -⟩ := hSw2.facts4); go_simp; (try with_reducible rfl))
  simp only [st0, st1]
  refine hr_t 17 (v := ?_) ?_ ?_
  rotate_left
  focus (intro wS hSw; (obtain ⟨hSw1, hSw2, -⟩ := hSw; have qS := DBlk.isDoc hSw1; have qL := DBlk.cells hSw1; obtain ⟨p0, p1, p2, p3, -, -⟩ := hSw2.facts4); go_simp; (try with_reducible rfl))
  simp only [st0, st1]
  refine hr_t 18 (v := ?_) ?_ ?_
  rotate_left
  focus (intro wS hSw; (obtain ⟨hSw1, hSw2, -⟩ := hSw; have qS := DBlk.isDoc hSw1; have qL := DBlk.cells hSw1; obtain ⟨p0, p1, p2, p3, -, -⟩ := hSw2.facts4); go_simp; (try with_reducible rfl))
  simp only [st0, st1]
  refine hr_t 19 (v := ?_) ?_ ?_
  rotate_left
  focus (intro wS hSw; (obtain ⟨hSw1, hSw2, -⟩ := hSw; have qS := DBlk.isDoc hSw1; have qL := DBlk.cells hSw1; obtain ⟨p0, p1, p2, p3, -, -⟩ := hSw2.facts4); go_simp; (try with_reducible rfl))
  simp only [st0, st1]
  refine hr_t 20 (v := ?_) ?_ ?_
  rotate_left
  focus (intro wS hSw; (obtain ⟨hSw1, hSw2, -⟩ := hSw; have qS := DBlk.isDoc hSw1; have qL := DBlk.cells hSw1; obtain ⟨p0, p1, p2, p3, -, -⟩ := hSw2.facts4); go_simp; (try with_reducible rfl))
  simp only [st0, st1]
  refine hr_t 21 (v := ?_) ?_ ?_
  rotate_left
  focus (intro wS hSw; (obtain ⟨hSw1, hSw2, -⟩ := hSw; have qS := DBlk.isDoc hSw1; have qL := DBlk.cells hSw1; obtain ⟨p0, p1, p2, p3, -, -⟩ := hSw2.facts4); go_simp; (try with_reducible rfl))
  simp only [st0, st1]
  refine hr_t 22 (v := ?_) ?_ ?_
  rotate_left
  focus (intro wS hSw; (obtain ⟨hSw1, hSw2, -⟩ := hSw; have qS := DBlk.isDoc hSw1; have qL := DBlk.cells hSw1; obtain ⟨p0, p1, p2, p3, -, -⟩ := hSw2.facts4); go_simp; (try with_reducible rfl))
  simp only [st0, st1]
  refine hr_t 23 (v := ?_) ?_ ?_
  rotate_left
  focus (intro wS hSw; (obtain ⟨hSw1, hSw2, -⟩ := hSw; have qS := DBlk.isDoc hSw1; have qL := DBlk.cells hSw1; obtain ⟨p0, p1, p2, p3, -, -⟩ := hSw2.facts4); go_simp; (try with_reducible rfl))
  simp only [st0, st1]
  refine hr_t 24 (v := ?_) ?_ ?_
  rotate_left
  focus (intro wS hSw; (obtain ⟨hSw1, hSw2, -⟩ := hSw; have qS := DBlk.isDoc hSw1; have qL := DBlk.cells hSw1; obtain ⟨p0, p1, p2, p3, -, -⟩ := hSw2.facts4); go_simp; (try with_reducible rfl))
  simp only [st0, st1]
  refine hr_t 25 (v := ?_) ?_ ?_
  rotate_left
  focus (intro wS hSw; (obtain ⟨hSw1, hSw2, -⟩ := hSw; have qS := DBlk.isDoc hSw1; have qL := DBlk.cells hSw1; obtain ⟨p0, p1, p2, p3, -, -⟩ := hSw2.facts4); go_simp; (try with_reducible rfl))
  simp only [st0, st1]
  refine hr_t 26 (v := ?_) ?_ ?_
  rotate_left
  focus (intro wS hSw; (obtain ⟨hSw1, hSw2, -⟩ := hSw; have qS := DBlk.isDoc hSw1; have qL := DBlk.cells hSw1; obtain ⟨p0, p1, p2, p3, -, -⟩ := hSw2.facts4); go_simp; (try with_reducible rfl))
  simp only [st0, st1]
  refine hr_t 27 (v := ?_) ?_ ?_
  rotate_left
  focus (intro wS hSw; (obtain ⟨hSw1, hSw2, -⟩ := hSw; have qS := DBlk.isDoc hSw1; have qL := DBlk.cells hSw1; obtain ⟨p0, p1, p2, p3, -, -⟩ := hSw2.facts4); go_simp; (try with_reducible rfl))
  simp only [st0, st1]
  refine hr_t 28 (v := ?_) ?_ ?_
  rotate_left
  focus (intro wS hSw; (obtain ⟨hSw1, hSw2, -⟩ := hSw; have qS := DBlk.isDoc hSw1; have qL := DBlk.cells hSw1; obtain ⟨p0, p1, p2, p3, -, -⟩ := hSw2.facts4); go_simp; (try with_reducible rfl))
  simp only [st0, st1]
  refine hr_t 29 (v := ?_) ?_ ?_
  rotate_left
  focus (intro wS hSw; (obtain ⟨hSw1, hSw2, -⟩ := hSw; have qS := DBlk.isDoc hSw1; have qL := DBlk.cells hSw1; obtain ⟨p0, p1, p2, p3, -, -⟩ := hSw2.facts4); go_simp; (try with_reducible rfl))
  simp only [st0, st1]
  refine hr_t 30 (v := ?_) ?_ ?_
  rotate_left
  focus (intro wS hSw; (obtain ⟨hSw1, hSw2, -⟩ := hSw; have qS := DBlk.isDoc hSw1; have qL := DBlk.cells hSw1; obtain ⟨p0, p1, p2, p3, -, -⟩ := hSw2.facts4); go_simp; (try with_reducible rfl))
  simp only [st0, st1]
  refine hr_t 31 (v := ?_) ?_ ?_
  rotate_left
  focus (intro wS hSw; (obtain ⟨hSw1, hSw2, -⟩ := hSw; have qS := DBlk.isDoc hSw1; have qL := DBlk.cells hSw1; obtain ⟨p0, p1, p2, p3, -, -⟩ := hSw2.facts4); go_simp; (try with_reducible rfl))
  simp only [st0, st1]
  refine hr_t 32 (v := ?_) ?_ ?_
  rotate_left
  focus (intro wS hSw; (obtain ⟨hSw1, hSw2, -⟩ := hSw; have qS := DBlk.isDoc hSw1; have qL := DBlk.cells hSw1; obtain ⟨p0, p1, p2, p3, -, -⟩ := hSw2.facts4); go_simp; (try with_reducible rfl))
  simp only [st0, st1]
  refine hr_t 33 (v := ?_) ?_ ?_
  rotate_left
  focus (intro wS hSw; (obtain ⟨hSw1, hSw2, -⟩ := hSw; have qS := DBlk.isDoc hSw1; have qL := DBlk.cells hSw1; obtain ⟨p0, p1, p2, p3, -, -⟩ := hSw2.facts4); go_simp; (try with_reducible rfl))
  simp only [st0, st1]
  refine hr_o 6 (fun K hK => ?_)
  (try go_simp)
  ((with_reducible refine (cur15_c s.x s.y s.wr s.og s.fg s.bg s.fl s.g0 s.g1 s.g2 s.g3 s.gl s.gr s.on _).mono ?_); rintro e w4 ⟨rfl, hg⟩; replace hg := hg.below; replace hbW := hbW.trans (hg.mono hbW.size))
  (try go_wp2_with fail)
  refine hK.out _ _ ?_ (fun hHeld => ?_)
  · ((try dsimp only); (first | exact ⟨hDd, hBd, hSd⟩ | exact hHeld | exact ⟨Blk.below hHeld.1 hg hHeld.1.lt, Blk.below hHeld.2.1 hg hHeld.2.1.lt, hHeld.2.2.below hg⟩ | exact ⟨(setRow_other _ _ _ _ (by omega)).trans hHeld.1, (setRow_other _ _ _ _ (by omega)).trans hHeld.2.1, hfin.isScr⟩))
  clear hK K
  simp only [st0, st1]
  refine hr_t 34 (v := ?_) ?_ ?_
  rotate_left
  focus (intro wS hSw; (obtain ⟨hSw1, hSw2, -⟩ := hSw; have qS := DBlk.isDoc hSw1; have qL := DBlk.cells hSw1; obtain ⟨p0, p1, p2, p3, -, -⟩ := hSw2.facts4); go_simp; (try with_reducible rfl))
  simp only [st0, st1]
  refine hr_op0 (i := 35) rfl (by kernel_rfl) (by kernel_rfl) (fun K hK => ?_)
  (refine wp_scr_store s hHeld.2.2 rfl rfl rfl rfl ?_; have hfin : SBlk (w4.setRow (w.heap.size + 1) #[.slice s.gA s.gn s.gc, .int .i64 s.x, .int .i64 s.y, .bool s.wr, .bool s.og, .int .i64 s.fg, .int .i64 s.bg, .int .i64 s.fl, .int .u8 s.g0, .int .u8 s.g1, .int .u8 s.g2, .int .u8 s.g3, .int .i64 s.gl, .int .i64 s.gr, .int .i64 s.on, .int .i64 s.H, .int .i64 s.W, .int .i64 s.T, .int .i64 s.B, .slice s.tA s.tn s.tc, .int .i64 s.tw, .slice s.kA s.kn s.kc, .int .i64 s.kp, .int .i64 s.dir, .bool s.ex]) (w.heap.size + 1) s := by (obtain ⟨cs, k1, _⟩ := hHeld.2.2; exact setRow_heap _ _ _ _ _ _ k1))
  refine hK.out _ ?_ (fun hHeld => ?_)
  · ((try dsimp only); (first | exact ⟨hDd, hBd, hSd⟩ | exact hHeld | exact ⟨Blk.below hHeld.1 hg hHeld.1.lt, Blk.below hHeld.2.1 hg hHeld.2.1.lt, hHeld.2.2.below hg⟩ | exact ⟨(setRow_other _ _ _ _ (by omega)).trans hHeld.1, (setRow_other _ _ _ _ (by omega)).trans hHeld.2.1, hfin.isScr⟩))
  clear hK K
  refine hr_done (by kernel_rfl) ?_
  (go_wp2_with fail; exact bodyPost_ret (results_scr rfl rfl hfin) rfl ⟨rfl, Below.toGrow (below_row hbW (by omega) _)⟩)
end Go.Proofs.YtlchffkabpfjpaaGreat.Scr
