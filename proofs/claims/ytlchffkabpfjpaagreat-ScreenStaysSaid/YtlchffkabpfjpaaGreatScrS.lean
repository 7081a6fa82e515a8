/- A screen in its box: what is loaded, what is stored; what the walks of the screen's functions hold from step to step. -/
import Derived.Test.YtlchffkabpfjpaaGreatScrP
import Derived.Test.YtlchffkabpfjpaaGreatGB
namespace Go.Proofs.YtlchffkabpfjpaaGreat.Scr
open Go.RowKit Go.Proofs.YtlchffkabpfjpaaGreat.Row
def SBlk (w : World) (g : Nat) (s : Sc) : Prop := Blk w g 54 #[.slice s.gA s.gn s.gc, .int .i64 s.x, .int .i64 s.y, .bool s.wr, .bool s.og, .int .i64 s.fg, .int .i64 s.bg, .int .i64 s.fl, .int .u8 s.g0, .int .u8 s.g1, .int .u8 s.g2, .int .u8 s.g3, .int .i64 s.gl, .int .i64 s.gr, .int .i64 s.on, .int .i64 s.H, .int .i64 s.W, .int .i64 s.T, .int .i64 s.B, .slice s.tA s.tn s.tc, .int .i64 s.tw, .slice s.kA s.kn s.kc, .int .i64 s.kp, .int .i64 s.dir, .bool s.ex]
theorem scr_info : (Tryz.prog.info? 54).map (·.size) = some 25 := by kernel_rfl
theorem scr_load {w : World} {g : Nat} {cs : Array Value} (h : Blk w g 54 cs) (hs : cs.size = 25) : (loadVar 54 ⟨g, 0, none⟩).run Tryz.prog w = .ok (.agg cs) w :=
  run_loadVar_row w g _ _ cs (0, 0) _ h Tryz.underlying54 rfl (by rw [scr_info, hs])
/-- a block's cells -/
def scells (w : World) (g : Nat) : Array Value := match w.heap[g]? with
  | some (.cells cs _ _) => cs
  | _ => #[]
/-- block g is a screen's box -/
def IsScr (w : World) (g : Nat) : Prop := ∃ cs : Array Value, Blk w g 54 cs ∧ cs.size = 25
/-- a screen's box is loaded and stored whole, in one step -/
theorem scr_load_pre (g : Nat) (w : World) (h : IsScr w g) : (loadVar 54 ⟨g, 0, none⟩).run Tryz.prog w = .ok (.agg (scells w g)) w := by
  obtain ⟨cs, h1, h2⟩ := h
  have e : scells w g = cs := by
    unfold scells
    unfold Blk at h1
    rw [h1]
  rw [e]
  exact scr_load h1 h2
theorem scr_store_pre (g : Nat) (w : World) (gA : Option Addr) (gn gc : Nat) (x y : Int) (wr og : Bool) (fg bg fl g0 g1 g2 g3 gl gr on H W T B : Int) (tA : Option Addr) (tn tc : Nat) (tw : Int) (kA : Option Addr) (kn kc : Nat) (kp dir : Int) (ex : Bool) (h : IsScr w g) : (storeVar 54 ⟨g, 0, none⟩ (.agg #[.slice gA gn gc, .int .i64 x, .int .i64 y, .bool wr, .bool og, .int .i64 fg, .int .i64 bg, .int .i64 fl, .int .u8 g0, .int .u8 g1, .int .u8 g2, .int .u8 g3, .int .i64 gl, .int .i64 gr, .int .i64 on, .int .i64 H, .int .i64 W, .int .i64 T, .int .i64 B, .slice tA tn tc, .int .i64 tw, .slice kA kn kc, .int .i64 kp, .int .i64 dir, .bool ex])).run Tryz.prog w = .ok () (w.setRow g #[.slice gA gn gc, .int .i64 x, .int .i64 y, .bool wr, .bool og, .int .i64 fg, .int .i64 bg, .int .i64 fl, .int .u8 g0, .int .u8 g1, .int .u8 g2, .int .u8 g3, .int .i64 gl, .int .i64 gr, .int .i64 on, .int .i64 H, .int .i64 W, .int .i64 T, .int .i64 B, .slice tA tn tc, .int .i64 tw, .slice kA kn kc, .int .i64 kp, .int .i64 dir, .bool ex]) := by
  obtain ⟨cs, h1, h2⟩ := h
  exact run_storeVar_row w g _ _ _ _ h1 (by rw [scr_info]; rfl) (by rw [h2]; rfl) (by simp [Value.oneCell'])
theorem SBlk.isScr {w : World} {g : Nat} {s : Sc} (h : SBlk w g s) : IsScr w g := ⟨_, h, rfl⟩
theorem SBlk.cells {w : World} {g : Nat} {s : Sc} (h : SBlk w g s) : scells w g = #[.slice s.gA s.gn s.gc, .int .i64 s.x, .int .i64 s.y, .bool s.wr, .bool s.og, .int .i64 s.fg, .int .i64 s.bg, .int .i64 s.fl, .int .u8 s.g0, .int .u8 s.g1, .int .u8 s.g2, .int .u8 s.g3, .int .i64 s.gl, .int .i64 s.gr, .int .i64 s.on, .int .i64 s.H, .int .i64 s.W, .int .i64 s.T, .int .i64 s.B, .slice s.tA s.tn s.tc, .int .i64 s.tw, .slice s.kA s.kn s.kc, .int .i64 s.kp, .int .i64 s.dir, .bool s.ex] := by
  unfold scells
  unfold SBlk Blk at h
  rw [h]
theorem scr_cell (g i : Nat) (w : World) (h : IsScr w g) : w.cell? ⟨g, i, none⟩ = (scells w g)[i]? := by
  obtain ⟨cs, h1, _⟩ := h
  have e : scells w g = cs := by
    unfold scells
    unfold Blk at h1
    rw [h1]
  rw [e]
  exact Blk.cell h1 i
theorem scr_frozen (g i : Nat) (w : World) (h : IsScr w g) : w.frozen? ⟨g, i, none⟩ = false := by
  obtain ⟨cs, h1, _⟩ := h
  exact Blk.frozen h1 i
theorem IsScr.lt {w : World} {g : Nat} (h : IsScr w g) : g < w.heap.size := by
  obtain ⟨cs, h1, _⟩ := h
  exact Blk.lt h1
theorem SBlk.row {w : World} {g : Nat} {s t : Sc} (h : SBlk w g s) : SBlk (w.setRow g #[.slice t.gA t.gn t.gc, .int .i64 t.x, .int .i64 t.y, .bool t.wr, .bool t.og, .int .i64 t.fg, .int .i64 t.bg, .int .i64 t.fl, .int .u8 t.g0, .int .u8 t.g1, .int .u8 t.g2, .int .u8 t.g3, .int .i64 t.gl, .int .i64 t.gr, .int .i64 t.on, .int .i64 t.H, .int .i64 t.W, .int .i64 t.T, .int .i64 t.B, .slice t.tA t.tn t.tc, .int .i64 t.tw, .slice t.kA t.kn t.kc, .int .i64 t.kp, .int .i64 t.dir, .bool t.ex]) g t := setRow_heap w g _ _ _ _ h
theorem SBlk.cell {w : World} {g : Nat} {s t : Sc} (i : Nat) (u : Value) (h : SBlk w g s) (e : (#[.slice s.gA s.gn s.gc, .int .i64 s.x, .int .i64 s.y, .bool s.wr, .bool s.og, .int .i64 s.fg, .int .i64 s.bg, .int .i64 s.fl, .int .u8 s.g0, .int .u8 s.g1, .int .u8 s.g2, .int .u8 s.g3, .int .i64 s.gl, .int .i64 s.gr, .int .i64 s.on, .int .i64 s.H, .int .i64 s.W, .int .i64 s.T, .int .i64 s.B, .slice s.tA s.tn s.tc, .int .i64 s.tw, .slice s.kA s.kn s.kc, .int .i64 s.kp, .int .i64 s.dir, .bool s.ex]).setIfInBounds i u = #[.slice t.gA t.gn t.gc, .int .i64 t.x, .int .i64 t.y, .bool t.wr, .bool t.og, .int .i64 t.fg, .int .i64 t.bg, .int .i64 t.fl, .int .u8 t.g0, .int .u8 t.g1, .int .u8 t.g2, .int .u8 t.g3, .int .i64 t.gl, .int .i64 t.gr, .int .i64 t.on, .int .i64 t.H, .int .i64 t.W, .int .i64 t.T, .int .i64 t.B, .slice t.tA t.tn t.tc, .int .i64 t.tw, .slice t.kA t.kn t.kc, .int .i64 t.kp, .int .i64 t.dir, .bool t.ex]) : SBlk (w.setCell ⟨g, i, none⟩ u) g t := by
  have := Blk.set_ h i u
  unfold SBlk
  rw [← e]
  exact this
theorem SBlk.cell2 {w : World} {g : Nat} {s t : Sc} (i j : Nat) (u v : Value) (h : SBlk w g s) (e : ((#[.slice s.gA s.gn s.gc, .int .i64 s.x, .int .i64 s.y, .bool s.wr, .bool s.og, .int .i64 s.fg, .int .i64 s.bg, .int .i64 s.fl, .int .u8 s.g0, .int .u8 s.g1, .int .u8 s.g2, .int .u8 s.g3, .int .i64 s.gl, .int .i64 s.gr, .int .i64 s.on, .int .i64 s.H, .int .i64 s.W, .int .i64 s.T, .int .i64 s.B, .slice s.tA s.tn s.tc, .int .i64 s.tw, .slice s.kA s.kn s.kc, .int .i64 s.kp, .int .i64 s.dir, .bool s.ex]).setIfInBounds i u).setIfInBounds j v = #[.slice t.gA t.gn t.gc, .int .i64 t.x, .int .i64 t.y, .bool t.wr, .bool t.og, .int .i64 t.fg, .int .i64 t.bg, .int .i64 t.fl, .int .u8 t.g0, .int .u8 t.g1, .int .u8 t.g2, .int .u8 t.g3, .int .i64 t.gl, .int .i64 t.gr, .int .i64 t.on, .int .i64 t.H, .int .i64 t.W, .int .i64 t.T, .int .i64 t.B, .slice t.tA t.tn t.tc, .int .i64 t.tw, .slice t.kA t.kn t.kc, .int .i64 t.kp, .int .i64 t.dir, .bool t.ex]) : SBlk ((w.setCell ⟨g, i, none⟩ u).setCell ⟨g, j, none⟩ v) g t := by
  have := Blk.set_ (Blk.set_ h i u) j v
  unfold SBlk
  rw [← e]
  exact this
theorem loadAt_scr {g : Nat} {w : World} {s : Sc} (h : SBlk w g s) : (Instr.loadAt 54 (.pointer (some ⟨g, 0, none⟩))).run Tryz.prog w = .ok (.agg #[.slice s.gA s.gn s.gc, .int .i64 s.x, .int .i64 s.y, .bool s.wr, .bool s.og, .int .i64 s.fg, .int .i64 s.bg, .int .i64 s.fl, .int .u8 s.g0, .int .u8 s.g1, .int .u8 s.g2, .int .u8 s.g3, .int .i64 s.gl, .int .i64 s.gr, .int .i64 s.on, .int .i64 s.H, .int .i64 s.W, .int .i64 s.T, .int .i64 s.B, .slice s.tA s.tn s.tc, .int .i64 s.tw, .slice s.kA s.kn s.kc, .int .i64 s.kp, .int .i64 s.dir, .bool s.ex]) w := by
  have e : Instr.loadAt 54 (.pointer (some ⟨g, 0, none⟩)) = loadVar 54 ⟨g, 0, none⟩ := rfl
  rw [e]
  exact scr_load h rfl
theorem storeAt_scr {g : Nat} {w : World} {s : Sc} (h : IsScr w g) : (Instr.storeAt 54 (.pointer (some ⟨g, 0, none⟩)) (.agg #[.slice s.gA s.gn s.gc, .int .i64 s.x, .int .i64 s.y, .bool s.wr, .bool s.og, .int .i64 s.fg, .int .i64 s.bg, .int .i64 s.fl, .int .u8 s.g0, .int .u8 s.g1, .int .u8 s.g2, .int .u8 s.g3, .int .i64 s.gl, .int .i64 s.gr, .int .i64 s.on, .int .i64 s.H, .int .i64 s.W, .int .i64 s.T, .int .i64 s.B, .slice s.tA s.tn s.tc, .int .i64 s.tw, .slice s.kA s.kn s.kc, .int .i64 s.kp, .int .i64 s.dir, .bool s.ex])).run Tryz.prog w = .ok () (w.setRow g #[.slice s.gA s.gn s.gc, .int .i64 s.x, .int .i64 s.y, .bool s.wr, .bool s.og, .int .i64 s.fg, .int .i64 s.bg, .int .i64 s.fl, .int .u8 s.g0, .int .u8 s.g1, .int .u8 s.g2, .int .u8 s.g3, .int .i64 s.gl, .int .i64 s.gr, .int .i64 s.on, .int .i64 s.H, .int .i64 s.W, .int .i64 s.T, .int .i64 s.B, .slice s.tA s.tn s.tc, .int .i64 s.tw, .slice s.kA s.kn s.kc, .int .i64 s.kp, .int .i64 s.dir, .bool s.ex]) := by
  have e : Instr.storeAt 54 (.pointer (some ⟨g, 0, none⟩)) (.agg #[.slice s.gA s.gn s.gc, .int .i64 s.x, .int .i64 s.y, .bool s.wr, .bool s.og, .int .i64 s.fg, .int .i64 s.bg, .int .i64 s.fl, .int .u8 s.g0, .int .u8 s.g1, .int .u8 s.g2, .int .u8 s.g3, .int .i64 s.gl, .int .i64 s.gr, .int .i64 s.on, .int .i64 s.H, .int .i64 s.W, .int .i64 s.T, .int .i64 s.B, .slice s.tA s.tn s.tc, .int .i64 s.tw, .slice s.kA s.kn s.kc, .int .i64 s.kp, .int .i64 s.dir, .bool s.ex]) = storeVar 54 ⟨g, 0, none⟩ (.agg #[.slice s.gA s.gn s.gc, .int .i64 s.x, .int .i64 s.y, .bool s.wr, .bool s.og, .int .i64 s.fg, .int .i64 s.bg, .int .i64 s.fl, .int .u8 s.g0, .int .u8 s.g1, .int .u8 s.g2, .int .u8 s.g3, .int .i64 s.gl, .int .i64 s.gr, .int .i64 s.on, .int .i64 s.H, .int .i64 s.W, .int .i64 s.T, .int .i64 s.B, .slice s.tA s.tn s.tc, .int .i64 s.tw, .slice s.kA s.kn s.kc, .int .i64 s.kp, .int .i64 s.dir, .bool s.ex]) := rfl
  rw [e]
  exact scr_store_pre _ _ _ _ _ _ _ _ _ _ _ _ _ _ _ _ _ _ _ _ _ _ _ _ _ _ _ _ _ _ _ _ _ h
theorem exec_scr {g : Nat} {w : World} {s : Sc} {ρ : Operand → Value} {o : Oper} {x : Operand} (h : SBlk w g s) (ho : o.op = .load 54 x) (hx : ρ x = .pointer (some ⟨g, 0, none⟩)) : (execOp ρ o).run Tryz.prog w = .ok (.value (.agg #[.slice s.gA s.gn s.gc, .int .i64 s.x, .int .i64 s.y, .bool s.wr, .bool s.og, .int .i64 s.fg, .int .i64 s.bg, .int .i64 s.fl, .int .u8 s.g0, .int .u8 s.g1, .int .u8 s.g2, .int .u8 s.g3, .int .i64 s.gl, .int .i64 s.gr, .int .i64 s.on, .int .i64 s.H, .int .i64 s.W, .int .i64 s.T, .int .i64 s.B, .slice s.tA s.tn s.tc, .int .i64 s.tw, .slice s.kA s.kn s.kc, .int .i64 s.kp, .int .i64 s.dir, .bool s.ex])) w := by
  obtain ⟨d, op, t, p, a, gd⟩ := o
  dsimp only at ho
  subst ho
  have := loadAt_scr h
  unfold execOp
  dsimp only
  rw [hx, Sem.run_bind, this]
  rfl
theorem exec_scr_store {g : Nat} {w : World} {s : Sc} {ρ : Operand → Value} {o : Oper} {x y : Operand} (h : IsScr w g) (ho : o.op = .store 54 x y) (hx : ρ x = .pointer (some ⟨g, 0, none⟩)) (hy : ρ y = .agg #[.slice s.gA s.gn s.gc, .int .i64 s.x, .int .i64 s.y, .bool s.wr, .bool s.og, .int .i64 s.fg, .int .i64 s.bg, .int .i64 s.fl, .int .u8 s.g0, .int .u8 s.g1, .int .u8 s.g2, .int .u8 s.g3, .int .i64 s.gl, .int .i64 s.gr, .int .i64 s.on, .int .i64 s.H, .int .i64 s.W, .int .i64 s.T, .int .i64 s.B, .slice s.tA s.tn s.tc, .int .i64 s.tw, .slice s.kA s.kn s.kc, .int .i64 s.kp, .int .i64 s.dir, .bool s.ex]) : (execOp ρ o).run Tryz.prog w = .ok .skip (w.setRow g #[.slice s.gA s.gn s.gc, .int .i64 s.x, .int .i64 s.y, .bool s.wr, .bool s.og, .int .i64 s.fg, .int .i64 s.bg, .int .i64 s.fl, .int .u8 s.g0, .int .u8 s.g1, .int .u8 s.g2, .int .u8 s.g3, .int .i64 s.gl, .int .i64 s.gr, .int .i64 s.on, .int .i64 s.H, .int .i64 s.W, .int .i64 s.T, .int .i64 s.B, .slice s.tA s.tn s.tc, .int .i64 s.tw, .slice s.kA s.kn s.kc, .int .i64 s.kp, .int .i64 s.dir, .bool s.ex]) := by
  obtain ⟨d, op, t, p, a, gd⟩ := o
  dsimp only at ho
  subst ho
  have := storeAt_scr (s := s) h
  unfold execOp
  dsimp only
  rw [hx, hy, Sem.run_bind, this]
  rfl
/-- a screen's box is loaded whole, stored whole: in a walk -/
theorem wp_scr_load {w : World} {o : Oper} {a : Act} {K : Act → World → Prop} {Q : Exit → Act → World → Prop} {g : Nat} {s : Sc} {x : Operand} (h : SBlk w g s) (ho : o.op = .load 54 x) (hx : a.eval x = .pointer (some ⟨g, 0, none⟩)) (hk : K (a.put o.dst (.agg #[.slice s.gA s.gn s.gc, .int .i64 s.x, .int .i64 s.y, .bool s.wr, .bool s.og, .int .i64 s.fg, .int .i64 s.bg, .int .i64 s.fl, .int .u8 s.g0, .int .u8 s.g1, .int .u8 s.g2, .int .u8 s.g3, .int .i64 s.gl, .int .i64 s.gr, .int .i64 s.on, .int .i64 s.H, .int .i64 s.W, .int .i64 s.T, .int .i64 s.B, .slice s.tA s.tn s.tc, .int .i64 s.tw, .slice s.kA s.kn s.kc, .int .i64 s.kp, .int .i64 s.dir, .bool s.ex])) w) : o.wp Tryz.prog a w K Q := by
  unfold Oper.wp
  rw [exec_scr h ho hx]
  exact hk
theorem wp_scr_store {w : World} {o : Oper} {a : Act} {K : Act → World → Prop} {Q : Exit → Act → World → Prop} {g : Nat} (s : Sc) {x y : Operand} (h : IsScr w g) (ho : o.op = .store 54 x y) (hx : a.eval x = .pointer (some ⟨g, 0, none⟩)) (hy : a.eval y = .agg #[.slice s.gA s.gn s.gc, .int .i64 s.x, .int .i64 s.y, .bool s.wr, .bool s.og, .int .i64 s.fg, .int .i64 s.bg, .int .i64 s.fl, .int .u8 s.g0, .int .u8 s.g1, .int .u8 s.g2, .int .u8 s.g3, .int .i64 s.gl, .int .i64 s.gr, .int .i64 s.on, .int .i64 s.H, .int .i64 s.W, .int .i64 s.T, .int .i64 s.B, .slice s.tA s.tn s.tc, .int .i64 s.tw, .slice s.kA s.kn s.kc, .int .i64 s.kp, .int .i64 s.dir, .bool s.ex]) (hd : o.dst = none) (hk : K a (w.setRow g #[.slice s.gA s.gn s.gc, .int .i64 s.x, .int .i64 s.y, .bool s.wr, .bool s.og, .int .i64 s.fg, .int .i64 s.bg, .int .i64 s.fl, .int .u8 s.g0, .int .u8 s.g1, .int .u8 s.g2, .int .u8 s.g3, .int .i64 s.gl, .int .i64 s.gr, .int .i64 s.on, .int .i64 s.H, .int .i64 s.W, .int .i64 s.T, .int .i64 s.B, .slice s.tA s.tn s.tc, .int .i64 s.tw, .slice s.kA s.kn s.kc, .int .i64 s.kp, .int .i64 s.dir, .bool s.ex])) : o.wp Tryz.prog a w K Q := by
  unfold Oper.wp
  rw [exec_scr_store (s := s) h ho hx hy]
  show K (a.put o.dst undef) _
  rw [hd]
  exact hk
theorem wpList_scr_load {w : World} {ops : Array Oper} {rest : List Oper} {o : Oper} {a : Act} {Q : Exit → Act → World → Prop} {g : Nat} {s : Sc} {x : Operand} (h : SBlk w g s) (ho : o.op = .load 54 x) (hg : o.guard = none) (hx : a.eval x = .pointer (some ⟨g, 0, none⟩)) (hk : wpList Tryz.prog ops Q rest (a.put o.dst (.agg #[.slice s.gA s.gn s.gc, .int .i64 s.x, .int .i64 s.y, .bool s.wr, .bool s.og, .int .i64 s.fg, .int .i64 s.bg, .int .i64 s.fl, .int .u8 s.g0, .int .u8 s.g1, .int .u8 s.g2, .int .u8 s.g3, .int .i64 s.gl, .int .i64 s.gr, .int .i64 s.on, .int .i64 s.H, .int .i64 s.W, .int .i64 s.T, .int .i64 s.B, .slice s.tA s.tn s.tc, .int .i64 s.tw, .slice s.kA s.kn s.kc, .int .i64 s.kp, .int .i64 s.dir, .bool s.ex])) w) : wpList Tryz.prog ops Q (o :: rest) a w :=
  wpList_plain hg fun _ hK => wp_scr_load h ho hx (hK _ _ hk)
theorem wpList_scr_store {w : World} {ops : Array Oper} {rest : List Oper} {o : Oper} {a : Act} {Q : Exit → Act → World → Prop} {g : Nat} (s : Sc) {x y : Operand} (h : IsScr w g) (ho : o.op = .store 54 x y) (hg : o.guard = none) (hx : a.eval x = .pointer (some ⟨g, 0, none⟩)) (hy : a.eval y = .agg #[.slice s.gA s.gn s.gc, .int .i64 s.x, .int .i64 s.y, .bool s.wr, .bool s.og, .int .i64 s.fg, .int .i64 s.bg, .int .i64 s.fl, .int .u8 s.g0, .int .u8 s.g1, .int .u8 s.g2, .int .u8 s.g3, .int .i64 s.gl, .int .i64 s.gr, .int .i64 s.on, .int .i64 s.H, .int .i64 s.W, .int .i64 s.T, .int .i64 s.B, .slice s.tA s.tn s.tc, .int .i64 s.tw, .slice s.kA s.kn s.kc, .int .i64 s.kp, .int .i64 s.dir, .bool s.ex]) (hd : o.dst = none) (hk : wpList Tryz.prog ops Q rest a (w.setRow g #[.slice s.gA s.gn s.gc, .int .i64 s.x, .int .i64 s.y, .bool s.wr, .bool s.og, .int .i64 s.fg, .int .i64 s.bg, .int .i64 s.fl, .int .u8 s.g0, .int .u8 s.g1, .int .u8 s.g2, .int .u8 s.g3, .int .i64 s.gl, .int .i64 s.gr, .int .i64 s.on, .int .i64 s.H, .int .i64 s.W, .int .i64 s.T, .int .i64 s.B, .slice s.tA s.tn s.tc, .int .i64 s.tw, .slice s.kA s.kn s.kc, .int .i64 s.kp, .int .i64 s.dir, .bool s.ex])) : wpList Tryz.prog ops Q (o :: rest) a w :=
  wpList_plain hg fun _ hK => wp_scr_store s h ho hx hy hd (hK _ _ hk)
/-- a result's box before anything lies in it -/
def dummy : Sc := ⟨none, 0, 0, 0, 0, false, false, 0, 0, 0, 0, 0, 0, 0, 0, 0, 0, 0, 0, 0, 0, none, 0, 0, 0, none, 0, 0, 0, 0, false⟩
/-- not in the k boxes that the call made first -/
def Out (k : Nat) (w : World) (b : Nat) : Prop := b < w.heap.size ∨ w.heap.size + k ≤ b
/-- a screen's value at hand: it reads, it lies in none of the call's boxes, and where the argument lay or in what was made since -/
structure Vt (k : Nat) (S0 : Sn) (w W : World) (S : Sn) : Prop where
  rd : S.rd W
  out : S.ft (Out k w)
  gen : ∀ P : Nat → Prop, S0.ft P → S.ft (since P w.heap.size)
section
variable {k : Nat} {S0 S : Sn} {w W W1 : World} {g : Nat}
theorem Vt.start {S0 : Sn} (k : Nat) (h : S0.rd w) (hb : Below w.heap.size w W) : Vt k S0 w W S0 := ⟨h.below hb, h.ft.mono fun _ hb => .inl hb, fun _ h => h.mono fun _ hb => .inl hb⟩
theorem Vt.below (h : Vt k S0 w W S) (hb : Below W.heap.size W W1) : Vt k S0 w W1 S := ⟨h.rd.below hb, h.out, h.gen⟩
theorem Vt.row (h : Vt k S0 w W S) (cs : Array Value) (h1 : w.heap.size ≤ g) (h2 : g < w.heap.size + k) : Vt k S0 w (W.setRow g cs) S :=
  ⟨h.rd.keep h.out (Keeps.row W cs (by unfold Out; omega)), h.out, h.gen⟩
theorem Vt.cell (h : Vt k S0 w W S) (i : Nat) (u : Value) (h1 : w.heap.size ≤ g) (h2 : g < w.heap.size + k) : Vt k S0 w (W.setCell ⟨g, i, none⟩ u) S :=
  ⟨h.rd.keep h.out (Keeps.cell W u (by show ¬ Out k w g; unfold Out; omega)), h.out, h.gen⟩
/-- behind a callee that was handed it -/
theorem Vt.post {Φ : Md → Prop} {e : Ending} (h : Vt k S0 w W S) (hk : w.heap.size + k ≤ W.heap.size) (hp : SPost S W Φ e W1) :
    ∃ S' : Sn, e = .returned (.agg #[.slice S'.s.gA S'.s.gn S'.s.gc, .int .i64 S'.s.x, .int .i64 S'.s.y, .bool S'.s.wr, .bool S'.s.og, .int .i64 S'.s.fg, .int .i64 S'.s.bg, .int .i64 S'.s.fl, .int .u8 S'.s.g0, .int .u8 S'.s.g1, .int .u8 S'.s.g2, .int .u8 S'.s.g3, .int .i64 S'.s.gl, .int .i64 S'.s.gr, .int .i64 S'.s.on, .int .i64 S'.s.H, .int .i64 S'.s.W, .int .i64 S'.s.T, .int .i64 S'.s.B, .slice S'.s.tA S'.s.tn S'.s.tc, .int .i64 S'.s.tw, .slice S'.s.kA S'.s.kn S'.s.kc, .int .i64 S'.s.kp, .int .i64 S'.s.dir, .bool S'.s.ex]) ∧ Below W.heap.size W W1 ∧ Vt k S0 w W1 S' ∧ Φ S'.md := by
  obtain ⟨S', rfl, h1, h2, h3, h4⟩ := hp
  refine ⟨S', rfl, h1, ⟨h2, (h4 _ h.out).mono fun b hb => ?_, fun P hP => (h4 _ (h.gen P hP)).mono fun b hb => ?_⟩, h3⟩
  · rcases hb with hb | hb
    · exact hb
    · right
      omega
  · rcases hb with hb | hb
    · exact hb
    · right
      omega
theorem Vt.grid (h : Vt k S0 w W S) {A : Option Addr} {n c : Nat} {F : Nat → Rw} (h1 : RdR W (.slice A n c) (listG n F)) (h2 : Ft (Out k w) (.slice A n c) (listG n F)) (h3 : ∀ P : Nat → Prop, S0.ft P → Ft (since P w.heap.size) (.slice A n c) (listG n F)) :
    Vt k S0 w W { S with s := { S.s with gA := A, gn := n, gc := c }, F := F } :=
  ⟨⟨h1, h.rd.2⟩, ⟨h2, h.out.2⟩, fun P hP => ⟨h3 P hP, (h.gen P hP).2⟩⟩
theorem Vt.hist (h : Vt k S0 w W S) {A : Option Addr} {n c : Nat} {L : List Rw} {kp : Int} (h1 : RdR W (.slice A n c) L) (h2 : Ft (Out k w) (.slice A n c) L) (h3 : ∀ P : Nat → Prop, S0.ft P → Ft (since P w.heap.size) (.slice A n c) L) :
    Vt k S0 w W { S with s := { S.s with kA := A, kn := n, kc := c, kp := kp }, L := L } :=
  ⟨⟨h.rd.1, h.rd.2.1, h1⟩, ⟨h.out.1, h.out.2.1, h2⟩, fun P hP => ⟨(h.gen P hP).1, (h.gen P hP).2.1, h3 P hP⟩⟩
theorem Vt.tabs (h : Vt k S0 w W S) {A : Option Addr} {n c : Nat} {zs : List Int} {tw : Int} (h1 : RdI W (.slice A n c) zs) (h2 : FtI (Out k w) (.slice A n c) zs) (h3 : ∀ P : Nat → Prop, S0.ft P → FtI (since P w.heap.size) (.slice A n c) zs) :
    Vt k S0 w W { S with s := { S.s with tA := A, tn := n, tc := c, tw := tw }, zs := zs } :=
  ⟨⟨h.rd.1, h1, h.rd.2.2⟩, ⟨h.out.1, h2, h.out.2.2⟩, fun P hP => ⟨(h.gen P hP).1, h3 P hP, (h.gen P hP).2.2⟩⟩
/-- the end of a screen's function -/
theorem Vt.fin {Φ : Md → Prop} (h : Vt k S0 w W S) (hb : Below w.heap.size w W) (hm : Φ S.md) : SPost S0 w Φ (.returned (.agg #[.slice S.s.gA S.s.gn S.s.gc, .int .i64 S.s.x, .int .i64 S.s.y, .bool S.s.wr, .bool S.s.og, .int .i64 S.s.fg, .int .i64 S.s.bg, .int .i64 S.s.fl, .int .u8 S.s.g0, .int .u8 S.s.g1, .int .u8 S.s.g2, .int .u8 S.s.g3, .int .i64 S.s.gl, .int .i64 S.s.gr, .int .i64 S.s.on, .int .i64 S.s.H, .int .i64 S.s.W, .int .i64 S.s.T, .int .i64 S.s.B, .slice S.s.tA S.s.tn S.s.tc, .int .i64 S.s.tw, .slice S.s.kA S.s.kn S.s.kc, .int .i64 S.s.kp, .int .i64 S.s.dir, .bool S.s.ex])) W := ⟨S, rfl, hb, h.rd, hm, h.gen⟩
/-- what another contract made of a part of it -/
theorem out_since (hk : w.heap.size + k ≤ W.heap.size) (b : Nat) (h : since (Out k w) W.heap.size b) : Out k w b := h.elim id fun h => .inr (Nat.le_trans hk h)
theorem gen_since {P : Nat → Prop} (hk : w.heap.size + k ≤ W.heap.size) (b : Nat) (h : since (since P w.heap.size) W.heap.size b) : since P w.heap.size b := h.elim id fun h => .inr (by omega)
end
/-- the boxes of a screen's function: the argument's and the result's -/
structure Bx (g r : Nat) (w W : World) (s : Sc) : Prop where
  bw : Below w.heap.size w W
  B : SBlk W g s
  R : ∃ z, SBlk W r z
  hg : w.heap.size ≤ g
  hr : w.heap.size ≤ r
  ne : g ≠ r
section
variable {g r : Nat} {w W W1 : World} {s t : Sc}
theorem Bx.below (h : Bx g r w W s) (hb : Below W.heap.size W W1) : Bx g r w W1 s :=
  ⟨h.bw.trans (hb.mono h.bw.size), Blk.below h.B hb (Blk.lt h.B), by obtain ⟨z, hz⟩ := h.R; exact ⟨z, Blk.below hz hb (Blk.lt hz)⟩, h.hg, h.hr, h.ne⟩
theorem Bx.cell (h : Bx g r w W s) (n : Nat) (u : Value) (e : (#[.slice s.gA s.gn s.gc, .int .i64 s.x, .int .i64 s.y, .bool s.wr, .bool s.og, .int .i64 s.fg, .int .i64 s.bg, .int .i64 s.fl, .int .u8 s.g0, .int .u8 s.g1, .int .u8 s.g2, .int .u8 s.g3, .int .i64 s.gl, .int .i64 s.gr, .int .i64 s.on, .int .i64 s.H, .int .i64 s.W, .int .i64 s.T, .int .i64 s.B, .slice s.tA s.tn s.tc, .int .i64 s.tw, .slice s.kA s.kn s.kc, .int .i64 s.kp, .int .i64 s.dir, .bool s.ex]).setIfInBounds n u = #[.slice t.gA t.gn t.gc, .int .i64 t.x, .int .i64 t.y, .bool t.wr, .bool t.og, .int .i64 t.fg, .int .i64 t.bg, .int .i64 t.fl, .int .u8 t.g0, .int .u8 t.g1, .int .u8 t.g2, .int .u8 t.g3, .int .i64 t.gl, .int .i64 t.gr, .int .i64 t.on, .int .i64 t.H, .int .i64 t.W, .int .i64 t.T, .int .i64 t.B, .slice t.tA t.tn t.tc, .int .i64 t.tw, .slice t.kA t.kn t.kc, .int .i64 t.kp, .int .i64 t.dir, .bool t.ex]) : Bx g r w (W.setCell ⟨g, n, none⟩ u) t :=
  ⟨h.bw.setCell h.hg u, h.B.cell n u e, by obtain ⟨z, hz⟩ := h.R; exact ⟨z, (Below.heap_setCell W _ u _ (fun e => h.ne e.symm)).trans hz⟩, h.hg, h.hr, h.ne⟩
theorem Bx.row (h : Bx g r w W s) : Bx g r w (W.setRow g #[.slice t.gA t.gn t.gc, .int .i64 t.x, .int .i64 t.y, .bool t.wr, .bool t.og, .int .i64 t.fg, .int .i64 t.bg, .int .i64 t.fl, .int .u8 t.g0, .int .u8 t.g1, .int .u8 t.g2, .int .u8 t.g3, .int .i64 t.gl, .int .i64 t.gr, .int .i64 t.on, .int .i64 t.H, .int .i64 t.W, .int .i64 t.T, .int .i64 t.B, .slice t.tA t.tn t.tc, .int .i64 t.tw, .slice t.kA t.kn t.kc, .int .i64 t.kp, .int .i64 t.dir, .bool t.ex]) t :=
  ⟨below_row h.bw h.hg _, h.B.row, by obtain ⟨z, hz⟩ := h.R; exact ⟨z, (setRow_other W _ _ _ (fun e => h.ne e.symm)).trans hz⟩, h.hg, h.hr, h.ne⟩
theorem Bx.res (h : Bx g r w W s) : SBlk (W.setRow r #[.slice t.gA t.gn t.gc, .int .i64 t.x, .int .i64 t.y, .bool t.wr, .bool t.og, .int .i64 t.fg, .int .i64 t.bg, .int .i64 t.fl, .int .u8 t.g0, .int .u8 t.g1, .int .u8 t.g2, .int .u8 t.g3, .int .i64 t.gl, .int .i64 t.gr, .int .i64 t.on, .int .i64 t.H, .int .i64 t.W, .int .i64 t.T, .int .i64 t.B, .slice t.tA t.tn t.tc, .int .i64 t.tw, .slice t.kA t.kn t.kc, .int .i64 t.kp, .int .i64 t.dir, .bool t.ex]) r t ∧ Below w.heap.size w (W.setRow r #[.slice t.gA t.gn t.gc, .int .i64 t.x, .int .i64 t.y, .bool t.wr, .bool t.og, .int .i64 t.fg, .int .i64 t.bg, .int .i64 t.fl, .int .u8 t.g0, .int .u8 t.g1, .int .u8 t.g2, .int .u8 t.g3, .int .i64 t.gl, .int .i64 t.gr, .int .i64 t.on, .int .i64 t.H, .int .i64 t.W, .int .i64 t.T, .int .i64 t.B, .slice t.tA t.tn t.tc, .int .i64 t.tw, .slice t.kA t.kn t.kc, .int .i64 t.kp, .int .i64 t.dir, .bool t.ex]) := by
  obtain ⟨z, hz⟩ := h.R
  exact ⟨hz.row, below_row h.bw h.hr _⟩
theorem Bx.isR (h : Bx g r w W s) : IsScr W r := by
  obtain ⟨z, hz⟩ := h.R
  exact hz.isScr
theorem Bx.sz (h : Bx g r w W s) : g < W.heap.size ∧ r < W.heap.size := by
  obtain ⟨z, hz⟩ := h.R
  exact ⟨Blk.lt h.B, Blk.lt hz⟩
/-- the world behind the function's first step -/
theorem Bx.start {w : World} {s : Sc} : Bx w.heap.size (w.heap.size + 1) w ((w.alloc (.cells #[.slice s.gA s.gn s.gc, .int .i64 s.x, .int .i64 s.y, .bool s.wr, .bool s.og, .int .i64 s.fg, .int .i64 s.bg, .int .i64 s.fl, .int .u8 s.g0, .int .u8 s.g1, .int .u8 s.g2, .int .u8 s.g3, .int .i64 s.gl, .int .i64 s.gr, .int .i64 s.on, .int .i64 s.H, .int .i64 s.W, .int .i64 s.T, .int .i64 s.B, .slice s.tA s.tn s.tc, .int .i64 s.tw, .slice s.kA s.kn s.kc, .int .i64 s.kp, .int .i64 s.dir, .bool s.ex] 54)).alloc (.cells #[.slice dummy.gA dummy.gn dummy.gc, .int .i64 dummy.x, .int .i64 dummy.y, .bool dummy.wr, .bool dummy.og, .int .i64 dummy.fg, .int .i64 dummy.bg, .int .i64 dummy.fl, .int .u8 dummy.g0, .int .u8 dummy.g1, .int .u8 dummy.g2, .int .u8 dummy.g3, .int .i64 dummy.gl, .int .i64 dummy.gr, .int .i64 dummy.on, .int .i64 dummy.H, .int .i64 dummy.W, .int .i64 dummy.T, .int .i64 dummy.B, .slice dummy.tA dummy.tn dummy.tc, .int .i64 dummy.tw, .slice dummy.kA dummy.kn dummy.kc, .int .i64 dummy.kp, .int .i64 dummy.dir, .bool dummy.ex] 54)) s :=
  ⟨((Below.refl _ _).alloc (Nat.le_refl _) _).alloc (by simp) _, (Blk.new _ _ _).alloc _, ⟨dummy, Blk.new_at (by simp)⟩, Nat.le_refl _, Nat.le_succ _, by omega⟩
end
/-- what a screen's function holds from step to step: its boxes (block g: the screen; block r: the result), the screen in it -/
structure WS (g r k : Nat) (S0 : Sn) (w W : World) (S : Sn) : Prop where
  x : Bx g r w W S.s
  v : Vt k S0 w W S
section
variable {g r k : Nat} {S0 S S' : Sn} {w W W1 : World}
theorem WS.start (hr : S0.rd w) : WS w.heap.size (w.heap.size + 1) 2 S0 w ((w.alloc (.cells #[.slice S0.s.gA S0.s.gn S0.s.gc, .int .i64 S0.s.x, .int .i64 S0.s.y, .bool S0.s.wr, .bool S0.s.og, .int .i64 S0.s.fg, .int .i64 S0.s.bg, .int .i64 S0.s.fl, .int .u8 S0.s.g0, .int .u8 S0.s.g1, .int .u8 S0.s.g2, .int .u8 S0.s.g3, .int .i64 S0.s.gl, .int .i64 S0.s.gr, .int .i64 S0.s.on, .int .i64 S0.s.H, .int .i64 S0.s.W, .int .i64 S0.s.T, .int .i64 S0.s.B, .slice S0.s.tA S0.s.tn S0.s.tc, .int .i64 S0.s.tw, .slice S0.s.kA S0.s.kn S0.s.kc, .int .i64 S0.s.kp, .int .i64 S0.s.dir, .bool S0.s.ex] 54)).alloc (.cells #[.slice dummy.gA dummy.gn dummy.gc, .int .i64 dummy.x, .int .i64 dummy.y, .bool dummy.wr, .bool dummy.og, .int .i64 dummy.fg, .int .i64 dummy.bg, .int .i64 dummy.fl, .int .u8 dummy.g0, .int .u8 dummy.g1, .int .u8 dummy.g2, .int .u8 dummy.g3, .int .i64 dummy.gl, .int .i64 dummy.gr, .int .i64 dummy.on, .int .i64 dummy.H, .int .i64 dummy.W, .int .i64 dummy.T, .int .i64 dummy.B, .slice dummy.tA dummy.tn dummy.tc, .int .i64 dummy.tw, .slice dummy.kA dummy.kn dummy.kc, .int .i64 dummy.kp, .int .i64 dummy.dir, .bool dummy.ex] 54)) S0 := ⟨Bx.start, Vt.start 2 hr Bx.start.bw⟩
theorem WS.below (h : WS g r k S0 w W S) (hb : Below W.heap.size W W1) : WS g r k S0 w W1 S := ⟨h.x.below hb, h.v.below hb⟩
theorem WS.drew (h : WS g r k S0 w W S) : WS g r k S0 w W.drew S := h.below ⟨rfl, rfl, rfl, Nat.le_refl _, fun _ _ => rfl⟩
theorem WS.alloc (h : WS g r k S0 w W S) (o : Obj) : WS g r k S0 w (W.alloc o) S := h.below ((Below.refl _ _).alloc (Nat.le_refl _) o)
/-- a store into a block of neither -/
theorem WS.set (h : WS g r k S0 w W S) {b i : Nat} {u : Value} (h1 : w.heap.size + k ≤ b) (h2 : g < w.heap.size + k) (h3 : r < w.heap.size + k) (hf : S.ft (· ≠ b)) : WS g r k S0 w (W.setCell ⟨b, i, none⟩ u) S :=
  ⟨⟨h.x.bw.setCell (by show w.heap.size ≤ b; omega) u, (Below.heap_setCell W _ u _ (by show g ≠ b; omega)).trans h.x.B, by obtain ⟨z, hz⟩ := h.x.R; exact ⟨z, (Below.heap_setCell W _ u _ (by show r ≠ b; omega)).trans hz⟩, h.x.hg, h.x.hr, h.x.ne⟩,
    ⟨h.v.rd.keep hf (Keeps.cell W u (fun h => h rfl)), h.v.out, h.v.gen⟩⟩
/-- a store into another of the call's boxes -/
theorem WS.box (h : WS g r k S0 w W S) {b i : Nat} {u : Value} (h1 : w.heap.size ≤ b) (h2 : b < w.heap.size + k) (h3 : g ≠ b) (h4 : r ≠ b) : WS g r k S0 w (W.setCell ⟨b, i, none⟩ u) S :=
  ⟨⟨h.x.bw.setCell h1 u, (Below.heap_setCell W _ u _ h3).trans h.x.B, by obtain ⟨z, hz⟩ := h.x.R; exact ⟨z, (Below.heap_setCell W _ u _ h4).trans hz⟩, h.x.hg, h.x.hr, h.x.ne⟩, h.v.cell i u h1 h2⟩
/-- the screen's box is changed: a cell, two cells, all -/
theorem WS.cell (h : WS g r k S0 w W S) (hk : g < w.heap.size + k) (n : Nat) (u : Value) (hv : Vt k S0 w W S → Vt k S0 w W S') (e : (#[.slice S.s.gA S.s.gn S.s.gc, .int .i64 S.s.x, .int .i64 S.s.y, .bool S.s.wr, .bool S.s.og, .int .i64 S.s.fg, .int .i64 S.s.bg, .int .i64 S.s.fl, .int .u8 S.s.g0, .int .u8 S.s.g1, .int .u8 S.s.g2, .int .u8 S.s.g3, .int .i64 S.s.gl, .int .i64 S.s.gr, .int .i64 S.s.on, .int .i64 S.s.H, .int .i64 S.s.W, .int .i64 S.s.T, .int .i64 S.s.B, .slice S.s.tA S.s.tn S.s.tc, .int .i64 S.s.tw, .slice S.s.kA S.s.kn S.s.kc, .int .i64 S.s.kp, .int .i64 S.s.dir, .bool S.s.ex]).setIfInBounds n u = #[.slice S'.s.gA S'.s.gn S'.s.gc, .int .i64 S'.s.x, .int .i64 S'.s.y, .bool S'.s.wr, .bool S'.s.og, .int .i64 S'.s.fg, .int .i64 S'.s.bg, .int .i64 S'.s.fl, .int .u8 S'.s.g0, .int .u8 S'.s.g1, .int .u8 S'.s.g2, .int .u8 S'.s.g3, .int .i64 S'.s.gl, .int .i64 S'.s.gr, .int .i64 S'.s.on, .int .i64 S'.s.H, .int .i64 S'.s.W, .int .i64 S'.s.T, .int .i64 S'.s.B, .slice S'.s.tA S'.s.tn S'.s.tc, .int .i64 S'.s.tw, .slice S'.s.kA S'.s.kn S'.s.kc, .int .i64 S'.s.kp, .int .i64 S'.s.dir, .bool S'.s.ex]) : WS g r k S0 w (W.setCell ⟨g, n, none⟩ u) S' :=
  ⟨h.x.cell n u e, (hv h.v).cell n u h.x.hg hk⟩
theorem WS.cell2 (h : WS g r k S0 w W S) (hk : g < w.heap.size + k) (n m : Nat) (u v : Value) (hv : Vt k S0 w W S → Vt k S0 w W S') (e : ((#[.slice S.s.gA S.s.gn S.s.gc, .int .i64 S.s.x, .int .i64 S.s.y, .bool S.s.wr, .bool S.s.og, .int .i64 S.s.fg, .int .i64 S.s.bg, .int .i64 S.s.fl, .int .u8 S.s.g0, .int .u8 S.s.g1, .int .u8 S.s.g2, .int .u8 S.s.g3, .int .i64 S.s.gl, .int .i64 S.s.gr, .int .i64 S.s.on, .int .i64 S.s.H, .int .i64 S.s.W, .int .i64 S.s.T, .int .i64 S.s.B, .slice S.s.tA S.s.tn S.s.tc, .int .i64 S.s.tw, .slice S.s.kA S.s.kn S.s.kc, .int .i64 S.s.kp, .int .i64 S.s.dir, .bool S.s.ex]).setIfInBounds n u).setIfInBounds m v = #[.slice S'.s.gA S'.s.gn S'.s.gc, .int .i64 S'.s.x, .int .i64 S'.s.y, .bool S'.s.wr, .bool S'.s.og, .int .i64 S'.s.fg, .int .i64 S'.s.bg, .int .i64 S'.s.fl, .int .u8 S'.s.g0, .int .u8 S'.s.g1, .int .u8 S'.s.g2, .int .u8 S'.s.g3, .int .i64 S'.s.gl, .int .i64 S'.s.gr, .int .i64 S'.s.on, .int .i64 S'.s.H, .int .i64 S'.s.W, .int .i64 S'.s.T, .int .i64 S'.s.B, .slice S'.s.tA S'.s.tn S'.s.tc, .int .i64 S'.s.tw, .slice S'.s.kA S'.s.kn S'.s.kc, .int .i64 S'.s.kp, .int .i64 S'.s.dir, .bool S'.s.ex]) : WS g r k S0 w ((W.setCell ⟨g, n, none⟩ u).setCell ⟨g, m, none⟩ v) S' :=
  ⟨⟨(h.x.bw.setCell h.x.hg u).setCell h.x.hg v, h.x.B.cell2 n m u v e, by obtain ⟨z, hz⟩ := h.x.R; exact ⟨z, (Below.heap_setCell _ _ v _ (fun e => h.x.ne e.symm)).trans ((Below.heap_setCell W _ u _ (fun e => h.x.ne e.symm)).trans hz)⟩, h.x.hg, h.x.hr, h.x.ne⟩, ((hv h.v).cell n u h.x.hg hk).cell m v h.x.hg hk⟩
theorem WS.row (h : WS g r k S0 w W S) (hk : g < w.heap.size + k) (hv : Vt k S0 w W S') : WS g r k S0 w (W.setRow g #[.slice S'.s.gA S'.s.gn S'.s.gc, .int .i64 S'.s.x, .int .i64 S'.s.y, .bool S'.s.wr, .bool S'.s.og, .int .i64 S'.s.fg, .int .i64 S'.s.bg, .int .i64 S'.s.fl, .int .u8 S'.s.g0, .int .u8 S'.s.g1, .int .u8 S'.s.g2, .int .u8 S'.s.g3, .int .i64 S'.s.gl, .int .i64 S'.s.gr, .int .i64 S'.s.on, .int .i64 S'.s.H, .int .i64 S'.s.W, .int .i64 S'.s.T, .int .i64 S'.s.B, .slice S'.s.tA S'.s.tn S'.s.tc, .int .i64 S'.s.tw, .slice S'.s.kA S'.s.kn S'.s.kc, .int .i64 S'.s.kp, .int .i64 S'.s.dir, .bool S'.s.ex]) S' := ⟨h.x.row, hv.row _ h.x.hg hk⟩
theorem WS.sz (h : WS g r k S0 w W S) : g < W.heap.size ∧ r < W.heap.size := h.x.sz
theorem WS.mar (h : WS g r k S0 w W S) : W.cell? ⟨g, 17, none⟩ = some (.int .i64 S.s.T) ∧ W.cell? ⟨g, 18, none⟩ = some (.int .i64 S.s.B) := ⟨Blk.cell h.x.B 17, Blk.cell h.x.B 18⟩
/-- behind a callee that was handed the screen -/
theorem WS.post {Φ : Md → Prop} {e : Ending} (h : WS g r k S0 w W S) (hk : w.heap.size + k ≤ W.heap.size) (hp : SPost S W Φ e W1) :
    ∃ S' : Sn, e = .returned (.agg #[.slice S'.s.gA S'.s.gn S'.s.gc, .int .i64 S'.s.x, .int .i64 S'.s.y, .bool S'.s.wr, .bool S'.s.og, .int .i64 S'.s.fg, .int .i64 S'.s.bg, .int .i64 S'.s.fl, .int .u8 S'.s.g0, .int .u8 S'.s.g1, .int .u8 S'.s.g2, .int .u8 S'.s.g3, .int .i64 S'.s.gl, .int .i64 S'.s.gr, .int .i64 S'.s.on, .int .i64 S'.s.H, .int .i64 S'.s.W, .int .i64 S'.s.T, .int .i64 S'.s.B, .slice S'.s.tA S'.s.tn S'.s.tc, .int .i64 S'.s.tw, .slice S'.s.kA S'.s.kn S'.s.kc, .int .i64 S'.s.kp, .int .i64 S'.s.dir, .bool S'.s.ex]) ∧ WS g r k S0 w W1 S ∧ Vt k S0 w W1 S' ∧ Φ S'.md ∧ w.heap.size + k ≤ W1.heap.size := by
  obtain ⟨S', h1, h2, h3, h4⟩ := h.v.post hk hp
  exact ⟨S', h1, h.below h2, h3, h4, Nat.le_trans hk h2.size⟩
/-- the result is stored: the function's end -/
theorem WS.fin {Φ : Md → Prop} (h : WS g r k S0 w W S) (hv : Vt k S0 w W S') (hk : r < w.heap.size + k) (hm : Φ S'.md) : SPost S0 w Φ (.returned (.agg #[.slice S'.s.gA S'.s.gn S'.s.gc, .int .i64 S'.s.x, .int .i64 S'.s.y, .bool S'.s.wr, .bool S'.s.og, .int .i64 S'.s.fg, .int .i64 S'.s.bg, .int .i64 S'.s.fl, .int .u8 S'.s.g0, .int .u8 S'.s.g1, .int .u8 S'.s.g2, .int .u8 S'.s.g3, .int .i64 S'.s.gl, .int .i64 S'.s.gr, .int .i64 S'.s.on, .int .i64 S'.s.H, .int .i64 S'.s.W, .int .i64 S'.s.T, .int .i64 S'.s.B, .slice S'.s.tA S'.s.tn S'.s.tc, .int .i64 S'.s.tw, .slice S'.s.kA S'.s.kn S'.s.kc, .int .i64 S'.s.kp, .int .i64 S'.s.dir, .bool S'.s.ex])) (W.setRow r #[.slice S'.s.gA S'.s.gn S'.s.gc, .int .i64 S'.s.x, .int .i64 S'.s.y, .bool S'.s.wr, .bool S'.s.og, .int .i64 S'.s.fg, .int .i64 S'.s.bg, .int .i64 S'.s.fl, .int .u8 S'.s.g0, .int .u8 S'.s.g1, .int .u8 S'.s.g2, .int .u8 S'.s.g3, .int .i64 S'.s.gl, .int .i64 S'.s.gr, .int .i64 S'.s.on, .int .i64 S'.s.H, .int .i64 S'.s.W, .int .i64 S'.s.T, .int .i64 S'.s.B, .slice S'.s.tA S'.s.tn S'.s.tc, .int .i64 S'.s.tw, .slice S'.s.kA S'.s.kn S'.s.kc, .int .i64 S'.s.kp, .int .i64 S'.s.dir, .bool S'.s.ex]) :=
  (hv.row _ h.x.hr hk).fin h.x.res.2 hm
theorem WS.rows (h : WS g r k S0 w W S) : RdR W (.slice S.s.gA S.s.gn S.s.gc) (listG S.s.gn S.F) := h.v.rd.1
theorem WS.stops (h : WS g r k S0 w W S) : RdI W (.slice S.s.tA S.s.tn S.s.tc) S.zs := h.v.rd.2.1
theorem WS.kept (h : WS g r k S0 w W S) : RdR W (.slice S.s.kA S.s.kn S.s.kc) S.L := h.v.rd.2.2
theorem WS.isR (h : WS g r k S0 w W S) : IsScr W r := h.x.isR
end
/-- the function's last step: the screen's box is loaded, the result's stored -/
theorem WS.wload {g r k : Nat} {S0 S : Sn} {w W : World} {ops : Array Oper} {rest : List Oper} {o : Oper} {a : Act} {Q : Exit → Act → World → Prop} {x : Operand} (h : WS g r k S0 w W S) (ho : o.op = .load 54 x) (hg : o.guard = none) (hx : a.eval x = .pointer (some ⟨g, 0, none⟩)) (hk : wpList Tryz.prog ops Q rest (a.put o.dst (.agg #[.slice S.s.gA S.s.gn S.s.gc, .int .i64 S.s.x, .int .i64 S.s.y, .bool S.s.wr, .bool S.s.og, .int .i64 S.s.fg, .int .i64 S.s.bg, .int .i64 S.s.fl, .int .u8 S.s.g0, .int .u8 S.s.g1, .int .u8 S.s.g2, .int .u8 S.s.g3, .int .i64 S.s.gl, .int .i64 S.s.gr, .int .i64 S.s.on, .int .i64 S.s.H, .int .i64 S.s.W, .int .i64 S.s.T, .int .i64 S.s.B, .slice S.s.tA S.s.tn S.s.tc, .int .i64 S.s.tw, .slice S.s.kA S.s.kn S.s.kc, .int .i64 S.s.kp, .int .i64 S.s.dir, .bool S.s.ex])) W) : wpList Tryz.prog ops Q (o :: rest) a W := wpList_scr_load h.x.B ho hg hx hk
theorem WS.wstore {g r k : Nat} {S0 S S' : Sn} {w W : World} {ops : Array Oper} {rest : List Oper} {o : Oper} {a : Act} {Q : Exit → Act → World → Prop} {x y : Operand} (h : WS g r k S0 w W S) (_ : Vt k S0 w W S') (ho : o.op = .store 54 x y) (hg : o.guard = none) (hx : a.eval x = .pointer (some ⟨r, 0, none⟩)) (hy : a.eval y = .agg #[.slice S'.s.gA S'.s.gn S'.s.gc, .int .i64 S'.s.x, .int .i64 S'.s.y, .bool S'.s.wr, .bool S'.s.og, .int .i64 S'.s.fg, .int .i64 S'.s.bg, .int .i64 S'.s.fl, .int .u8 S'.s.g0, .int .u8 S'.s.g1, .int .u8 S'.s.g2, .int .u8 S'.s.g3, .int .i64 S'.s.gl, .int .i64 S'.s.gr, .int .i64 S'.s.on, .int .i64 S'.s.H, .int .i64 S'.s.W, .int .i64 S'.s.T, .int .i64 S'.s.B, .slice S'.s.tA S'.s.tn S'.s.tc, .int .i64 S'.s.tw, .slice S'.s.kA S'.s.kn S'.s.kc, .int .i64 S'.s.kp, .int .i64 S'.s.dir, .bool S'.s.ex]) (hd : o.dst = none) (hk : wpList Tryz.prog ops Q rest a (W.setRow r #[.slice S'.s.gA S'.s.gn S'.s.gc, .int .i64 S'.s.x, .int .i64 S'.s.y, .bool S'.s.wr, .bool S'.s.og, .int .i64 S'.s.fg, .int .i64 S'.s.bg, .int .i64 S'.s.fl, .int .u8 S'.s.g0, .int .u8 S'.s.g1, .int .u8 S'.s.g2, .int .u8 S'.s.g3, .int .i64 S'.s.gl, .int .i64 S'.s.gr, .int .i64 S'.s.on, .int .i64 S'.s.H, .int .i64 S'.s.W, .int .i64 S'.s.T, .int .i64 S'.s.B, .slice S'.s.tA S'.s.tn S'.s.tc, .int .i64 S'.s.tw, .slice S'.s.kA S'.s.kn S'.s.kc, .int .i64 S'.s.kp, .int .i64 S'.s.dir, .bool S'.s.ex])) : wpList Tryz.prog ops Q (o :: rest) a W := wpList_scr_store S'.s h.isR ho hg hx hy hd hk
theorem WS.res {g r k : Nat} {S0 S S' : Sn} {w W : World} (h : WS g r k S0 w W S) (_ : Vt k S0 w W S') : SBlk (W.setRow r #[.slice S'.s.gA S'.s.gn S'.s.gc, .int .i64 S'.s.x, .int .i64 S'.s.y, .bool S'.s.wr, .bool S'.s.og, .int .i64 S'.s.fg, .int .i64 S'.s.bg, .int .i64 S'.s.fl, .int .u8 S'.s.g0, .int .u8 S'.s.g1, .int .u8 S'.s.g2, .int .u8 S'.s.g3, .int .i64 S'.s.gl, .int .i64 S'.s.gr, .int .i64 S'.s.on, .int .i64 S'.s.H, .int .i64 S'.s.W, .int .i64 S'.s.T, .int .i64 S'.s.B, .slice S'.s.tA S'.s.tn S'.s.tc, .int .i64 S'.s.tw, .slice S'.s.kA S'.s.kn S'.s.kc, .int .i64 S'.s.kp, .int .i64 S'.s.dir, .bool S'.s.ex]) r S'.s := h.x.res.1
/-- what lies in none of the call's boxes stays when one of them is stored into -/
theorem out_set {k g i : Nat} {w W : World} {x : Value} {L : List Rw} {u : Value} (hr : RdR W x L) (hf : Ft (Out k w) x L) (h1 : w.heap.size ≤ g) (h2 : g < w.heap.size + k) : RdR (W.setCell ⟨g, i, none⟩ u) x L :=
  hr.of_ft hf (by simp [World.setCell]) fun b hb _ => Below.heap_setCell W _ u b (by
    show b ≠ g
    unfold Out at hb
    omega)
/-- the result's box is read -/
theorem results_scr {fn : Func} {t : Tmp} {r : Nat} {w : World} {s : Sc} {tmps : Array Value} (h : fn.results = #[.cell t 54]) (ht : tmps.getD t undef = .pointer (some ⟨r, 0, none⟩)) (hB : SBlk w r s) : (results fn tmps).run Tryz.prog w = .ok (.agg #[.slice s.gA s.gn s.gc, .int .i64 s.x, .int .i64 s.y, .bool s.wr, .bool s.og, .int .i64 s.fg, .int .i64 s.bg, .int .i64 s.fl, .int .u8 s.g0, .int .u8 s.g1, .int .u8 s.g2, .int .u8 s.g3, .int .i64 s.gl, .int .i64 s.gr, .int .i64 s.on, .int .i64 s.H, .int .i64 s.W, .int .i64 s.T, .int .i64 s.B, .slice s.tA s.tn s.tc, .int .i64 s.tw, .slice s.kA s.kn s.kc, .int .i64 s.kp, .int .i64 s.dir, .bool s.ex]) w := by
  have := scr_load hB rfl
  simp only [Array.getD_eq_getD_getElem?] at ht
  simp only [results, h]
  simp [ht, this, asAddr]
end Go.Proofs.YtlchffkabpfjpaaGreat.Scr
