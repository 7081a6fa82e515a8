/- Joined: Mem Lists RowA RowB RowC RowE RowL1 RowLst Hand HistA HistB Slices. -/
import Derived.Test.YtlchffkabpfjpaaGreatRowPure
import Derived.Test.YtlchffkabpfjpaaGreatBase
import Derived.Deep.OwnRows
import Derived.Laws.CopyOwn
import Derived.Deep.RegionLaw
import Derived.Maps.AppendAt
import Derived.OwnWalk
import Derived.Deep.QuietTactic
import Derived.BigQuiet
import Derived.Deep.RegionHeld3
section
/- Memory words for slices of structs: blocks known whole, copy of elements of several cells, make. Nothing of the program but the number of a cell's type. -/
namespace Go.RowKit

/-! ### only one block has turned -/
theorem gb_alloc {a w : World} {row : Option Nat} (h : a.grownBy w row) (o : Obj) : a.grownBy (w.alloc o) row :=
  ⟨h.os, h.tape, h.output, Nat.le_trans h.size (by simp), fun i hi hne => (Below.heap_alloc w o i (Nat.lt_of_lt_of_le hi h.size)).trans (h.block i hi hne)⟩
theorem gb_setCell {a w : World} {row : Option Nat} (h : a.grownBy w row) {p : Addr} (hp : row = some p.block ∨ a.heap.size ≤ p.block) (u : Value) : a.grownBy (w.setCell p u) row :=
  ⟨h.os, h.tape, h.output, by simpa [World.setCell] using h.size, fun i hi hne => (Below.heap_setCell w p u i (by
    rintro rfl
    rcases hp with hp | hp
    · exact hne hp.symm
    · omega)).trans (h.block i hi hne)⟩
theorem gb_grow {a w : World} {row : Option Nat} (h : a.grownBy w row) (X : Array Obj) (d : Nat) : a.grownBy (w.grow X d) row :=
  ⟨h.os, h.tape, h.output, Nat.le_trans h.size (by simp), fun i hi hne => (World.heap_grow w X d i (Nat.lt_of_lt_of_le hi h.size)).trans (h.block i hi hne)⟩
theorem gb_drew {a w : World} {row : Option Nat} (h : a.grownBy w row) : a.grownBy w.drew row := ⟨h.os, h.tape, h.output, h.size, h.block⟩
theorem gb_trans {a w w' : World} {b : Nat} (h : a.grownBy w (some b)) (k : w.grownBy w' (some b)) : a.grownBy w' (some b) :=
  ⟨k.os.trans h.os, k.tape.trans h.tape, k.output.trans h.output, Nat.le_trans h.size k.size, fun i hi hne => (k.block i (Nat.lt_of_lt_of_le hi h.size) hne).trans (h.block i hi hne)⟩
theorem gb_below {a w : World} (h : Below a.heap.size a w) (row : Option Nat) : a.grownBy w row := ⟨h.os, h.tape, h.output, h.size, fun i hi _ => h.block i hi⟩
/-- what turned only a block from B on has turned nothing below B -/
theorem below_gb {a w w' : World} {B b : Nat} (h : Below B a w) (k : w.grownBy w' (some b)) (hb : B ≤ b) (hB : B ≤ w.heap.size) : Below B a w' :=
  h.trans ⟨k.os, k.tape, k.output, k.size, fun i hi => k.block i (by omega) (by intro e; injection e; omega)⟩
/-! ### a block that is known whole -/
def Blk (w : World) (g : Nat) (t : TypeId) (cs : Array Value) : Prop := w.heap[g]? = some (.cells cs t (0, 0))
section
variable {w w' : World} {g : Nat} {t : TypeId} {cs : Array Value}
theorem Blk.lt (h : Blk w g t cs) : g < w.heap.size := by
  unfold Blk at h
  exact (Array.getElem?_eq_some_iff.1 h).1
theorem Blk.cell (h : Blk w g t cs) (i : Nat) : w.cell? ⟨g, i, none⟩ = cs[i]? := by unfold Blk at h; simp [World.cell?, h]
theorem Blk.frozen (h : Blk w g t cs) (i : Nat) : w.frozen? ⟨g, i, none⟩ = false := by
  unfold Blk at h
  simp [World.frozen?, h]
theorem Blk.of (h : Blk w g t cs) (e : w'.heap[g]? = w.heap[g]?) : Blk w' g t cs := e.trans h
theorem Blk.gb {row : Option Nat} (h : Blk w g t cs) (hb : w.grownBy w' row) (hg : some g ≠ row) : Blk w' g t cs := (hb.block g h.lt hg).trans h
theorem Blk.below {B : Nat} (h : Blk w g t cs) (hb : Below B w w') (hg : g < B) : Blk w' g t cs := (hb.block g hg).trans h
theorem Blk.set_ (h : Blk w g t cs) (i : Nat) (u : Value) : Blk (w.setCell ⟨g, i, none⟩ u) g t (cs.setIfInBounds i u) := by
  unfold Blk at h ⊢
  simp [World.setCell, Array.getElem?_modify, h]
theorem Blk.new (w : World) (t : TypeId) (cs : Array Value) : Blk (w.alloc (.cells cs t)) w.heap.size t cs := heap_alloc_new w _
theorem Blk.new_at {w : World} {g : Nat} {t : TypeId} {cs : Array Value} (h : g = w.heap.size) : Blk (w.alloc (.cells cs t)) g t cs := by
  subst h
  exact Blk.new w t cs
theorem Blk.alloc (h : Blk w g t cs) (o : Obj) : Blk (w.alloc o) g t cs := (Below.heap_alloc w o g h.lt).trans h
theorem Blk.grow (h : Blk w g t cs) (X : Array Obj) (d : Nat) : Blk (w.grow X d) g t cs := (World.heap_grow w X d g h.lt).trans h
theorem Blk.facts2 {a b : Value} (h : Blk w g t #[a, b]) : w.cell? ⟨g, 0, none⟩ = some a ∧ w.cell? ⟨g, 1, none⟩ = some b ∧ (∀ i, w.frozen? ⟨g, i, none⟩ = false) ∧ g < w.heap.size :=
  ⟨h.cell 0, h.cell 1, h.frozen, h.lt⟩
theorem Blk.facts3 {a b c : Value} (h : Blk w g t #[a, b, c]) : w.cell? ⟨g, 0, none⟩ = some a ∧ w.cell? ⟨g, 1, none⟩ = some b ∧ w.cell? ⟨g, 2, none⟩ = some c ∧ (∀ i, w.frozen? ⟨g, i, none⟩ = false) ∧ g < w.heap.size :=
  ⟨h.cell 0, h.cell 1, h.cell 2, h.frozen, h.lt⟩
theorem Blk.facts4 {a b c d : Value} (h : Blk w g t #[a, b, c, d]) : w.cell? ⟨g, 0, none⟩ = some a ∧ w.cell? ⟨g, 1, none⟩ = some b ∧ w.cell? ⟨g, 2, none⟩ = some c ∧ w.cell? ⟨g, 3, none⟩ = some d ∧ (∀ i, w.frozen? ⟨g, i, none⟩ = false) ∧ g < w.heap.size :=
  ⟨h.cell 0, h.cell 1, h.cell 2, h.cell 3, h.frozen, h.lt⟩
theorem Blk.facts7 {a b c d e f k : Value} (h : Blk w g t #[a, b, c, d, e, f, k]) : w.cell? ⟨g, 0, none⟩ = some a ∧ w.cell? ⟨g, 1, none⟩ = some b ∧ w.cell? ⟨g, 2, none⟩ = some c ∧ w.cell? ⟨g, 3, none⟩ = some d ∧ w.cell? ⟨g, 4, none⟩ = some e ∧ w.cell? ⟨g, 5, none⟩ = some f ∧ w.cell? ⟨g, 6, none⟩ = some k ∧ (∀ i, w.frozen? ⟨g, i, none⟩ = false) ∧ g < w.heap.size :=
  ⟨h.cell 0, h.cell 1, h.cell 2, h.cell 3, h.cell 4, h.cell 5, h.cell 6, h.frozen, h.lt⟩
end

theorem rowIs_gb {w w' : World} {b : Nat} {t : TypeId} {n : Nat} {f : Nat → Value} {row : Option Nat} (h : w.rowIs b t n f) (hg : w.grownBy w' row) (hne : some b ≠ row) : w'.rowIs b t n f := h.of_block (hg.block b h.lt hne)
theorem rowIs_below {w w' : World} {B b : Nat} {t : TypeId} {n : Nat} {f : Nat → Value} (h : w.rowIs b t n f) (hg : Below B w w') (hb : b < B) : w'.rowIs b t n f := h.of_block (hg.block b hb)
theorem rowIs_grow {w : World} {b : Nat} {t : TypeId} {n : Nat} {f : Nat → Value} (h : w.rowIs b t n f) (X : Array Obj) (d : Nat) : (w.grow X d).rowIs b t n f := h.of_block (World.heap_grow w X d b h.lt)

theorem addr_add (b o j : Nat) : (⟨b, o, none⟩ : Addr).add j = ⟨b, o + j, none⟩ := by
  unfold Addr.add
  split
  · subst_vars; rfl
  · rfl

section
variable {P : Program}
/-- 'copy' of m elements of 'size' cells each into a block that is known whole. All is read before anything is written. -/
theorem run_copy_rows (w : World) (dT sT ty elem : TypeId) (size b o N : Nat) (t : TypeId) (g : Nat → Value) (dLen dCap sLen sCap m : Nat) (a : Addr) (h : Nat → Value)
    (hu : P.underlying dT = some (.slice elem)) (hs : (P.info? elem).map (·.size) = some size) (hb : w.rowIs b t N g) (hm : Nat.min sLen dLen = m)
    (hsrc : ∀ j, j < m * size → w.cell? (a.add j) = some (h j)) (hfit : o + m * size ≤ N) (h1 : ∀ j, j < m * size → (h j).oneCell' = true) :
    ∃ w', (Builtin.copy_ #[dT, sT] ty #[.slice (some ⟨b, o, none⟩) dLen dCap, .slice (some a) sLen sCap]).run P w = .ok (.int .i64 (m : Int)) w' ∧
      w'.rowIs b t N (fun j => if o ≤ j ∧ j < o + m * size then h (j - o) else g j) ∧ w.grownBy w' (some b) ∧ w'.heap.size = w.heap.size := by
  obtain ⟨cur, hcur, hN, hg⟩ := hb
  obtain ⟨cs, hcs⟩ : ∃ cs : List Value, cs = (List.range (m * size)).map h := ⟨_, rfl⟩
  have hlen : cs.length = m * size := by simp [hcs]
  have hget : ∀ (j : Nat) (v : Value), cs[j]? = some v → j < m * size ∧ v = h j := by
    intro j v hv
    rw [hcs, List.getElem?_map] at hv
    rcases Nat.lt_or_ge j (m * size) with hj | hj
    · rw [List.getElem?_range hj] at hv
      exact ⟨hj, by simpa using hv.symm⟩
    · rw [List.getElem?_eq_none (by simpa using hj)] at hv
      cases hv
  have hl := run_loadCells_list (P := P) (w := w) a cs (fun j v hv => by obtain ⟨hj, rfl⟩ := hget j v hv; exact hsrc j hj)
  have hst := run_storeCells_at P b o t cs 0 cur w hcur (by omega) (fun v hv => by
    obtain ⟨j, hj⟩ := List.getElem?_of_mem hv
    obtain ⟨hj', rfl⟩ := hget j v hj
    exact h1 j hj')
  cases hq : P.info? elem with
  | none => simp [hq] at hs
  | some i =>
    have hi : i.size = size := by simpa [hq] using hs
    refine ⟨_, by simp [Builtin.copy_, run_underlying hu, Builtin.lenOf, Builtin.firstCells, sizeOf, typeInfo, hq, hi, hm, ← hlen, hl, hst]; exact ⟨rfl, rfl⟩, ?_, ?_, by simp⟩
    · refine ⟨_, setRow_heap w b cur _ t _ hcur, ?_, fun j hj => ?_⟩
      · simp
        omega
      · rw [List.getElem?_toArray]
        show _ = some (if o ≤ j ∧ j < o + m * size then h (j - o) else g j)
        by_cases h1 : j < o
        · rw [if_neg (by omega), List.getElem?_append_left (by simp; omega), List.getElem?_take, if_pos h1]
          simpa using hg j hj
        · by_cases h2 : j < o + m * size
          · rw [if_pos ⟨by omega, h2⟩, List.getElem?_append_right (by simp; omega), List.getElem?_append_left (by simp; omega)]
            have e : j - (cur.toList.take o).length = j - o := by simp; omega
            rw [e, hcs, List.getElem?_map, List.getElem?_range (by omega)]
            rfl
          · rw [if_neg (by omega), List.getElem?_append_right (by simp; omega), List.getElem?_append_right (by simp; omega), List.getElem?_drop]
            have e : o + cs.length + (j - (cur.toList.take o).length - cs.length) = j := by simp; omega
            rw [e]
            simpa using hg j hj
    · exact ⟨rfl, rfl, rfl, by simp, fun k _ hne => setRow_other w b k _ (by rintro rfl; exact hne rfl)⟩

theorem wp_copy_rows {w : World} {o : Oper} {a : Act} {K : Act → World → Prop} {Q : Exit → Act → World → Prop} (d s : Operand) (dT sT : TypeId)
    (ho : o.op = .call { callee := .builtin .copy, args := #[d, s], argTypes := #[dT, sT] }) (elem : TypeId) (size : Nat) (hu : P.underlying dT = some (.slice elem)) (hsz : (P.info? elem).map (·.size) = some size)
    (b off N : Nat) (t : TypeId) (g : Nat → Value) (dLen dCap sLen sCap m : Nat) (ad : Addr) (h : Nat → Value) (hd : a.eval d = .slice (some ⟨b, off, none⟩) dLen dCap) (hs : a.eval s = .slice (some ad) sLen sCap)
    (hb : w.rowIs b t N g) (hm : Nat.min sLen dLen = m) (hsrc : ∀ j, j < m * size → w.cell? (ad.add j) = some (h j)) (hfit : off + m * size ≤ N) (h1 : ∀ j, j < m * size → (h j).oneCell' = true)
    (hK : ∀ w', w'.rowIs b t N (fun j => if off ≤ j ∧ j < off + m * size then h (j - off) else g j) → w.grownBy w' (some b) → w'.heap.size = w.heap.size → K (a.put o.dst (.int .i64 (m : Int))) w') : o.wp P a w K Q := by
  obtain ⟨w', hrun, h2, h3, h4⟩ := run_copy_rows (P := P) w dT sT o.type elem size b off N t g dLen dCap sLen sCap m ad h hu hsz hb hm hsrc hfit h1
  unfold Oper.wp
  simp [execOp, ho, resolve, invoke, builtin, hd, hs, hrun, Result.andThen]
  exact hK _ h2 h3 h4
theorem wpList_copy_rows {w : World} {ops : Array Oper} {rest : List Oper} {o : Oper} {a : Act} {Q : Exit → Act → World → Prop} (hgd : o.guard = none) (d s : Operand) (dT sT : TypeId)
    (ho : o.op = .call { callee := .builtin .copy, args := #[d, s], argTypes := #[dT, sT] }) (elem : TypeId) (size : Nat) (hu : P.underlying dT = some (.slice elem)) (hsz : (P.info? elem).map (·.size) = some size)
    (b off N : Nat) (t : TypeId) (g : Nat → Value) (dLen dCap sLen sCap m : Nat) (ad : Addr) (h : Nat → Value) (hd : a.eval d = .slice (some ⟨b, off, none⟩) dLen dCap) (hs : a.eval s = .slice (some ad) sLen sCap)
    (hb : w.rowIs b t N g) (hm : Nat.min sLen dLen = m) (hsrc : ∀ j, j < m * size → w.cell? (ad.add j) = some (h j)) (hfit : off + m * size ≤ N) (h1 : ∀ j, j < m * size → (h j).oneCell' = true)
    (hK : ∀ w', w'.rowIs b t N (fun j => if off ≤ j ∧ j < off + m * size then h (j - off) else g j) → w.grownBy w' (some b) → w'.heap.size = w.heap.size → wpList P ops Q rest (a.put o.dst (.int .i64 (m : Int))) w') : wpList P ops Q (o :: rest) a w :=
  wpList_plain hgd fun _ hK' => wp_copy_rows d s dT sT ho elem size hu hsz b off N t g dLen dCap sLen sCap m ad h hd hs hb hm hsrc hfit h1 fun w' h2 h3 h4 => hK' _ _ (hK w' h2 h3 h4)

/-- 'make([]T, n)' for every world: a new block of n times the element's cells. -/
theorem run_make_rows (t e : TypeId) (z : Value) (size bytes : Nat) (ht : P.underlying t = some (.slice e)) (hinfo : (P.info? e).map (fun i => (i.zero, i.size, i.bytes)) = some (some z, size, bytes)) (hzs : z.cells.size = size) (hpos : 0 < size)
    (n : Nat) (hbytes : bytes * n ≤ 281474976710656) (h63 : n ≤ 9223372036854775807) :
    ∃ C : Array Value, C.size = n * size ∧ (∀ j, j < n * size → C[j]? = z.cells[j % size]?) ∧ ∀ w : World, (Instr.makeSlice t (.int .i64 (n : Int)) (.int .i64 (n : Int))).run P w = .ok (.slice (some ⟨w.heap.size, 0, none⟩) n n) (w.alloc (.cells C e)) := by
  obtain ⟨i, hi, hzz⟩ := Option.map_eq_some_iff.1 hinfo
  simp only [Prod.mk.injEq] at hzz
  obtain ⟨hz, hs, hb⟩ := hzz
  have hb' : (i.bytes : Int) * (n : Int) ≤ 281474976710656 := by
    have h : ((i.bytes * n : Nat) : Int) ≤ 281474976710656 := by rw [hb]; omega
    rwa [Int.natCast_mul] at h
  refine ⟨madeCells z.cells (n * size), size_madeCells _ _, fun j hj => ?_, fun w => ?_⟩
  · have hlt : j % size < z.cells.size := by rw [hzs]; exact Nat.mod_lt _ hpos
    rw [Array.getElem?_eq_getElem hlt]
    simp [madeCells, hj, hzs, getElem!_pos z.cells (j % size) hlt]
  · have hr := run_make (P := P) w t e i z ht hi hz .i64 .i64 n n (by omega) (Int.le_refl _) hb' (by omega)
    simp only [Int.toNat_natCast, hs] at hr
    exact hr
end
end Go.RowKit

namespace Go.Proofs.YtlchffkabpfjpaaGreat.Row
open Go.RowKit
/-- a cell's j-th place -/
def Cl.val (c : Cl) : Nat → Value
  | 0 => .int .i64 c.r
  | 1 => .int .i64 c.m0
  | 2 => .int .i64 c.m1
  | 3 => .int .i64 c.w
  | 4 => .int .i64 c.fg
  | 5 => .int .i64 c.bg
  | _ => .int .i64 c.fl
def valF (f : Nat → Cl) (j : Nat) : Value := (f (j / 7)).val (j % 7)
theorem val_one (c : Cl) (j : Nat) : (c.val j).oneCell' = true := by
  unfold Cl.val
  split <;> rfl
/-- block b is n cells that read as f, all its own -/
def Own (w : World) (b n : Nat) (f : Nat → Cl) : Prop := w.rowIs b 67 (n * 7) (valF f)
theorem cellAt_val {w : World} {b o : Nat} {c : Cl} (h : CellAt w b o c) (j : Nat) (hj : j < 7) : w.cell? ⟨b, o + j, none⟩ = some (c.val j) := by
  obtain ⟨h0, h1, h2, h3, h4, h5, h6⟩ := h
  match j, hj with
  | 0, _ => exact h0
  | 1, _ => exact h1
  | 2, _ => exact h2
  | 3, _ => exact h3
  | 4, _ => exact h4
  | 5, _ => exact h5
  | 6, _ => exact h6
theorem cellAt_of {w : World} {b o : Nat} {c : Cl} (h : ∀ j, j < 7 → w.cell? ⟨b, o + j, none⟩ = some (c.val j)) : CellAt w b o c :=
  ⟨h 0 (by omega), h 1 (by omega), h 2 (by omega), h 3 (by omega), h 4 (by omega), h 5 (by omega), h 6 (by omega)⟩
section
variable {w w' : World} {b n : Nat} {f g : Nat → Cl}
theorem valF_at (f : Nat → Cl) (i j : Nat) (hj : j < 7) : valF f (i * 7 + j) = (f i).val j := by
  unfold valF
  have e1 : (i * 7 + j) / 7 = i := by omega
  have e2 : (i * 7 + j) % 7 = j := by omega
  rw [e1, e2]
theorem Own.lt (h : Own w b n f) : b < w.heap.size := World.rowIs.lt h
theorem Own.at_ (h : Own w b n f) {i : Nat} (hi : i < n) : CellAt w b (i * 7) (f i) :=
  cellAt_of fun j hj => (World.rowIs.cell h (by omega)).trans (by rw [valF_at f i j hj])
theorem Own.frozen (h : Own w b n f) (i : Nat) : w.frozen? ⟨b, i, none⟩ = false := World.rowIs.frozen h i
theorem Own.rd (h : Own w b n f) : Rd w (some ⟨b, 0, none⟩) n f := fun _ => ⟨b, 0, rfl, h.lt, fun i hi => by rw [Nat.zero_add]; exact h.at_ hi⟩
theorem Own.congr (h : Own w b n f) (e : ∀ i, i < n → f i = g i) : Own w b n g := World.rowIs.congr h fun i hi => by
  unfold valF
  rw [e (i / 7) (by omega)]
theorem Own.gb {row : Option Nat} (h : Own w b n f) (hg : w.grownBy w' row) (hne : some b ≠ row) : Own w' b n f := rowIs_gb h hg hne
theorem Own.grow (h : Own w b n f) (X : Array Obj) (d : Nat) : Own (w.grow X d) b n f := rowIs_grow h X d
theorem Own.alloc (h : Own w b n f) (o : Obj) : Own (w.alloc o) b n f := World.rowIs.alloc h o
theorem Own.far (h : Own w b n f) {p : Addr} (hp : b ≠ p.block) (u : Value) : Own (w.setCell p u) b n f := World.rowIs.setOther h hp u
/-- stores into another block -/
theorem Own.far' (h : Own w b n f) {p : Addr} (hp : p.block ≠ b) (u : Value) : Own (w.setCell p u) b n f := World.rowIs.setOther h (fun e => hp e.symm) u
theorem Own.drewN (h : Own w b n f) (k : Nat) : Own (w.drewN k) b n f := h
theorem Own.store (h : Own w b n f) (k : Nat) (c : Cl) :
    Own (((((((w.setCell ⟨b, k * 7, none⟩ (.int .i64 c.r)).setCell ⟨b, k * 7 + 1, none⟩ (.int .i64 c.m0)).setCell ⟨b, k * 7 + 2, none⟩ (.int .i64 c.m1)).setCell ⟨b, k * 7 + 3, none⟩ (.int .i64 c.w)).setCell ⟨b, k * 7 + 4, none⟩ (.int .i64 c.fg)).setCell ⟨b, k * 7 + 5, none⟩ (.int .i64 c.bg)).setCell ⟨b, k * 7 + 6, none⟩ (.int .i64 c.fl)) b n (upd f k c) := by
  refine World.rowIs.congr (((((((World.rowIs.set h _ _).set _ _).set _ _).set _ _).set _ _).set _ _).set _ _) fun i _ => ?_
  unfold valF upd
  by_cases hk : i / 7 = k
  · subst hk
    rw [if_pos rfl]
    have hj : i % 7 < 7 := Nat.mod_lt _ (by omega)
    generalize hm : i % 7 = j at hj
    have hi : i = i / 7 * 7 + j := by omega
    match j, hj with
    | 0, _ => rw [if_neg (by omega), if_neg (by omega), if_neg (by omega), if_neg (by omega), if_neg (by omega), if_neg (by omega), if_pos (by omega)]; rfl
    | 1, _ => rw [if_neg (by omega), if_neg (by omega), if_neg (by omega), if_neg (by omega), if_neg (by omega), if_pos (by omega)]; rfl
    | 2, _ => rw [if_neg (by omega), if_neg (by omega), if_neg (by omega), if_neg (by omega), if_pos (by omega)]; rfl
    | 3, _ => rw [if_neg (by omega), if_neg (by omega), if_neg (by omega), if_pos (by omega)]; rfl
    | 4, _ => rw [if_neg (by omega), if_neg (by omega), if_pos (by omega)]; rfl
    | 5, _ => rw [if_neg (by omega), if_pos (by omega)]; rfl
    | 6, _ => rw [if_pos (by omega)]; rfl
  · rw [if_neg hk, if_neg (by omega), if_neg (by omega), if_neg (by omega), if_neg (by omega), if_neg (by omega), if_neg (by omega), if_neg (by omega)]
theorem Own.store_at (h : Own w b n f) (k : Nat) (c : Cl) {p : Nat} (hp : p = k * 7) :
    Own (((((((w.setCell ⟨b, p, none⟩ (.int .i64 c.r)).setCell ⟨b, p + 1, none⟩ (.int .i64 c.m0)).setCell ⟨b, p + 2, none⟩ (.int .i64 c.m1)).setCell ⟨b, p + 3, none⟩ (.int .i64 c.w)).setCell ⟨b, p + 4, none⟩ (.int .i64 c.fg)).setCell ⟨b, p + 5, none⟩ (.int .i64 c.bg)).setCell ⟨b, p + 6, none⟩ (.int .i64 c.fl)) b n (upd f k c) := by
  subst hp
  exact h.store k c
theorem Own.at_p (h : Own w b n f) {i : Nat} (hi : i < n) {p : Nat} (hp : p = i * 7) : CellAt w b p (f i) := by
  subst hp
  exact h.at_ hi
end
theorem Rd.cellsOf {w : World} {b o n : Nat} {f : Nat → Cl} (h : ∀ i, i < n → CellAt w b (o + i * 7) (f i)) (j : Nat) (hj : j < n * 7) : w.cell? ((⟨b, o, none⟩ : Addr).add j) = some (valF f j) := by
  rw [addr_add]
  have hd : j / 7 < n := by omega
  have hm : j % 7 < 7 := Nat.mod_lt _ (by omega)
  have := cellAt_val (h (j / 7) hd) (j % 7) hm
  have e : o + j / 7 * 7 + j % 7 = o + j := by omega
  rw [e] at this
  exact this
end Go.Proofs.YtlchffkabpfjpaaGreat.Row
end
section
/- Lists in memory, whatever their elements' cells: a slice that reads as a list, a row of the call's own, append. -/
namespace Go.RowKit
/-- how an element lies in cells -/
structure Enc (α : Type) where
  size : Nat
  cells : α → List Value
  len : ∀ a, (cells a).length = size
  pos : 0 < size
  one : ∀ a u, u ∈ cells a → u.oneCell' = true

section
variable {α : Type} (E : Enc α)
theorem Enc.length_flat (L : List α) : (L.flatMap E.cells).length = L.length * E.size := by
  induction L with
  | nil => simp
  | cons a l ih =>
    rw [List.flatMap_cons, List.length_append, E.len, ih, List.length_cons, Nat.add_mul]
    omega
theorem Enc.get_flat (L : List α) (k i : Nat) (a : α) (hk : L[k]? = some a) (hi : i < E.size) : (L.flatMap E.cells)[k * E.size + i]? = (E.cells a)[i]? := by
  induction L generalizing k with
  | nil => simp at hk
  | cons b l ih =>
    rw [List.flatMap_cons]
    cases k with
    | zero =>
      obtain rfl : b = a := by simpa using hk
      rw [Nat.zero_mul, Nat.zero_add, List.getElem?_append_left (by rw [E.len]; exact hi)]
    | succ k =>
      have h := ih k (by simpa using hk)
      rw [List.getElem?_append_right (by rw [E.len, Nat.add_mul]; omega), E.len, show (k + 1) * E.size + i - E.size = k * E.size + i by rw [Nat.add_mul]; omega]
      exact h
theorem Enc.one_flat (L : List α) : ∀ u ∈ L.flatMap E.cells, u.oneCell' = true := by
  intro u hu
  obtain ⟨a, _, ha⟩ := List.mem_flatMap.1 hu
  exact E.one a u ha

/-- in w the element a lies in block b from offset o on -/
def AtX (w : World) (b o : Nat) (a : α) : Prop := ∀ i u, (E.cells a)[i]? = some u → w.cell? ⟨b, o + i, none⟩ = some u
/-- x reads as L -/
def RdX (w : World) (x : Value) (L : List α) : Prop :=
  ∃ A c, x = .slice A L.length c ∧ L.length ≤ c ∧ (0 < L.length → ∃ b o, A = some ⟨b, o, none⟩ ∧ b < w.heap.size ∧ ∀ (j : Nat) (a : α), L[j]? = some a → AtX E w b (o + j * E.size) a)
def OwnX (w : World) (base e : Nat) (v : Value) (L : List α) : Prop := w.ownsRow base e E.size v L.length (L.flatMap E.cells)
variable {E}
variable {w w' : World} {base e : Nat} {v x : Value} {L : List α}
theorem AtX.below {b o : Nat} {a : α} {B : Nat} (h : AtX E w b o a) (hb : Below B w w') (hlt : b < B) : AtX E w' b o a :=
  fun i u hi => (hb.cell (p := ⟨b, o + i, none⟩) hlt).trans (h i u hi)
theorem RdX.below (h : RdX E w x L) (hb : Below w.heap.size w w') : RdX E w' x L := by
  obtain ⟨A, c, rfl, hc, h⟩ := h
  refine ⟨A, c, rfl, hc, fun hn => ?_⟩
  obtain ⟨b, o, rfl, hlt, hc⟩ := h hn
  exact ⟨b, o, rfl, Nat.lt_of_lt_of_le hlt hb.size, fun j a ha => (hc j a ha).below hb hlt⟩
theorem RdX.nil (w : World) (A : Option Addr) (c : Nat) : RdX E w (.slice A 0 c) ([] : List α) := ⟨A, c, rfl, Nat.zero_le _, fun h => absurd h (by simp)⟩
/-- the block's one is another than v's -/
theorem OwnX.nil (w : World) (base e : Nat) : OwnX E w base e (.slice none 0 0) ([] : List α) := World.ownsRow_nil w base e E.size
theorem OwnX.of (h : OwnX E w base e v L) (hh : ∀ g, v.ownBlock = some g → w'.heap[g]? = w.heap[g]?) : OwnX E w' base e v L := by
  unfold OwnX World.ownsRow at *
  obtain ⟨hl, h | ⟨g, cap, cur, rfl, hb, hg, r1, r2, r3, r4⟩⟩ := h
  · exact ⟨hl, .inl h⟩
  · exact ⟨hl, .inr ⟨g, cap, cur, rfl, hb, (hh g rfl).trans hg, r1, r2, r3, r4⟩⟩
theorem OwnX.lt (h : OwnX E w base e v L) {g : Nat} (hg : v.ownBlock = some g) : base ≤ g ∧ g < w.heap.size := World.ownsRow.lt h g hg
theorem OwnX.below {B : Nat} (h : OwnX E w base e v L) (hb : Below B w w') (hB : w.heap.size ≤ B) : OwnX E w' base e v L := h.of fun g hg => hb.block g (by have := (h.lt hg).2; omega)
theorem OwnX.alloc (h : OwnX E w base e v L) (o : Obj) : OwnX E (w.alloc o) base e v L := h.below ((Below.refl w.heap.size w).alloc (Nat.le_refl _) o) (Nat.le_refl _)
theorem OwnX.drew (h : OwnX E w base e v L) : OwnX E w.drew base e v L := h
theorem OwnX.mono {base' : Nat} (h : OwnX E w base e v L) (hb : base' ≤ base) : OwnX E w base' e v L := by
  unfold OwnX World.ownsRow at *
  obtain ⟨hl, h | ⟨g, cap, cur, rfl, hb', hg, r⟩⟩ := h
  · exact ⟨hl, .inl h⟩
  · exact ⟨hl, .inr ⟨g, cap, cur, rfl, Nat.le_trans hb hb', hg, r⟩⟩
theorem OwnX.rd (h : OwnX E w base e v L) : RdX E w v L := by
  have h' := h
  unfold OwnX World.ownsRow at h'
  obtain ⟨hl, ⟨rfl, h0⟩ | ⟨g, cap, cur, rfl, hb, hg, r1, r2, r3, r4⟩⟩ := h'
  · exact ⟨none, 0, by rw [h0], by omega, fun hn => absurd hn (by omega)⟩
  · refine ⟨_, cap, rfl, r1, fun _ => ⟨g, 0, rfl, (Array.getElem?_eq_some_iff.1 hg).1, fun j a ha i u hi => ?_⟩⟩
    have hj : j < L.length := (List.getElem?_eq_some_iff.1 ha).1
    have hi' : i < E.size := by have := (List.getElem?_eq_some_iff.1 hi).1; rwa [E.len] at this
    have hlt : j * E.size + i < L.length * E.size := by
      have h1 : (j + 1) * E.size ≤ L.length * E.size := Nat.mul_le_mul_right _ hj
      rw [Nat.add_mul] at h1
      omega
    rw [Nat.zero_add, World.ownsRow.cellAt h _ hlt, E.get_flat L j i a ha hi', hi]
/-- a block of another type is none of its -/
theorem OwnX.ne_ {g : Nat} {t : TypeId} {cs : Array Value} (h : OwnX E w base e v L) (hB : Blk w g t cs) (hne : e ≠ t) : some g ≠ v.ownBlock := by
  intro hg
  unfold OwnX World.ownsRow at h
  obtain ⟨_, ⟨rfl, _⟩ | ⟨g', cap, cur, rfl, _, hh, _⟩⟩ := h
  · simp [Value.ownBlock] at hg
  · obtain rfl : g = g' := by simpa [Value.ownBlock] using hg
    unfold Blk at hB
    rw [hB] at hh
    injection hh with hh
    injection hh with _ ht
    exact hne ht.symm
theorem ownX_one (w : World) (base e b : Nat) (a : α) (cs : Array Value) (hcs : cs = (E.cells a).toArray) (hb : b = w.heap.size) (h : base ≤ w.heap.size) : OwnX E (w.alloc (.cells cs e)) base e (.slice (some ⟨b, 0, none⟩) 1 1) [a] := by
  subst hb hcs
  unfold OwnX World.ownsRow
  exact ⟨E.length_flat [a], .inr ⟨w.heap.size, 1, _, rfl, h, heap_alloc_new w _, by simp, by decide, by simp [E.len], by simp [← E.len a]⟩⟩
theorem ownX_lits (w : World) (base e b n : Nat) (L : List α) (cs : Array Value) (hcs : cs = (L.flatMap E.cells).toArray) (hn : n = L.length) (hm : n ≤ maxLen) (hb : b = w.heap.size) (h : base ≤ w.heap.size) : OwnX E (w.alloc (.cells cs e)) base e (.slice (some ⟨b, 0, none⟩) n n) L := by
  subst hb hcs hn
  unfold OwnX World.ownsRow
  exact ⟨E.length_flat L, .inr ⟨w.heap.size, L.length, _, rfl, h, heap_alloc_new w _, Nat.le_refl _, hm, by simp [E.length_flat, -List.length_flatMap], by simp [← E.length_flat L, -List.length_flatMap]⟩⟩
theorem rdX_one (w : World) (b : Nat) (a : α) (cs : Array Value) (t : TypeId) (hcs : cs = (E.cells a).toArray) (h : b = w.heap.size) : RdX E (w.alloc (.cells cs t)) (.slice (some ⟨b, 0, none⟩) 1 1) [a] :=
  (ownX_one (E := E) w 0 t b a cs hcs h (Nat.zero_le _)).rd
/-- a part of it -/
theorem RdX.part {b o c : Nat} {k m : Nat} (h : RdX E w (.slice (some ⟨b, o, none⟩) L.length c) L) (hkm : k + m ≤ L.length) {o' c' : Nat} (ho : o' = o + k * E.size) (hc : m ≤ c') : RdX E w (.slice (some ⟨b, o', none⟩) m c') ((L.drop k).take m) := by
  have hl : ((L.drop k).take m).length = m := by rw [List.length_take, List.length_drop]; omega
  obtain ⟨A, c0, e, hc0, hh⟩ := h
  injection e with e1 e2 e3
  refine ⟨some ⟨b, o', none⟩, c', by rw [hl], by omega, fun hn => ?_⟩
  obtain ⟨b', o1, e4, hb, hcell⟩ := hh (by omega)
  subst e1
  injection e4 with e4
  injection e4 with e4 e5
  subst e4 e5
  refine ⟨b, o', rfl, hb, fun j a ha => ?_⟩
  have hjm : j < m := by have := (List.getElem?_eq_some_iff.1 ha).1; omega
  rw [List.getElem?_take, if_pos hjm, List.getElem?_drop] at ha
  have := hcell (k + j) a ha
  rw [Nat.add_mul, ← Nat.add_assoc] at this
  rw [ho]
  exact this
theorem RdX.len (h : RdX E w x L) : ∃ A c, x = .slice A L.length c ∧ L.length ≤ c := by
  obtain ⟨A, c, rfl, hc, _⟩ := h
  exact ⟨A, c, rfl, hc⟩
/-- an element of it -/
theorem RdX.at_ {A : Option Addr} {n c : Nat} (h : RdX E w (.slice A n c) L) {k : Nat} {a : α} (hk : L[k]? = some a) : ∃ b o, A = some ⟨b, o, none⟩ ∧ b < w.heap.size ∧ AtX E w b (o + k * E.size) a := by
  obtain ⟨A', c', e, _, hh⟩ := h
  injection e with e1 e2 e3
  subst e1
  obtain ⟨b, o, e4, hb, hc⟩ := hh (by have := (List.getElem?_eq_some_iff.1 hk).1; omega)
  exact ⟨b, o, e4, hb, hc k a hk⟩
theorem RdX.at' {b o n c : Nat} (h : RdX E w (.slice (some ⟨b, o, none⟩) n c) L) {k : Nat} {a : α} (hk : L[k]? = some a) : AtX E w b (o + k * E.size) a := by
  obtain ⟨b', o', e, _, hc⟩ := h.at_ hk
  injection e with e
  injection e with e1 e2
  subst e1 e2
  exact hc

variable {P : Program}
theorem run_append_X (E : Enc α) (w : World) (base t ty e bytes : TypeId) (i : TypeInfo) (z : Value) (ht : P.underlying t = some (.slice e)) (hi : P.info? e = some i) (hz : i.zero = some z) (hsize : i.size = E.size) (hby : i.bytes = bytes) (hzs : z.cells.size = E.size)
    (v x : Value) (xs zs : List α) (hown : OwnX E w base e v xs) (hx : RdX E w x zs) (h63 : xs.length + zs.length ≤ maxLen) (h47 : (xs.length + zs.length) * bytes ≤ 140737488355328) (hbase : base ≤ w.heap.size) :
    ∃ v' w', (Builtin.append_ #[t, t] ty #[v, x]).run P w = .ok v' w' ∧ OwnX E w' base e v' (xs ++ zs) ∧ w.grownBy w' v.ownBlock ∧ (v'.ownBlock = v.ownBlock ∨ v'.ownBlock = some w.heap.size) := by
  obtain ⟨A, c, rfl, hcl, hc⟩ := hx
  rcases A with _ | ad
  · have h0 : zs = [] := by
      rcases Nat.eq_zero_or_pos zs.length with h | h
      · exact List.eq_nil_of_length_eq_zero h
      · obtain ⟨_, _, h, _⟩ := hc h
        cases h
    subst h0
    refine ⟨v, w, ?_, by simpa using hown, World.grownBy.refl w _, .inl rfl⟩
    rcases hown.2 with ⟨rfl, _⟩ | ⟨g, cap, cur, rfl, _, _, hnc, _⟩
    · simp [Builtin.append_, run_underlying ht, sizeOf, typeInfo, hi, Builtin.lenOf, Builtin.firstCells]
    · simp [Builtin.append_, run_underlying ht, sizeOf, typeInfo, hi, Builtin.lenOf, Builtin.firstCells, hnc, storeCells]
  · obtain ⟨v', w', hrun, h2, h3, _, h5⟩ := run_append_own_at (P := P) w base t ty e i z E.size bytes ht hi hz hsize hby hzs E.pos v xs.length (xs.flatMap E.cells) hown ad zs.length c (zs.flatMap E.cells) (E.length_flat zs) (fun j u hu => by
      have hj : j < zs.length * E.size := by have := (List.getElem?_eq_some_iff.1 hu).1; rwa [E.length_flat] at this
      have hd : j / E.size < zs.length := Nat.div_lt_of_lt_mul (by rw [Nat.mul_comm]; exact hj)
      have hm : j % E.size < E.size := Nat.mod_lt _ E.pos
      have hjj : j / E.size * E.size + j % E.size = j := Nat.div_add_mod' j E.size
      obtain ⟨b, o, e1, _, hcc⟩ := hc (Nat.lt_of_le_of_lt (Nat.zero_le _) hd)
      injection e1 with e1
      subst e1
      rw [addr_add]
      have hg := E.get_flat zs (j / E.size) (j % E.size) _ (List.getElem?_eq_getElem hd) hm
      rw [hjj, hu] at hg
      have := hcc (j / E.size) _ (List.getElem?_eq_getElem hd) (j % E.size) u hg.symm
      rw [Nat.add_assoc, hjj] at this
      exact this) (E.one_flat zs) h63 h47 hbase
    refine ⟨v', w', hrun, ?_, h3, h5⟩
    unfold OwnX
    rw [List.length_append, List.flatMap_append]
    exact h2
theorem wp_append_X (E : Enc α) {w : World} {o : Oper} {a : Act} {K : Act → World → Prop} {Q : Exit → Act → World → Prop} (s x : Operand) (t : TypeId)
    (ho : o.op = .call { callee := .builtin .append, args := #[s, x], argTypes := #[t, t] })
    (base e bytes : TypeId) (i : TypeInfo) (z : Value) (ht : P.underlying t = some (.slice e)) (hi : P.info? e = some i) (hz : i.zero = some z) (hsize : i.size = E.size) (hby : i.bytes = bytes) (hzs : z.cells.size = E.size)
    (v xv : Value) (xs zs : List α) (hs : a.eval s = v) (hx : a.eval x = xv) (hown : OwnX E w base e v xs) (hr : RdX E w xv zs) (h63 : xs.length + zs.length ≤ maxLen) (h47 : (xs.length + zs.length) * bytes ≤ 140737488355328) (hbase : base ≤ w.heap.size)
    (h : ∀ v' w', OwnX E w' base e v' (xs ++ zs) → w.grownBy w' v.ownBlock → (v'.ownBlock = v.ownBlock ∨ v'.ownBlock = some w.heap.size) → K (a.put o.dst v') w') : o.wp P a w K Q := by
  obtain ⟨v', w', hrun, h2, h3, h4⟩ := run_append_X (P := P) E w base t o.type e bytes i z ht hi hz hsize hby hzs v xv xs zs hown hr h63 h47 hbase
  unfold Oper.wp
  simp [execOp, ho, resolve, invoke, builtin, hs, hx, hrun, Result.andThen]
  exact h v' w' h2 h3 h4
theorem wpList_append_X (E : Enc α) {w : World} {ops : Array Oper} {rest : List Oper} {o : Oper} {a : Act} {Q : Exit → Act → World → Prop} (hgd : o.guard = none) (s x : Operand) (t : TypeId)
    (ho : o.op = .call { callee := .builtin .append, args := #[s, x], argTypes := #[t, t] })
    (base e bytes : TypeId) (i : TypeInfo) (z : Value) (ht : P.underlying t = some (.slice e)) (hi : P.info? e = some i) (hz : i.zero = some z) (hsize : i.size = E.size) (hby : i.bytes = bytes) (hzs : z.cells.size = E.size)
    (v xv : Value) (xs zs : List α) (hs : a.eval s = v) (hx : a.eval x = xv) (hown : OwnX E w base e v xs) (hr : RdX E w xv zs) (h63 : xs.length + zs.length ≤ maxLen) (h47 : (xs.length + zs.length) * bytes ≤ 140737488355328) (hbase : base ≤ w.heap.size)
    (h : ∀ v' w', OwnX E w' base e v' (xs ++ zs) → w.grownBy w' v.ownBlock → (v'.ownBlock = v.ownBlock ∨ v'.ownBlock = some w.heap.size) → wpList P ops Q rest (a.put o.dst v') w') : wpList P ops Q (o :: rest) a w :=
  wpList_plain hgd fun _ hK => wp_append_X E s x t ho base e bytes i z ht hi hz hsize hby hzs v xv xs zs hs hx hown hr h63 h47 hbase fun v' w' h1 h2 h3 => hK _ _ (h v' w' h1 h2 h3)
/-- what a change of its own row leaves of the rest -/
theorem OwnX.gb {row : Option Nat} (h : OwnX E w base e v L) (hg : w.grownBy w' row) (hne : ∀ g, v.ownBlock = some g → some g ≠ row) : OwnX E w' base e v L := h.of fun g hv => hg.block g (h.lt hv).2 (hne g hv)
end
/-- Below stays where only the call's own row turned -/
theorem below_ownx {a w w' : World} {B : Nat} {row : Option Nat} (h : Below B a w) (k : w.grownBy w' row) (hr : ∀ g, row = some g → B ≤ g) (hB : B ≤ w.heap.size) : Below B a w' :=
  h.trans ⟨k.os, k.tape, k.output, k.size, fun i hi => k.block i (by omega) (by intro e; have := hr _ e.symm; omega)⟩
theorem gb_to_below {w w' : World} {base : Nat} {row : Option Nat} (k : w.grownBy w' row) (hr : ∀ g, row = some g → base ≤ g) (hB : base ≤ w.heap.size) : Below base w w' := below_ownx (Below.refl base w) k hr hB
end Go.RowKit
end
section
/- Walks of pen's and row's small functions: what may be. -/
namespace Go.Proofs.YtlchffkabpfjpaaGreat.Row
open Go.RowKit

theorem ebool {a b : Bool} (h : a = b) : Ending.returned (.bool a) = .returned (.bool b) := by rw [h]
theorem eint {k : IntKind} {a b : Int} (h : a = b) : Ending.returned (.int k a) = .returned (.int k b) := by rw [h]

theorem isColour_c (c : Int) (w : World) : Calls Tryz.prog 76 #[.int .i64 c] w fun e w' => e = .returned (.bool (isColourB c)) ∧ w = w' := by
  unfold isColourB
  go_enter Tryz.func76, Tryz.ntmps76
  go_wp2
  all_goals (go_ret; refine ⟨?_, rfl⟩)
  all_goals (congr 2 <;> first | (simp [*]; done) | (simp [*]; omega))

theorem penSane_c (fg bg fl : Int) (w : World) : Calls Tryz.prog 42 #[.agg #[.int .i64 fg, .int .i64 bg, .int .i64 fl]] w fun e w' => e = .returned (.bool (penB fg bg fl)) ∧ Grew w w' := by
  go_enter Tryz.func42, Tryz.ntmps42
  go_wp2_with (first | (go_at_call 76; refine (isColour_c _ _).mono ?_; rintro e w' ⟨rfl, rfl⟩))
  all_goals (go_ret; refine ⟨?_, (Below.toGrow (by exact bcAll))⟩)
  all_goals (congr 2 <;> first | (simp [penB, *]; done) | (simp [penB, *]; omega))

set_option maxHeartbeats 4000000 in
set_option maxRecDepth 100000 in
theorem fits_c (c : Cl) (w : World) : Calls Tryz.prog 72 #[.agg #[.int .i64 c.r, .int .i64 c.m0, .int .i64 c.m1, .int .i64 c.w, .int .i64 c.fg, .int .i64 c.bg, .int .i64 c.fl]] w fun e w' => e = .returned (.bool (fitsB c)) ∧ Grew w w' := by
  obtain ⟨r, m0, m1, W, fg, bg, fl⟩ := c
  have i0 : ∀ (m0 m1 : Int) (w : World), (Instr.index 65 (.agg #[.int .i64 m0, .int .i64 m1]) (.int .i64 0)).run Tryz.prog w = .ok (.int .i64 m0) w := fun _ _ _ => by kernel_rfl
  have i1 : ∀ (m0 m1 : Int) (w : World), (Instr.index 65 (.agg #[.int .i64 m0, .int .i64 m1]) (.int .i64 1)).run Tryz.prog w = .ok (.int .i64 m1) w := fun _ _ _ => by kernel_rfl
  go_enter Tryz.func72, Tryz.ntmps72
  go_wp2
  refine wp_loop_rounds 3 ?_
  iterate 3
    all_goals (try (rw [rounds_succ]; go_wp2_with (first | (go_at_call 42; refine (penSane_c _ _ _ _).mono ?_; rintro e w1 ⟨rfl, X3, d3, rfl⟩))))
  all_goals (go_ret; refine ⟨ebool ?_, (Below.toGrow (by exact bcAll))⟩)
  all_goals clear i0 i1
  all_goals grind [fitsB]

set_option maxRecDepth 100000 in
set_option maxHeartbeats 2000000 in
theorem lost_c (A : Option Addr) (n cap : Nat) (f : Nat → Cl) (i : Nat) (w : World) (hr : Rd w A n f) (hn : n ≤ 9223372036854775806) (hi : i < n) : Calls Tryz.prog 80 #[.slice A n cap, .int .i64 i] w fun e w' => e = .returned (.bool (lostB n f i)) ∧ w = w' := by
  obtain ⟨b, o, rfl, hb, hc⟩ := hr (by omega)
  have c0 := (hc i hi).2.2.2.1
  have c1 := fun h : i + 1 < n => (hc (i + 1) h).2.2.2.1
  have c2 := (hc (i - 1) (by omega)).2.2.2.1
  have HL : Hid (lostB n f i = decide ((f i).w = 0 ∧ (i = 0 ∨ (f (i - 1)).w ≠ 2) ∨ (f i).w = 2 ∧ (i + 1 = n ∨ (f (i + 1)).w ≠ 0))) := rfl
  clear hc hr
  generalize lostB n f i = L at *
  generalize hw0 : (f i).w = w0 at *
  generalize hw1 : (f (i + 1)).w = w1 at *
  generalize hw2 : (f (i - 1)).w = w2 at *
  clear hw0 hw1 hw2
  by_cases h1 : i = 0
  · subst h1
    by_cases h2 : n = 1
    · subst h2
      clear c1 c2
      go_enter Tryz.func80, Tryz.ntmps80
      go_wp2
      all_goals (go_ret; refine ⟨ebool ?_, rfl⟩; rw [HL.out]; grind)
    · have c1 := c1 (by omega)
      go_enter Tryz.func80, Tryz.ntmps80
      go_wp2
      all_goals (go_ret; refine ⟨ebool ?_, rfl⟩; rw [HL.out]; grind)
  · by_cases h2 : i + 1 = n
    · go_enter Tryz.func80, Tryz.ntmps80
      go_wp2
      all_goals (go_ret; refine ⟨ebool ?_, rfl⟩; rw [HL.out]; grind)
    · have c1 := c1 (by omega)
      go_enter Tryz.func80, Tryz.ntmps80
      go_wp2
      all_goals (go_ret; refine ⟨ebool ?_, rfl⟩; rw [HL.out]; grind)
end Go.Proofs.YtlchffkabpfjpaaGreat.Row
end
section
/- Walk of row.Sane. -/
namespace Go.Proofs.YtlchffkabpfjpaaGreat.Row
open Go.RowKit
theorem lt_add_r (a b x : Nat) (h : a < b) : (a < b + x) = True := by simp; omega
theorem le_add_r (a b x : Nat) (h : a ≤ b) : (a ≤ b + x) = True := by simp; omega
attribute [local go_sem] Nat.add_pos_iff_pos_or_pos lt_add_r le_add_r

theorem Rd.below {w w' : World} {A : Option Addr} {n : Nat} {f : Nat → Cl} (h : Rd w A n f) (hb : Below w.heap.size w w') : Rd w' A n f := fun hn => by
  obtain ⟨b, o, rfl, hlt, hc⟩ := h hn
  refine ⟨b, o, rfl, Nat.lt_of_lt_of_le hlt hb.size, fun i hi => ?_⟩
  obtain ⟨h0, h1, h2, h3, h4, h5, h6⟩ := hc i hi
  exact ⟨(hb.cell hlt).trans h0, (hb.cell hlt).trans h1, (hb.cell hlt).trans h2, (hb.cell hlt).trans h3, (hb.cell hlt).trans h4, (hb.cell hlt).trans h5, (hb.cell hlt).trans h6⟩

set_option maxRecDepth 100000 in
set_option maxHeartbeats 4000000 in
theorem sane_c (A : Option Addr) (n cap : Nat) (f : Nat → Cl) (wr : Bool) (dir : Int) (ex : Bool) (w : World) (hr : Rd w A n f) (hn : n ≤ 9223372036854775806) : Calls Tryz.prog 45 #[.agg #[.slice A n cap, .bool wr, .int .i64 dir, .bool ex]] w fun e w' => e = .returned (.bool (saneB n f dir)) ∧ Grew w w' := by
  have HS : Hid (saneB n f dir = decide (1 ≤ n ∧ n ≤ 4096 ∧ 0 ≤ dir ∧ dir ≤ 2 ∧ ∀ i, i < n → fitsB (f i) = true ∧ lostB n f i = false)) := rfl
  generalize saneB n f dir = S at *
  by_cases h0 : 1 ≤ n ∧ n ≤ 4096 ∧ 0 ≤ dir ∧ dir ≤ 2
  · obtain ⟨hp, hm, hd0, hd1⟩ := h0
    go_enter Tryz.func45, Tryz.ntmps45
    go_wp2
    go_loopw [28] (fun i wz => ∃ k : Nat, k ≤ n ∧ i = .int .i64 k ∧ Hid (∀ j, j < k → fitsB (f j) = true ∧ lostB n f j = false) ∧ Below w.heap.size w wz ∧ w.heap.size < wz.heap.size ∧ wz.cell? ⟨w.heap.size, 0, none⟩ = some (.slice A n cap)) (fun i _ => n - (intOf i).toNat)
    case atStart => exact ⟨0, Nat.zero_le _, rfl, fun j hj => absurd hj (by omega), by exact bcAll, by simp, by simp [go_sem]⟩
    case round =>
      obtain ⟨k, hk, rfl, HALL, hbw, hlz, hbox⟩ := hrel
      have hrz := hr.below hbw
      by_cases hlt : k < n
      · obtain ⟨b, o, rfl, hb, hc⟩ := hrz hp
        obtain ⟨c0, c1, c2, c3, c4, c5, c6⟩ := hc k hlt
        clear hc
        cases hf : fitsB (f k)
        · go_wp2_with (first | (go_at_call 72; refine (fits_c (f k) _).mono ?_; rintro e w1 ⟨rfl, X1, d1, rfl⟩))
          go_ret
          refine ⟨ebool ?_, (Below.toGrow (by exact bcAll))⟩
          rw [HS.out]
          symm
          exact decide_eq_false fun h => by have := (h.2.2.2.2 k hlt).1; rw [hf] at this; cases this
        · cases hl : lostB n f k
          · go_wp2_with (first | (go_at_call 72; refine (fits_c (f k) _).mono ?_; rintro e w1 ⟨rfl, X1, d1, rfl⟩) | (go_at_call 80; refine (lost_c (some ⟨b, o, none⟩) n cap f k _ (hrz.below (by exact bcAll)) (by omega) (by omega)).mono ?_; rintro e w1 ⟨rfl, rfl⟩))
            go_roundw
            case rel => exact ⟨k + 1, by omega, by go_num, fun j hj => by
              rcases Nat.lt_or_ge j k with h | h
              · exact HALL.out j h
              · obtain rfl : j = k := by omega
                exact ⟨hf, hl⟩, by exact bcAll, by simp; omega, by simp [go_sem, *]⟩
            case measure => simp [intOf]; omega
          · go_wp2_with (first | (go_at_call 72; refine (fits_c (f k) _).mono ?_; rintro e w1 ⟨rfl, X1, d1, rfl⟩) | (go_at_call 80; refine (lost_c (some ⟨b, o, none⟩) n cap f k _ (hrz.below (by exact bcAll)) (by omega) (by omega)).mono ?_; rintro e w1 ⟨rfl, rfl⟩))
            go_ret
            refine ⟨ebool ?_, (Below.toGrow (by exact bcAll))⟩
            rw [HS.out]
            symm
            exact decide_eq_false fun h => by have := (h.2.2.2.2 k hlt).2; rw [hl] at this; cases this
      · go_wp2
        go_ret
        refine ⟨ebool ?_, (Below.toGrow (by exact bcAll))⟩
        rw [HS.out]
        symm
        exact decide_eq_true ⟨hp, hm, hd0, hd1, fun i hi => HALL.out i (by omega)⟩
  · go_enter Tryz.func45, Tryz.ntmps45
    go_wp2
    all_goals first | (exfalso; omega) | (go_ret; refine ⟨ebool ?_, (Below.toGrow (by exact bcAll))⟩; rw [HS.out]; symm; apply decide_eq_false; omega)
end Go.Proofs.YtlchffkabpfjpaaGreat.Row
end
section
/- Walks of row's functions that make and change cells: cells, Blank, lay, mended, width, New. -/
namespace Go.Proofs.YtlchffkabpfjpaaGreat.Row
open Go.RowKit

theorem cellSize : (Tryz.prog.info? 67).map (·.size) = some 7 := by kernel_rfl
theorem cellInfo : (Tryz.prog.info? 67).map (fun i => (i.zero, i.size, i.bytes)) = some (some (.agg #[.int .i64 0, .int .i64 0, .int .i64 0, .int .i64 0, .int .i64 0, .int .i64 0, .int .i64 0]), 7, 56) := by kernel_rfl

theorem blank_c (fg bg fl : Int) (w : World) : Calls Tryz.prog 104 #[.agg #[.int .i64 fg, .int .i64 bg, .int .i64 fl]] w fun e w' => e = .returned (.agg #[.int .i64 (blank fg bg fl).r, .int .i64 (blank fg bg fl).m0, .int .i64 (blank fg bg fl).m1, .int .i64 (blank fg bg fl).w, .int .i64 (blank fg bg fl).fg, .int .i64 (blank fg bg fl).bg, .int .i64 (blank fg bg fl).fl]) ∧ Grew w w' := by
  show Calls Tryz.prog 104 #[.agg #[.int .i64 fg, .int .i64 bg, .int .i64 fl]] w fun e w' => e = .returned (.agg #[.int .i64 0, .int .i64 0, .int .i64 0, .int .i64 1, .int .i64 fg, .int .i64 bg, .int .i64 fl]) ∧ Grew w w'
  go_enter Tryz.func104, Tryz.ntmps104
  go_wp2
  (refine bodyPost_ret (v := _) (by (simp [results, Tryz.results104, go_sem]; exact rfl)) rfl ⟨?_, (Below.toGrow (by exact bcAll))⟩; exact rfl)

theorem width_c (v : Int) (w : World) : Calls Tryz.prog 113 #[.int .i64 v] w fun e w' => e = .returned (.int .i64 (max 1 (min v 4096))) ∧ w = w' := by
  go_enter Tryz.func113, Tryz.ntmps113
  go_wp2
  all_goals (go_ret; refine ⟨eint ?_, rfl⟩)
  all_goals omega

set_option maxHeartbeats 1000000 in
theorem cells_c (A : Option Addr) (n cap : Nat) (f : Nat → Cl) (wb : Bool) (dir : Int) (ex : Bool) (w : World) (hr : Rd w A n f) (h1 : 1 ≤ n) (hn : n ≤ 4096) :
    Calls Tryz.prog 73 #[.agg #[.slice A n cap, .bool wb, .int .i64 dir, .bool ex]] w fun e w' => ∃ b, e = .returned (.slice (some ⟨b, 0, none⟩) n n) ∧ w.heap.size ≤ b ∧ Below w.heap.size w w' ∧ Own w' b n f := by
  obtain ⟨b, o, rfl, hb, hc⟩ := hr (by omega)
  have HC := Lib.hid hc
  clear hc hr
  obtain ⟨C, hC, -, hmk⟩ := run_make_rows (P := Tryz.prog) 62 67 _ 7 56 Tryz.underlying62 cellInfo rfl (by omega) n (by omega) (by omega)
  have HCs := Lib.hid hC
  clear hC
  go_enter Tryz.func73, Tryz.ntmps73
  go_wp2_with (refine wpList_copy_rows rfl (.tmp 8) (.tmp 10) _ _ rfl 67 7 Tryz.underlying62 cellSize (w.heap.size + 1) 0 (n * 7) 67 (fun j => C.getD j undef) n n n cap n ⟨b, o, none⟩ (valF f) rfl rfl ?c1 ?c2 ?c3 ?c4 ?c5 ?c6)
  case c1 =>
    have h := World.rowIs_alloc (w.alloc (.cells #[.slice (some ⟨b, o, none⟩) n cap, .bool wb, .int .i64 dir, .bool ex] 64)) C 67 (fun j => C.getD j undef) (fun i hi => by simp [Array.getD, hi])
    rw [HCs.out] at h
    simpa using h
  case c2 => exact Nat.min_self n
  case c3 =>
    intro j hj
    rw [addr_add, World.cell?_alloc_lt _ _ _ (by simp; omega), World.cell?_alloc_lt _ _ _ hb, ← addr_add]
    exact Rd.cellsOf HC.out j hj
  case c4 => omega
  case c5 => exact fun j _ => val_one _ _
  case c6 =>
    intro w1 hrow hgb hsz
    have HR := Lib.hid hrow
    have HS := Lib.hid hsz
    clear hrow hsz
    go_wp2
    go_ret
    refine ⟨_, rfl, by omega, below_gb (a := w) (by exact bcAll) hgb (by omega) (by simp; omega), ?_⟩
    exact World.rowIs.congr HR.out fun i hi => by simp [hi]

def laid (f : Nat → Cl) (k m : Nat) (c : Cl) (i : Nat) : Cl := if k ≤ i ∧ i < k + m then c else f i

set_option maxRecDepth 100000 in
set_option maxHeartbeats 2000000 in
/-- lay: the cells k .. k + m of block b become blank by a pen -/
theorem lay_c (b o n k m cap : Nat) (f : Nat → Cl) (fg bg fl : Int) (w : World) (ho : Own w b n f) (hk : o = k * 7) (hkm : k + m ≤ n) (hn : n ≤ 4096) :
    Calls Tryz.prog 103 #[.slice (some ⟨b, o, none⟩) m cap, .agg #[.int .i64 fg, .int .i64 bg, .int .i64 fl]] w fun e w' => e = .returned (.tuple #[]) ∧ w.grownBy w' (some b) ∧ Own w' b n (laid f k m (blank fg bg fl)) := by
  have hbw := ho.lt
  have HK := Lib.hid hk
  clear hk
  go_enter Tryz.func103, Tryz.ntmps103
  go_wp2
  go_loopw [7] (fun i wz => ∃ j : Nat, j ≤ m ∧ i = .int .i64 j ∧ w.grownBy wz (some b) ∧ Own wz b n (laid f k j (blank fg bg fl)) ∧ Blk wz w.heap.size 26 #[.int .i64 fg, .int .i64 bg, .int .i64 fl]) (fun i _ => m - (intOf i).toNat)
  case atStart => exact ⟨0, Nat.zero_le _, rfl, by (exact gbAll), (ho.alloc _).congr fun i _ => by unfold laid; rw [if_neg (by omega)], Blk.new _ _ _⟩
  case round =>
    obtain ⟨j, hj, rfl, hg, hoz, hB⟩ := hrel
    have hbz := hoz.lt
    by_cases hlt : j < m
    · obtain ⟨r0, r1, r2, rf, rl⟩ := hB.facts3
      obtain ⟨c0, c1, c2, c3, c4, c5, c6⟩ := hoz.at_p (i := k + j) (p := o + j * 7) (by omega) (by have := HK.out; omega)
      have hfz := hoz.frozen
      go_wp2_with (first | (go_at_call 104; refine (blank_c _ _ _ _).mono ?_; rintro e w1 ⟨rfl, X1, d1, rfl⟩))
      go_roundw
      case rel => exact ⟨j + 1, by omega, by go_num, by (exact gbAll), ((hoz.store_at (k + j) (blank fg bg fl) (p := o + j * 7) (by have := HK.out; omega)).grow _ _).congr fun i _ => by unfold laid upd; grind, hB.gb (row := some b) (by (exact gbAll)) (by intro e; injection e; omega)⟩
      case measure => simp [intOf]; omega
    · obtain rfl : j = m := by omega
      go_wp2
      go_end0
      exact ⟨rfl, by (exact gbAll), hoz⟩

set_option maxRecDepth 100000 in
set_option maxHeartbeats 2000000 in
theorem mended_c (b n cap : Nat) (f : Nat → Cl) (A0 : Option Addr) (n0 cap0 : Nat) (wb : Bool) (dir : Int) (ex : Bool) (w : World) (ho : Own w b n f) (hn : n ≤ 4096) :
    Calls Tryz.prog 74 #[.agg #[.slice A0 n0 cap0, .bool wb, .int .i64 dir, .bool ex], .slice (some ⟨b, 0, none⟩) n cap] w fun e w' => e = .returned (.agg #[.slice (some ⟨b, 0, none⟩) n cap, .bool wb, .int .i64 dir, .bool ex]) ∧ w.grownBy w' (some b) ∧ Own w' b n (mend n f) := by
  have hbw := ho.lt
  go_enter Tryz.func74, Tryz.ntmps74
  go_wp2
  go_loopw [8] (fun i wz => ∃ j : Nat, j ≤ n ∧ i = .int .i64 j ∧ w.grownBy wz (some b) ∧ Own wz b n (mix n f j) ∧ Blk wz w.heap.size 64 #[.slice A0 n0 cap0, .bool wb, .int .i64 dir, .bool ex] ∧ Blk wz (w.heap.size + 1) 64 #[.slice none 0 0, .bool false, .int .i64 0, .bool false]) (fun i _ => n - (intOf i).toNat)
  case atStart => exact ⟨0, Nat.zero_le _, rfl, by (exact gbAll), ((ho.alloc _).alloc _).congr fun i _ => by unfold mix; rw [if_neg (by omega)], (Blk.new _ _ _).alloc _, Blk.new_at (by simp)⟩
  case round =>
    obtain ⟨j, hj, rfl, hg, hoz, hB, hB2⟩ := hrel
    have hbz := hoz.lt
    by_cases hlt : j < n
    · obtain ⟨c0, c1, c2, c3, c4, c5, c6⟩ : CellAt wr b (j * 7) (f j) := by have := hoz.at_ hlt; rwa [mix_at] at this
      have hfz := hoz.frozen
      cases hl : lostB n f j
      · have hl' := (lost_mix (f := f) hlt).trans hl
        go_wp2_with (first | (go_at_call 80; refine (lost_c _ n cap (mix n f j) j _ hoz.rd (by omega) hlt).mono ?_; rintro e w1 ⟨rfl, rfl⟩) | (go_at_call 104; refine (blank_c _ _ _ _).mono ?_; rintro e w1 ⟨rfl, X1, d1, rfl⟩))
        go_roundw
        case rel => exact ⟨j + 1, by omega, by go_num, by (exact gbAll), hoz.congr fun i _ => by unfold mix mend; grind, hB, hB2⟩
        case measure => simp [intOf]; omega
      · have hl' := (lost_mix (f := f) hlt).trans hl
        go_wp2_with (first | (go_at_call 80; refine (lost_c _ n cap (mix n f j) j _ hoz.rd (by omega) hlt).mono ?_; rintro e w1 ⟨rfl, rfl⟩) | (go_at_call 104; refine (blank_c _ _ _ _).mono ?_; rintro e w1 ⟨rfl, X1, d1, rfl⟩))
        go_roundw
        case rel => exact ⟨j + 1, by omega, by go_num, by (exact gbAll), ((hoz.store j (blank (f j).fg (f j).bg (f j).fl)).grow _ _).congr fun i _ => by unfold mix mend upd Cl.bl; grind, hB.gb (row := some b) (by (exact gbAll)) (by intro e; injection e; omega), hB2.gb (row := some b) (by (exact gbAll)) (by intro e; injection e; omega)⟩
        case measure => simp [intOf]; omega
    · obtain rfl : j = n := by omega
      obtain ⟨r0, r1, r2, r3, rf, rl⟩ := hB.facts4
      obtain ⟨s0, s1, s2, s3, sf, sl⟩ := hB2.facts4
      go_wp2
      refine bodyPost_ret (v := _) (by simp [results, Tryz.results74, go_sem, *]; exact rfl) rfl ⟨?_, by (exact gbAll), ?_⟩
      · rfl
      · refine Own.congr (f := mix j f j) (by (exact ownAll)) fun i hi => by unfold mix; rw [if_pos hi]

theorem width_n (v : Int) (n : Nat) (w : World) (h : max 1 (min v 4096) = (n : Int)) : Calls Tryz.prog 113 #[.int .i64 v] w fun e w' => e = .returned (.int .i64 n) ∧ w = w' := by
  rw [← h]
  exact width_c v w
end Go.Proofs.YtlchffkabpfjpaaGreat.Row
end
section
/- Cells and rows that are equal: the program's '==' on cells, lapwingref08.Cells, Same. -/
namespace Go.Proofs.YtlchffkabpfjpaaGreat.Row
open Go.RowKit

theorem equalIn_marks (a b c d : Int) (k : Nat) (w : World) : (Op.equalIn (k + 2) 65 (.agg #[.int .i64 a, .int .i64 b]) (.agg #[.int .i64 c, .int .i64 d])).run Tryz.prog w = .ok (decide (a = c ∧ b = d)) w := by
  obtain ⟨i, hi⟩ := info_ok (P := Tryz.prog) (e := 3) (by kernel_rfl)
  have hc : Tryz.prog.cellsOf 3 = 1 := by kernel_rfl
  have h := run_equalIn_array (P := Tryz.prog) (w := w) (k + 1) #[.int .i64 a, .int .i64 b] #[.int .i64 c, .int .i64 d] Tryz.underlying65 hi
  rw [hc] at h
  rw [h]
  by_cases h1 : a = c <;> by_cases h2 : b = d <;> simp [go_sem, List.range, List.range.loop, h1, h2]
theorem eql_cell (a b : Cl) (w : World) : (binOp .eql 67 (.agg #[.int .i64 a.r, .int .i64 a.m0, .int .i64 a.m1, .int .i64 a.w, .int .i64 a.fg, .int .i64 a.bg, .int .i64 a.fl]) (.agg #[.int .i64 b.r, .int .i64 b.m0, .int .i64 b.m1, .int .i64 b.w, .int .i64 b.fg, .int .i64 b.bg, .int .i64 b.fl])).run Tryz.prog w = .ok (.bool (decide (a = b))) w := by
  obtain ⟨a0, a1, a2, a3, a4, a5, a6⟩ := a
  obtain ⟨b0, b1, b2, b3, b4, b5, b6⟩ := b
  simp [go_sem, binOp, Op.equal, Op.maxDepth, equalIn_marks]
  repeat' split
  all_goals simp_all
theorem neq_cell (a b : Cl) (w : World) : (binOp .neq 67 (.agg #[.int .i64 a.r, .int .i64 a.m0, .int .i64 a.m1, .int .i64 a.w, .int .i64 a.fg, .int .i64 a.bg, .int .i64 a.fl]) (.agg #[.int .i64 b.r, .int .i64 b.m0, .int .i64 b.m1, .int .i64 b.w, .int .i64 b.fg, .int .i64 b.bg, .int .i64 b.fl])).run Tryz.prog w = .ok (.bool (!decide (a = b))) w := by
  obtain ⟨a0, a1, a2, a3, a4, a5, a6⟩ := a
  obtain ⟨b0, b1, b2, b3, b4, b5, b6⟩ := b
  simp [go_sem, binOp, Op.equal, Op.maxDepth, equalIn_marks]
  repeat' split
  all_goals first | (simp_all; done) | grind
theorem eql_pen (a b c a' b' c' : Int) (w : World) : (binOp .eql 26 (.agg #[.int .i64 a, .int .i64 b, .int .i64 c]) (.agg #[.int .i64 a', .int .i64 b', .int .i64 c'])).run Tryz.prog w = .ok (.bool (decide (a = a' ∧ b = b' ∧ c = c'))) w := by
  simp [go_sem, binOp, Op.equal, Op.maxDepth]
  repeat' split
  all_goals simp_all
theorem neq_pen (a b c a' b' c' : Int) (w : World) : (binOp .neq 26 (.agg #[.int .i64 a, .int .i64 b, .int .i64 c]) (.agg #[.int .i64 a', .int .i64 b', .int .i64 c'])).run Tryz.prog w = .ok (.bool (!decide (a = a' ∧ b = b' ∧ c = c'))) w := by
  simp [go_sem, binOp, Op.equal, Op.maxDepth]
  repeat' split
  all_goals simp_all

/-- only draws -/
def Drew (w w' : World) : Prop := ∃ d, w' = w.drewN d
/-- are two slices' cells the same? -/
def sameB (n : Nat) (f : Nat → Cl) (m : Nat) (g : Nat → Cl) : Bool := decide (n = m ∧ ∀ i, i < n → f i = g i)
set_option maxRecDepth 100000 in
set_option maxHeartbeats 2000000 in
theorem eqCells_c (A : Option Addr) (n ca : Nat) (f : Nat → Cl) (B : Option Addr) (m cb : Nat) (g : Nat → Cl) (w : World) (ha : Rd w A n f) (hb : Rd w B m g) (hn : n ≤ 9223372036854775806) (hm : m ≤ 9223372036854775806) :
    Calls Tryz.prog 100 #[.slice A n ca, .slice B m cb] w fun e w' => e = .returned (.bool (sameB n f m g)) ∧ Drew w w' := by
  have HS : Hid (sameB n f m g = decide (n = m ∧ ∀ i, i < n → f i = g i)) := rfl
  generalize sameB n f m g = S at *
  have hq := neq_cell
  by_cases hnm : n = m
  · subst hnm
    go_enter Tryz.func100, Tryz.ntmps100
    go_wp2
    go_loopw [5] (fun i wz => ∃ k : Nat, k ≤ n ∧ i = .int .i64 k ∧ Hid (∀ j, j < k → f j = g j) ∧ ∃ d, wz = w.drewN d) (fun i _ => n - (intOf i).toNat)
    case atStart => exact ⟨0, Nat.zero_le _, rfl, fun j hj => absurd hj (by omega), 0, rfl⟩
    case round =>
      obtain ⟨k, hk, rfl, HALL, d, rfl⟩ := hrel
      by_cases hlt : k < n
      · obtain ⟨b1, o1, rfl, hb1, hc⟩ := ha (by omega)
        obtain ⟨b2, o2, rfl, hb2, hc2⟩ := hb (by omega)
        obtain ⟨c0, c1, c2, c3, c4, c5, c6⟩ := hc k hlt
        obtain ⟨e0, e1, e2, e3, e4, e5, e6⟩ := hc2 k hlt
        clear hc hc2
        have l1 : (k : Int) < n := by omega
        by_cases he : f k = g k
        · have he' : decide (f k = g k) = true := by simpa using he
          have HE := Lib.hid he
          clear he
          go_wp2
          go_quiet (fail)
          go_wp2
          go_roundw
          case rel => exact ⟨k + 1, by omega, by go_num, (fun j hj => by
            rcases Nat.lt_or_ge j k with h | h
            · exact HALL.out j h
            · obtain rfl : j = k := by omega
              exact HE.out), d + nq, rfl⟩
          case measure => simp [intOf]; omega
        · have he' : decide (f k = g k) = false := by simpa using he
          have HE := Lib.hid he
          clear he
          go_wp2
          go_quiet (fail)
          go_wp2
          go_ret
          refine ⟨ebool ?_, ?_⟩
          all_goals try (first | exact trivial | exact ⟨d + nq, World.drewN_drewN w d nq⟩)
          rw [HS.out]
          symm
          exact decide_eq_false fun h => HE.out (h.2 k hlt)
      · go_wp2
        go_ret
        refine ⟨ebool ?_, ?_⟩
        all_goals try (first | exact trivial | exact ⟨d, rfl⟩)
        rw [HS.out]
        symm
        exact decide_eq_true (by constructor <;> first | rfl | exact trivial | exact fun i hi => HALL.out i (by omega))
  · have hnm' : ¬ ((n : Int) = m) := by omega
    go_enter Tryz.func100, Tryz.ntmps100
    go_wp2
    go_ret
    refine ⟨ebool ?_, ?_⟩
    all_goals try (first | exact trivial | exact ⟨0, rfl⟩)
    rw [HS.out]
    symm
    exact decide_eq_false fun h => hnm h.1

def sameRowB (n : Nat) (f : Nat → Cl) (wb : Bool) (dir : Int) (ex : Bool) (m : Nat) (g : Nat → Cl) (wb' : Bool) (dir' : Int) (ex' : Bool) : Bool := sameB n f m g && (wb == wb' && (dir == dir' && ex == ex'))
set_option maxRecDepth 100000 in
set_option maxHeartbeats 2000000 in
theorem same_c (A : Option Addr) (n ca : Nat) (f : Nat → Cl) (wb : Bool) (dir : Int) (ex : Bool) (B : Option Addr) (m cb : Nat) (g : Nat → Cl) (wb' : Bool) (dir' : Int) (ex' : Bool) (w : World) (ha : Rd w A n f) (hb : Rd w B m g) (hn : n ≤ 9223372036854775806) (hm : m ≤ 9223372036854775806) :
    Calls Tryz.prog 62 #[.agg #[.slice A n ca, .bool wb, .int .i64 dir, .bool ex], .agg #[.slice B m cb, .bool wb', .int .i64 dir', .bool ex']] w fun e w' => e = .returned (.bool (sameRowB n f wb dir ex m g wb' dir' ex')) ∧ Grew w w' := by
  have HN := Lib.hid hn
  have HM := Lib.hid hm
  clear hn hm
  unfold sameRowB
  cases hs : sameB n f m g
  · go_enter Tryz.func62, Tryz.ntmps62
    go_wp2_with (go_at_call 100; refine (eqCells_c A n ca f B m cb g _ (ha.below (by exact bcAll)) (hb.below (by exact bcAll)) HN.out HM.out).mono ?_; rintro e w1 ⟨rfl, d, rfl⟩)
    go_ret
    exact ⟨by simp, (Below.toGrow (by exact bcAll))⟩
  · cases h1 : (wb == wb') <;> cases h2 : (dir == dir')
    all_goals
      go_enter Tryz.func62, Tryz.ntmps62
      go_wp2_with (go_at_call 100; refine (eqCells_c A n ca f B m cb g _ (ha.below (by exact bcAll)) (hb.below (by exact bcAll)) HN.out HM.out).mono ?_; rintro e w1 ⟨rfl, d, rfl⟩)
      go_ret
      exact ⟨by simp, (Below.toGrow (by exact bcAll))⟩
end Go.Proofs.YtlchffkabpfjpaaGreat.Row
end
section
/- What Put does, in plain Lean: what is put is there. -/
namespace Go.Proofs.YtlchffkabpfjpaaGreat.Row

theorem lost_iff {n : Nat} {f : Nat → Cl} {i : Nat} : lostB n f i = true ↔ ((f i).w = 0 ∧ (i = 0 ∨ (f (i - 1)).w ≠ 2) ∨ (f i).w = 2 ∧ (i + 1 = n ∨ (f (i + 1)).w ≠ 0)) := by unfold lostB; simp only [decide_eq_true_eq]
theorem lost_not {n : Nat} {f : Nat → Cl} {i : Nat} : lostB n f i = false ↔ ¬ ((f i).w = 0 ∧ (i = 0 ∨ (f (i - 1)).w ≠ 2) ∨ (f i).w = 2 ∧ (i + 1 = n ∨ (f (i + 1)).w ≠ 0)) := by unfold lostB; simp only [decide_eq_false_iff_not]
theorem mend_w (n : Nat) (f : Nat → Cl) (i : Nat) : (mend n f i).w = if lostB n f i = true then 1 else (f i).w := by unfold mend; split <;> rfl
theorem mend_keep {n : Nat} {f : Nat → Cl} {i : Nat} (h : lostB n f i = false) : mend n f i = f i := by
  unfold mend
  rw [h]
  rfl
theorem mend_lost {n : Nat} {f : Nat → Cl} {i : Nat} (hi : i < n) : lostB n (mend n f) i = false := by
  rw [lost_not, mend_w, mend_w, mend_w]
  simp only [lost_iff]
  by_cases h0 : i = 0
  · subst h0
    grind
  · rw [show i - 1 + 1 = i by omega, show i + 1 - 1 = i by omega]
    grind
theorem mend_none {n : Nat} {f : Nat → Cl} (h : ∀ i, i < n → lostB n f i = false) {i : Nat} (hi : i < n) : mend n f i = f i := by
  unfold mend
  rw [h i hi]
  rfl
theorem lost_congr {n : Nat} {f g : Nat → Cl} (h : ∀ i, i < n → f i = g i) {i : Nat} (hi : i < n) : lostB n f i = lostB n g i := by
  rw [Bool.eq_iff_iff, lost_iff, lost_iff, h i hi]
  have e1 : i ≠ 0 → f (i - 1) = g (i - 1) := fun _ => h _ (by omega)
  have e2 : i + 1 ≠ n → f (i + 1) = g (i + 1) := fun _ => h _ (by omega)
  grind
theorem mend_congr {n : Nat} {f g : Nat → Cl} (h : ∀ i, i < n → f i = g i) {i : Nat} (hi : i < n) : mend n f i = mend n g i := by
  unfold mend
  rw [lost_congr h hi, h i hi]
theorem fits_iff {c : Cl} : fitsB c = true ↔ (0 ≤ c.m0 ∧ c.m0 ≤ 1114111 ∧ (c.m0 ≠ 0 → c.r ≠ 0) ∧ 0 ≤ c.m1 ∧ c.m1 ≤ 1114111 ∧ (c.m1 ≠ 0 → c.r ≠ 0) ∧ 0 ≤ c.r ∧ c.r ≤ 1114111 ∧ (c.m0 = 0 → c.m1 = 0) ∧ penB c.fg c.bg c.fl = true ∧ (c.w = 0 ∧ c.r = 0 ∨ c.w = 1 ∨ c.w = 2 ∧ c.r ≠ 0)) := by unfold fitsB; simp only [decide_eq_true_eq]
theorem fits_blank {fg bg fl : Int} (h : penB fg bg fl = true) : fitsB (blank fg bg fl) = true := by
  rw [fits_iff]
  unfold blank
  simp [h]
theorem fits_pen {c : Cl} (h : fitsB c = true) : penB c.fg c.bg c.fl = true := (fits_iff.1 h).2.2.2.2.2.2.2.2.2.1
theorem fits_bl {c : Cl} (h : fitsB c = true) : fitsB c.bl = true := fits_blank (fits_pen h)
theorem sane_iff {n : Nat} {f : Nat → Cl} {dir : Int} : saneB n f dir = true ↔ (1 ≤ n ∧ n ≤ 4096 ∧ 0 ≤ dir ∧ dir ≤ 2 ∧ ∀ i, i < n → fitsB (f i) = true ∧ lostB n f i = false) := by unfold saneB; simp only [decide_eq_true_eq]
theorem sane_mend {n : Nat} {f : Nat → Cl} {dir : Int} (h1 : 1 ≤ n) (h2 : n ≤ 4096) (h3 : 0 ≤ dir) (h4 : dir ≤ 2) (hf : ∀ i, i < n → fitsB (f i) = true) : saneB n (mend n f) dir = true := by
  rw [sane_iff]
  refine ⟨h1, h2, h3, h4, fun i hi => ⟨?_, mend_lost hi⟩⟩
  unfold mend
  split
  · exact fits_bl (hf i hi)
  · exact hf i hi
theorem sane_congr {n : Nat} {f g : Nat → Cl} {dir : Int} (h : ∀ i, i < n → f i = g i) : saneB n f dir = saneB n g dir := by
  rw [Bool.eq_iff_iff, sane_iff, sane_iff]
  constructor
  · rintro ⟨a, b, c, d, e⟩
    exact ⟨a, b, c, d, fun i hi => by rw [← h i hi, ← lost_congr h hi]; exact e i hi⟩
  · rintro ⟨a, b, c, d, e⟩
    exact ⟨a, b, c, d, fun i hi => by rw [h i hi, lost_congr h hi]; exact e i hi⟩

def half (c : Cl) : Cl := ⟨0, 0, 0, 0, c.fg, c.bg, c.fl⟩
/-- what lies where a cell was put, before mending -/
def putF (f : Nat → Cl) (k : Nat) (c : Cl) : Nat → Cl := if c.w = 2 then upd (upd f k c) (k + 1) (half c) else upd f k c
/-- may a cell be put there? -/
def putOk (n k : Nat) (c : Cl) : Bool := fitsB c && ((c.w == 1 || c.w == 2) && decide ((k : Int) + c.w ≤ n))
/-- what Put makes of a row -/
def putR (n : Nat) (f : Nat → Cl) (k : Nat) (c : Cl) : Nat → Cl := if putOk n k c = true then mend n (putF f k c) else f
theorem putF_at (f : Nat → Cl) (k : Nat) (c : Cl) (i : Nat) : putF f k c i = if i = k then c else if c.w = 2 ∧ i = k + 1 then half c else f i := by
  unfold putF upd
  by_cases h2 : c.w = 2
  · rw [if_pos h2]
    by_cases hk : i = k
    · subst hk
      simp
    · simp [hk, h2]
  · rw [if_neg h2]
    simp [h2]
theorem fits_half {c : Cl} (h : fitsB c = true) : fitsB (half c) = true := by
  rw [fits_iff]
  unfold half
  simp [fits_pen h]
theorem putOk_iff {n k : Nat} {c : Cl} : putOk n k c = true ↔ (fitsB c = true ∧ (c.w = 1 ∨ c.w = 2) ∧ (k : Int) + c.w ≤ n) := by unfold putOk; simp
end Go.Proofs.YtlchffkabpfjpaaGreat.Row
end
section
/- Rows as elements of lists: what they hold, which are the same, how they lie in memory. -/
namespace Go.Proofs.YtlchffkabpfjpaaGreat.Row
open Go.RowKit
/-- a row: where its cells lie, and what they are -/
structure Rw where
  A : Option Addr
  n : Nat
  cap : Nat
  f : Nat → Cl
  wb : Bool
  dir : Int
  ex : Bool
def Rw.cells (r : Rw) : List Value := [.slice r.A r.n r.cap, .bool r.wb, .int .i64 r.dir, .bool r.ex]
def encR : Enc Rw := ⟨4, Rw.cells, fun _ => rfl, by decide, fun a u hu => by
  simp [Rw.cells] at hu
  rcases hu with rfl | rfl | rfl | rfl <;> rfl⟩
def Rw.ok0 (w : World) (r : Rw) : Prop := Rd w r.A r.n r.f ∧ r.n ≤ r.cap ∧ r.cap ≤ maxLen
/-- .. of no more than 5000 cells -/
def Rw.ok (w : World) (r : Rw) : Prop := Rd w r.A r.n r.f ∧ r.n ≤ r.cap ∧ r.n ≤ 5000
def saneRw (r : Rw) : Bool := saneB r.n r.f r.dir
def sameRw (r s : Rw) : Bool := sameRowB r.n r.f r.wb r.dir r.ex s.n s.f s.wb s.dir s.ex
theorem Rw.ok.below {w w' : World} {r : Rw} (h : r.ok w) (hb : Below w.heap.size w w') : r.ok w' := ⟨h.1.below hb, h.2⟩
/-- x reads as rows -/
def RdR (w : World) (x : Value) (L : List Rw) : Prop := RdX encR w x L ∧ ∀ r ∈ L, r.ok w
/-- .. whose number of cells is not looked at yet -/
def RdR0 (w : World) (x : Value) (L : List Rw) : Prop := RdX encR w x L ∧ ∀ r ∈ L, r.ok0 w
theorem RdR0.below {w w' : World} {x : Value} {L : List Rw} (h : RdR0 w x L) (hb : Below w.heap.size w w') : RdR0 w' x L := ⟨h.1.below hb, fun r hr => ⟨(h.2 r hr).1.below hb, (h.2 r hr).2⟩⟩
theorem RdR.below {w w' : World} {x : Value} {L : List Rw} (h : RdR w x L) (hb : Below w.heap.size w w') : RdR w' x L := ⟨h.1.below hb, fun r hr => (h.2 r hr).below hb⟩
theorem RdR.nil (w : World) (A : Option Addr) (c : Nat) : RdR w (.slice A 0 c) [] := ⟨RdX.nil w A c, fun r hr => by cases hr⟩
/-- the four cells of a row -/
def RowAt (w : World) (b o : Nat) (r : Rw) : Prop :=
  w.cell? ⟨b, o, none⟩ = some (.slice r.A r.n r.cap) ∧ w.cell? ⟨b, o + 1, none⟩ = some (.bool r.wb) ∧ w.cell? ⟨b, o + 2, none⟩ = some (.int .i64 r.dir) ∧ w.cell? ⟨b, o + 3, none⟩ = some (.bool r.ex)
theorem rowAt_of {w : World} {b o : Nat} {r : Rw} (h : AtX encR w b o r) : RowAt w b o r := ⟨h 0 _ rfl, h 1 _ rfl, h 2 _ rfl, h 3 _ rfl⟩
theorem rowAt_to {w : World} {b o : Nat} {r : Rw} (h : RowAt w b o r) : AtX encR w b o r := by
  obtain ⟨h0, h1, h2, h3⟩ := h
  intro i u hi
  match i, hi with
  | 0, hi => obtain rfl := Option.some.inj hi; exact h0
  | 1, hi => obtain rfl := Option.some.inj hi; exact h1
  | 2, hi => obtain rfl := Option.some.inj hi; exact h2
  | 3, hi => obtain rfl := Option.some.inj hi; exact h3
theorem RdR.at_ {w : World} {A : Option Addr} {n c : Nat} {L : List Rw} (h : RdR w (.slice A n c) L) {k : Nat} (hk : k < L.length) : ∃ b o, A = some ⟨b, o, none⟩ ∧ b < w.heap.size ∧ RowAt w b (o + k * 4) L[k] ∧ L[k].ok w := by
  obtain ⟨b, o, e, hb, hc⟩ := h.1.at_ (List.getElem?_eq_getElem hk)
  exact ⟨b, o, e, hb, rowAt_of hc, h.2 _ (List.getElem_mem hk)⟩
theorem RdR0.at_ {w : World} {A : Option Addr} {n c : Nat} {L : List Rw} (h : RdR0 w (.slice A n c) L) {k : Nat} (hk : k < L.length) : ∃ b o, A = some ⟨b, o, none⟩ ∧ b < w.heap.size ∧ RowAt w b (o + k * 4) L[k] ∧ L[k].ok0 w := by
  obtain ⟨b, o, e, hb, hc⟩ := h.1.at_ (List.getElem?_eq_getElem hk)
  exact ⟨b, o, e, hb, rowAt_of hc, h.2 _ (List.getElem_mem hk)⟩
/-- in which blocks rows lie: the list's own, and their cells' -/
def Ft (F : Nat → Prop) (x : Value) (L : List Rw) : Prop :=
  (0 < L.length → ∀ b o c n, x = .slice (some ⟨b, o, none⟩) n c → F b) ∧ ∀ r ∈ L, 0 < r.n → ∀ b o, r.A = some ⟨b, o, none⟩ → F b
theorem Ft.mono {F G : Nat → Prop} {x : Value} {L : List Rw} (h : Ft F x L) (hFG : ∀ b, F b → G b) : Ft G x L :=
  ⟨fun h0 b o c n e => hFG b (h.1 h0 b o c n e), fun r hr h0 b o e => hFG b (h.2 r hr h0 b o e)⟩
/-- of what is there, each block is -/
theorem RdR.ft {w : World} {x : Value} {L : List Rw} (h : RdR w x L) : Ft (· < w.heap.size) x L := by
  refine ⟨fun h0 b o c n e => ?_, fun r hr h0 b o e => ?_⟩
  · obtain ⟨A, c', e', _, hh⟩ := h.1
    rw [e] at e'
    injection e' with e1 _ _
    obtain ⟨b', o', e2, hb, _⟩ := hh h0
    rw [← e1] at e2
    injection e2 with e2
    injection e2 with e2 _
    rw [e2]
    exact hb
  · obtain ⟨b', o', e1, hb, _⟩ := (h.2 r hr).1 h0
    rw [e] at e1
    injection e1 with e1
    injection e1 with e1 _
    rw [e1]
    exact hb
/-- nothing of theirs has turned -/
theorem RdR.of_ft {w w' : World} {F : Nat → Prop} {x : Value} {L : List Rw} (h : RdR w x L) (hf : Ft F x L) (hs : w.heap.size ≤ w'.heap.size) (he : ∀ b, F b → b < w.heap.size → w'.heap[b]? = w.heap[b]?) : RdR w' x L := by
  have hcell : ∀ b i, F b → b < w.heap.size → w'.cell? ⟨b, i, none⟩ = w.cell? ⟨b, i, none⟩ := fun b i hb hlt => by
    unfold World.cell?
    rw [he b hb hlt]
  refine ⟨?_, fun r hr => ⟨fun hn => ?_, (h.2 r hr).2⟩⟩
  · obtain ⟨A, c, rfl, hc, hh⟩ := h.1
    refine ⟨A, c, rfl, hc, fun h0 => ?_⟩
    obtain ⟨b, o, rfl, hb, hat⟩ := hh h0
    have hFb := hf.1 h0 b o c _ rfl
    exact ⟨b, o, rfl, Nat.lt_of_lt_of_le hb hs, fun j a ha i u hi => (hcell b _ hFb hb).trans (hat j a ha i u hi)⟩
  · obtain ⟨b, o, e, hb, hat⟩ := (h.2 r hr).1 hn
    have hFb := hf.2 r hr hn b o e
    refine ⟨b, o, e, Nat.lt_of_lt_of_le hb hs, fun i hi => ?_⟩
    obtain ⟨h0, h1, h2, h3, h4, h5, h6⟩ := hat i hi
    exact ⟨(hcell b _ hFb hb).trans h0, (hcell b _ hFb hb).trans h1, (hcell b _ hFb hb).trans h2, (hcell b _ hFb hb).trans h3, (hcell b _ hFb hb).trans h4, (hcell b _ hFb hb).trans h5, (hcell b _ hFb hb).trans h6⟩
theorem Ft.part {F : Nat → Prop} {x y : Value} {L M : List Rw} (h : Ft F x L) (hy : 0 < M.length → ∀ b o c n, y = .slice (some ⟨b, o, none⟩) n c → F b) (hm : ∀ r ∈ M, r ∈ L) : Ft F y M := ⟨hy, fun r hr => h.2 r (hm r hr)⟩
theorem rowInfo : (Tryz.prog.info? 64).map (fun i => (i.zero, i.size, i.bytes)) = some (some (.agg #[.slice none 0 0, .bool false, .int .i64 0, .bool false]), 4, 48) := by kernel_rfl
theorem row_parts : ∃ i, Tryz.prog.info? 64 = some i ∧ i.zero = some (.agg #[.slice none 0 0, .bool false, .int .i64 0, .bool false]) ∧ i.size = 4 ∧ i.bytes = 48 := by
  obtain ⟨i, hi, hzz⟩ := Option.map_eq_some_iff.1 rowInfo
  simp only [Prod.mk.injEq] at hzz
  exact ⟨i, hi, hzz⟩

/-- lists of rows that are the same -/
def sameL : List Rw → List Rw → Bool
  | [], [] => true
  | a :: l, b :: m => sameRw a b && sameL l m
  | _, _ => false
theorem sameL_iff {L M : List Rw} : sameL L M = true ↔ L.length = M.length ∧ ∀ i (h : i < L.length) (h' : i < M.length), sameRw L[i] M[i] = true := by
  induction L generalizing M with
  | nil => cases M with
    | nil => simp [sameL]
    | cons b m => simp [sameL]
  | cons a l ih => cases M with
    | nil => simp [sameL]
    | cons b m =>
      simp only [sameL, Bool.and_eq_true, ih, List.length_cons]
      constructor
      · rintro ⟨h1, h2, h3⟩
        refine ⟨by omega, fun k h h' => ?_⟩
        cases k with
        | zero => exact h1
        | succ k => exact h3 k (by omega) (by omega)
      · rintro ⟨h1, h2⟩
        exact ⟨h2 0 (by omega) (by omega), by omega, fun k h h' => h2 (k + 1) (by omega) (by omega)⟩
theorem sameL_not {L M : List Rw} {k : Nat} (h : k < L.length) (h' : k < M.length) (hs : sameRw L[k] M[k] = false) : sameL L M = false := by
  cases e : sameL L M
  · rfl
  · have := (sameL_iff.1 e).2 k h h'
    rw [hs] at this
    cases this
theorem sameRow_refl (r : Rw) : sameRw r r = true := by
  unfold sameRw sameRowB sameB
  simp
theorem sameL_refl (L : List Rw) : sameL L L = true := sameL_iff.2 ⟨rfl, fun _ _ _ => sameRow_refl _⟩
def fewB (L : List Rw) : Bool := decide (L.length ≤ 60 ∧ ∀ r ∈ L, r.n ≤ 100)
theorem few_iff {L : List Rw} : fewB L = true ↔ L.length ≤ 60 ∧ ∀ r ∈ L, r.n ≤ 100 := by unfold fewB; simp only [decide_eq_true_eq]
theorem RdR0.few {w : World} {x : Value} {L : List Rw} (h : RdR0 w x L) (hf : fewB L = true) : RdR w x L :=
  ⟨h.1, fun r hr => ⟨(h.2 r hr).1, (h.2 r hr).2.1, Nat.le_trans ((few_iff.1 hf).2 r hr) (by decide)⟩⟩

set_option maxRecDepth 100000 in
set_option maxHeartbeats 1000000 in
theorem few_c (x : Value) (L : List Rw) (w : World) (hr : RdR0 w x L) (hlen : L.length ≤ maxLen) :
    Calls Tryz.prog 13 #[x] w fun e w' => e = .returned (.bool (fewB L)) ∧ w = w' := by
  obtain ⟨A, c, rfl, hc⟩ := hr.1.len
  have HS : Hid (fewB L = decide (L.length ≤ 60 ∧ ∀ r ∈ L, r.n ≤ 100)) := rfl
  generalize fewB L = S at *
  unfold maxLen at hlen
  by_cases h60 : L.length ≤ 60
  · generalize hn : L.length = n at *
    have HN := Lib.hid hn
    have h60I : (n : Int) ≤ 60 := by omega
    clear hc hlen hn
    go_enter Tryz.func13, Tryz.ntmps13
    go_wp2
    go_loop [3] (fun i => ∃ k : Nat, k ≤ n ∧ i = .int .i64 k ∧ Hid (∀ j (h : j < L.length), j < k → L[j].n ≤ 100)) (fun i => n - (intOf i).toNat)
    case atStart => exact ⟨0, Nat.zero_le _, rfl, fun j _ hj => absurd hj (by omega)⟩
    case round =>
      obtain ⟨k, hk, rfl, HALL⟩ := hrel
      by_cases hlt : k < n
      · have hkl : k < L.length := by rw [HN.out]; exact hlt
        obtain ⟨b, o, rfl, hb, ⟨c0, c1, c2, c3⟩, hok⟩ := hr.at_ hkl
        clear hok
        have HE : Hid (∀ j (h : j < L.length), j < k + 1 → L[j].n ≤ 100 ∨ j = k) := fun j h hj => by
          by_cases e : j = k
          · exact .inr e
          · exact .inl (HALL.out j h (by omega))
        have HR : Hid (L[k] ∈ L) := List.getElem_mem hkl
        obtain ⟨r, er⟩ : ∃ r, r = L[k] := ⟨_, rfl⟩
        have HER := Lib.hid er
        rw [← er] at c0 c1 c2 c3
        clear er
        obtain ⟨A', n', cap', f', wb', dir', ex'⟩ := r
        simp only at c0 c1 c2 c3
        have hltI : (k : Int) < n := by omega
        by_cases h100 : n' ≤ 100
        · have h100I : (n' : Int) ≤ 100 := by omega
          go_wp2
          go_round
          case rel => exact ⟨k + 1, by omega, by go_num, fun j h hj => by
            rcases HE.out j h hj with h' | rfl
            · exact h'
            · rw [← HER.out]; exact h100⟩
          case measure => simp [intOf]; omega
        · have h100I : (100 : Int) < n' := by omega
          go_wp2
          go_ret
          refine ⟨ebool ?_, rfl⟩
          rw [HS.out]
          symm
          exact decide_eq_false fun h => by
            have := h.2 _ HR.out
            rw [← HER.out] at this
            exact h100 this
      · obtain rfl : k = n := by omega
        go_wp2
        go_ret
        refine ⟨ebool ?_, rfl⟩
        rw [HS.out]
        symm
        refine decide_eq_true ⟨h60, fun r hr => ?_⟩
        obtain ⟨j, hj, rfl⟩ := List.getElem_of_mem hr
        exact HALL.out j hj (by rw [← HN.out]; exact hj)
  · have h60I : (60 : Int) < L.length := by omega
    go_enter Tryz.func13, Tryz.ntmps13
    go_wp2
    go_ret
    refine ⟨ebool ?_, rfl⟩
    rw [HS.out]
    symm
    exact decide_eq_false fun h => h60 h.1
end Go.Proofs.YtlchffkabpfjpaaGreat.Row
end
section
/- A drawn region walked by hand, operation by operation: laws on frames and regions that are written out as lists. -/
namespace Go
section
variable {P : Program} {l : List Oper} {Q : Exit → Act → World → Prop} {md : Region.Mode} {S : World → Prop}
theorem hr_start {id n : Nat} {t : List Value} {ds : List Deferred} {w : World} (hm : P.follows .mixedOrders = true) (hn : l.length = n) (hS : S w.drew)
    (h : S w.drew → wpAnyH P .any l.toArray Q S n (Array.replicate n false) ⟨t.toArray, ds⟩ w.drew) : (Code.region id l.toArray true).wp P Q ⟨t.toArray, ds⟩ w := by
  subst hn
  exact wp_region_held_drew hm hS (by simpa using h)
/-- an operation that only reads, taken first -/
theorem hr_take {i d : Nat} {oi : Oper} {v : Value} {fuel : Nat} {listed : Array Bool} {t : List Value} {ds : List Deferred} {w : World} (hi : l[i]? = some oi) (hd : oi.dst = some d)
    (hs : Region.noSelect l.toArray = true) (hf : Region.free md l.toArray listed i = true) (hr : (Region.ready md l.toArray listed).contains i = true) (hw : Region.wanted oi (yielded l.toArray t.toArray) = true)
    (hQ : ∀ c a w, Q (.panic c) (Act.put a (some d) v) w → Q (.panic c) a w)
    (hy : ∀ w, S w → (execOp (Act.eval ⟨t.toArray, ds⟩) oi).run P w = .ok (.value v) w) (hS : S w)
    (h : wpAnyH P md l.toArray Q S fuel (listed.setIfInBounds i true) ⟨(t.set d v).toArray, ds⟩ w) : wpAnyH P md l.toArray Q S (fuel + 1) listed ⟨t.toArray, ds⟩ w := by
  refine wpAnyH_take (oi := oi) (v := v) (by simpa using hi) hs hf hr (by rw [hd]; exact hQ) (.inl ⟨hw, hy⟩) hS ?_
  rw [hd]
  simpa [Act.put] using h
/-- an operation whose guard says no -/
theorem hr_skip {i d : Nat} {oi : Oper} {fuel : Nat} {listed : Array Bool} {t : List Value} {ds : List Deferred} {w : World} (hi : l[i]? = some oi) (hd : oi.dst = some d)
    (hs : Region.noSelect l.toArray = true) (hf : Region.free md l.toArray listed i = true) (hr : (Region.ready md l.toArray listed).contains i = true) (hw : Region.wanted oi (yielded l.toArray t.toArray) = false)
    (hQ : ∀ c a w, Q (.panic c) (Act.put a (some d) undef) w → Q (.panic c) a w) (hS : S w)
    (h : wpAnyH P md l.toArray Q S fuel (listed.setIfInBounds i true) ⟨(t.set d undef).toArray, ds⟩ w) : wpAnyH P md l.toArray Q S (fuel + 1) listed ⟨t.toArray, ds⟩ w := by
  refine wpAnyH_take (oi := oi) (v := undef) (by simpa using hi) hs hf hr (by rw [hd]; exact hQ) (.inr ⟨hw, rfl⟩) hS ?_
  rw [hd]
  simpa [Act.put] using h
/-- an operation that makes or writes memory, or calls, where no other may come up -/
theorem hr_op {i d : Nat} {oi : Oper} {fuel : Nat} {listed : Array Bool} {t : List Value} {ds : List Deferred} {w : World} (hi : l[i]? = some oi) (_hd : oi.dst = some d) (hr : Region.ready md l.toArray listed = [i])
    (hw : Region.wanted oi (yielded l.toArray t.toArray) = true)
    (h : ∀ K : Act → World → Prop, Shut (∀ v w, S w → (S w → wpAnyH P md l.toArray Q S fuel (listed.setIfInBounds i true) ⟨(t.set d v).toArray, ds⟩ w) → K (Act.put ⟨t.toArray, ds⟩ (some d) v) w) → Oper.wp P oi ⟨t.toArray, ds⟩ w K Q) :
    wpAnyH P md l.toArray Q S (fuel + 1) listed ⟨t.toArray, ds⟩ w := by
  refine wpAnyH_ready hr (by simp) (AllReadyH.cons (o := oi) (by simpa using hi) (fun K hK => ?_) AllReadyH.nil)
  rw [if_pos hw]
  refine h K fun v w hS hW => hK.out _ _ hS fun hS' => ?_
  simpa [Act.put] using hW hS'
/-- .. without a value -/
theorem hr_op0 {i : Nat} {oi : Oper} {fuel : Nat} {listed : Array Bool} {t : List Value} {ds : List Deferred} {w : World} (hi : l[i]? = some oi) (hr : Region.ready md l.toArray listed = [i])
    (hw : Region.wanted oi (yielded l.toArray t.toArray) = true)
    (h : ∀ K : Act → World → Prop, Shut (∀ w, S w → (S w → wpAnyH P md l.toArray Q S fuel (listed.setIfInBounds i true) ⟨t.toArray, ds⟩ w) → K ⟨t.toArray, ds⟩ w) → Oper.wp P oi ⟨t.toArray, ds⟩ w K Q) :
    wpAnyH P md l.toArray Q S (fuel + 1) listed ⟨t.toArray, ds⟩ w := by
  refine wpAnyH_ready hr (by simp) (AllReadyH.cons (o := oi) (by simpa using hi) (fun K hK => ?_) AllReadyH.nil)
  rw [if_pos hw]
  exact h K fun w hS hW => hK.out _ _ hS hW
theorem hr_done {fuel : Nat} {listed : Array Bool} {a : Act} {w : World} (hr : Region.ready md l.toArray listed = []) (h : Q .normal a w) : wpAnyH P md l.toArray Q S fuel listed a w := wpAnyH_done hr h fuel
theorem st0 {α : Type} (a b : α) (l : List α) : (a :: l).set 0 b = b :: l := rfl
theorem st1 {α : Type} (a b : α) (l : List α) (i : Nat) : (a :: l).set (i + 1) b = a :: l.set i b := rfl
theorem hr_t (i : Nat) {d : Nat} {oi : Oper} {v : Value} {fuel : Nat} {listed : Array Bool} {t : List Value} {ds : List Deferred} {w : World}
    (hy : ∀ w, S w → (execOp (Act.eval ⟨t.toArray, ds⟩) oi).run P w = .ok (.value v) w)
    (h : wpAnyH P md l.toArray Q S fuel (listed.setIfInBounds i true) ⟨(t.set d v).toArray, ds⟩ w)
    (hi : l[i]? = some oi := by rfl) (hd : oi.dst = some d := by rfl)
    (hs : Region.noSelect l.toArray = true := by kernel_rfl) (hf : Region.free md l.toArray listed i = true := by kernel_rfl) (hr : (Region.ready md l.toArray listed).contains i = true := by kernel_rfl) (hw : Region.wanted oi (yielded l.toArray t.toArray) = true := by kernel_rfl)
    (hQ : ∀ c a w, Q (.panic c) (Act.put a (some d) v) w → Q (.panic c) a w := by exact fun _ _ _ h => h) (hS : S w := by assumption) : wpAnyH P md l.toArray Q S (fuel + 1) listed ⟨t.toArray, ds⟩ w :=
  hr_take hi hd hs hf hr hw hQ hy hS h
theorem hr_q (i : Nat) {d : Nat} {oi : Oper} {v : Value} {fuel : Nat} {listed : Array Bool} {t : List Value} {ds : List Deferred} {w : World}
    (h : wpAnyH P md l.toArray Q S fuel (listed.setIfInBounds i true) ⟨(t.set d v).toArray, ds⟩ w)
    (hi : l[i]? = some oi := by rfl) (hd : oi.dst = some d := by rfl)
    (hy : ∀ w, S w → (execOp (Act.eval ⟨t.toArray, ds⟩) oi).run P w = .ok (.value v) w := by (intro wS hSw; (try dsimp only at hSw); go_simp; (try with_reducible rfl)))
    (hs : Region.noSelect l.toArray = true := by kernel_rfl) (hf : Region.free md l.toArray listed i = true := by kernel_rfl) (hr : (Region.ready md l.toArray listed).contains i = true := by kernel_rfl) (hw : Region.wanted oi (yielded l.toArray t.toArray) = true := by kernel_rfl)
    (hQ : ∀ c a w, Q (.panic c) (Act.put a (some d) v) w → Q (.panic c) a w := by exact fun _ _ _ h => h) (hS : S w := by assumption) : wpAnyH P md l.toArray Q S (fuel + 1) listed ⟨t.toArray, ds⟩ w :=
  hr_take hi hd hs hf hr hw hQ hy hS h
theorem hr_s (i : Nat) {d : Nat} {oi : Oper} {fuel : Nat} {listed : Array Bool} {t : List Value} {ds : List Deferred} {w : World}
    (h : wpAnyH P md l.toArray Q S fuel (listed.setIfInBounds i true) ⟨(t.set d undef).toArray, ds⟩ w)
    (hi : l[i]? = some oi := by rfl) (hd : oi.dst = some d := by rfl)
    (hs : Region.noSelect l.toArray = true := by kernel_rfl) (hf : Region.free md l.toArray listed i = true := by kernel_rfl) (hr : (Region.ready md l.toArray listed).contains i = true := by kernel_rfl) (hw : Region.wanted oi (yielded l.toArray t.toArray) = false := by kernel_rfl)
    (hQ : ∀ c a w, Q (.panic c) (Act.put a (some d) undef) w → Q (.panic c) a w := by exact fun _ _ _ h => h) (hS : S w := by assumption) : wpAnyH P md l.toArray Q S (fuel + 1) listed ⟨t.toArray, ds⟩ w :=
  hr_skip hi hd hs hf hr hw hQ hS h
theorem hr_o (i : Nat) {d : Nat} {oi : Oper} {fuel : Nat} {listed : Array Bool} {t : List Value} {ds : List Deferred} {w : World}
    (h : ∀ K : Act → World → Prop, Shut (∀ v w, S w → (S w → wpAnyH P md l.toArray Q S fuel (listed.setIfInBounds i true) ⟨(t.set d v).toArray, ds⟩ w) → K (Act.put ⟨t.toArray, ds⟩ (some d) v) w) → Oper.wp P oi ⟨t.toArray, ds⟩ w K Q)
    (hi : l[i]? = some oi := by rfl) (hd : oi.dst = some d := by rfl) (hr : Region.ready md l.toArray listed = [i] := by kernel_rfl)
    (hw : Region.wanted oi (yielded l.toArray t.toArray) = true := by kernel_rfl) :
    wpAnyH P md l.toArray Q S (fuel + 1) listed ⟨t.toArray, ds⟩ w := hr_op hi hd hr hw h
end
end Go
end
section
/- Walks: lists of rows that are the same; history.Sane; small functions of history and lapwinglaw10. -/
namespace Go.Proofs.YtlchffkabpfjpaaGreat.Row
open Go.RowKit

/-- Same on rows by name -/
theorem samer_c (r s : Rw) (w : World) (hr : r.ok w) (hs : s.ok w) : Calls Tryz.prog 62 #[.agg #[.slice r.A r.n r.cap, .bool r.wb, .int .i64 r.dir, .bool r.ex], .agg #[.slice s.A s.n s.cap, .bool s.wb, .int .i64 s.dir, .bool s.ex]] w fun e w' => e = .returned (.bool (sameRw r s)) ∧ Grew w w' := by
  have h1 := hr.2.2
  have h2 := hs.2.2
  exact same_c r.A r.n r.cap r.f r.wb r.dir r.ex s.A s.n s.cap s.f s.wb s.dir s.ex w hr.1 hs.1 (by omega) (by omega)
theorem saner_c (r : Rw) (w : World) (hr : r.ok w) : Calls Tryz.prog 45 #[.agg #[.slice r.A r.n r.cap, .bool r.wb, .int .i64 r.dir, .bool r.ex]] w fun e w' => e = .returned (.bool (saneRw r)) ∧ Grew w w' := by
  have h1 := hr.2.2
  exact sane_c r.A r.n r.cap r.f r.wb r.dir r.ex w hr.1 (by omega)

set_option maxRecDepth 100000 in
set_option maxHeartbeats 2000000 in
theorem sameL_c (x y : Value) (L M : List Rw) (w : World) (hx : RdR w x L) (hy : RdR w y M) (hl : L.length ≤ maxLen) (hm : M.length ≤ maxLen) :
    Calls Tryz.prog 26 #[x, y] w fun e w' => e = .returned (.bool (sameL L M)) ∧ Grew w w' := by
  obtain ⟨A, c, rfl, hc⟩ := hx.1.len
  obtain ⟨A', c', rfl, hc'⟩ := hy.1.len
  have HS : Hid (sameL L M = sameL L M) := rfl
  unfold maxLen at hl hm
  have HI1 := Lib.hid (@sameL_iff L M)
  have HI2 := Lib.hid (fun k h h' hs => @sameL_not L M k h h' hs)
  generalize sameL L M = S at *
  by_cases hnm : L.length = M.length
  · rw [← hnm] at hy hc' ⊢
    have HM : Hid (M.length = L.length) := hnm.symm
    generalize hn : L.length = n at hl hc hx hc' hy HM ⊢
    have HN := Lib.hid hn
    clear hn hnm
    go_enter Tryz.func26, Tryz.ntmps26
    go_wp2
    go_loopw [5] (fun i wz => ∃ k : Nat, k ≤ n ∧ i = .int .i64 k ∧ Hid (∀ j (h : j < L.length) (h' : j < M.length), j < k → sameRw L[j] M[j] = true) ∧ Below w.heap.size w wz) (fun i _ => n - (intOf i).toNat)
    case atStart => exact ⟨0, Nat.zero_le _, rfl, fun j _ _ hj => absurd hj (by omega), Below.refl _ _⟩
    case round =>
      obtain ⟨k, hk, rfl, HALL, hbw⟩ := hrel
      by_cases hlt : k < n
      · have hkl : k < L.length := by rw [HN.out]; exact hlt
        have hkm : k < M.length := by rw [HM.out]; exact hlt
        obtain ⟨b1, o1, rfl, hb1, hat1, hokr⟩ := (hx.below hbw).at_ hkl
        obtain ⟨b2, o2, rfl, hb2, hat2, hoks⟩ := (hy.below hbw).at_ hkm
        have HE : Hid (sameRw L[k] M[k] = true → ∀ j (h : j < L.length) (h' : j < M.length), j < k + 1 → sameRw L[j] M[j] = true) := fun hs j h h' hj => by
          by_cases e : j = k
          · subst e; exact hs
          · exact HALL.out j h h' (by omega)
        have HF : Hid (sameRw L[k] M[k] = false → S = false) := fun h => HI2.out k hkl hkm h
        generalize L[k] = r at *
        generalize M[k] = s at *
        obtain ⟨p0, p1, p2, p3⟩ := hat1
        obtain ⟨q0, q1, q2, q3⟩ := hat2
        have hltI : (k : Int) < n := by omega
        have hws := hbw.size
        cases hrs : sameRw r s
        · go_wp2_with fail
          refine hr_start (S := (fun w' => w'.cell? ⟨b1, o1 + k * 4, none⟩ = some (.slice r.A r.n r.cap) ∧ w'.cell? ⟨b1, o1 + k * 4 + 1, none⟩ = some (.bool r.wb) ∧ w'.cell? ⟨b1, o1 + k * 4 + 2, none⟩ = some (.int .i64 r.dir) ∧ w'.cell? ⟨b1, o1 + k * 4 + 3, none⟩ = some (.bool r.ex) ∧ w'.cell? ⟨b2, o2 + k * 4, none⟩ = some (.slice s.A s.n s.cap) ∧ w'.cell? ⟨b2, o2 + k * 4 + 1, none⟩ = some (.bool s.wb) ∧ w'.cell? ⟨b2, o2 + k * 4 + 2, none⟩ = some (.int .i64 s.dir) ∧ w'.cell? ⟨b2, o2 + k * 4 + 3, none⟩ = some (.bool s.ex))) (by kernel_rfl) rfl ?_ (fun hHeld => ?_)
          · ((try dsimp only); go_simp)
          refine hr_q 0 ?_
          simp only [st0, st1]
          refine hr_q 1 ?_
          simp only [st0, st1]
          refine hr_q 2 ?_
          simp only [st0, st1]
          refine hr_q 3 ?_
          simp only [st0, st1]
          refine hr_q 4 ?_
          simp only [st0, st1]
          refine hr_q 5 ?_
          simp only [st0, st1]
          refine hr_q 6 ?_
          simp only [st0, st1]
          refine hr_q 7 ?_
          simp only [st0, st1]
          refine hr_o 8 (fun K hK => ?_)
          go_simp
          ((with_reducible refine (samer_c r s _ (hokr.below (by exact bcAll)) (hoks.below (by exact bcAll))).mono ?_); rintro e w2 ⟨rfl, X2, d2, rfl⟩)
          (try go_wp2_with fail)
          refine hK.out _ _ ?_ (fun hHeld => ?_)
          · ((try dsimp only); go_simp)
          clear hK K
          simp only [st0, st1]
          refine hr_q 9 ?_
          simp only [st0, st1]
          refine hr_done (by kernel_rfl) ?_
          go_wp2_with fail
          go_ret
          exact ⟨ebool (HF.out hrs).symm, (Below.toGrow (by exact bcAll))⟩
        · go_wp2_with fail
          refine hr_start (S := (fun w' => w'.cell? ⟨b1, o1 + k * 4, none⟩ = some (.slice r.A r.n r.cap) ∧ w'.cell? ⟨b1, o1 + k * 4 + 1, none⟩ = some (.bool r.wb) ∧ w'.cell? ⟨b1, o1 + k * 4 + 2, none⟩ = some (.int .i64 r.dir) ∧ w'.cell? ⟨b1, o1 + k * 4 + 3, none⟩ = some (.bool r.ex) ∧ w'.cell? ⟨b2, o2 + k * 4, none⟩ = some (.slice s.A s.n s.cap) ∧ w'.cell? ⟨b2, o2 + k * 4 + 1, none⟩ = some (.bool s.wb) ∧ w'.cell? ⟨b2, o2 + k * 4 + 2, none⟩ = some (.int .i64 s.dir) ∧ w'.cell? ⟨b2, o2 + k * 4 + 3, none⟩ = some (.bool s.ex))) (by kernel_rfl) rfl ?_ (fun hHeld => ?_)
          · ((try dsimp only); go_simp)
          refine hr_q 0 ?_
          simp only [st0, st1]
          refine hr_q 1 ?_
          simp only [st0, st1]
          refine hr_q 2 ?_
          simp only [st0, st1]
          refine hr_q 3 ?_
          simp only [st0, st1]
          refine hr_q 4 ?_
          simp only [st0, st1]
          refine hr_q 5 ?_
          simp only [st0, st1]
          refine hr_q 6 ?_
          simp only [st0, st1]
          refine hr_q 7 ?_
          simp only [st0, st1]
          refine hr_o 8 (fun K hK => ?_)
          go_simp
          ((with_reducible refine (samer_c r s _ (hokr.below (by exact bcAll)) (hoks.below (by exact bcAll))).mono ?_); rintro e w2 ⟨rfl, X2, d2, rfl⟩)
          (try go_wp2_with fail)
          refine hK.out _ _ ?_ (fun hHeld => ?_)
          · ((try dsimp only); go_simp)
          clear hK K
          simp only [st0, st1]
          refine hr_q 9 ?_
          simp only [st0, st1]
          refine hr_done (by kernel_rfl) ?_
          go_wp2_with fail
          go_roundw
          case rel => exact ⟨k + 1, by omega, by go_num, HE.out hrs, by exact bcAll⟩
          case measure => simp [intOf]; omega
      · obtain rfl : k = n := by omega
        go_wp2
        go_ret
        exact ⟨ebool (HI1.out.2 ⟨by rw [HN.out, HM.out], fun j h h' => HALL.out j h h' (by rw [← HN.out]; exact h)⟩).symm, Below.toGrow hbw⟩
  · have hnm' : ¬ ((L.length : Int) = M.length) := by omega
    have HF : Hid (S = false) := by
      cases S
      · rfl
      · exact absurd (HI1.out.1 rfl).1 hnm
    go_enter Tryz.func26, Tryz.ntmps26
    go_wp2
    go_ret
    exact ⟨ebool HF.out.symm, (Below.toGrow (by exact bcAll))⟩
end Go.Proofs.YtlchffkabpfjpaaGreat.Row
end
section
/- Walks: history's small functions, history.Sane, lapwingref10.Same. -/
namespace Go.Proofs.YtlchffkabpfjpaaGreat.Row
open Go.RowKit
theorem lt_add_r' (a b x : Nat) (h : a < b) : (a < b + x) = True := by simp; omega
theorem le_add_r' (a b x : Nat) (h : a ≤ b) : (a ≤ b + x) = True := by simp; omega
attribute [local go_sem] Nat.add_pos_iff_pos_or_pos lt_add_r' le_add_r'

theorem bounded_c (n m : Int) (w : World) : Calls Tryz.prog 68 #[.int .i64 n, .int .i64 m] w fun e w' => e = .returned (.int .i64 (max 0 (min n m))) ∧ w = w' := by
  go_enter Tryz.func68, Tryz.ntmps68
  go_wp2
  all_goals (go_ret; refine ⟨eint ?_, rfl⟩)
  all_goals omega
theorem hnew_c (c : Int) (w : World) : Calls Tryz.prog 33 #[.int .i64 c] w fun e w' => e = .returned (.agg #[.slice none 0 0, .int .i64 (max 0 (min c 200))]) ∧ Grew w w' := by
  go_enter Tryz.func33, Tryz.ntmps33
  go_wp2_with (first | (go_at_call 68; refine (bounded_c _ _ _).mono ?_; rintro e w1 ⟨rfl, rfl⟩))
  (refine bodyPost_ret (v := _) (by (simp [results, Tryz.results33, go_sem]; exact rfl)) rfl ⟨?_, (Below.toGrow (by exact bcAll))⟩; exact rfl)

def hsaneB (L : List Rw) (c : Int) : Bool := decide (0 ≤ c ∧ c ≤ 200 ∧ (L.length : Int) ≤ c ∧ ∀ r ∈ L, saneRw r = true)
theorem hsane_iff {L : List Rw} {c : Int} : hsaneB L c = true ↔ 0 ≤ c ∧ c ≤ 200 ∧ (L.length : Int) ≤ c ∧ ∀ r ∈ L, saneRw r = true := by unfold hsaneB; simp only [decide_eq_true_eq]
set_option maxRecDepth 100000 in
set_option maxHeartbeats 2000000 in
theorem hsane_c (x : Value) (c : Int) (L : List Rw) (w : World) (hx : RdR w x L) (hl : L.length ≤ 5000) :
    Calls Tryz.prog 17 #[.agg #[x, .int .i64 c]] w fun e w' => e = .returned (.bool (hsaneB L c)) ∧ Grew w w' := by
  obtain ⟨A, cap, rfl, hc⟩ := hx.1.len
  have HI := Lib.hid (@hsane_iff L c)
  have HN : Hid (¬ hsaneB L c = true → hsaneB L c = false) := fun h => by simpa using h
  generalize hsaneB L c = S at *
  by_cases h0 : 0 ≤ c ∧ c ≤ 200 ∧ (L.length : Int) ≤ c
  · obtain ⟨h1, h2, h3⟩ := h0
    generalize hn : L.length = n at hl h3 hc hx ⊢
    have HL := Lib.hid hn
    clear hn
    go_enter Tryz.func17, Tryz.ntmps17
    go_wp2
    go_loopw [24] (fun i wz => ∃ k : Nat, k ≤ n ∧ i = .int .i64 k ∧ Hid (∀ j (h : j < L.length), j < k → saneRw L[j] = true) ∧ Below w.heap.size w wz) (fun i _ => n - (intOf i).toNat)
    case atStart => exact ⟨0, Nat.zero_le _, rfl, fun j _ hj => absurd hj (by omega), by exact bcAll⟩
    case round =>
      obtain ⟨k, hk, rfl, HALL, hbw⟩ := hrel
      have hws := hbw.size
      by_cases hlt : k < n
      · have hkl : k < L.length := by rw [HL.out]; exact hlt
        obtain ⟨b, o, rfl, hb, hat, hok⟩ := (hx.below hbw).at_ hkl
        have HE : Hid (saneRw L[k] = true → ∀ j (h : j < L.length), j < k + 1 → saneRw L[j] = true) := fun hs j h hj => by
          by_cases e : j = k
          · subst e; exact hs
          · exact HALL.out j h (by omega)
        have HM : Hid (L[k] ∈ L) := List.getElem_mem hkl
        generalize L[k] = r at *
        obtain ⟨p0, p1, p2, p3⟩ := hat
        have hltI : (k : Int) < n := by omega
        cases hs : saneRw r
        · go_wp2_with (first | (go_at_call 45; refine (saner_c r _ (hok.below (by exact bcAll))).mono ?_; rintro e w2 ⟨rfl, X2, d2, rfl⟩))
          go_ret
          refine ⟨ebool (HN.out fun h => ?_).symm, (Below.toGrow (by exact bcAll))⟩
          have := (HI.out.1 h).2.2.2 r HM.out
          rw [hs] at this
          cases this
        · go_wp2_with (first | (go_at_call 45; refine (saner_c r _ (hok.below (by exact bcAll))).mono ?_; rintro e w2 ⟨rfl, X2, d2, rfl⟩))
          go_roundw
          case rel => exact ⟨k + 1, by omega, by go_num, HE.out hs, by exact bcAll⟩
          case measure => simp [intOf]; omega
      · obtain rfl : k = n := by omega
        go_wp2
        go_ret
        refine ⟨ebool (HI.out.2 ⟨h1, h2, by rw [HL.out]; exact h3, fun r hr => ?_⟩).symm, (Below.toGrow (by exact bcAll))⟩
        obtain ⟨j, hj, rfl⟩ := List.getElem_of_mem hr
        exact HALL.out j hj (by rw [← HL.out]; exact hj)
  · have HF : Hid (S = false) := HN.out fun h => h0 ⟨(HI.out.1 h).1, (HI.out.1 h).2.1, (HI.out.1 h).2.2.1⟩
    go_enter Tryz.func17, Tryz.ntmps17
    go_wp2
    all_goals first | (exfalso; omega) | (go_ret; exact ⟨ebool HF.out.symm, (Below.toGrow (by exact bcAll))⟩)

def cellsL : List Rw → Int
  | [] => 0
  | r :: l => r.n + cellsL l
set_option maxRecDepth 100000 in
set_option maxHeartbeats 2000000 in
theorem sameK_c (x y : Value) (c d : Int) (L M : List Rw) (w : World) (hx : RdR w x L) (hy : RdR w y M) (hl : L.length ≤ maxLen) (hm : M.length ≤ maxLen) :
    Calls Tryz.prog 28 #[.agg #[x, .int .i64 c], .agg #[y, .int .i64 d]] w fun e w' => e = .returned (.bool (c == d && sameL L M)) ∧ Grew w w' := by
  have HL := Lib.hid hl
  have HM := Lib.hid hm
  obtain ⟨A, cap, ex, hc⟩ := hx.1.len
  obtain ⟨A', cap', ey, hc'⟩ := hy.1.len
  have HX := Lib.hid ex
  have HY := Lib.hid ey
  have h1 : x.cells = #[x] := by rw [ex]; rfl
  have h2 : y.cells = #[y] := by rw [ey]; rfl
  clear ex ey hc hc' hl hm
  cases hcd : (c == d)
  · go_enter Tryz.func28, Tryz.ntmps28
    go_wp2_with (first | (go_at_call 26; refine (sameL_c x y L M _ (hx.below (by exact bcAll)) (hy.below (by exact bcAll)) HL.out HM.out).mono ?_; rintro e w1 ⟨rfl, X1, d1, rfl⟩))
    go_ret
    exact ⟨rfl, (Below.toGrow (by exact bcAll))⟩
  · go_enter Tryz.func28, Tryz.ntmps28
    go_wp2_with (first | (go_at_call 26; refine (sameL_c x y L M _ (hx.below (by exact bcAll)) (hy.below (by exact bcAll)) HL.out HM.out).mono ?_; rintro e w1 ⟨rfl, X1, d1, rfl⟩))
    go_ret
    exact ⟨rfl, (Below.toGrow (by exact bcAll))⟩
end Go.Proofs.YtlchffkabpfjpaaGreat.Row
end
section
/- A part of a slice, under one name: what the cut gives, and what it reads as. -/
namespace Go.RowKit
section
variable {α : Type} {E : Enc α} {P : Program}
theorem cut_rd {L : List α} {A : Option Addr} {N c lo hi c' : Nat} (h1 : lo ≤ hi) (h2 : hi ≤ N) (w : World) (hr : RdX E w (.slice A N c) L) (hc : hi - lo ≤ c') (q : Prop) [Decidable q] (hq : q → hi = lo) :
    RdX E w (.slice (if q then A else A.map (·.add (lo * E.size))) (hi - lo) c') ((L.drop lo).take (hi - lo)) := by
  obtain ⟨_, _, e, _, _⟩ := id hr
  injection e with _ e2 _
  by_cases hn : hi - lo = 0
  · rw [hn, List.take_zero]
    exact RdX.nil _ _ _
  · have hnq : ¬ q := fun h => hn (by have := hq h; omega)
    rw [if_neg hnq]
    obtain ⟨b, o, rfl, _, _⟩ := hr.at_ (k := lo) (a := L[lo]'(by omega)) (List.getElem?_eq_getElem (by omega))
    rw [e2] at hr
    rw [show Option.map (fun x : Addr => x.add (lo * E.size)) (some ⟨b, o, none⟩) = some ⟨b, o + lo * E.size, none⟩ by simp [addr_add]]
    exact hr.part (k := lo) (m := hi - lo) (by omega) rfl hc
/-- a part lies in the same block -/
theorem cut_addr {A : Option Addr} {k : Nat} {q : Prop} [Decidable q] {b o : Nat} (h : (if q then A else A.map (·.add k)) = some ⟨b, o, none⟩) : ∃ g o', A = some ⟨b, o', g⟩ := by
  split at h
  · exact ⟨none, o, h⟩
  · cases A with
    | none => cases h
    | some a =>
      obtain ⟨b', o', s⟩ := a
      injection h with h
      unfold Addr.add at h
      split at h
      · injection h with h1 h2 h3
        subst h1
        exact ⟨s, o', rfl⟩
      · injection h with h1 _ _
        have h1 : b' = b := h1
        subst h1
        exact ⟨s, o', rfl⟩
/-- 'x[lo:hi]' -/
theorem slice2 (t e : TypeId) (hu : P.underlying t = some (.slice e)) (hsz : (P.info? e).map (·.size) = some E.size) (A : Option Addr) (N c lo hi : Nat) (h1 : lo ≤ hi) (h2 : hi ≤ N) (h3 : N ≤ c) :
    ∃ A', (∀ b o, A' = some ⟨b, o, none⟩ → ∃ s o', A = some ⟨b, o', s⟩) ∧ (∀ w, (Instr.slice t (.slice A N c) (some (.int .i64 (lo : Int))) (some (.int .i64 (hi : Int))) none).run P w = .ok (.slice A' (hi - lo) (c - lo)) w) ∧
      ∀ w (L : List α), RdX E w (.slice A N c) L → RdX E w (.slice A' (hi - lo) (c - lo)) ((L.drop lo).take (hi - lo)) := by
  refine ⟨if c = lo then A else A.map (·.add (lo * E.size)), fun _ _ h => cut_addr h, fun w => ?_, fun w L hr => cut_rd h1 h2 w hr (by omega) _ (by omega)⟩
  obtain ⟨i, hi', hs⟩ := Option.map_eq_some_iff.1 hsz
  have l1 : (0 : Int) ≤ (hi : Int) ∧ (hi : Int) ≤ (c : Int) := by omega
  have l2 : (0 : Int) ≤ (lo : Int) ∧ (lo : Int) ≤ (hi : Int) := by omega
  simp [Instr.slice, run_underlying hu, Instr.sliceBounds, Instr.sliceBound, asIntOf, l1, l2, sizeOf, typeInfo, hi', hs, h1, show hi ≤ c by omega]
/-- 'x[lo:]' -/
theorem slice1 (t e : TypeId) (hu : P.underlying t = some (.slice e)) (hsz : (P.info? e).map (·.size) = some E.size) (A : Option Addr) (N c lo : Nat) (h2 : lo ≤ N) (h3 : N ≤ c) :
    ∃ A', (∀ b o, A' = some ⟨b, o, none⟩ → ∃ s o', A = some ⟨b, o', s⟩) ∧ (∀ w, (Instr.slice t (.slice A N c) (some (.int .i64 (lo : Int))) none none).run P w = .ok (.slice A' (N - lo) (c - lo)) w) ∧
      ∀ w (L : List α), RdX E w (.slice A N c) L → RdX E w (.slice A' (N - lo) (c - lo)) (L.drop lo) := by
  refine ⟨if c = lo then A else A.map (·.add (lo * E.size)), fun _ _ h => cut_addr h, fun w => ?_, fun w L hr => ?_⟩
  · obtain ⟨i, hi', hs⟩ := Option.map_eq_some_iff.1 hsz
    have l2 : (0 : Int) ≤ (lo : Int) ∧ (lo : Int) ≤ (N : Int) := by omega
    simp [Instr.slice, run_underlying hu, Instr.sliceBounds, Instr.sliceBound, asIntOf, l2, sizeOf, typeInfo, hi', hs, h2]
  · have h := cut_rd (E := E) (c' := c - lo) h2 (Nat.le_refl N) w hr (by omega) (c = lo) (by omega)
    obtain ⟨_, _, e, _, _⟩ := hr
    injection e with _ e2 _
    rw [show (L.drop lo).take (N - lo) = L.drop lo from List.take_of_length_le (by rw [List.length_drop]; omega)] at h
    exact h
/-- 'x[:hi]' -/
theorem slice0 (t e : TypeId) (hu : P.underlying t = some (.slice e)) (hsz : (P.info? e).map (·.size) = some E.size) (A : Option Addr) (N c hi : Nat) (h2 : hi ≤ N) (h3 : N ≤ c) :
    ∃ A', (∀ b o, A' = some ⟨b, o, none⟩ → ∃ s o', A = some ⟨b, o', s⟩) ∧ (∀ w, (Instr.slice t (.slice A N c) none (some (.int .i64 (hi : Int))) none).run P w = .ok (.slice A' hi c) w) ∧
      ∀ w (L : List α), RdX E w (.slice A N c) L → RdX E w (.slice A' hi c) (L.take hi) := by
  refine ⟨if c = 0 then A else A.map (·.add (0 * E.size)), fun _ _ h => cut_addr h, fun w => ?_, fun w L hr => ?_⟩
  · obtain ⟨i, hi', hs⟩ := Option.map_eq_some_iff.1 hsz
    have l1 : (0 : Int) ≤ (hi : Int) ∧ (hi : Int) ≤ (c : Int) := by omega
    simp [Instr.slice, run_underlying hu, Instr.sliceBounds, Instr.sliceBound, asIntOf, l1, sizeOf, typeInfo, hi', show hi ≤ c by omega]
  · exact cut_rd (E := E) (lo := 0) (c' := c) (Nat.zero_le _) h2 w hr (by omega) (c = 0) (by omega)
/-- 'x[lo:hi:hi]' -/
theorem slice3 (t e : TypeId) (hu : P.underlying t = some (.slice e)) (hsz : (P.info? e).map (·.size) = some E.size) (A : Option Addr) (N c lo hi : Nat) (h1 : lo ≤ hi) (h2 : hi ≤ N) (h3 : N ≤ c) :
    ∃ A', (∀ b o, A' = some ⟨b, o, none⟩ → ∃ s o', A = some ⟨b, o', s⟩) ∧ (∀ w, (Instr.slice t (.slice A N c) (some (.int .i64 (lo : Int))) (some (.int .i64 (hi : Int))) (some (.int .i64 (hi : Int)))).run P w = .ok (.slice A' (hi - lo) (hi - lo)) w) ∧
      ∀ w (L : List α), RdX E w (.slice A N c) L → RdX E w (.slice A' (hi - lo) (hi - lo)) ((L.drop lo).take (hi - lo)) := by
  refine ⟨if hi = lo then A else A.map (·.add (lo * E.size)), fun _ _ h => cut_addr h, fun w => ?_, fun w L hr => cut_rd h1 h2 w hr (by omega) _ (by omega)⟩
  obtain ⟨i, hi', hs⟩ := Option.map_eq_some_iff.1 hsz
  have l1 : (0 : Int) ≤ (hi : Int) ∧ (hi : Int) ≤ (c : Int) := by omega
  have l2 : (0 : Int) ≤ (lo : Int) ∧ (lo : Int) ≤ (hi : Int) := by omega
  simp [Instr.slice, run_underlying hu, Instr.sliceBounds, Instr.sliceBound, asIntOf, l1, l2, sizeOf, typeInfo, hi', hs, h1, show hi ≤ c by omega]
end
end Go.RowKit
end
