/- Memory words for slices of structs: blocks known whole, copy of elements of several cells, make. Nothing of the program but the number of a cell's type. -/
import Derived.Test.YtlgnchhhadnjbaaRowPure
import Derived.Test.YtlgnchhhadnjbaaBase
import Derived.Deep.OwnRows
import Derived.Laws.CopyOwn
import Derived.Deep.RegionLaw
namespace Go.RowKit

/-! ### only one block has turned -/
theorem gb_alloc {a w : World} {row : Option Nat} (h : a.grownBy w row) (o : Obj) : a.grownBy (w.alloc o) row :=
  ⟨h.os, h.tape, h.output, Nat.le_trans h.size (by simp), fun i hi hne => (Below.heap_alloc w o i (Nat.lt_of_lt_of_le hi h.size)).trans (h.block i hi hne)⟩
theorem gb_setCell {a w : World} {row : Option Nat} (h : a.grownBy w row) {p : Addr} (hp : row = some p.block ∨ a.heap.size ≤ p.block) (u : Value) : a.grownBy (w.setCell p u) row :=
  ⟨h.os, h.tape, h.output, by simpa [World.setCell] using h.size, fun i hi hne => (Below.heap_setCell w p u i (by
    rintro rfl
    rcases hp with hp | hp
    · exact hne hp.symm
    · omega)).trans (h.block i hi hne)⟩
theorem gb_grow {a w : World} {row : Option Nat} (h : a.grownBy w row) (X : Array Obj) (d : Nat) : a.grownBy (w.grow X d) row :=
  ⟨h.os, h.tape, h.output, Nat.le_trans h.size (by simp), fun i hi hne => (World.heap_grow w X d i (Nat.lt_of_lt_of_le hi h.size)).trans (h.block i hi hne)⟩
theorem gb_drewN {a w : World} {row : Option Nat} (h : a.grownBy w row) (n : Nat) : a.grownBy (w.drewN n) row := ⟨h.os, h.tape, h.output, h.size, h.block⟩
theorem gb_drew {a w : World} {row : Option Nat} (h : a.grownBy w row) : a.grownBy w.drew row := ⟨h.os, h.tape, h.output, h.size, h.block⟩
theorem gb_trans {a w w' : World} {b : Nat} (h : a.grownBy w (some b)) (k : w.grownBy w' (some b)) : a.grownBy w' (some b) :=
  ⟨k.os.trans h.os, k.tape.trans h.tape, k.output.trans h.output, Nat.le_trans h.size k.size, fun i hi hne => (k.block i (Nat.lt_of_lt_of_le hi h.size) hne).trans (h.block i hi hne)⟩
theorem gb_below {a w : World} (h : Below a.heap.size a w) (row : Option Nat) : a.grownBy w row := ⟨h.os, h.tape, h.output, h.size, fun i hi _ => h.block i hi⟩
/-- what turned only a block from B on has turned nothing below B -/
theorem below_gb {a w w' : World} {B b : Nat} (h : Below B a w) (k : w.grownBy w' (some b)) (hb : B ≤ b) (hB : B ≤ w.heap.size) : Below B a w' :=
  h.trans ⟨k.os, k.tape, k.output, k.size, fun i hi => k.block i (by omega) (by intro e; injection e; omega)⟩
theorem gb_of_below_gb {a w w' : World} {b : Nat} (h : Below a.heap.size a w) (k : w.grownBy w' (some b)) (hs : a.heap.size ≤ b) : Below a.heap.size a w' := below_gb h k hs h.size
theorem heap_of_below {B : Nat} {w w' : World} (h : Below B w w') {b : Nat} (hb : b < B) : w'.heap[b]? = w.heap[b]? := h.block b hb

/-! ### a block that is known whole -/
def Blk (w : World) (g : Nat) (t : TypeId) (cs : Array Value) : Prop := w.heap[g]? = some (.cells cs t (0, 0))
section
variable {w w' : World} {g : Nat} {t : TypeId} {cs : Array Value}
theorem Blk.lt (h : Blk w g t cs) : g < w.heap.size := by
  unfold Blk at h
  exact (Array.getElem?_eq_some_iff.1 h).1
theorem Blk.cell (h : Blk w g t cs) (i : Nat) : w.cell? ⟨g, i, none⟩ = cs[i]? := by unfold Blk at h; simp [World.cell?, h]
theorem Blk.frozen (h : Blk w g t cs) (i : Nat) : w.frozen? ⟨g, i, none⟩ = false := by
  unfold Blk at h
  simp [World.frozen?, h]
theorem Blk.of (h : Blk w g t cs) (e : w'.heap[g]? = w.heap[g]?) : Blk w' g t cs := e.trans h
theorem Blk.gb {row : Option Nat} (h : Blk w g t cs) (hb : w.grownBy w' row) (hg : some g ≠ row) : Blk w' g t cs := (hb.block g h.lt hg).trans h
theorem Blk.below {B : Nat} (h : Blk w g t cs) (hb : Below B w w') (hg : g < B) : Blk w' g t cs := (hb.block g hg).trans h
theorem Blk.set_ (h : Blk w g t cs) (i : Nat) (u : Value) : Blk (w.setCell ⟨g, i, none⟩ u) g t (cs.setIfInBounds i u) := by
  unfold Blk at h ⊢
  simp [World.setCell, Array.getElem?_modify, h]
theorem Blk.new (w : World) (t : TypeId) (cs : Array Value) : Blk (w.alloc (.cells cs t)) w.heap.size t cs := heap_alloc_new w _
theorem Blk.new_at {w : World} {g : Nat} {t : TypeId} {cs : Array Value} (h : g = w.heap.size) : Blk (w.alloc (.cells cs t)) g t cs := by
  subst h
  exact Blk.new w t cs
theorem Blk.alloc (h : Blk w g t cs) (o : Obj) : Blk (w.alloc o) g t cs := (Below.heap_alloc w o g h.lt).trans h
theorem Blk.grow (h : Blk w g t cs) (X : Array Obj) (d : Nat) : Blk (w.grow X d) g t cs := (World.heap_grow w X d g h.lt).trans h
theorem Blk.facts2 {a b : Value} (h : Blk w g t #[a, b]) : w.cell? ⟨g, 0, none⟩ = some a ∧ w.cell? ⟨g, 1, none⟩ = some b ∧ (∀ i, w.frozen? ⟨g, i, none⟩ = false) ∧ g < w.heap.size :=
  ⟨h.cell 0, h.cell 1, h.frozen, h.lt⟩
theorem Blk.facts3 {a b c : Value} (h : Blk w g t #[a, b, c]) : w.cell? ⟨g, 0, none⟩ = some a ∧ w.cell? ⟨g, 1, none⟩ = some b ∧ w.cell? ⟨g, 2, none⟩ = some c ∧ (∀ i, w.frozen? ⟨g, i, none⟩ = false) ∧ g < w.heap.size :=
  ⟨h.cell 0, h.cell 1, h.cell 2, h.frozen, h.lt⟩
theorem Blk.facts4 {a b c d : Value} (h : Blk w g t #[a, b, c, d]) : w.cell? ⟨g, 0, none⟩ = some a ∧ w.cell? ⟨g, 1, none⟩ = some b ∧ w.cell? ⟨g, 2, none⟩ = some c ∧ w.cell? ⟨g, 3, none⟩ = some d ∧ (∀ i, w.frozen? ⟨g, i, none⟩ = false) ∧ g < w.heap.size :=
  ⟨h.cell 0, h.cell 1, h.cell 2, h.cell 3, h.frozen, h.lt⟩
theorem Blk.facts7 {a b c d e f k : Value} (h : Blk w g t #[a, b, c, d, e, f, k]) : w.cell? ⟨g, 0, none⟩ = some a ∧ w.cell? ⟨g, 1, none⟩ = some b ∧ w.cell? ⟨g, 2, none⟩ = some c ∧ w.cell? ⟨g, 3, none⟩ = some d ∧ w.cell? ⟨g, 4, none⟩ = some e ∧ w.cell? ⟨g, 5, none⟩ = some f ∧ w.cell? ⟨g, 6, none⟩ = some k ∧ (∀ i, w.frozen? ⟨g, i, none⟩ = false) ∧ g < w.heap.size :=
  ⟨h.cell 0, h.cell 1, h.cell 2, h.cell 3, h.cell 4, h.cell 5, h.cell 6, h.frozen, h.lt⟩
end

theorem rowIs_gb {w w' : World} {b : Nat} {t : TypeId} {n : Nat} {f : Nat → Value} {row : Option Nat} (h : w.rowIs b t n f) (hg : w.grownBy w' row) (hne : some b ≠ row) : w'.rowIs b t n f := h.of_block (hg.block b h.lt hne)
theorem rowIs_below {w w' : World} {B b : Nat} {t : TypeId} {n : Nat} {f : Nat → Value} (h : w.rowIs b t n f) (hg : Below B w w') (hb : b < B) : w'.rowIs b t n f := h.of_block (hg.block b hb)
theorem rowIs_grow {w : World} {b : Nat} {t : TypeId} {n : Nat} {f : Nat → Value} (h : w.rowIs b t n f) (X : Array Obj) (d : Nat) : (w.grow X d).rowIs b t n f := h.of_block (World.heap_grow w X d b h.lt)

theorem addr_add (b o j : Nat) : (⟨b, o, none⟩ : Addr).add j = ⟨b, o + j, none⟩ := by
  unfold Addr.add
  split
  · subst_vars; rfl
  · rfl

section
variable {P : Program}
/-- 'copy' of m elements of 'size' cells each into a block that is known whole. All is read before anything is written. -/
theorem run_copy_rows (w : World) (dT sT ty elem : TypeId) (size b o N : Nat) (t : TypeId) (g : Nat → Value) (dLen dCap sLen sCap m : Nat) (a : Addr) (h : Nat → Value)
    (hu : P.underlying dT = some (.slice elem)) (hs : (P.info? elem).map (·.size) = some size) (hb : w.rowIs b t N g) (hm : Nat.min sLen dLen = m)
    (hsrc : ∀ j, j < m * size → w.cell? (a.add j) = some (h j)) (hfit : o + m * size ≤ N) (h1 : ∀ j, j < m * size → (h j).oneCell' = true) :
    ∃ w', (Builtin.copy_ #[dT, sT] ty #[.slice (some ⟨b, o, none⟩) dLen dCap, .slice (some a) sLen sCap]).run P w = .ok (.int .i64 (m : Int)) w' ∧
      w'.rowIs b t N (fun j => if o ≤ j ∧ j < o + m * size then h (j - o) else g j) ∧ w.grownBy w' (some b) ∧ w'.heap.size = w.heap.size := by
  obtain ⟨cur, hcur, hN, hg⟩ := hb
  obtain ⟨cs, hcs⟩ : ∃ cs : List Value, cs = (List.range (m * size)).map h := ⟨_, rfl⟩
  have hlen : cs.length = m * size := by simp [hcs]
  have hget : ∀ (j : Nat) (v : Value), cs[j]? = some v → j < m * size ∧ v = h j := by
    intro j v hv
    rw [hcs, List.getElem?_map] at hv
    rcases Nat.lt_or_ge j (m * size) with hj | hj
    · rw [List.getElem?_range hj] at hv
      exact ⟨hj, by simpa using hv.symm⟩
    · rw [List.getElem?_eq_none (by simpa using hj)] at hv
      cases hv
  have hl := run_loadCells_list (P := P) (w := w) a cs (fun j v hv => by obtain ⟨hj, rfl⟩ := hget j v hv; exact hsrc j hj)
  have hst := run_storeCells_at P b o t cs 0 cur w hcur (by omega) (fun v hv => by
    obtain ⟨j, hj⟩ := List.getElem?_of_mem hv
    obtain ⟨hj', rfl⟩ := hget j v hj
    exact h1 j hj')
  cases hq : P.info? elem with
  | none => simp [hq] at hs
  | some i =>
    have hi : i.size = size := by simpa [hq] using hs
    refine ⟨_, by simp [Builtin.copy_, run_underlying hu, Builtin.lenOf, Builtin.firstCells, sizeOf, typeInfo, hq, hi, hm, ← hlen, hl, hst]; exact ⟨rfl, rfl⟩, ?_, ?_, by simp⟩
    · refine ⟨_, setRow_heap w b cur _ t _ hcur, ?_, fun j hj => ?_⟩
      · simp
        omega
      · rw [List.getElem?_toArray]
        show _ = some (if o ≤ j ∧ j < o + m * size then h (j - o) else g j)
        by_cases h1 : j < o
        · rw [if_neg (by omega), List.getElem?_append_left (by simp; omega), List.getElem?_take, if_pos h1]
          simpa using hg j hj
        · by_cases h2 : j < o + m * size
          · rw [if_pos ⟨by omega, h2⟩, List.getElem?_append_right (by simp; omega), List.getElem?_append_left (by simp; omega)]
            have e : j - (cur.toList.take o).length = j - o := by simp; omega
            rw [e, hcs, List.getElem?_map, List.getElem?_range (by omega)]
            rfl
          · rw [if_neg (by omega), List.getElem?_append_right (by simp; omega), List.getElem?_append_right (by simp; omega), List.getElem?_drop]
            have e : o + cs.length + (j - (cur.toList.take o).length - cs.length) = j := by simp; omega
            rw [e]
            simpa using hg j hj
    · exact ⟨rfl, rfl, rfl, by simp, fun k _ hne => setRow_other w b k _ (by rintro rfl; exact hne rfl)⟩

theorem wp_copy_rows {w : World} {o : Oper} {a : Act} {K : Act → World → Prop} {Q : Exit → Act → World → Prop} (d s : Operand) (dT sT : TypeId)
    (ho : o.op = .call { callee := .builtin .copy, args := #[d, s], argTypes := #[dT, sT] }) (elem : TypeId) (size : Nat) (hu : P.underlying dT = some (.slice elem)) (hsz : (P.info? elem).map (·.size) = some size)
    (b off N : Nat) (t : TypeId) (g : Nat → Value) (dLen dCap sLen sCap m : Nat) (ad : Addr) (h : Nat → Value) (hd : a.eval d = .slice (some ⟨b, off, none⟩) dLen dCap) (hs : a.eval s = .slice (some ad) sLen sCap)
    (hb : w.rowIs b t N g) (hm : Nat.min sLen dLen = m) (hsrc : ∀ j, j < m * size → w.cell? (ad.add j) = some (h j)) (hfit : off + m * size ≤ N) (h1 : ∀ j, j < m * size → (h j).oneCell' = true)
    (hK : ∀ w', w'.rowIs b t N (fun j => if off ≤ j ∧ j < off + m * size then h (j - off) else g j) → w.grownBy w' (some b) → w'.heap.size = w.heap.size → K (a.put o.dst (.int .i64 (m : Int))) w') : o.wp P a w K Q := by
  obtain ⟨w', hrun, h2, h3, h4⟩ := run_copy_rows (P := P) w dT sT o.type elem size b off N t g dLen dCap sLen sCap m ad h hu hsz hb hm hsrc hfit h1
  unfold Oper.wp
  simp [execOp, ho, resolve, invoke, builtin, hd, hs, hrun, Result.andThen]
  exact hK _ h2 h3 h4
theorem wpList_copy_rows {w : World} {ops : Array Oper} {rest : List Oper} {o : Oper} {a : Act} {Q : Exit → Act → World → Prop} (hgd : o.guard = none) (d s : Operand) (dT sT : TypeId)
    (ho : o.op = .call { callee := .builtin .copy, args := #[d, s], argTypes := #[dT, sT] }) (elem : TypeId) (size : Nat) (hu : P.underlying dT = some (.slice elem)) (hsz : (P.info? elem).map (·.size) = some size)
    (b off N : Nat) (t : TypeId) (g : Nat → Value) (dLen dCap sLen sCap m : Nat) (ad : Addr) (h : Nat → Value) (hd : a.eval d = .slice (some ⟨b, off, none⟩) dLen dCap) (hs : a.eval s = .slice (some ad) sLen sCap)
    (hb : w.rowIs b t N g) (hm : Nat.min sLen dLen = m) (hsrc : ∀ j, j < m * size → w.cell? (ad.add j) = some (h j)) (hfit : off + m * size ≤ N) (h1 : ∀ j, j < m * size → (h j).oneCell' = true)
    (hK : ∀ w', w'.rowIs b t N (fun j => if off ≤ j ∧ j < off + m * size then h (j - off) else g j) → w.grownBy w' (some b) → w'.heap.size = w.heap.size → wpList P ops Q rest (a.put o.dst (.int .i64 (m : Int))) w') : wpList P ops Q (o :: rest) a w :=
  wpList_plain hgd fun _ hK' => wp_copy_rows d s dT sT ho elem size hu hsz b off N t g dLen dCap sLen sCap m ad h hd hs hb hm hsrc hfit h1 fun w' h2 h3 h4 => hK' _ _ (hK w' h2 h3 h4)

/-- 'make([]T, n)' for every world: a new block of n times the element's cells. -/
theorem run_make_rows (t e : TypeId) (z : Value) (size bytes : Nat) (ht : P.underlying t = some (.slice e)) (hinfo : (P.info? e).map (fun i => (i.zero, i.size, i.bytes)) = some (some z, size, bytes)) (hzs : z.cells.size = size) (hpos : 0 < size)
    (n : Nat) (hbytes : bytes * n ≤ 281474976710656) (h63 : n ≤ 9223372036854775807) :
    ∃ C : Array Value, C.size = n * size ∧ (∀ j, j < n * size → C[j]? = z.cells[j % size]?) ∧ ∀ w : World, (Instr.makeSlice t (.int .i64 (n : Int)) (.int .i64 (n : Int))).run P w = .ok (.slice (some ⟨w.heap.size, 0, none⟩) n n) (w.alloc (.cells C e)) := by
  obtain ⟨i, hi, hzz⟩ := Option.map_eq_some_iff.1 hinfo
  simp only [Prod.mk.injEq] at hzz
  obtain ⟨hz, hs, hb⟩ := hzz
  have hb' : (i.bytes : Int) * (n : Int) ≤ 281474976710656 := by
    have h : ((i.bytes * n : Nat) : Int) ≤ 281474976710656 := by rw [hb]; omega
    rwa [Int.natCast_mul] at h
  refine ⟨madeCells z.cells (n * size), size_madeCells _ _, fun j hj => ?_, fun w => ?_⟩
  · have hlt : j % size < z.cells.size := by rw [hzs]; exact Nat.mod_lt _ hpos
    rw [Array.getElem?_eq_getElem hlt]
    simp [madeCells, hj, hzs, getElem!_pos z.cells (j % size) hlt]
  · have hr := run_make (P := P) w t e i z ht hi hz .i64 .i64 n n (by omega) (Int.le_refl _) hb' (by omega)
    simp only [Int.toNat_natCast, hs] at hr
    exact hr
end
end Go.RowKit

namespace Go.Proofs.Ytlgnchhhadnjbaa.Row
open Go.RowKit
/-- a cell's j-th place -/
def Cl.val (c : Cl) : Nat → Value
  | 0 => .int .i64 c.r
  | 1 => .int .i64 c.m0
  | 2 => .int .i64 c.m1
  | 3 => .int .i64 c.w
  | 4 => .int .i64 c.fg
  | 5 => .int .i64 c.bg
  | _ => .int .i64 c.fl
def valF (f : Nat → Cl) (j : Nat) : Value := (f (j / 7)).val (j % 7)
theorem val_one (c : Cl) (j : Nat) : (c.val j).oneCell' = true := by
  unfold Cl.val
  split <;> rfl
/-- block b is n cells that read as f, all its own -/
def Own (w : World) (b n : Nat) (f : Nat → Cl) : Prop := w.rowIs b 59 (n * 7) (valF f)
theorem cellAt_val {w : World} {b o : Nat} {c : Cl} (h : CellAt w b o c) (j : Nat) (hj : j < 7) : w.cell? ⟨b, o + j, none⟩ = some (c.val j) := by
  obtain ⟨h0, h1, h2, h3, h4, h5, h6⟩ := h
  match j, hj with
  | 0, _ => exact h0
  | 1, _ => exact h1
  | 2, _ => exact h2
  | 3, _ => exact h3
  | 4, _ => exact h4
  | 5, _ => exact h5
  | 6, _ => exact h6
theorem cellAt_of {w : World} {b o : Nat} {c : Cl} (h : ∀ j, j < 7 → w.cell? ⟨b, o + j, none⟩ = some (c.val j)) : CellAt w b o c :=
  ⟨h 0 (by omega), h 1 (by omega), h 2 (by omega), h 3 (by omega), h 4 (by omega), h 5 (by omega), h 6 (by omega)⟩
section
variable {w w' : World} {b n : Nat} {f g : Nat → Cl}
theorem valF_at (f : Nat → Cl) (i j : Nat) (hj : j < 7) : valF f (i * 7 + j) = (f i).val j := by
  unfold valF
  have e1 : (i * 7 + j) / 7 = i := by omega
  have e2 : (i * 7 + j) % 7 = j := by omega
  rw [e1, e2]
theorem Own.lt (h : Own w b n f) : b < w.heap.size := World.rowIs.lt h
theorem Own.at_ (h : Own w b n f) {i : Nat} (hi : i < n) : CellAt w b (i * 7) (f i) :=
  cellAt_of fun j hj => (World.rowIs.cell h (by omega)).trans (by rw [valF_at f i j hj])
theorem Own.frozen (h : Own w b n f) (i : Nat) : w.frozen? ⟨b, i, none⟩ = false := World.rowIs.frozen h i
theorem Own.rd (h : Own w b n f) : Rd w (some ⟨b, 0, none⟩) n f := fun _ => ⟨b, 0, rfl, h.lt, fun i hi => by rw [Nat.zero_add]; exact h.at_ hi⟩
/-- a part of it -/
theorem Own.part (h : Own w b n f) {k m : Nat} (hm : k + m ≤ n) : Rd w (some ⟨b, k * 7, none⟩) m (fun i => f (k + i)) := fun _ => ⟨b, k * 7, rfl, h.lt, fun i hi => by
  have e : k * 7 + i * 7 = (k + i) * 7 := by omega
  rw [e]
  exact h.at_ (by omega)⟩
theorem Own.congr (h : Own w b n f) (e : ∀ i, i < n → f i = g i) : Own w b n g := World.rowIs.congr h fun i hi => by
  unfold valF
  rw [e (i / 7) (by omega)]
theorem Own.gb {row : Option Nat} (h : Own w b n f) (hg : w.grownBy w' row) (hne : some b ≠ row) : Own w' b n f := rowIs_gb h hg hne
theorem Own.below {B : Nat} (h : Own w b n f) (hg : Below B w w') (hb : b < B) : Own w' b n f := rowIs_below h hg hb
theorem Own.grow (h : Own w b n f) (X : Array Obj) (d : Nat) : Own (w.grow X d) b n f := rowIs_grow h X d
theorem Own.alloc (h : Own w b n f) (o : Obj) : Own (w.alloc o) b n f := World.rowIs.alloc h o
theorem Own.far (h : Own w b n f) {p : Addr} (hp : b ≠ p.block) (u : Value) : Own (w.setCell p u) b n f := World.rowIs.setOther h hp u
/-- stores into another block -/
theorem Own.far' (h : Own w b n f) {p : Addr} (hp : p.block ≠ b) (u : Value) : Own (w.setCell p u) b n f := World.rowIs.setOther h (fun e => hp e.symm) u
theorem Own.drewN (h : Own w b n f) (k : Nat) : Own (w.drewN k) b n f := h
theorem Own.store (h : Own w b n f) (k : Nat) (c : Cl) :
    Own (((((((w.setCell ⟨b, k * 7, none⟩ (.int .i64 c.r)).setCell ⟨b, k * 7 + 1, none⟩ (.int .i64 c.m0)).setCell ⟨b, k * 7 + 2, none⟩ (.int .i64 c.m1)).setCell ⟨b, k * 7 + 3, none⟩ (.int .i64 c.w)).setCell ⟨b, k * 7 + 4, none⟩ (.int .i64 c.fg)).setCell ⟨b, k * 7 + 5, none⟩ (.int .i64 c.bg)).setCell ⟨b, k * 7 + 6, none⟩ (.int .i64 c.fl)) b n (upd f k c) := by
  refine World.rowIs.congr (((((((World.rowIs.set h _ _).set _ _).set _ _).set _ _).set _ _).set _ _).set _ _) fun i _ => ?_
  unfold valF upd
  by_cases hk : i / 7 = k
  · subst hk
    rw [if_pos rfl]
    have hj : i % 7 < 7 := Nat.mod_lt _ (by omega)
    generalize hm : i % 7 = j at hj
    have hi : i = i / 7 * 7 + j := by omega
    match j, hj with
    | 0, _ => rw [if_neg (by omega), if_neg (by omega), if_neg (by omega), if_neg (by omega), if_neg (by omega), if_neg (by omega), if_pos (by omega)]; rfl
    | 1, _ => rw [if_neg (by omega), if_neg (by omega), if_neg (by omega), if_neg (by omega), if_neg (by omega), if_pos (by omega)]; rfl
    | 2, _ => rw [if_neg (by omega), if_neg (by omega), if_neg (by omega), if_neg (by omega), if_pos (by omega)]; rfl
    | 3, _ => rw [if_neg (by omega), if_neg (by omega), if_neg (by omega), if_pos (by omega)]; rfl
    | 4, _ => rw [if_neg (by omega), if_neg (by omega), if_pos (by omega)]; rfl
    | 5, _ => rw [if_neg (by omega), if_pos (by omega)]; rfl
    | 6, _ => rw [if_pos (by omega)]; rfl
  · rw [if_neg hk, if_neg (by omega), if_neg (by omega), if_neg (by omega), if_neg (by omega), if_neg (by omega), if_neg (by omega), if_neg (by omega)]
theorem Own.store_at (h : Own w b n f) (k : Nat) (c : Cl) {p : Nat} (hp : p = k * 7) :
    Own (((((((w.setCell ⟨b, p, none⟩ (.int .i64 c.r)).setCell ⟨b, p + 1, none⟩ (.int .i64 c.m0)).setCell ⟨b, p + 2, none⟩ (.int .i64 c.m1)).setCell ⟨b, p + 3, none⟩ (.int .i64 c.w)).setCell ⟨b, p + 4, none⟩ (.int .i64 c.fg)).setCell ⟨b, p + 5, none⟩ (.int .i64 c.bg)).setCell ⟨b, p + 6, none⟩ (.int .i64 c.fl)) b n (upd f k c) := by
  subst hp
  exact h.store k c
theorem Own.at_p (h : Own w b n f) {i : Nat} (hi : i < n) {p : Nat} (hp : p = i * 7) : CellAt w b p (f i) := by
  subst hp
  exact h.at_ hi
end
theorem Rd.cellsOf {w : World} {b o n : Nat} {f : Nat → Cl} (h : ∀ i, i < n → CellAt w b (o + i * 7) (f i)) (j : Nat) (hj : j < n * 7) : w.cell? ((⟨b, o, none⟩ : Addr).add j) = some (valF f j) := by
  rw [addr_add]
  have hd : j / 7 < n := by omega
  have hm : j % 7 < 7 := Nat.mod_lt _ (by omega)
  have := cellAt_val (h (j / 7) hd) (j % 7) hm
  have e : o + j / 7 * 7 + j % 7 = o + j := by omega
  rw [e] at this
  exact this
end Go.Proofs.Ytlgnchhhadnjbaa.Row
