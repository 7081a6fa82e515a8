/- Lists in memory, whatever their elements' cells: a slice that reads as a list, a row of the call's own, append. -/
import Derived.Test.YtlgnchhhadnjbaaMem
import Derived.Maps.AppendAt
import Derived.OwnWalk
namespace Go.RowKit
/-- how an element lies in cells -/
structure Enc (α : Type) where
  size : Nat
  cells : α → List Value
  len : ∀ a, (cells a).length = size
  pos : 0 < size
  one : ∀ a u, u ∈ cells a → u.oneCell' = true

section
variable {α : Type} (E : Enc α)
theorem Enc.length_flat (L : List α) : (L.flatMap E.cells).length = L.length * E.size := by
  induction L with
  | nil => simp
  | cons a l ih =>
    rw [List.flatMap_cons, List.length_append, E.len, ih, List.length_cons, Nat.add_mul]
    omega
theorem Enc.get_flat (L : List α) (k i : Nat) (a : α) (hk : L[k]? = some a) (hi : i < E.size) : (L.flatMap E.cells)[k * E.size + i]? = (E.cells a)[i]? := by
  induction L generalizing k with
  | nil => simp at hk
  | cons b l ih =>
    rw [List.flatMap_cons]
    cases k with
    | zero =>
      obtain rfl : b = a := by simpa using hk
      rw [Nat.zero_mul, Nat.zero_add, List.getElem?_append_left (by rw [E.len]; exact hi)]
    | succ k =>
      have h := ih k (by simpa using hk)
      rw [List.getElem?_append_right (by rw [E.len, Nat.add_mul]; omega), E.len, show (k + 1) * E.size + i - E.size = k * E.size + i by rw [Nat.add_mul]; omega]
      exact h
theorem Enc.one_flat (L : List α) : ∀ u ∈ L.flatMap E.cells, u.oneCell' = true := by
  intro u hu
  obtain ⟨a, _, ha⟩ := List.mem_flatMap.1 hu
  exact E.one a u ha

/-- in w the element a lies in block b from offset o on -/
def AtX (w : World) (b o : Nat) (a : α) : Prop := ∀ i u, (E.cells a)[i]? = some u → w.cell? ⟨b, o + i, none⟩ = some u
/-- x reads as L -/
def RdX (w : World) (x : Value) (L : List α) : Prop :=
  ∃ A c, x = .slice A L.length c ∧ L.length ≤ c ∧ (0 < L.length → ∃ b o, A = some ⟨b, o, none⟩ ∧ b < w.heap.size ∧ ∀ (j : Nat) (a : α), L[j]? = some a → AtX E w b (o + j * E.size) a)
def OwnX (w : World) (base e : Nat) (v : Value) (L : List α) : Prop := w.ownsRow base e E.size v L.length (L.flatMap E.cells)
variable {E}
variable {w w' : World} {base e : Nat} {v x : Value} {L : List α}
theorem AtX.below {b o : Nat} {a : α} {B : Nat} (h : AtX E w b o a) (hb : Below B w w') (hlt : b < B) : AtX E w' b o a :=
  fun i u hi => (hb.cell (p := ⟨b, o + i, none⟩) hlt).trans (h i u hi)
theorem RdX.below (h : RdX E w x L) (hb : Below w.heap.size w w') : RdX E w' x L := by
  obtain ⟨A, c, rfl, hc, h⟩ := h
  refine ⟨A, c, rfl, hc, fun hn => ?_⟩
  obtain ⟨b, o, rfl, hlt, hc⟩ := h hn
  exact ⟨b, o, rfl, Nat.lt_of_lt_of_le hlt hb.size, fun j a ha => (hc j a ha).below hb hlt⟩
theorem RdX.nil (w : World) (A : Option Addr) (c : Nat) : RdX E w (.slice A 0 c) ([] : List α) := ⟨A, c, rfl, Nat.zero_le _, fun h => absurd h (by simp)⟩
/-- the block's one is another than v's -/
theorem OwnX.nil (w : World) (base e : Nat) : OwnX E w base e (.slice none 0 0) ([] : List α) := World.ownsRow_nil w base e E.size
theorem OwnX.of (h : OwnX E w base e v L) (hh : ∀ g, v.ownBlock = some g → w'.heap[g]? = w.heap[g]?) : OwnX E w' base e v L := by
  unfold OwnX World.ownsRow at *
  obtain ⟨hl, h | ⟨g, cap, cur, rfl, hb, hg, r1, r2, r3, r4⟩⟩ := h
  · exact ⟨hl, .inl h⟩
  · exact ⟨hl, .inr ⟨g, cap, cur, rfl, hb, (hh g rfl).trans hg, r1, r2, r3, r4⟩⟩
theorem OwnX.lt (h : OwnX E w base e v L) {g : Nat} (hg : v.ownBlock = some g) : base ≤ g ∧ g < w.heap.size := World.ownsRow.lt h g hg
theorem OwnX.below {B : Nat} (h : OwnX E w base e v L) (hb : Below B w w') (hB : w.heap.size ≤ B) : OwnX E w' base e v L := h.of fun g hg => hb.block g (by have := (h.lt hg).2; omega)
theorem OwnX.alloc (h : OwnX E w base e v L) (o : Obj) : OwnX E (w.alloc o) base e v L := h.below ((Below.refl w.heap.size w).alloc (Nat.le_refl _) o) (Nat.le_refl _)
theorem OwnX.drew (h : OwnX E w base e v L) : OwnX E w.drew base e v L := h
theorem OwnX.mono {base' : Nat} (h : OwnX E w base e v L) (hb : base' ≤ base) : OwnX E w base' e v L := by
  unfold OwnX World.ownsRow at *
  obtain ⟨hl, h | ⟨g, cap, cur, rfl, hb', hg, r⟩⟩ := h
  · exact ⟨hl, .inl h⟩
  · exact ⟨hl, .inr ⟨g, cap, cur, rfl, Nat.le_trans hb hb', hg, r⟩⟩
theorem OwnX.rd (h : OwnX E w base e v L) : RdX E w v L := by
  have h' := h
  unfold OwnX World.ownsRow at h'
  obtain ⟨hl, ⟨rfl, h0⟩ | ⟨g, cap, cur, rfl, hb, hg, r1, r2, r3, r4⟩⟩ := h'
  · exact ⟨none, 0, by rw [h0], by omega, fun hn => absurd hn (by omega)⟩
  · refine ⟨_, cap, rfl, r1, fun _ => ⟨g, 0, rfl, (Array.getElem?_eq_some_iff.1 hg).1, fun j a ha i u hi => ?_⟩⟩
    have hj : j < L.length := (List.getElem?_eq_some_iff.1 ha).1
    have hi' : i < E.size := by have := (List.getElem?_eq_some_iff.1 hi).1; rwa [E.len] at this
    have hlt : j * E.size + i < L.length * E.size := by
      have h1 : (j + 1) * E.size ≤ L.length * E.size := Nat.mul_le_mul_right _ hj
      rw [Nat.add_mul] at h1
      omega
    rw [Nat.zero_add, World.ownsRow.cellAt h _ hlt, E.get_flat L j i a ha hi', hi]
/-- a block of another type is none of its -/
theorem OwnX.ne_ {g : Nat} {t : TypeId} {cs : Array Value} (h : OwnX E w base e v L) (hB : Blk w g t cs) (hne : e ≠ t) : some g ≠ v.ownBlock := by
  intro hg
  unfold OwnX World.ownsRow at h
  obtain ⟨_, ⟨rfl, _⟩ | ⟨g', cap, cur, rfl, _, hh, _⟩⟩ := h
  · simp [Value.ownBlock] at hg
  · obtain rfl : g = g' := by simpa [Value.ownBlock] using hg
    unfold Blk at hB
    rw [hB] at hh
    injection hh with hh
    injection hh with _ ht
    exact hne ht.symm
/-- a block that was there before is none of its -/
theorem OwnX.ne_lt {g : Nat} (h : OwnX E w base e v L) (hg : g < base) : some g ≠ v.ownBlock := fun e => by
  have := (h.lt e.symm).1
  omega
/-- a new block that is written out -/
theorem ownX_new (w : World) (base e b : Nat) (hb : b = w.heap.size) (h : base ≤ w.heap.size) : OwnX E (w.alloc (.cells #[] e)) base e (.slice (some ⟨b, 0, none⟩) 0 0) ([] : List α) := by
  subst hb
  unfold OwnX World.ownsRow
  exact ⟨by simp, .inr ⟨w.heap.size, 0, #[], rfl, h, heap_alloc_new w _, by simp, by simp, by simp, by simp⟩⟩
theorem ownX_one (w : World) (base e b : Nat) (a : α) (cs : Array Value) (hcs : cs = (E.cells a).toArray) (hb : b = w.heap.size) (h : base ≤ w.heap.size) : OwnX E (w.alloc (.cells cs e)) base e (.slice (some ⟨b, 0, none⟩) 1 1) [a] := by
  subst hb hcs
  unfold OwnX World.ownsRow
  exact ⟨E.length_flat [a], .inr ⟨w.heap.size, 1, _, rfl, h, heap_alloc_new w _, by simp, by decide, by simp [E.len], by simp [← E.len a]⟩⟩
theorem ownX_lits (w : World) (base e b n : Nat) (L : List α) (cs : Array Value) (hcs : cs = (L.flatMap E.cells).toArray) (hn : n = L.length) (hm : n ≤ maxLen) (hb : b = w.heap.size) (h : base ≤ w.heap.size) : OwnX E (w.alloc (.cells cs e)) base e (.slice (some ⟨b, 0, none⟩) n n) L := by
  subst hb hcs hn
  unfold OwnX World.ownsRow
  exact ⟨E.length_flat L, .inr ⟨w.heap.size, L.length, _, rfl, h, heap_alloc_new w _, Nat.le_refl _, hm, by simp [E.length_flat, -List.length_flatMap], by simp [← E.length_flat L, -List.length_flatMap]⟩⟩
theorem rdX_one (w : World) (b : Nat) (a : α) (cs : Array Value) (t : TypeId) (hcs : cs = (E.cells a).toArray) (h : b = w.heap.size) : RdX E (w.alloc (.cells cs t)) (.slice (some ⟨b, 0, none⟩) 1 1) [a] :=
  (ownX_one (E := E) w 0 t b a cs hcs h (Nat.zero_le _)).rd
/-- a part of it -/
theorem RdX.part {b o c : Nat} {k m : Nat} (h : RdX E w (.slice (some ⟨b, o, none⟩) L.length c) L) (hkm : k + m ≤ L.length) {o' c' : Nat} (ho : o' = o + k * E.size) (hc : m ≤ c') : RdX E w (.slice (some ⟨b, o', none⟩) m c') ((L.drop k).take m) := by
  have hl : ((L.drop k).take m).length = m := by rw [List.length_take, List.length_drop]; omega
  obtain ⟨A, c0, e, hc0, hh⟩ := h
  injection e with e1 e2 e3
  refine ⟨some ⟨b, o', none⟩, c', by rw [hl], by omega, fun hn => ?_⟩
  obtain ⟨b', o1, e4, hb, hcell⟩ := hh (by omega)
  subst e1
  injection e4 with e4
  injection e4 with e4 e5
  subst e4 e5
  refine ⟨b, o', rfl, hb, fun j a ha => ?_⟩
  have hjm : j < m := by have := (List.getElem?_eq_some_iff.1 ha).1; omega
  rw [List.getElem?_take, if_pos hjm, List.getElem?_drop] at ha
  have := hcell (k + j) a ha
  rw [Nat.add_mul, ← Nat.add_assoc] at this
  rw [ho]
  exact this
theorem RdX.len (h : RdX E w x L) : ∃ A c, x = .slice A L.length c ∧ L.length ≤ c := by
  obtain ⟨A, c, rfl, hc, _⟩ := h
  exact ⟨A, c, rfl, hc⟩
/-- an element of it -/
theorem RdX.at_ {A : Option Addr} {n c : Nat} (h : RdX E w (.slice A n c) L) {k : Nat} {a : α} (hk : L[k]? = some a) : ∃ b o, A = some ⟨b, o, none⟩ ∧ b < w.heap.size ∧ AtX E w b (o + k * E.size) a := by
  obtain ⟨A', c', e, _, hh⟩ := h
  injection e with e1 e2 e3
  subst e1
  obtain ⟨b, o, e4, hb, hc⟩ := hh (by have := (List.getElem?_eq_some_iff.1 hk).1; omega)
  exact ⟨b, o, e4, hb, hc k a hk⟩
theorem RdX.at' {b o n c : Nat} (h : RdX E w (.slice (some ⟨b, o, none⟩) n c) L) {k : Nat} {a : α} (hk : L[k]? = some a) : AtX E w b (o + k * E.size) a := by
  obtain ⟨b', o', e, _, hc⟩ := h.at_ hk
  injection e with e
  injection e with e1 e2
  subst e1 e2
  exact hc

variable {P : Program}
theorem run_append_X (E : Enc α) (w : World) (base t ty e bytes : TypeId) (i : TypeInfo) (z : Value) (ht : P.underlying t = some (.slice e)) (hi : P.info? e = some i) (hz : i.zero = some z) (hsize : i.size = E.size) (hby : i.bytes = bytes) (hzs : z.cells.size = E.size)
    (v x : Value) (xs zs : List α) (hown : OwnX E w base e v xs) (hx : RdX E w x zs) (h63 : xs.length + zs.length ≤ maxLen) (h47 : (xs.length + zs.length) * bytes ≤ 140737488355328) (hbase : base ≤ w.heap.size) :
    ∃ v' w', (Builtin.append_ #[t, t] ty #[v, x]).run P w = .ok v' w' ∧ OwnX E w' base e v' (xs ++ zs) ∧ w.grownBy w' v.ownBlock ∧ (v'.ownBlock = v.ownBlock ∨ v'.ownBlock = some w.heap.size) := by
  obtain ⟨A, c, rfl, hcl, hc⟩ := hx
  rcases A with _ | ad
  · have h0 : zs = [] := by
      rcases Nat.eq_zero_or_pos zs.length with h | h
      · exact List.eq_nil_of_length_eq_zero h
      · obtain ⟨_, _, h, _⟩ := hc h
        cases h
    subst h0
    refine ⟨v, w, ?_, by simpa using hown, World.grownBy.refl w _, .inl rfl⟩
    rcases hown.2 with ⟨rfl, _⟩ | ⟨g, cap, cur, rfl, _, _, hnc, _⟩
    · simp [Builtin.append_, run_underlying ht, sizeOf, typeInfo, hi, Builtin.lenOf, Builtin.firstCells]
    · simp [Builtin.append_, run_underlying ht, sizeOf, typeInfo, hi, Builtin.lenOf, Builtin.firstCells, hnc, storeCells]
  · obtain ⟨v', w', hrun, h2, h3, _, h5⟩ := run_append_own_at (P := P) w base t ty e i z E.size bytes ht hi hz hsize hby hzs E.pos v xs.length (xs.flatMap E.cells) hown ad zs.length c (zs.flatMap E.cells) (E.length_flat zs) (fun j u hu => by
      have hj : j < zs.length * E.size := by have := (List.getElem?_eq_some_iff.1 hu).1; rwa [E.length_flat] at this
      have hd : j / E.size < zs.length := Nat.div_lt_of_lt_mul (by rw [Nat.mul_comm]; exact hj)
      have hm : j % E.size < E.size := Nat.mod_lt _ E.pos
      have hjj : j / E.size * E.size + j % E.size = j := Nat.div_add_mod' j E.size
      obtain ⟨b, o, e1, _, hcc⟩ := hc (Nat.lt_of_le_of_lt (Nat.zero_le _) hd)
      injection e1 with e1
      subst e1
      rw [addr_add]
      have hg := E.get_flat zs (j / E.size) (j % E.size) _ (List.getElem?_eq_getElem hd) hm
      rw [hjj, hu] at hg
      have := hcc (j / E.size) _ (List.getElem?_eq_getElem hd) (j % E.size) u hg.symm
      rw [Nat.add_assoc, hjj] at this
      exact this) (E.one_flat zs) h63 h47 hbase
    refine ⟨v', w', hrun, ?_, h3, h5⟩
    unfold OwnX
    rw [List.length_append, List.flatMap_append]
    exact h2
theorem wp_append_X (E : Enc α) {w : World} {o : Oper} {a : Act} {K : Act → World → Prop} {Q : Exit → Act → World → Prop} (s x : Operand) (t : TypeId)
    (ho : o.op = .call { callee := .builtin .append, args := #[s, x], argTypes := #[t, t] })
    (base e bytes : TypeId) (i : TypeInfo) (z : Value) (ht : P.underlying t = some (.slice e)) (hi : P.info? e = some i) (hz : i.zero = some z) (hsize : i.size = E.size) (hby : i.bytes = bytes) (hzs : z.cells.size = E.size)
    (v xv : Value) (xs zs : List α) (hs : a.eval s = v) (hx : a.eval x = xv) (hown : OwnX E w base e v xs) (hr : RdX E w xv zs) (h63 : xs.length + zs.length ≤ maxLen) (h47 : (xs.length + zs.length) * bytes ≤ 140737488355328) (hbase : base ≤ w.heap.size)
    (h : ∀ v' w', OwnX E w' base e v' (xs ++ zs) → w.grownBy w' v.ownBlock → (v'.ownBlock = v.ownBlock ∨ v'.ownBlock = some w.heap.size) → K (a.put o.dst v') w') : o.wp P a w K Q := by
  obtain ⟨v', w', hrun, h2, h3, h4⟩ := run_append_X (P := P) E w base t o.type e bytes i z ht hi hz hsize hby hzs v xv xs zs hown hr h63 h47 hbase
  unfold Oper.wp
  simp [execOp, ho, resolve, invoke, builtin, hs, hx, hrun, Result.andThen]
  exact h v' w' h2 h3 h4
theorem wpList_append_X (E : Enc α) {w : World} {ops : Array Oper} {rest : List Oper} {o : Oper} {a : Act} {Q : Exit → Act → World → Prop} (hgd : o.guard = none) (s x : Operand) (t : TypeId)
    (ho : o.op = .call { callee := .builtin .append, args := #[s, x], argTypes := #[t, t] })
    (base e bytes : TypeId) (i : TypeInfo) (z : Value) (ht : P.underlying t = some (.slice e)) (hi : P.info? e = some i) (hz : i.zero = some z) (hsize : i.size = E.size) (hby : i.bytes = bytes) (hzs : z.cells.size = E.size)
    (v xv : Value) (xs zs : List α) (hs : a.eval s = v) (hx : a.eval x = xv) (hown : OwnX E w base e v xs) (hr : RdX E w xv zs) (h63 : xs.length + zs.length ≤ maxLen) (h47 : (xs.length + zs.length) * bytes ≤ 140737488355328) (hbase : base ≤ w.heap.size)
    (h : ∀ v' w', OwnX E w' base e v' (xs ++ zs) → w.grownBy w' v.ownBlock → (v'.ownBlock = v.ownBlock ∨ v'.ownBlock = some w.heap.size) → wpList P ops Q rest (a.put o.dst v') w') : wpList P ops Q (o :: rest) a w :=
  wpList_plain hgd fun _ hK => wp_append_X E s x t ho base e bytes i z ht hi hz hsize hby hzs v xv xs zs hs hx hown hr h63 h47 hbase fun v' w' h1 h2 h3 => hK _ _ (h v' w' h1 h2 h3)
/-- what a change of its own row leaves of the rest -/
theorem OwnX.gb {row : Option Nat} (h : OwnX E w base e v L) (hg : w.grownBy w' row) (hne : ∀ g, v.ownBlock = some g → some g ≠ row) : OwnX E w' base e v L := h.of fun g hv => hg.block g (h.lt hv).2 (hne g hv)
end
/-- Below stays where only the call's own row turned -/
theorem below_ownx {a w w' : World} {B : Nat} {row : Option Nat} (h : Below B a w) (k : w.grownBy w' row) (hr : ∀ g, row = some g → B ≤ g) (hB : B ≤ w.heap.size) : Below B a w' :=
  h.trans ⟨k.os, k.tape, k.output, k.size, fun i hi => k.block i (by omega) (by intro e; have := hr _ e.symm; omega)⟩
theorem gb_to_below {w w' : World} {base : Nat} {row : Option Nat} (k : w.grownBy w' row) (hr : ∀ g, row = some g → base ≤ g) (hB : base ≤ w.heap.size) : Below base w w' := below_ownx (Below.refl base w) k hr hB
end Go.RowKit
