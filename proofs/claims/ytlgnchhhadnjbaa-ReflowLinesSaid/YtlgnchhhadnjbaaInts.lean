/- Lists of ints: a slice that reads as a list; append onto a row of the call's own. -/
import Derived.Test.YtlgnchhhadnjbaaMem
import Derived.Maps.AppendAt
import Derived.OwnWalk
namespace Go.RowKit
/-- x reads as zs -/
def RdI (w : World) (x : Value) (zs : List Int) : Prop :=
  ∃ A c, x = .slice A zs.length c ∧ (0 < zs.length → ∃ b o, A = some ⟨b, o, none⟩ ∧ b < w.heap.size ∧ ∀ (j : Nat) (z : Int), zs[j]? = some z → w.cell? ⟨b, o + j, none⟩ = some (.int .i64 z))
theorem RdI.below {w w' : World} {x : Value} {zs : List Int} (h : RdI w x zs) (hb : Below w.heap.size w w') : RdI w' x zs := by
  obtain ⟨A, c, rfl, h⟩ := h
  refine ⟨A, c, rfl, fun hn => ?_⟩
  obtain ⟨b, o, rfl, hlt, hc⟩ := h hn
  exact ⟨b, o, rfl, Nat.lt_of_lt_of_le hlt hb.size, fun j z hz => (hb.cell (p := ⟨b, o + j, none⟩) hlt).trans (hc j z hz)⟩
/-- v is a row of ints of the call's own (or nil), from block 'base' on -/
def OwnI (w : World) (base e : Nat) (v : Value) (zs : List Int) : Prop := w.ownsRow base e 1 v zs.length (zs.map (Value.int .i64))
section
variable {w w' : World} {base e : Nat} {v : Value} {zs : List Int}
theorem OwnI.nil (w : World) (base e : Nat) : OwnI w base e (.slice none 0 0) [] := World.ownsRow_nil w base e 1
theorem OwnI.of (h : OwnI w base e v zs) (hh : ∀ g, v.ownBlock = some g → w'.heap[g]? = w.heap[g]?) : OwnI w' base e v zs := by
  unfold OwnI World.ownsRow at *
  obtain ⟨hl, h | ⟨g, cap, cur, rfl, hb, hg, r1, r2, r3, r4⟩⟩ := h
  · exact ⟨hl, .inl h⟩
  · exact ⟨hl, .inr ⟨g, cap, cur, rfl, hb, (hh g rfl).trans hg, r1, r2, r3, r4⟩⟩
theorem OwnI.lt (h : OwnI w base e v zs) {g : Nat} (hg : v.ownBlock = some g) : base ≤ g ∧ g < w.heap.size := World.ownsRow.lt h g hg
theorem OwnI.below {B : Nat} (h : OwnI w base e v zs) (hb : Below B w w') (hB : w.heap.size ≤ B) : OwnI w' base e v zs := h.of fun g hg => hb.block g (by have := (h.lt hg).2; omega)
theorem OwnI.rd (h : OwnI w base e v zs) : RdI w v zs := by
  have h' := h
  unfold OwnI World.ownsRow at h'
  obtain ⟨hl, ⟨rfl, h0⟩ | ⟨g, cap, cur, rfl, hb, hg, r1, r2, r3, r4⟩⟩ := h'
  · exact ⟨none, 0, by rw [h0], fun hn => absurd hn (by omega)⟩
  · refine ⟨_, cap, rfl, fun _ => ⟨g, 0, rfl, (Array.getElem?_eq_some_iff.1 hg).1, fun j z hz => ?_⟩⟩
    have hj : j < zs.length := (List.getElem?_eq_some_iff.1 hz).1
    rw [Nat.zero_add, World.ownsRow.cellAt h j (by omega), List.getElem?_map, hz]
    rfl
/-- a block of another type is none of its -/
theorem OwnI.ne_ {g : Nat} {t : TypeId} {cs : Array Value} (h : OwnI w base e v zs) (hB : Blk w g t cs) (hne : e ≠ t) : some g ≠ v.ownBlock := by
  intro hg
  unfold OwnI World.ownsRow at h
  obtain ⟨_, ⟨rfl, _⟩ | ⟨g', cap, cur, rfl, _, hh, _⟩⟩ := h
  · simp [Value.ownBlock] at hg
  · obtain rfl : g = g' := by simpa [Value.ownBlock] using hg
    unfold Blk at hB
    rw [hB] at hh
    injection hh with hh
    injection hh with _ ht
    exact hne ht.symm
end
/-- Below stays where only the call's own row turned -/
theorem below_own {a w w' : World} {B : Nat} {row : Option Nat} (h : Below B a w) (k : w.grownBy w' row) (hr : ∀ g, row = some g → B ≤ g) (hB : B ≤ w.heap.size) : Below B a w' :=
  h.trans ⟨k.os, k.tape, k.output, k.size, fun i hi => k.block i (by omega) (by intro e; have := hr _ e.symm; omega)⟩

theorem run_append_ints {P : Program} (w : World) (base t ty e : TypeId) (i : TypeInfo) (ht : P.underlying t = some (.slice e)) (hi : P.info? e = some i) (hz : i.zero = some (.int .i64 0)) (hsize : i.size = 1) (hby : i.bytes = 8)
    (v x : Value) (xs zs : List Int) (hown : OwnI w base e v xs) (hx : RdI w x zs) (h63 : xs.length + zs.length ≤ 65536) (hbase : base ≤ w.heap.size) :
    ∃ v' w', (Builtin.append_ #[t, t] ty #[v, x]).run P w = .ok v' w' ∧ OwnI w' base e v' (xs ++ zs) ∧ w.grownBy w' v.ownBlock ∧ (v'.ownBlock = v.ownBlock ∨ v'.ownBlock = some w.heap.size) := by
  obtain ⟨A, c, rfl, hc⟩ := hx
  rcases A with _ | ad
  · have h0 : zs = [] := by
      rcases Nat.eq_zero_or_pos zs.length with h | h
      · exact List.eq_nil_of_length_eq_zero h
      · obtain ⟨_, _, h, _⟩ := hc h
        cases h
    subst h0
    refine ⟨v, w, ?_, by simpa using hown, World.grownBy.refl w _, .inl rfl⟩
    rcases hown.2 with ⟨rfl, _⟩ | ⟨g, cap, cur, rfl, _, _, hnc, _⟩
    · simp [Builtin.append_, run_underlying ht, sizeOf, typeInfo, hi, Builtin.lenOf, Builtin.firstCells]
    · simp [Builtin.append_, run_underlying ht, sizeOf, typeInfo, hi, Builtin.lenOf, Builtin.firstCells, hnc, storeCells]
  · obtain ⟨v', w', hrun, h2, h3, _, h5⟩ := run_append_own_at (P := P) w base t ty e i _ 1 8 ht hi hz hsize hby rfl (by omega) v xs.length (xs.map (Value.int .i64)) hown ad zs.length c (zs.map (Value.int .i64)) (by simp) (fun j u hu => by
      rw [List.getElem?_map] at hu
      obtain ⟨z, hz, rfl⟩ := Option.map_eq_some_iff.1 hu
      have hj : j < zs.length := (List.getElem?_eq_some_iff.1 hz).1
      obtain ⟨b, o, e1, _, hcc⟩ := hc (by omega)
      injection e1 with e1
      subst e1
      rw [addr_add]
      exact hcc j z hz) (fun u hu => by
      obtain ⟨z, _, rfl⟩ := List.mem_map.1 hu
      rfl) (by simp only [maxLen]; omega) (by omega) hbase
    refine ⟨v', w', hrun, ?_, h3, h5⟩
    unfold OwnI
    simpa using h2
theorem wpList_append_ints {P : Program} {w : World} {ops : Array Oper} {rest : List Oper} {o : Oper} {a : Act} {Q : Exit → Act → World → Prop} (hgd : o.guard = none) (s x : Operand) (t : TypeId)
    (ho : o.op = .call { callee := .builtin .append, args := #[s, x], argTypes := #[t, t] })
    (base e : TypeId) (i : TypeInfo) (ht : P.underlying t = some (.slice e)) (hi : P.info? e = some i) (hz : i.zero = some (.int .i64 0)) (hsize : i.size = 1) (hby : i.bytes = 8)
    (v xv : Value) (xs zs : List Int) (hs : a.eval s = v) (hx : a.eval x = xv) (hown : OwnI w base e v xs) (hr : RdI w xv zs) (h63 : xs.length + zs.length ≤ 65536) (hbase : base ≤ w.heap.size)
    (h : ∀ v' w', OwnI w' base e v' (xs ++ zs) → w.grownBy w' v.ownBlock → (v'.ownBlock = v.ownBlock ∨ v'.ownBlock = some w.heap.size) → wpList P ops Q rest (a.put o.dst v') w') : wpList P ops Q (o :: rest) a w := by
  refine wpList_plain hgd fun K hK => ?_
  obtain ⟨v', w', hrun, h2, h3, h4⟩ := run_append_ints (P := P) w base t o.type e i ht hi hz hsize hby v xv xs zs hown hr h63 hbase
  unfold Oper.wp
  simp [execOp, ho, resolve, invoke, builtin, hs, hx, hrun, Result.andThen]
  exact hK _ _ (h v' w' h2 h3 h4)
end Go.RowKit
