/- Lists in memory: append onto an empty slice that came from a literal; append onto a slice of the call's own that has been cut at its head. -/
import Derived.Test.YtpnadnjcacaibaaLists
import Derived.ArgAppend
namespace Go.RowKit
section
variable {α : Type} {E : Enc α} {P : Program}
/-- what lies behind v up to its capacity may be written, and lies from block 'base' on -/
def Spr (E : Enc α) (w : World) (base : Nat) (v : Value) : Prop := ∀ b o n c, v = .slice (some ⟨b, o, none⟩) n c → base ≤ b ∧ b < w.heap.size ∧ ∀ j, j < c * E.size → (w.cell? ⟨b, o + j, none⟩).isSome = true ∧ w.frozen? ⟨b, o + j, none⟩ = false
theorem ownX_spr {w : World} {base e : Nat} {v : Value} {L : List α} (h : OwnX E w base e v L) : Spr E w base v := by
  rintro b o n c rfl
  unfold OwnX World.ownsRow at h
  obtain ⟨hl, ⟨h, _⟩ | ⟨g, cap, cur, h, hb, hg, h1, h2, h3, h4⟩⟩ := h
  · cases h
  · injection h with h5 h6 h7
    injection h5 with h5
    injection h5 with h5 h8
    subst h5 h6 h7 h8
    refine ⟨hb, (Array.getElem?_eq_some_iff.1 hg).1, fun j hj => ?_⟩
    constructor
    · rw [Nat.zero_add, cell_of_row w _ j cur e (0, 0) hg]
      simp
      omega
    · unfold World.frozen?
      simp [hg]
theorem run_append_empty (t ty e : TypeId) (i : TypeInfo) (z : Value) (bytes : Nat) (ht : P.underlying t = some (.slice e)) (hi : P.info? e = some i) (hz : i.zero = some z) (hsize : i.size = E.size) (hby : i.bytes = bytes) (hzs : z.cells.size = E.size)
    (w : World) (a : Addr) (x : Value) (L : List α) (hx : RdX E w x L) (h63 : L.length ≤ maxLen) (h47 : L.length * bytes ≤ 140737488355328) :
    ∃ v' w', (Builtin.append_ #[t, t] ty #[.slice (some a) 0 0, x]).run P w = .ok v' w' ∧ RdX E w' v' L ∧ Below w.heap.size w w' ∧ (v' = .slice (some a) 0 0 ∨ OwnX E w' w.heap.size e v' L) := by
  obtain ⟨A, c, rfl, hc, hcell⟩ := hx
  by_cases h0 : L.length = 0
  · have hL : L = [] := List.eq_nil_of_length_eq_zero h0
    subst hL
    refine ⟨.slice (some a) 0 0, w, ?_, RdX.nil _ _ _, Below.refl _ _, .inl rfl⟩
    cases A <;> simp [Builtin.append_, run_underlying ht, sizeOf, typeInfo, hi, Builtin.lenOf, Builtin.firstCells, storeCells, loadCells, loadCellsFrom]
  · obtain ⟨b, o, rfl, hb, hat⟩ := hcell (by omega)
    obtain ⟨v', w', hrun, hown, hgb⟩ := run_append_arg_grows (P := P) w t ty e i z E.size bytes ht hi hz hsize hby hzs E.pos a 0 0 [] (by simp) (fun j u h => by simp at h) ⟨b, o, none⟩ L.length c (L.flatMap E.cells) (E.length_flat L) (fun j u hu => by
      rw [addr_add]
      have hj : j < L.length * E.size := by rw [← E.length_flat]; exact (List.getElem?_eq_some_iff.1 hu).1
      have hk : j / E.size < L.length := Nat.div_lt_of_lt_mul (by rw [Nat.mul_comm]; exact hj)
      have hm : j % E.size < E.size := Nat.mod_lt _ E.pos
      have hjj : j / E.size * E.size + j % E.size = j := Nat.div_add_mod' j E.size
      have hg := E.get_flat L (j / E.size) (j % E.size) L[j / E.size] (List.getElem?_eq_getElem hk) hm
      rw [hjj] at hg
      have := hat (j / E.size) _ (List.getElem?_eq_getElem hk) (j % E.size) u (by rw [← hg]; exact hu)
      rw [Nat.add_assoc, hjj] at this
      exact this) (by omega) (by simpa using h63) (by simpa using h47)
    rw [List.nil_append, Nat.zero_add] at hown
    have hO : OwnX E w' w.heap.size e v' L := hown
    exact ⟨v', w', hrun, hO.rd, ⟨hgb.os, hgb.tape, hgb.output, hgb.size, fun k hk => hgb.block k hk (by simp)⟩, .inr hO⟩
theorem wp_append_empty (E : Enc α) {w : World} {o : Oper} {a : Act} {K : Act → World → Prop} {Q : Exit → Act → World → Prop} (s x : Operand) (t : TypeId)
    (ho : o.op = .call { callee := .builtin .append, args := #[s, x], argTypes := #[t, t] })
    (e bytes : TypeId) (i : TypeInfo) (z : Value) (ht : P.underlying t = some (.slice e)) (hi : P.info? e = some i) (hz : i.zero = some z) (hsize : i.size = E.size) (hby : i.bytes = bytes) (hzs : z.cells.size = E.size)
    (ad : Addr) (xv : Value) (L : List α) (hs : a.eval s = .slice (some ad) 0 0) (hx : a.eval x = xv) (hr : RdX E w xv L) (h63 : L.length ≤ maxLen) (h47 : L.length * bytes ≤ 140737488355328)
    (h : ∀ v' w', RdX E w' v' L → Below w.heap.size w w' → (v' = .slice (some ad) 0 0 ∨ OwnX E w' w.heap.size e v' L) → K (a.put o.dst v') w') : o.wp P a w K Q := by
  obtain ⟨v', w', hrun, h2, h3, h4⟩ := run_append_empty (P := P) (E := E) t o.type e i z bytes ht hi hz hsize hby hzs w ad xv L hr h63 h47
  unfold Oper.wp
  simp [execOp, ho, resolve, invoke, builtin, hs, hx, hrun, Result.andThen]
  exact h v' w' h2 h3 h4
theorem wpList_append_empty (E : Enc α) {w : World} {ops : Array Oper} {rest : List Oper} {o : Oper} {a : Act} {Q : Exit → Act → World → Prop} (hgd : o.guard = none) (s x : Operand) (t : TypeId)
    (ho : o.op = .call { callee := .builtin .append, args := #[s, x], argTypes := #[t, t] })
    (e bytes : TypeId) (i : TypeInfo) (z : Value) (ht : P.underlying t = some (.slice e)) (hi : P.info? e = some i) (hz : i.zero = some z) (hsize : i.size = E.size) (hby : i.bytes = bytes) (hzs : z.cells.size = E.size)
    (ad : Addr) (xv : Value) (L : List α) (hs : a.eval s = .slice (some ad) 0 0) (hx : a.eval x = xv) (hr : RdX E w xv L) (h63 : L.length ≤ maxLen) (h47 : L.length * bytes ≤ 140737488355328)
    (h : ∀ v' w', RdX E w' v' L → Below w.heap.size w w' → (v' = .slice (some ad) 0 0 ∨ OwnX E w' w.heap.size e v' L) → wpList P ops Q rest (a.put o.dst v') w') : wpList P ops Q (o :: rest) a w :=
  wpList_plain hgd fun _ hK => wp_append_empty E s x t ho e bytes i z ht hi hz hsize hby hzs ad xv L hs hx hr h63 h47 fun v' w' h1 h2 h3 => hK _ _ (h v' w' h1 h2 h3)
theorem RdX.setNe {w : World} {v : Value} {L : List α} (h : RdX E w v L) {g i : Nat} {u : Value} (hne : ∀ b o n c, v = .slice (some ⟨b, o, none⟩) n c → b ≠ g) : RdX E (w.setCell ⟨g, i, none⟩ u) v L := by
  obtain ⟨A, c, rfl, hc, hcell⟩ := h
  refine ⟨A, c, rfl, hc, fun hn => ?_⟩
  obtain ⟨b, o, rfl, hb, hat⟩ := hcell hn
  have hb' := hne b o _ _ rfl
  refine ⟨b, o, rfl, by simpa [World.setCell] using hb, fun j a ha i' u' hu => ?_⟩
  have := hat j a ha i' u' hu
  unfold World.cell? at this ⊢
  rw [Below.heap_setCell _ _ _ _ (fun e => hb' e)]
  exact this
/-- where what an append onto an empty slice gives lies -/
theorem far_of {w : World} {e B : Nat} {ad : Addr} {v : Value} {L : List α} (h : v = .slice (some ad) 0 0 ∨ OwnX E w B e v L) {g : Nat} (hB : g < B) (ha : g < ad.block) : ∀ b o n c, v = .slice (some ⟨b, o, none⟩) n c → b ≠ g := by
  rintro b o n c rfl
  rcases h with h | h
  · injection h with h _ _
    injection h with h
    subst h
    simp only at ha
    omega
  · have := (h.lt (g := b) (by rcases h.2 with ⟨h, _⟩ | ⟨g', cap, cur, h, _⟩ <;> simp at h; simp [Value.ownBlock, h])).1
    omega
theorem below_setCells {B b : Nat} (hb : B ≤ b) : ∀ (vs : List Value) (o : Nat) {a w : World}, Below B a w → Below B a (w.setCells b o vs)
  | [], _, _, _, h => h
  | v :: vs, o, _, _, h => below_setCells hb vs (o + 1) (h.setCell hb v)
theorem some_setCells (b : Nat) : ∀ (vs : List Value) (o : Nat) (w : World) (x : Addr), (w.cell? x).isSome = true → ((w.setCells b o vs).cell? x).isSome = true
  | [], _, _, _, h => h
  | v :: vs, o, w, x, h => some_setCells b vs (o + 1) (w.setCell ⟨b, o, none⟩ v) x (by
      by_cases e : x = ⟨b, o, none⟩
      · subst e
        obtain ⟨u, hu⟩ := Option.isSome_iff_exists.1 h
        rw [World.cell?_setCell_same _ _ _ hu]
        rfl
      · rw [World.cell?_setCell_other _ _ _ _ (fun e' => e e'.symm)]
        exact h)
theorem size_setCells' (b : Nat) : ∀ (vs : List Value) (o : Nat) (w : World), (w.setCells b o vs).heap.size = w.heap.size
  | [], _, _ => rfl
  | v :: vs, o, w => (size_setCells' b vs (o + 1) (w.setCell ⟨b, o, none⟩ v)).trans (by simp [World.setCell])
/-- v is a part of a row of the call's own, from block 'base' on, that is cut at its head: it may be written up to its capacity -/
def OwnO (E : Enc α) (w : World) (base : Nat) (v : Value) (L : List α) : Prop :=
  ∃ b o c, v = .slice (some ⟨b, o, none⟩) L.length c ∧ L.length ≤ c ∧ base ≤ b ∧ b < w.heap.size ∧ (∀ j, j < c * E.size → (w.cell? ⟨b, o + j, none⟩).isSome = true ∧ w.frozen? ⟨b, o + j, none⟩ = false) ∧
    ∀ (j : Nat) (u : Value), (L.flatMap E.cells)[j]? = some u → w.cell? ⟨b, o + j, none⟩ = some u
theorem OwnO.rd {w : World} {base : Nat} {v : Value} {L : List α} (h : OwnO E w base v L) : RdX E w v L := by
  obtain ⟨b, o, c, rfl, hc, _, hb, _, hat⟩ := h
  refine ⟨_, c, rfl, hc, fun _ => ⟨b, o, rfl, hb, fun j a ha i u hu => ?_⟩⟩
  have hi : i < E.size := by rw [← E.len a]; exact (List.getElem?_eq_some_iff.1 hu).1
  rw [Nat.add_assoc]
  exact hat _ u (by rw [E.get_flat L j i a ha hi]; exact hu)
theorem OwnO.below {w w' : World} {base : Nat} {v : Value} {L : List α} (h : OwnO E w base v L) (hb : Below w.heap.size w w') : OwnO E w' base v L := by
  obtain ⟨b, o, c, rfl, hc, h1, h2, h3, h4⟩ := h
  exact ⟨b, o, c, rfl, hc, h1, Nat.lt_of_lt_of_le h2 hb.size, fun j hj => ⟨by rw [hb.cell (p := ⟨b, o + j, none⟩) h2]; exact (h3 j hj).1, by rw [hb.frozen (p := ⟨b, o + j, none⟩) h2]; exact (h3 j hj).2⟩, fun j u hu => (hb.cell (p := ⟨b, o + j, none⟩) h2).trans (h4 j u hu)⟩
theorem ownO_of {w : World} {base B e : Nat} {v : Value} {L : List α} (h : OwnX E w B e v L) (hB : base ≤ B) (hv : v.ownBlock ≠ none) : OwnO E w base v L := by
  have hs := ownX_spr h
  have hrd := h.rd
  obtain ⟨A, c, rfl, hc, hcell⟩ := hrd
  rcases h.2 with ⟨h1, _⟩ | ⟨g, cap, cur, h1, h2, h3, _⟩
  · rw [h1] at hv
    exact absurd rfl hv
  · injection h1 with h4 h5 h6
    subst h4 h6
    obtain ⟨s1, s2, s3⟩ := hs g 0 _ _ rfl
    refine ⟨g, 0, c, rfl, hc, by omega, s2, s3, fun j u hu => ?_⟩
    have hj : j < L.length * E.size := by rw [← E.length_flat]; exact (List.getElem?_eq_some_iff.1 hu).1
    rw [Nat.zero_add, World.ownsRow.cellAt h _ hj, hu]
/-- one more behind the last -/
theorem run_append_O (t ty e : TypeId) (i : TypeInfo) (z : Value) (bytes : Nat) (ht : P.underlying t = some (.slice e)) (hi : P.info? e = some i) (hz : i.zero = some z) (hsize : i.size = E.size) (hby : i.bytes = bytes) (hzs : z.cells.size = E.size)
    (w : World) (base : Nat) (v x : Value) (L : List α) (a : α) (hv : OwnO E w base v L) (hx : RdX E w x [a]) (h63 : L.length + 1 ≤ maxLen) (h47 : (L.length + 1) * bytes ≤ 140737488355328) (hbase : base ≤ w.heap.size) :
    ∃ v' w', (Builtin.append_ #[t, t] ty #[v, x]).run P w = .ok v' w' ∧ OwnO E w' base v' (L ++ [a]) ∧ Below base w w' := by
  obtain ⟨b, o, c, rfl, hc, hb1, hb2, hsp, hat⟩ := hv
  obtain ⟨A, c', rfl, hc', hcell⟩ := hx
  obtain ⟨b', o', rfl, hb', hat'⟩ := hcell (by simp)
  have hnews : ∀ j u, (E.cells a)[j]? = some u → w.cell? ((⟨b', o', none⟩ : Addr).add j) = some u := fun j u hu => by
    rw [addr_add]
    have := hat' 0 a rfl j u hu
    rwa [Nat.zero_mul, Nat.add_zero] at this
  have hl : (E.cells a).length = 1 * i.size := by rw [E.len, hsize, Nat.one_mul]
  have hfl : (L ++ [a]).flatMap E.cells = L.flatMap E.cells ++ E.cells a := by simp
  have hlf := E.length_flat L
  by_cases hr : L.length + 1 ≤ c
  · have hm : L.length * E.size + E.size ≤ c * E.size := by rw [← Nat.succ_mul]; exact Nat.mul_le_mul_right _ hr
    have hin : ∀ j, j < (E.cells a).length → (w.cell? ⟨b, o + L.length * i.size + j, none⟩).isSome = true ∧ w.frozen? ⟨b, o + L.length * i.size + j, none⟩ = false := fun j hj => by
      rw [E.len] at hj
      rw [hsize, Nat.add_assoc]
      exact hsp _ (by omega)
    have hrun := run_append_room_cells (P := P) w t ty e i ht hi b o L.length c ⟨b', o', none⟩ 1 c' (E.cells a) hl hnews (fun u hu => E.one a u hu) hr (fun j hj => (hin j hj).1) (fun j hj => (hin j hj).2)
    refine ⟨_, _, hrun, ⟨b, o, c, by simp, by simpa using hr, hb1, by rw [size_setCells']; exact hb2, fun j hj => ⟨some_setCells _ _ _ _ _ (hsp j hj).1, by rw [World.frozen?_setCells]; exact (hsp j hj).2⟩, fun j u hu => ?_⟩, below_setCells hb1 _ _ (Below.refl _ _)⟩
    rw [hfl] at hu
    by_cases hj : j < L.length * E.size
    · rw [List.getElem?_append_left (by omega)] at hu
      rw [World.cell?_setCells_out b _ _ _ _ (fun _ _ => .inl (by simp only; rw [hsize]; omega))]
      exact hat j u hu
    · rw [List.getElem?_append_right (by omega), hlf] at hu
      have hk := (List.getElem?_eq_some_iff.1 hu).1
      have := World.cell?_setCells_in b (E.cells a) (o + L.length * i.size) w (fun j hj => (hin j hj).1) (j - L.length * E.size) hk
      rw [hsize, show o + L.length * E.size + (j - L.length * E.size) = o + j by omega] at this
      rw [hsize, this]
      exact (List.getElem?_eq_some_iff.1 hu).2 ▸ rfl
  · obtain ⟨v', w', hrun, hown, hgb⟩ := run_append_arg_grows (P := P) w t ty e i z E.size bytes ht hi hz hsize hby hzs E.pos ⟨b, o, none⟩ L.length c (L.flatMap E.cells) hlf (fun j u hu => by rw [addr_add]; exact hat j u hu) ⟨b', o', none⟩ 1 c' (E.cells a) (by rw [E.len, Nat.one_mul]) hnews (by omega) h63 h47
    have hO : OwnX E w' w.heap.size e v' (L ++ [a]) := by
      unfold OwnX
      rw [hfl, List.length_append]
      exact hown
    refine ⟨v', w', hrun, ownO_of hO hbase (fun e0 => ?_), ⟨hgb.os, hgb.tape, hgb.output, hgb.size, fun k hk => hgb.block k (by omega) (by simp)⟩⟩
    rcases hO.2 with ⟨_, h0⟩ | ⟨g, cap, cur, h1, _⟩
    · simp at h0
    · rw [h1] at e0
      cases e0
theorem wpList_append_O (E : Enc α) {w : World} {ops : Array Oper} {rest : List Oper} {o : Oper} {a : Act} {Q : Exit → Act → World → Prop} (hgd : o.guard = none) (s x : Operand) (t : TypeId)
    (ho : o.op = .call { callee := .builtin .append, args := #[s, x], argTypes := #[t, t] })
    (base e bytes : TypeId) (i : TypeInfo) (z : Value) (ht : P.underlying t = some (.slice e)) (hi : P.info? e = some i) (hz : i.zero = some z) (hsize : i.size = E.size) (hby : i.bytes = bytes) (hzs : z.cells.size = E.size)
    (v xv : Value) (L : List α) (y : α) (hs : a.eval s = v) (hx : a.eval x = xv) (hv : OwnO E w base v L) (hr : RdX E w xv [y]) (h63 : L.length + 1 ≤ maxLen) (h47 : (L.length + 1) * bytes ≤ 140737488355328) (hbase : base ≤ w.heap.size)
    (h : ∀ v' w', OwnO E w' base v' (L ++ [y]) → Below base w w' → w.heap.size ≤ w'.heap.size → wpList P ops Q rest (a.put o.dst v') w') : wpList P ops Q (o :: rest) a w := by
  refine wpList_plain hgd fun K hK => ?_
  obtain ⟨v', w', hrun, h2, h3⟩ := run_append_O (P := P) (E := E) t o.type e i z bytes ht hi hz hsize hby hzs w base v xv L y hv hr h63 h47 hbase
  unfold Oper.wp
  simp [execOp, ho, resolve, invoke, builtin, hs, hx, hrun, Result.andThen]
  exact hK _ _ (h v' w' h2 h3 h3.size)
/-- the first is cut off -/
theorem OwnO.tail {w : World} {base b o n c : Nat} {x : α} {L : List α} (h : OwnO E w base (.slice (some ⟨b, o, none⟩) n c) (x :: L)) (A : Option Addr) (hA : A = if c = 1 then some ⟨b, o, none⟩ else some ⟨b, o + E.size, none⟩) : OwnO E w base (.slice A (n - 1) (c - 1)) L := by
  obtain ⟨b', o', c', e, hc, h1, h2, h3, h4⟩ := h
  injection e with e1 e2 e3
  injection e1 with e1
  injection e1 with e1 e4
  subst e1 e2 e3 e4 hA
  rw [List.length_cons] at hc
  have hflat : (x :: L).flatMap E.cells = E.cells x ++ L.flatMap E.cells := by simp
  by_cases hc1 : c = 1
  · have hL : L = [] := List.eq_nil_of_length_eq_zero (by omega)
    subst hL hc1
    exact ⟨b, o, 0, by simp, by simp, h1, h2, fun j hj => by omega, fun j u hu => by simp at hu⟩
  · rw [if_neg hc1]
    refine ⟨b, o + E.size, c - 1, by simp, by omega, h1, h2, fun j hj => ?_, fun j u hu => ?_⟩
    · have hm : (c - 1) * E.size + E.size = c * E.size := by rw [← Nat.succ_mul]; congr 1; omega
      rw [Nat.add_assoc]
      exact h3 _ (by omega)
    · rw [Nat.add_assoc]
      refine h4 _ u ?_
      rw [hflat, List.getElem?_append_right (by rw [E.len]; omega), E.len, Nat.add_sub_cancel_left]
      exact hu
end
end Go.RowKit
