/- Joined: Ints TabI TabA TabB TabC TabD. -/
import Derived.Test.YtlchffkabpfjpaaGreatGA
import Derived.Maps.AppendAt
import Derived.OwnWalk
import Derived.Deep.RegionLaw
import Derived.Deep.CutRange
section
/- Lists of ints: a slice that reads as a list; append onto a row of the call's own. -/
namespace Go.RowKit
/-- x reads as zs -/
def RdI (w : World) (x : Value) (zs : List Int) : Prop :=
  ∃ A c, x = .slice A zs.length c ∧ (0 < zs.length → ∃ b o, A = some ⟨b, o, none⟩ ∧ b < w.heap.size ∧ ∀ (j : Nat) (z : Int), zs[j]? = some z → w.cell? ⟨b, o + j, none⟩ = some (.int .i64 z))
theorem RdI.below {w w' : World} {x : Value} {zs : List Int} (h : RdI w x zs) (hb : Below w.heap.size w w') : RdI w' x zs := by
  obtain ⟨A, c, rfl, h⟩ := h
  refine ⟨A, c, rfl, fun hn => ?_⟩
  obtain ⟨b, o, rfl, hlt, hc⟩ := h hn
  exact ⟨b, o, rfl, Nat.lt_of_lt_of_le hlt hb.size, fun j z hz => (hb.cell (p := ⟨b, o + j, none⟩) hlt).trans (hc j z hz)⟩
/-- v is a row of ints of the call's own (or nil), from block 'base' on -/
def OwnI (w : World) (base e : Nat) (v : Value) (zs : List Int) : Prop := w.ownsRow base e 1 v zs.length (zs.map (Value.int .i64))
section
variable {w w' : World} {base e : Nat} {v : Value} {zs : List Int}
theorem OwnI.nil (w : World) (base e : Nat) : OwnI w base e (.slice none 0 0) [] := World.ownsRow_nil w base e 1
theorem OwnI.of (h : OwnI w base e v zs) (hh : ∀ g, v.ownBlock = some g → w'.heap[g]? = w.heap[g]?) : OwnI w' base e v zs := by
  unfold OwnI World.ownsRow at *
  obtain ⟨hl, h | ⟨g, cap, cur, rfl, hb, hg, r1, r2, r3, r4⟩⟩ := h
  · exact ⟨hl, .inl h⟩
  · exact ⟨hl, .inr ⟨g, cap, cur, rfl, hb, (hh g rfl).trans hg, r1, r2, r3, r4⟩⟩
theorem OwnI.lt (h : OwnI w base e v zs) {g : Nat} (hg : v.ownBlock = some g) : base ≤ g ∧ g < w.heap.size := World.ownsRow.lt h g hg
theorem OwnI.below {B : Nat} (h : OwnI w base e v zs) (hb : Below B w w') (hB : w.heap.size ≤ B) : OwnI w' base e v zs := h.of fun g hg => hb.block g (by have := (h.lt hg).2; omega)
theorem OwnI.rd (h : OwnI w base e v zs) : RdI w v zs := by
  have h' := h
  unfold OwnI World.ownsRow at h'
  obtain ⟨hl, ⟨rfl, h0⟩ | ⟨g, cap, cur, rfl, hb, hg, r1, r2, r3, r4⟩⟩ := h'
  · exact ⟨none, 0, by rw [h0], fun hn => absurd hn (by omega)⟩
  · refine ⟨_, cap, rfl, fun _ => ⟨g, 0, rfl, (Array.getElem?_eq_some_iff.1 hg).1, fun j z hz => ?_⟩⟩
    have hj : j < zs.length := (List.getElem?_eq_some_iff.1 hz).1
    rw [Nat.zero_add, World.ownsRow.cellAt h j (by omega), List.getElem?_map, hz]
    rfl
theorem ownI_slice (h : OwnI w base e v zs) : ∀ b o n c, v = .slice (some ⟨b, o, none⟩) n c → base ≤ b := by
  intro b o n c e'
  unfold OwnI World.ownsRow at h
  obtain ⟨_, ⟨h1, _⟩ | ⟨g, cap, cur, h1, hb, _⟩⟩ := h
  · rw [h1] at e'
    cases e'
  · rw [h1] at e'
    injection e' with e'
    injection e' with e'
    injection e' with e'
    exact e' ▸ hb
/-- a block of another type is none of its -/
theorem OwnI.ne_ {g : Nat} {t : TypeId} {cs : Array Value} (h : OwnI w base e v zs) (hB : Blk w g t cs) (hne : e ≠ t) : some g ≠ v.ownBlock := by
  intro hg
  unfold OwnI World.ownsRow at h
  obtain ⟨_, ⟨rfl, _⟩ | ⟨g', cap, cur, rfl, _, hh, _⟩⟩ := h
  · simp [Value.ownBlock] at hg
  · obtain rfl : g = g' := by simpa [Value.ownBlock] using hg
    unfold Blk at hB
    rw [hB] at hh
    injection hh with hh
    injection hh with _ ht
    exact hne ht.symm
end
/-- Below stays where only the call's own row turned -/
theorem below_own {a w w' : World} {B : Nat} {row : Option Nat} (h : Below B a w) (k : w.grownBy w' row) (hr : ∀ g, row = some g → B ≤ g) (hB : B ≤ w.heap.size) : Below B a w' :=
  h.trans ⟨k.os, k.tape, k.output, k.size, fun i hi => k.block i (by omega) (by intro e; have := hr _ e.symm; omega)⟩

theorem run_append_ints {P : Program} (w : World) (base t ty e : TypeId) (i : TypeInfo) (ht : P.underlying t = some (.slice e)) (hi : P.info? e = some i) (hz : i.zero = some (.int .i64 0)) (hsize : i.size = 1) (hby : i.bytes = 8)
    (v x : Value) (xs zs : List Int) (hown : OwnI w base e v xs) (hx : RdI w x zs) (h63 : xs.length + zs.length ≤ 65536) (hbase : base ≤ w.heap.size) :
    ∃ v' w', (Builtin.append_ #[t, t] ty #[v, x]).run P w = .ok v' w' ∧ OwnI w' base e v' (xs ++ zs) ∧ w.grownBy w' v.ownBlock ∧ (v'.ownBlock = v.ownBlock ∨ v'.ownBlock = some w.heap.size) := by
  obtain ⟨A, c, rfl, hc⟩ := hx
  rcases A with _ | ad
  · have h0 : zs = [] := by
      rcases Nat.eq_zero_or_pos zs.length with h | h
      · exact List.eq_nil_of_length_eq_zero h
      · obtain ⟨_, _, h, _⟩ := hc h
        cases h
    subst h0
    refine ⟨v, w, ?_, by simpa using hown, World.grownBy.refl w _, .inl rfl⟩
    rcases hown.2 with ⟨rfl, _⟩ | ⟨g, cap, cur, rfl, _, _, hnc, _⟩
    · simp [Builtin.append_, run_underlying ht, sizeOf, typeInfo, hi, Builtin.lenOf, Builtin.firstCells]
    · simp [Builtin.append_, run_underlying ht, sizeOf, typeInfo, hi, Builtin.lenOf, Builtin.firstCells, hnc, storeCells]
  · obtain ⟨v', w', hrun, h2, h3, _, h5⟩ := run_append_own_at (P := P) w base t ty e i _ 1 8 ht hi hz hsize hby rfl (by omega) v xs.length (xs.map (Value.int .i64)) hown ad zs.length c (zs.map (Value.int .i64)) (by simp) (fun j u hu => by
      rw [List.getElem?_map] at hu
      obtain ⟨z, hz, rfl⟩ := Option.map_eq_some_iff.1 hu
      have hj : j < zs.length := (List.getElem?_eq_some_iff.1 hz).1
      obtain ⟨b, o, e1, _, hcc⟩ := hc (by omega)
      injection e1 with e1
      subst e1
      rw [addr_add]
      exact hcc j z hz) (fun u hu => by
      obtain ⟨z, _, rfl⟩ := List.mem_map.1 hu
      rfl) (by simp only [maxLen]; omega) (by omega) hbase
    refine ⟨v', w', hrun, ?_, h3, h5⟩
    unfold OwnI
    simpa using h2
theorem wpList_append_ints {P : Program} {w : World} {ops : Array Oper} {rest : List Oper} {o : Oper} {a : Act} {Q : Exit → Act → World → Prop} (hgd : o.guard = none) (s x : Operand) (t : TypeId)
    (ho : o.op = .call { callee := .builtin .append, args := #[s, x], argTypes := #[t, t] })
    (base e : TypeId) (i : TypeInfo) (ht : P.underlying t = some (.slice e)) (hi : P.info? e = some i) (hz : i.zero = some (.int .i64 0)) (hsize : i.size = 1) (hby : i.bytes = 8)
    (v xv : Value) (xs zs : List Int) (hs : a.eval s = v) (hx : a.eval x = xv) (hown : OwnI w base e v xs) (hr : RdI w xv zs) (h63 : xs.length + zs.length ≤ 65536) (hbase : base ≤ w.heap.size)
    (h : ∀ v' w', OwnI w' base e v' (xs ++ zs) → w.grownBy w' v.ownBlock → (v'.ownBlock = v.ownBlock ∨ v'.ownBlock = some w.heap.size) → wpList P ops Q rest (a.put o.dst v') w') : wpList P ops Q (o :: rest) a w := by
  refine wpList_plain hgd fun K hK => ?_
  obtain ⟨v', w', hrun, h2, h3, h4⟩ := run_append_ints (P := P) w base t o.type e i ht hi hz hsize hby v xv xs zs hown hr h63 hbase
  unfold Oper.wp
  simp [execOp, ho, resolve, invoke, builtin, hs, hx, hrun, Result.andThen]
  exact hK _ _ (h v' w' h2 h3 h4)
end Go.RowKit
end
section
/- Tab stops: rows of ints. -/
namespace Go.Proofs.YtlchffkabpfjpaaGreat.Tab
open Go.RowKit
theorem ownI_alloc {w : World} {base e : Nat} {v : Value} {zs : List Int} (h : OwnI w base e v zs) (o : Obj) : OwnI (w.alloc o) base e v zs := h.below ((Below.refl w.heap.size w).alloc (Nat.le_refl _) o) (Nat.le_refl _)
theorem rdI_one (w : World) (b : Nat) (z : Int) (t : TypeId) (h : b = w.heap.size) : RdI (w.alloc (.cells #[.int .i64 z] t)) (.slice (some ⟨b, 0, none⟩) 1 1) [z] := by
  subst h
  refine ⟨_, _, rfl, fun _ => ⟨_, _, rfl, by simp, fun j u hu => ?_⟩⟩
  match j, hu with
  | 0, hu => simp at hu; subst hu; exact (Blk.new w t _).cell 0
theorem int_info : (Tryz.prog.info? 3).map (fun i => (i.zero, i.size, i.bytes)) = some (some (.int .i64 0), 1, 8) := by kernel_rfl
theorem info_parts {i : Option TypeInfo} {z : Value} {a b : Nat} (h : i.map (fun i => (i.zero, i.size, i.bytes)) = some (some z, a, b)) : ∃ j, i = some j ∧ j.zero = some z ∧ j.size = a ∧ j.bytes = b := by
  obtain ⟨j, rfl, hj⟩ := Option.map_eq_some_iff.1 h
  simp only [Prod.mk.injEq] at hj
  exact ⟨j, rfl, hj⟩
end Go.Proofs.YtlchffkabpfjpaaGreat.Tab
end
section
/- Tab stops: width, New, Sane, the seeks of Next and Prev. -/
namespace Go.Proofs.YtlchffkabpfjpaaGreat.Tab
open Go.RowKit
/-- k numbers from a on, 8 apart -/
def eights (a : Int) (k : Nat) : List Int := (List.range k).map (fun i => a + 8 * ((i : Nat) : Int))
theorem eights_len (a : Int) (k : Nat) : (eights a k).length = k := by simp [eights]
theorem eights_succ (a : Int) (k : Nat) : eights a (k + 1) = eights a k ++ [a + 8 * (k : Int)] := by simp [eights, List.range_succ]
/-- each greater than the one ahead, the first than p, all less than W -/
def okL (p W : Int) : List Int → Bool
  | [] => true
  | x :: l => decide (p < x ∧ x < W) && okL x W l
def tsaneB (W : Int) (zs : List Int) : Bool := decide (1 ≤ W ∧ W ≤ 4096) && okL (-1) W zs
theorem eint {a b : Int} (h : a = b) : Ending.returned (.int .i64 a) = .returned (.int .i64 b) := by rw [h]

theorem Blk.setOther {w : World} {g : Nat} {t : TypeId} {cs : Array Value} (h : Blk w g t cs) (p : Addr) (u : Value) (hp : g ≠ p.block) : Blk (w.setCell p u) g t cs := (Below.heap_setCell w p u g (fun e => hp e)).trans h
theorem OwnI.setOther {w : World} {base e g i : Nat} {v : Value} {zs : List Int} {t : TypeId} {cs : Array Value} {u : Value} (h : OwnI w base e v zs) (hB : Blk w g t cs) (hne : e ≠ t) : OwnI (w.setCell ⟨g, i, none⟩ u) base e v zs :=
  h.of fun g' hg' => Below.heap_setCell w ⟨g, i, none⟩ u g' (fun e' => h.ne_ hB hne (by rw [hg']; exact congrArg some e'.symm))
theorem own_push {a wr w3 : World} {B base e : Nat} {x : Value} {zs : List Int} (hb : Below B a wr) (hB : B ≤ base) (hx : OwnI wr base e x zs) (o : Obj) (hgb : (wr.alloc o).grownBy w3 x.ownBlock) (hl : base ≤ wr.heap.size) :
    base ≤ w3.heap.size ∧ Below B a w3 ∧ ∀ g t cs, Blk wr g t cs → e ≠ t → Blk w3 g t cs :=
  ⟨(by have := hgb.size; rw [World.size_alloc] at this; omega), below_own (hb.alloc (by omega) o) hgb (fun g hg => by have := (hx.lt hg).1; omega) (by rw [World.size_alloc]; omega), fun g t cs h hne => (h.alloc o).gb hgb ((ownI_alloc hx o).ne_ (h.alloc o) hne)⟩

theorem width_c (v : Int) (w : World) : Calls Tryz.prog 67 #[.int .i64 v] w fun e w' => e = .returned (.int .i64 (max 1 (min v 4096))) ∧ w = w' := by
  go_enter Tryz.func67, Tryz.ntmps67
  go_wp2
  all_goals (go_ret; refine ⟨eint ?_, rfl⟩)
  all_goals omega
set_option maxRecDepth 100000 in
set_option maxHeartbeats 2000000 in
theorem new_o (v W : Int) (w : World) (hW : max 1 (min v 4096) = W) : Calls Tryz.prog 32 #[.int .i64 v] w fun e w' =>
    ∃ x k, e = .returned (.agg #[x, .int .i64 W]) ∧ Below w.heap.size w w' ∧ RdI w' x (eights 8 k) ∧ W ≤ 8 + 8 * (k : Int) ∧ (k = 0 ∨ 8 * (k : Int) < W) ∧ ∀ b o n c, x = .slice (some ⟨b, o, none⟩) n c → w.heap.size + 2 ≤ b := by
  obtain ⟨i3, hi3, hz3, hs3, hb3⟩ := info_parts int_info
  have HI3 := Lib.hid hi3
  have HZ3 := Lib.hid hz3
  have HS3 := Lib.hid hs3
  have HB3 := Lib.hid hb3
  clear hi3 hz3 hs3 hb3
  have hW1 : 1 ≤ W ∧ W ≤ 4096 := by omega
  go_enter Tryz.func32, Tryz.ntmps32
  go_upto_region 3 with (go_at_call 67; refine (width_c _ _).mono ?_; rintro e w1 ⟨rfl, rfl⟩)
  try rw [hW]
  clear hW
  generalize hw0 : World.alloc _ _ = w0
  have hb0 : Below w.heap.size w w0 := by rw [← hw0]; exact bcAll
  have hR0 : Blk w0 w.heap.size 51 #[.slice none 0 0, .int .i64 0] := by rw [← hw0]; exact Blk.alloc (Blk.new _ _ _) _
  have hB0 : Blk w0 (w.heap.size + 1) 51 #[.slice none 0 0, .int .i64 W] := by rw [← hw0]; exact Blk.new_at (by simp)
  have hs0 : w0.heap.size = w.heap.size + 2 := by rw [← hw0]; simp
  clear hw0
  go_wp2_with fail
  go_loopw [4] (fun i wz => ∃ (k : Nat) (x : Value), i = .int .i64 (8 + 8 * (k : Int)) ∧ Below w.heap.size w wz ∧ Blk wz w.heap.size 51 #[.slice none 0 0, .int .i64 0] ∧ Blk wz (w.heap.size + 1) 51 #[x, .int .i64 W] ∧ OwnI wz (w.heap.size + 2) 3 x (eights 8 k) ∧ (k = 0 ∨ 8 * (k : Int) < W) ∧ w.heap.size + 2 ≤ wz.heap.size) (fun i _ => 5000 - (intOf i).toNat)
  case atStart => exact ⟨0, _, rfl, hb0, hR0, hB0, OwnI.nil _ _ _, .inl rfl, by omega⟩
  case round =>
    obtain ⟨k, x, rfl, hb, hR, hB, hx, hk, hz⟩ := hrel
    obtain ⟨r0, r1, rf, rl⟩ := hB.facts2
    obtain ⟨Ax, cx, rfl, -⟩ := id hx.rd
    by_cases hlt : 8 + 8 * (k : Int) < W
    · have hs := hb.size
      have HLA : Hid ((eights 8 k).length + [8 + 8 * (k : Int)].length ≤ 65536) := by show _ ≤ _; rw [eights_len]; simp only [List.length_cons, List.length_nil]; omega
      have HLE : Hid (w.heap.size + 2 ≤ wr.heap.size) := by show _ ≤ _; omega
      have hne : 3 ≠ 51 := by decide
      have HLD : Hid (w.heap.size + 2 ≤ (wr.alloc (.cells #[.int .i64 (8 + 8 * (k : Int))] 3)).heap.size) := by show _ ≤ _; rw [World.size_alloc]; omega
      go_wp2_with (at_builtin; go_loud (refine wpList_append_ints rfl _ _ _ rfl (w.heap.size + 2) 3 i3 rfl HI3.out HZ3.out HS3.out HB3.out _ _ (eights 8 k) [8 + 8 * (k : Int)] rfl rfl (ownI_alloc hx _) (rdI_one _ _ _ _ (by simp)) HLA.out HLD.out ?_; intro v1 w3 hv1 hgb hor; rw [← eights_succ] at hv1; obtain ⟨hz3, hb3, hk3⟩ := own_push hb (Nat.le_add_right _ _) hx _ hgb HLE.out; have hB3 := hk3 _ _ _ hB hne; have hR3 := hk3 _ _ _ hR hne; clear r0 r1 rf rl hgb hor; obtain ⟨A1, c1, rfl, -⟩ := id hv1.rd; obtain ⟨r0, r1, rf, rl⟩ := hB3.facts2))
      go_roundw
      case rel => exact ⟨k + 1, _, by go_num, by exact bcAll, Blk.setOther hR3 _ _ (by simp), hB3.set_ 0 _, OwnI.setOther hv1 hB3 hne, .inr (by omega), by simpa [World.setCell] using hz3⟩
      case measure => simp [intOf]; omega
    · obtain ⟨q0, q1, qf, ql⟩ := hR.facts2
      go_wp2_with fail
      refine bodyPost_ret (v := .agg #[.slice Ax (eights 8 k).length cx, .int .i64 W]) (by simp [results, Tryz.results32, go_sem, q0, q1]) rfl ?_
      have hrd := (OwnI.setOther (i := 1) (u := .int .i64 W) (OwnI.setOther (i := 0) (u := .slice Ax (eights 8 k).length cx) hx hR (by decide)) (hR.set_ 0 _) (by decide)).rd
      exact ⟨_, rfl, by exact bcAll, k, hrd, by omega, hk, ownI_slice hx⟩
theorem drop_cons {zs : List Int} {j : Nat} (hj : j < zs.length) : zs.drop j = zs[j] :: zs.drop (j + 1) := List.drop_eq_getElem_cons hj
set_option maxRecDepth 100000 in
set_option maxHeartbeats 2000000 in
theorem sane_c (x : Value) (W : Int) (zs : List Int) (w : World) (hx : RdI w x zs) (hn : zs.length ≤ 65536) : Calls Tryz.prog 15 #[.agg #[x, .int .i64 W]] w fun e w' => e = .returned (.bool (tsaneB W zs)) ∧ Below w.heap.size w w' := by
  obtain ⟨A, c, rfl, hx⟩ := hx
  by_cases hW : 1 ≤ W ∧ W ≤ 4096
  · have HS : Hid (tsaneB W zs = okL (-1) W (zs.drop 0)) := by show _ = _; unfold tsaneB; rw [decide_eq_true hW]; rfl
    obtain ⟨S, hS⟩ : ∃ S, S = tsaneB W zs := ⟨_, rfl⟩
    rw [← hS] at HS ⊢
    clear hS
    have h1 : ¬ W < 1 := by omega
    have h2 : ¬ W > 4096 := by omega
    have HD : Hid (∀ j (h : j < zs.length), zs.drop j = zs[j] :: zs.drop (j + 1) ∧ zs[j]? = some zs[j]) := fun j h => ⟨drop_cons h, List.getElem?_eq_getElem h⟩
    have HE : Hid (zs.drop zs.length = []) := List.drop_length
    go_enter Tryz.func15, Tryz.ntmps15
    go_upto_region 5 with fail
    generalize hw0 : World.alloc _ _ = w0
    have hb0 : Below w.heap.size w w0 := by rw [← hw0]; exact bcAll
    have hB0 : Blk w0 w.heap.size 51 #[.slice A zs.length c, .int .i64 W] := by rw [← hw0]; exact Blk.new _ _ _
    have hc0 : 0 < zs.length → ∃ b o, A = some ⟨b, o, none⟩ ∧ b < w.heap.size ∧ ∀ (j : Nat) (z : Int), zs[j]? = some z → w0.cell? ⟨b, o + j, none⟩ = some (.int .i64 z) := fun h => by
      obtain ⟨b, o, rfl, hlt, hc⟩ := hx h
      exact ⟨b, o, rfl, hlt, fun j z hz => (hb0.cell (p := ⟨b, o + j, none⟩) hlt).trans (hc j z hz)⟩
    clear hw0 hx
    obtain ⟨r0, r1, rf, rl⟩ := hB0.facts2
    go_wp2_with fail
    go_loopw [3, 17] (fun p i wz => ∃ (j : Nat) (a : Int), j ≤ zs.length ∧ i = .int .i64 j ∧ p = .int .i64 a ∧ Hid (S = okL a W (zs.drop j)) ∧ wz = w0) (fun _ i _ => zs.length - (intOf i).toNat)
    case atStart => exact ⟨0, -1, Nat.zero_le _, rfl, rfl, HS, rfl⟩
    case round =>
      obtain ⟨j, a, hj, rfl, rfl, HO, rfl⟩ := hrel
      by_cases hlt : j < zs.length
      · have hltI : (j : Int) < zs.length := by omega
        obtain ⟨b, o, rfl, hbl, hc⟩ := hc0 (by omega)
        obtain ⟨hd, hz⟩ := HD.out j hlt
        have c0 := hc j _ hz
        have hok := HO.out
        rw [hd] at hok
        unfold okL at hok
        generalize zs[j] = z at c0 hok
        clear hc hd hz HO
        by_cases hz1 : z ≤ a
        · rw [decide_eq_false (by omega), Bool.false_and] at hok
          subst hok
          go_wp2_with fail
          go_ret
          exact ⟨rfl, by exact bcAll⟩
        · by_cases hz2 : W ≤ z
          · rw [decide_eq_false (by omega), Bool.false_and] at hok
            subst hok
            go_wp2_with fail
            go_ret
            exact ⟨rfl, by exact bcAll⟩
          · rw [decide_eq_true (by omega), Bool.true_and] at hok
            have HOK := Lib.hid hok
            clear hok
            go_wp2_with fail
            go_roundw
            case rel => exact ⟨j + 1, z, by omega, by go_num, rfl, HOK, by first | rfl | exact trivial⟩
            case measure => simp [intOf]; omega
      · obtain rfl : j = zs.length := by omega
        have hS := HO.out
        rw [HE.out] at hS
        subst hS
        go_wp2_with fail
        go_ret
        exact ⟨rfl, by exact bcAll⟩
  · have HS : tsaneB W zs = false := by unfold tsaneB; rw [decide_eq_false hW]; rfl
    rw [HS]
    clear hx HS
    by_cases h1 : W < 1
    · clear hW
      go_enter Tryz.func15, Tryz.ntmps15
      go_wp2_with fail
      go_ret
      exact ⟨rfl, by exact bcAll⟩
    · have h2 : 4096 < W := by omega
      clear hW
      go_enter Tryz.func15, Tryz.ntmps15
      go_wp2_with fail
      go_ret
      exact ⟨rfl, by exact bcAll⟩
def seekN (at_ W : Int) (zs : List Int) : Int := (zs.find? (fun z => decide (at_ < z))).getD (W - 1)
def seekP (at_ : Int) (zs : List Int) : Int := (zs.reverse.find? (fun z => decide (z < at_))).getD 0
set_option maxRecDepth 100000 in
set_option maxHeartbeats 2000000 in
theorem seekn_c (at_ W : Int) (g : Nat) (x : Value) (zs : List Int) (w : World) (hB : Blk w g 51 #[x, .int .i64 W]) (hx : RdI w x zs) (hn : zs.length ≤ 65536) (hW : 1 ≤ W ∧ W ≤ 4096) :
    Calls Tryz.prog 106 #[.int .i64 at_, .pointer (some ⟨g, 0, none⟩)] w fun e w' => e = .returned (.int .i64 (seekN at_ W zs)) ∧ w = w' := by
  obtain ⟨A, c, rfl, hx⟩ := hx
  obtain ⟨r0, r1, rf, rl⟩ := hB.facts2
  clear hB
  have HS : Hid (seekN at_ W zs = seekN at_ W (zs.drop 0)) := rfl
  obtain ⟨S, hS⟩ : ∃ S, S = seekN at_ W zs := ⟨_, rfl⟩
  rw [← hS] at HS ⊢
  clear hS
  have HD : Hid (∀ j (h : j < zs.length), zs.drop j = zs[j] :: zs.drop (j + 1) ∧ zs[j]? = some zs[j]) := fun j h => ⟨drop_cons h, List.getElem?_eq_getElem h⟩
  have HE : Hid (zs.drop zs.length = []) := List.drop_length
  go_enter Tryz.func106, Tryz.ntmps106
  go_wp2_with fail
  go_loopw [9] (fun i wz => ∃ (j : Nat), j ≤ zs.length ∧ i = .int .i64 j ∧ Hid (S = seekN at_ W (zs.drop j)) ∧ wz = w) (fun i _ => zs.length - (intOf i).toNat)
  case atStart => exact ⟨0, Nat.zero_le _, rfl, HS, rfl⟩
  case round =>
    obtain ⟨j, hj, rfl, HO, rfl⟩ := hrel
    by_cases hlt : j < zs.length
    · have hltI : (j : Int) < zs.length := by omega
      obtain ⟨b, o, rfl, hbl, hc⟩ := hx (by omega)
      obtain ⟨hd, hz⟩ := HD.out j hlt
      have c0 := hc j _ hz
      have hok := HO.out
      rw [hd] at hok
      unfold seekN at hok
      rw [List.find?_cons] at hok
      generalize zs[j] = z at c0 hok
      clear hc hd hz HO
      by_cases hz1 : at_ < z
      · rw [decide_eq_true hz1] at hok
        simp only [Option.getD_some] at hok
        subst hok
        go_wp2_with fail
        go_ret
        exact ⟨rfl, rfl⟩
      · rw [decide_eq_false hz1] at hok
        have HOK := Lib.hid (show S = seekN at_ W (zs.drop (j + 1)) from hok)
        clear hok
        go_wp2_with fail
        go_roundw
        case rel => exact ⟨j + 1, by omega, by go_num, HOK, by first | rfl | exact trivial⟩
        case measure => simp [intOf]; omega
    · obtain rfl : j = zs.length := by omega
      have hS := HO.out
      rw [HE.out] at hS
      have hS' : S = W - 1 := hS
      subst hS'
      clear hS HO
      go_wp2_with fail
      go_ret
      exact ⟨rfl, rfl⟩
set_option maxRecDepth 100000 in
set_option maxHeartbeats 2000000 in
theorem seekp_c (at_ W : Int) (g : Nat) (x : Value) (zs : List Int) (w : World) (hB : Blk w g 51 #[x, .int .i64 W]) (hx : RdI w x zs) (hn : zs.length ≤ 65536) :
    Calls Tryz.prog 107 #[.int .i64 at_, .pointer (some ⟨g, 0, none⟩)] w fun e w' => e = .returned (.int .i64 (seekP at_ zs)) ∧ w = w' := by
  obtain ⟨A, c, rfl, hx⟩ := hx
  obtain ⟨r0, r1, rf, rl⟩ := hB.facts2
  clear hB
  have HS : Hid (seekP at_ zs = seekP at_ (zs.take zs.length)) := by show _ = _; rw [List.take_length]
  obtain ⟨S, hS⟩ : ∃ S, S = seekP at_ zs := ⟨_, rfl⟩
  rw [← hS] at HS ⊢
  clear hS
  have HD : Hid (∀ j (h : j < zs.length), (zs.take (j + 1)).reverse = zs[j] :: (zs.take j).reverse ∧ zs[j]? = some zs[j]) := fun j h => ⟨by rw [List.take_succ_eq_append_getElem h]; simp, List.getElem?_eq_getElem h⟩
  go_enter Tryz.func107, Tryz.ntmps107
  go_wp2_with fail
  go_loopw [4] (fun i wz => ∃ (j : Nat), j ≤ zs.length ∧ i = .int .i64 ((j : Int) - 1) ∧ Hid (S = seekP at_ (zs.take j)) ∧ wz = w) (fun i _ => (intOf i + 1).toNat)
  case atStart => exact ⟨zs.length, Nat.le_refl _, rfl, HS, rfl⟩
  case round =>
    obtain ⟨j, hj, rfl, HO, rfl⟩ := hrel
    by_cases hlt : 0 < j
    · obtain ⟨k, rfl⟩ : ∃ k, j = k + 1 := ⟨j - 1, by omega⟩
      have e1 : (((k + 1 : Nat) : Int) - 1) = (k : Int) := by omega
      rw [e1]
      have hltN : k < zs.length := by omega
      have hltI : (k : Int) < zs.length := by omega
      obtain ⟨b, o, rfl, hbl, hc⟩ := hx (by omega)
      obtain ⟨hd, hz⟩ := HD.out k hltN
      have c0 := hc k _ hz
      have hok := HO.out
      unfold seekP at hok
      rw [hd, List.find?_cons] at hok
      generalize zs[k] = z at c0 hok
      clear hc hd hz HO
      by_cases hz1 : z < at_
      · rw [decide_eq_true hz1] at hok
        simp only [Option.getD_some] at hok
        subst hok
        go_wp2_with fail
        go_ret
        exact ⟨rfl, rfl⟩
      · rw [decide_eq_false hz1] at hok
        have HOK := Lib.hid (show S = seekP at_ (zs.take k) from hok)
        clear hok
        go_wp2_with fail
        go_roundw
        case rel => exact ⟨k, by omega, by go_num, HOK, by first | rfl | exact trivial⟩
        case measure => first | (simp [intOf]; done) | (simp [intOf]; omega)
    · obtain rfl : j = 0 := by omega
      have hS : S = 0 := HO.out
      subst hS
      clear HO
      go_wp2_with fail
      go_ret
      exact ⟨rfl, rfl⟩
end Go.Proofs.YtlchffkabpfjpaaGreat.Tab
end
section
/- Tab stops: Next, Prev, chosen, Resize, the document's Same; lapwinglaw12.awake. -/
namespace Go.Proofs.YtlchffkabpfjpaaGreat.Tab
open Go.RowKit
theorem tsane_iff {W : Int} {zs : List Int} : tsaneB W zs = true ↔ (1 ≤ W ∧ W ≤ 4096) ∧ okL (-1) W zs = true := by unfold tsaneB; rw [Bool.and_eq_true, decide_eq_true_eq]
theorem OwnI.mono {w : World} {base base' e : Nat} {v : Value} {zs : List Int} (h : OwnI w base e v zs) (hb : base' ≤ base) : OwnI w base' e v zs := by
  unfold OwnI World.ownsRow at *
  obtain ⟨hl, h | ⟨g, cap, cur, rfl, hb', hg, r⟩⟩ := h
  · exact ⟨hl, .inl h⟩
  · exact ⟨hl, .inr ⟨g, cap, cur, rfl, Nat.le_trans hb hb', hg, r⟩⟩
theorem lt_c (z n : Int) (g : Nat) (w : World) (hg : w.cell? ⟨g, 0, none⟩ = some (.int .i64 n)) : Calls Tryz.prog 115 #[.int .i64 z, .pointer (some ⟨g, 0, none⟩)] w fun e w' => e = .returned (.bool (decide (z < n))) ∧ w = w' := by
  go_enter Tryz.func115, Tryz.ntmps115
  go_wp2_with fail
  go_ret
  exact ⟨rfl, rfl⟩
def ChosenF (n : Int) (zs : List Int) (w : World) (e : Ending) (w' : World) : Prop := ∃ v, e = .returned v ∧ Below w.heap.size w w' ∧ OwnI w' (w.heap.size + 1) 3 v (zs.filter (fun z => decide (z < n)))
theorem filter_take (p : Int → Bool) {zs : List Int} {j : Nat} (hj : j < zs.length) : (zs.take (j + 1)).filter p = (zs.take j).filter p ++ (if p zs[j] = true then [zs[j]] else []) := by
  rw [List.take_succ_eq_append_getElem hj, List.filter_append]
  congr 1
  simp [List.filter_cons]
set_option maxRecDepth 100000 in
set_option maxHeartbeats 2000000 in
theorem chosen_c (x : Value) (W n : Int) (zs : List Int) (g : Nat) (w : World) (hx : RdI w x zs) (hn : zs.length ≤ 60000) (hg : Blk w g 3 #[.int .i64 n]) :
    Calls Tryz.prog 114 #[.agg #[x, .int .i64 W], .func (.func 115) #[] #[.pointer (some ⟨g, 0, none⟩)]] w (ChosenF n zs w) := by
  obtain ⟨i3, hi3, hz3, hs3, hb3⟩ := info_parts int_info
  have HI3 := Lib.hid hi3
  have HZ3 := Lib.hid hz3
  have HS3 := Lib.hid hs3
  have HB3 := Lib.hid hb3
  clear hi3 hz3 hs3 hb3
  obtain ⟨A, c, rfl, hx⟩ := hx
  go_enter Tryz.func114, Tryz.ntmps114
  go_upto_region 3 with fail
  generalize hw0 : World.alloc _ _ = w0
  have hb0 : Below w.heap.size w w0 := by rw [← hw0]; exact bcAll
  have hs0 : w0.heap.size = w.heap.size + 1 := by rw [← hw0]; simp
  clear hw0
  go_wp2_with fail
  go_loopw [5, 11] (fun l i wz => ∃ (j : Nat), j ≤ zs.length ∧ i = .int .i64 j ∧ Below w.heap.size w wz ∧ OwnI wz (w.heap.size + 1) 3 l ((zs.take j).filter (fun z => decide (z < n))) ∧ w.heap.size + 1 ≤ wz.heap.size) (fun _ i _ => zs.length - (intOf i).toNat)
  case atStart => exact ⟨0, Nat.zero_le _, rfl, hb0, OwnI.nil _ _ _, by omega⟩
  case round =>
    obtain ⟨j, hj, rfl, hb, hl, hwz⟩ := hrel
    by_cases hlt : j < zs.length
    · have hltI : (j : Int) < zs.length := by omega
      obtain ⟨b, o, rfl, hbl, hc⟩ := hx (by omega)
      have hz := List.getElem?_eq_getElem hlt
      have c0 := (hb.cell (p := ⟨b, o + j, none⟩) hbl).trans (hc j _ hz)
      have HT := Lib.hid (filter_take (fun z => decide (z < n)) hlt)
      have g0 := (hg.below hb hg.lt).cell 0
      simp only [List.getElem?_toArray, List.getElem?_cons_zero] at g0
      have hbs := hb.size
      have hbl2 : b < wr.heap.size := by omega
      have HLA : Hid (((zs.take j).filter (fun z => decide (z < n))).length + [zs[j]].length ≤ 65536) := by
        show _ ≤ _
        have := List.length_filter_le (fun z => decide (z < n)) (zs.take j)
        rw [List.length_take] at this
        simp only [List.length_cons, List.length_nil]
        omega
      generalize zs[j] = z at c0 HT HLA
      have HLE : Hid (w.heap.size + 1 ≤ wr.heap.size) := hwz
      have HLD : Hid (w.heap.size + 1 ≤ (wr.alloc (.cells #[.int .i64 z] 3)).heap.size) := by show _ ≤ _; rw [World.size_alloc]; omega
      clear hc hz
      by_cases hzn : z < n
      · have HT2 := HT.out
        rw [if_pos (decide_eq_true hzn)] at HT2
        have HT3 := Lib.hid HT2
        clear HT2
        go_wp2_with (first | (go_at_call 115; refine (lt_c z n g _ g0).mono ?_; rintro e w2 ⟨rfl, rfl⟩) | (at_builtin; refine wpList_append_ints rfl _ _ _ rfl (w.heap.size + 1) 3 i3 rfl HI3.out HZ3.out HS3.out HB3.out _ _ ((zs.take j).filter (fun z => decide (z < n))) [z] rfl rfl (ownI_alloc hl _) (rdI_one _ _ _ _ (by simp)) HLA.out HLD.out ?_; intro v1 w3 hv1 hgb hor; obtain ⟨hz3, hb3, hk3⟩ := own_push hb (Nat.le_succ _) hl _ hgb HLE.out; clear hgb hor))
        go_roundw
        case rel => exact ⟨j + 1, by omega, by go_num, hb3, by rw [HT3.out]; exact hv1, hz3⟩
        case measure => simp [intOf]; omega
      · have HT2 := HT.out
        rw [if_neg (by simpa using hzn), List.append_nil] at HT2
        have HT3 := Lib.hid HT2
        clear HT2
        go_wp2_with (go_at_call 115; refine (lt_c z n g _ g0).mono ?_; rintro e w2 ⟨rfl, rfl⟩)
        go_roundw
        case rel => exact ⟨j + 1, by omega, by go_num, hb, by rw [HT3.out]; exact hl, hwz⟩
        case measure => simp [intOf]; omega
    · obtain rfl : j = zs.length := by omega
      rw [List.take_length] at hl
      go_wp2_with fail
      go_ret
      exact ⟨_, rfl, hb, hl⟩
end Go.Proofs.YtlchffkabpfjpaaGreat.Tab
end
section
/- Tab stops: Resize; the document's Same; lapwinglaw12.awake. -/
namespace Go.Proofs.YtlchffkabpfjpaaGreat.Tab
open Go.RowKit
theorem own_far {w : World} {base e g : Nat} {v : Value} {zs : List Int} (h : OwnI w base e v zs) (hg : g < base) : some g ≠ v.ownBlock := fun e' => by
  have := (h.lt e'.symm).1
  omega
/-- what Resize makes -/
def ResizeF (n W : Int) (zs : List Int) (w : World) (e : Ending) (w' : World) : Prop :=
  ∃ v c k, e = .returned (.agg #[v, .int .i64 n]) ∧ Below w.heap.size w w' ∧ RdI w' v (zs.filter (fun z => decide (z < n)) ++ eights c k) ∧ c = (W + 7) / 8 * 8 ∧ n ≤ c + 8 * (k : Int) ∧ (k = 0 ∨ c + 8 * (k : Int) < n + 8)
/-- .. in new memory -/
def ResizeO (n W : Int) (zs : List Int) (w : World) (e : Ending) (w' : World) : Prop :=
  ∃ v c k, e = .returned (.agg #[v, .int .i64 n]) ∧ Below w.heap.size w w' ∧ RdI w' v (zs.filter (fun z => decide (z < n)) ++ eights c k) ∧ c = (W + 7) / 8 * 8 ∧ n ≤ c + 8 * (k : Int) ∧ (k = 0 ∨ c + 8 * (k : Int) < n + 8) ∧ ∀ b o m d, v = .slice (some ⟨b, o, none⟩) m d → w.heap.size ≤ b
set_option maxRecDepth 100000 in
set_option maxHeartbeats 2000000 in
theorem resize_o (x : Value) (W v n : Int) (zs : List Int) (w : World) (hx : RdI w x zs) (hn : zs.length ≤ 60000) (hs : tsaneB W zs = true) (hv : max 1 (min v 4096) = n) :
    Calls Tryz.prog 98 #[.agg #[x, .int .i64 W], .int .i64 v] w (ResizeO n W zs w) := by
  obtain ⟨i3, hi3, hz3, hs3, hb3⟩ := info_parts int_info
  have HI3 := Lib.hid hi3
  have HZ3 := Lib.hid hz3
  have HS3 := Lib.hid hs3
  have HB3 := Lib.hid hb3
  clear hi3 hz3 hs3 hb3
  have hmf : ∀ (fn : Fn) (first cap : Array Value) (w : World), (Instr.makeFunc fn first cap).run Tryz.prog w = .ok (.func fn first cap) w := fun _ _ _ _ => rfl
  have HS := Lib.hid hs
  have HW := Lib.hid (tsane_iff.1 hs).1
  have hW1 := HW.out.1
  have hW2 := HW.out.2
  have hn1 : 1 ≤ n ∧ n ≤ 4096 := by omega
  have HV := Lib.hid hv
  obtain ⟨A, c, rfl, -⟩ := id hx
  have HX := Lib.hid hx
  clear hs hv hx
  go_enter Tryz.func98, Tryz.ntmps98
  go_upto_region 4 with (first | (go_at_call 15; refine (sane_c _ W zs _ (HX.out.below (by exact bcAll)) (by omega)).mono ?_; rw [HS.out]; rintro e w1 ⟨rfl, hg⟩; obtain ⟨X1, d1, rfl⟩ := Below.toGrow hg; clear hg) | (go_at_call 67; refine (width_c _ _).mono ?_; rw [HV.out]; rintro e w1 ⟨rfl, rfl⟩))
  generalize hw4 : World.grow _ _ _ = w4
  have hb4 : Below w.heap.size w w4 := by rw [← hw4]; exact bcAll
  have hB1 : Blk w4 w.heap.size 51 #[.slice A zs.length c, .int .i64 W] := by rw [← hw4]; (repeat (first | (with_reducible exact Blk.new _ _ _) | (with_reducible refine Blk.new_at ?_; simp; done) | (with_reducible refine Blk.grow ?_ _ _) | (with_reducible refine Blk.alloc ?_ _)))
  have hB2 : Blk w4 (w.heap.size + 1) 3 #[.int .i64 n] := by rw [← hw4]; (repeat (first | (with_reducible exact Blk.new _ _ _) | (with_reducible refine Blk.new_at ?_; simp; done) | (with_reducible refine Blk.grow ?_ _ _) | (with_reducible refine Blk.alloc ?_ _)))
  have hB3 : Blk w4 (w.heap.size + 1 + 1) 51 #[.slice none 0 0, .int .i64 0] := by rw [← hw4]; (repeat (first | (with_reducible exact Blk.new _ _ _) | (with_reducible refine Blk.new_at ?_; simp; done) | (with_reducible refine Blk.grow ?_ _ _) | (with_reducible refine Blk.alloc ?_ _)))
  clear hw4
  obtain ⟨r0, r1, rf, rl⟩ := hB1.facts2
  have HB1_ := Lib.hid hB1
  have HB2_ := Lib.hid hB2
  have HB3_ := Lib.hid hB3
  clear hB1 hB2 hB3
  go_wp2_with fail
  refine (chosen_c _ W n zs (w.heap.size + 1) _ (HX.out.below hb4) hn HB2_.out).mono ?_
  rintro e w5 ⟨l, rfl, hg, hl⟩
  have hb5 := hb4.trans (hg.mono hb4.size)
  have hB1 := HB1_.out.below hg HB1_.out.lt
  have hB2 := HB2_.out.below hg HB2_.out.lt
  have hB3 := HB3_.out.below hg HB3_.out.lt
  have hs5 := HB3_.out.lt
  have hgs := hg.size
  have hl5 : OwnI w5 (w.heap.size + 3) 3 l (zs.filter (fun z => decide (z < n))) := OwnI.mono hl (by omega)
  clear r0 r1 rf rl HB1_ HB2_ HB3_ hb4 hl
  obtain ⟨r0, r1, rf, rl⟩ := hB1.facts2
  go_upto_region 6 with fail
  have hcc : (W + 8 - 1) / 8 * 8 = (W + 7) / 8 * 8 := by omega
  rw [hcc]
  clear hcc
  generalize hcc : (W + 7) / 8 * 8 = cc
  have hc1 : 8 ≤ cc ∧ cc ≤ 4104 := by omega
  have HCC := Lib.hid hcc
  have HB1_ := Lib.hid (show Blk w5 (w.heap.size + 1) 3 #[.int .i64 n] from hB2)
  have HFL := Lib.hid (List.length_filter_le (fun z => decide (z < n)) zs)
  generalize hfs : zs.filter (fun z => decide (z < n)) = fs at hl5 HFL
  have HFS := Lib.hid hfs
  clear hfs
  clear r0 r1 rf rl hB1 hcc
  go_wp2_with fail
  go_loopw [5, 6] (fun l i wz => ∃ (k : Nat), i = .int .i64 (cc + 8 * (k : Int)) ∧ Below w.heap.size w wz ∧ Blk wz (w.heap.size + 1) 3 #[.int .i64 n] ∧ Blk wz (w.heap.size + 1 + 1) 51 #[.slice none 0 0, .int .i64 0] ∧ OwnI wz (w.heap.size + 3) 3 l (fs ++ eights cc k) ∧ (k = 0 ∨ cc + 8 * (k : Int) < n + 8) ∧ w.heap.size + 3 ≤ wz.heap.size) (fun _ i _ => 9000 - (intOf i).toNat)
  case atStart => exact ⟨0, by simp, hb5, hB2, hB3, by simpa [eights] using hl5, .inl rfl, by omega⟩
  case round =>
    obtain ⟨k, rfl, hb, hB2, hB3, hl, hk, hwz⟩ := hrel
    obtain ⟨q0, q1, qf, ql⟩ := hB3.facts2
    have g0 := hB2.cell 0
    have gl := hB2.lt
    simp only [List.getElem?_toArray, List.getElem?_cons_zero] at g0
    by_cases hlt : cc + 8 * (k : Int) < n
    · have HLA : Hid ((fs ++ eights cc k).length + [cc + 8 * (k : Int)].length ≤ 65536) := by
        show _ ≤ _
        have := HFL.out
        rw [List.length_append, eights_len]
        simp only [List.length_cons, List.length_nil]
        omega
      have HLE : Hid (w.heap.size + 3 ≤ wr.heap.size) := hwz
      have hno := own_far hl (show w.heap.size + 1 < w.heap.size + 3 by omega)
      have HLD : Hid (w.heap.size + 3 ≤ (wr.alloc (.cells #[.int .i64 (cc + 8 * (k : Int))] 3)).heap.size) := by show _ ≤ _; rw [World.size_alloc]; omega
      go_wp2_with (at_builtin; refine wpList_append_ints rfl _ _ _ rfl (w.heap.size + 3) 3 i3 rfl HI3.out HZ3.out HS3.out HB3.out _ _ (fs ++ eights cc k) [cc + 8 * (k : Int)] rfl rfl (ownI_alloc hl _) (rdI_one _ _ _ _ (by simp)) HLA.out HLD.out ?_; intro v1 w3 hv1 hgb hor; obtain ⟨hz3, hb3, hk3⟩ := own_push hb (Nat.le_add_right _ 3) hl _ hgb HLE.out; have hBi := (hB2.alloc _).gb hgb hno; clear hgb hor)
      rw [List.append_assoc, ← eights_succ] at hv1
      go_roundw
      case rel => exact ⟨k + 1, by go_num, hb3, hBi, hk3 _ _ _ hB3 (by decide), hv1, .inr (by omega), hz3⟩
      case measure => simp [intOf]; omega
    · generalize hL : fs ++ eights cc k = L at hl
      have HLL := Lib.hid hL
      clear hL
      obtain ⟨Ax, cx, rfl, -⟩ := id hl.rd
      go_wp2_with fail
      refine bodyPost_ret (v := .agg #[.slice Ax L.length cx, .int .i64 n]) (by simp [results, Tryz.results98, go_sem, q0, q1]) rfl ?_
      have hrd := (OwnI.setOther (i := 1) (u := .int .i64 n) (OwnI.setOther (i := 0) (u := .slice Ax L.length cx) hl hB3 (by decide)) (hB3.set_ 0 _) (by decide)).rd
      exact ⟨_, cc, k, rfl, by exact bcAll, by rw [HFS.out, HLL.out]; exact hrd, HCC.out.symm, by omega, hk, fun b o m d e => Nat.le_trans (Nat.le_add_right _ 3) (ownI_slice hl b o m d e)⟩
set_option maxRecDepth 100000 in
set_option maxHeartbeats 2000000 in
theorem same_refl_c (x y : Value) (W : Int) (zs : List Int) (w : World) (hx : RdI w x zs) (hy : RdI w y zs) (hn : zs.length ≤ 65536) :
    Calls Tryz.prog 27 #[.agg #[x, .int .i64 W], .agg #[y, .int .i64 W]] w fun e w' => e = .returned (.bool true) ∧ Below w.heap.size w w' := by
  obtain ⟨A, c, rfl, hx⟩ := hx
  obtain ⟨B, d, rfl, hy⟩ := hy
  go_enter Tryz.func27, Tryz.ntmps27
  go_upto_region 3 with fail
  generalize hw0 : World.alloc _ _ = w0
  have hb0 : Below w.heap.size w w0 := by rw [← hw0]; exact bcAll
  have hB1 : Blk w0 w.heap.size 36 #[.slice A zs.length c, .int .i64 W] := by rw [← hw0]; exact Blk.alloc (Blk.new _ _ _) _
  have hB2 : Blk w0 (w.heap.size + 1) 36 #[.slice B zs.length d, .int .i64 W] := by rw [← hw0]; exact Blk.new_at (by simp)
  clear hw0
  go_wp2_with fail
  go_loopw [5] (fun i wz => ∃ (j : Nat), j ≤ zs.length ∧ i = .int .i64 j ∧ Below w0.heap.size w0 wz) (fun i _ => zs.length - (intOf i).toNat)
  case atStart => exact ⟨0, Nat.zero_le _, rfl, Below.refl _ _⟩
  case round =>
    obtain ⟨j, hj, rfl, hb⟩ := hrel
    obtain ⟨r0, r1, rf, rl⟩ := (hB1.below hb hB1.lt).facts2
    obtain ⟨q0, q1, qf, ql⟩ := (hB2.below hb hB2.lt).facts2
    have hbw := hb0.trans (hb.mono hb0.size)
    by_cases hlt : j < zs.length
    · have hltI : (j : Int) < zs.length := by omega
      obtain ⟨b, o, rfl, hbl, hc⟩ := hx (by omega)
      obtain ⟨b', o', rfl, hbl', hc'⟩ := hy (by omega)
      have hz := List.getElem?_eq_getElem hlt
      have c0 := (hbw.cell (p := ⟨b, o + j, none⟩) hbl).trans (hc j _ hz)
      have c1 := (hbw.cell (p := ⟨b', o' + j, none⟩) hbl').trans (hc' j _ hz)
      generalize zs[j] = z at c0 c1
      clear hc hc' hz
      go_upto_region 6 with fail
      go_quiet (fail)
      go_wp2_with fail
      go_roundw
      case rel => exact ⟨j + 1, by omega, by go_num, by exact bcAll⟩
      case measure => simp [intOf]; omega
    · obtain rfl : j = zs.length := by omega
      go_wp2_with fail
      go_ret
      exact ⟨rfl, hbw⟩
end Go.Proofs.YtlchffkabpfjpaaGreat.Tab
end
section
/- The plain laws of Resize; walk of lapwinglaw12.TabsResize. -/
namespace Go.Proofs.YtlchffkabpfjpaaGreat.Tab
open Go.RowKit
theorem okL_iff {p W : Int} {zs : List Int} : okL p W zs = true ↔ (∀ z ∈ zs, p < z ∧ z < W) ∧ zs.Pairwise (· < ·) := by
  induction zs generalizing p with
  | nil => simp [okL]
  | cons z l ih =>
    unfold okL
    rw [Bool.and_eq_true, decide_eq_true_eq, ih]
    simp only [List.mem_cons, forall_eq_or_imp, List.pairwise_cons]
    constructor
    · rintro ⟨h1, h2, h3⟩
      exact ⟨⟨h1, fun y hy => ⟨by have := (h2 y hy).1; omega, (h2 y hy).2⟩⟩, fun y hy => (h2 y hy).1, h3⟩
    · rintro ⟨⟨h1, h2⟩, h3, h4⟩
      exact ⟨h1, fun y hy => ⟨h3 y hy, (h2 y hy).2⟩, h4⟩
theorem mem_eights {a z : Int} {k : Nat} : z ∈ eights a k ↔ ∃ i : Nat, i < k ∧ z = a + 8 * (i : Int) := by
  unfold eights
  simp only [List.mem_map, List.mem_range]
  constructor
  · rintro ⟨i, hi, rfl⟩
    exact ⟨i, hi, rfl⟩
  · rintro ⟨i, hi, rfl⟩
    exact ⟨i, hi, rfl⟩
theorem eights_sorted (a : Int) (k : Nat) : (eights a k).Pairwise (· < ·) := by
  induction k with
  | zero => simp [eights]
  | succ k ih =>
    rw [eights_succ, List.pairwise_append]
    refine ⟨ih, by simp, fun x hx y hy => ?_⟩
    obtain ⟨i, hi, rfl⟩ := mem_eights.1 hx
    rw [List.mem_singleton.1 hy]
    omega
/-- what Resize makes of sane stops is sane -/
theorem resize_sane {n W c : Int} {k : Nat} {zs : List Int} (hs : tsaneB W zs = true) (hn : 1 ≤ n ∧ n ≤ 4096) (hc : c = (W + 7) / 8 * 8) (hk : k = 0 ∨ c + 8 * (k : Int) < n + 8) :
    tsaneB n (zs.filter (fun z => decide (z < n)) ++ eights c k) = true := by
  obtain ⟨h1, h2⟩ := tsane_iff.1 hs
  obtain ⟨h3, h4⟩ := okL_iff.1 h2
  refine tsane_iff.2 ⟨hn, okL_iff.2 ⟨fun z hz => ?_, ?_⟩⟩
  · rcases List.mem_append.1 hz with h | h
    · obtain ⟨m1, m2⟩ := List.mem_filter.1 h
      exact ⟨(h3 z m1).1, by simpa using m2⟩
    · obtain ⟨i, hi, rfl⟩ := mem_eights.1 h
      omega
  · rw [List.pairwise_append]
    refine ⟨h4.filter _, eights_sorted _ _, fun x hx y hy => ?_⟩
    obtain ⟨m1, _⟩ := List.mem_filter.1 hx
    obtain ⟨i, hi, rfl⟩ := mem_eights.1 hy
    have := (h3 x m1).2
    omega
end Go.Proofs.YtlchffkabpfjpaaGreat.Tab
end
