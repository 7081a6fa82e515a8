/- screen.Resize: what its parts give. -/
import Derived.Test.YtlchffkabpfjpaaGreatJA
import Derived.Test.YtlchffkabpfjpaaGreatScrC
namespace Go.Proofs.YtlchffkabpfjpaaGreat.Scr
open Go.RowKit Go.Proofs.YtlchffkabpfjpaaGreat.Row
theorem sum_le {L : List Rw} {c : Nat} (h : ∀ r ∈ L, r.n ≤ c) : ∀ k, sumN L k ≤ k * c
  | 0 => by simp [sumN]
  | k + 1 => by
    have ih := sum_le h k
    rw [Nat.succ_mul]
    by_cases hk : k < L.length
    · rw [sumN_succ (List.getElem?_eq_getElem hk)]
      have := h _ (List.getElem_mem hk)
      omega
    · unfold sumN at *
      rw [List.take_of_length_le (by omega)] at *
      omega
theorem listG_take {n k : Nat} {F : Nat → Rw} (h : k ≤ n) : (listG n F).take k = listG k F := by
  apply List.ext_getElem?
  intro i
  unfold listG
  by_cases hi : i < k
  · rw [List.getElem?_take, if_pos hi, List.getElem?_map, List.getElem?_map, List.getElem?_range hi, List.getElem?_range (by omega)]
  · rw [List.getElem?_eq_none (by rw [List.length_take, List.length_map, List.length_range]; omega), List.getElem?_eq_none (by rw [List.length_map, List.length_range]; omega)]
theorem listG_at {n i : Nat} {F : Nat → Rw} (h : i < n) : (listG n F)[i]? = some (F i) := by
  unfold listG
  rw [List.getElem?_map, List.getElem?_range h]
  rfl
theorem Md.Ok.rown {m : Md} (h : m.Ok) {i : Nat} (hi : i < m.n) : ((m.G i).n : Int) = m.W := by
  have hg := h.gs
  unfold gsC at hg
  rw [((of_decide_eq_true hg).2.2 i hi).1]
  exact h.nW
/-- reflow.Reflow, as Resize calls it -/
def ReflI (L : List Rw) (v : Int) (q : Nat) (w : World) (e : Ending) (w' : World) : Prop :=
  ∃ (u : Value) (R : List Rw) (Y X : Nat), e = .returned (.tuple #[u, .int .i64 Y, .int .i64 X]) ∧ Below w.heap.size w w' ∧ RdR w' u R ∧ R.map Rw.sh = spreadS (joinR L) v ∧ Ft (w.heap.size ≤ ·) u R ∧ Y < R.length ∧ X < q ∧ R.length ≤ 100000
theorem refl_i (x : Value) (L : List Rw) (v yI pI : Int) (q y p c : Nat) (r : Rw) (w : World) (hx : RdR w x L) (hl : L.length ≤ 1000) (ha : areB L = true) (hc : ∀ r ∈ L, r.n ≤ c) (ht : L.length * c ≤ 90000) (hr : L[y]? = some r) (hp : p < r.n) (hy : (y : Int) = yI) (hp2 : (p : Int) = pI) (hv : wN v = q) :
    Calls Tryz.prog 93 #[x, .int .i64 v, .int .i64 yI, .int .i64 pI] w (ReflI L v q w) := by
  subst hy hp2
  have hsum := sum_le hc L.length
  refine (reflow_o x L v y p r w hx (by omega) ha (by omega) hr hp).mono ?_
  rintro e w' ⟨u, R, rfl, h1, h2, h3, h4⟩
  have hyl := (List.getElem?_eq_some_iff.1 hr).1
  obtain ⟨w1, w2⟩ := whereR_in (v := v) (pa := (findN L y).2 + p) (find_lt hyl) (joinR_sane ha)
  rw [hv] at w2
  have hlen : R.length = (spreadS (joinR L) v).length := by rw [← h3, List.length_map]
  have h6 := reflow_len L v
  exact ⟨u, R, _, _, rfl, h1, h2, h3, h4, by rw [hlen]; exact w1, w2, by omega⟩
/-- behind 'l, y, x := reflow.Reflow(..)' -/
def RzMid (S : Sn) (q : Nat) (w : World) (v7 v8 v9 : Value) (wc : World) : Prop :=
  ∃ (k : Nat) (R : List Rw) (Y X : Nat), v8 = .int .i64 Y ∧ v9 = .int .i64 X ∧ WS w.heap.size (w.heap.size + 1) 2 S w wc S ∧ RdR wc v7 R ∧ Ft (w.heap.size + 2 ≤ ·) v7 R ∧ UsedP S k ∧ R.map Rw.sh = spreadS (joinR (listG k S.F)) (q : Int) ∧ Y < R.length ∧ X < q ∧ R.length ≤ 100000
theorem mm_1000 {a : Int} {h : Nat} (e : max 1 (min a 1000) = (h : Int)) : ∃ m : Int, (if 1000 < a then 1000 else a) = m ∧ (if 1 < m then m else 1) = (h : Int) := by
  refine ⟨_, rfl, ?_⟩
  split <;> split <;> omega
theorem mm_4096 {a : Int} {h : Nat} (e : max 1 (min a 4096) = (h : Int)) : ∃ m : Int, (if 4096 < a then 4096 else a) = m ∧ (if 1 < m then m else 1) = (h : Int) := by
  refine ⟨_, rfl, ?_⟩
  split <;> split <;> omega
theorem rz_cap {s : Sc} {F : Nat → Rw} {w : World} (h : RdR w (.slice s.gA s.gn s.gc) (listG s.gn F)) : s.gn ≤ s.gc := by
  obtain ⟨A, c, e, hc⟩ := h.1.len
  rw [listG_len] at e hc
  injection e with _ e1 e2
  omega
theorem rz_part {w : World} {A A' : Option Addr} {R M : List Rw} {c n' c' : Nat} {P : Nat → Prop} (hr : RdR w (.slice A R.length c) R) (hf : Ft P (.slice A R.length c) R) (hp : 0 < R.length) (hA : ∀ b o, A' = some ⟨b, o, none⟩ → ∃ s o', A = some ⟨b, o', s⟩) (hm : ∀ r ∈ M, r ∈ R) : Ft P (.slice A' n' c') M := by
  refine hf.part (fun _ b o cc n e => ?_) hm
  injection e with e1 _ _
  obtain ⟨s, o', e2⟩ := hA b o e1
  obtain ⟨b2, o2, e3, -⟩ := hr.at_ hp
  rw [e2] at e3
  have e4 : b = b2 := by injection e3 with e3; injection e3
  have e5 : s = none := by injection e3 with e3; injection e3
  exact hf.1 hp b o' _ _ (by rw [e2, e5])
/-- where the cursor is, its row -/
theorem rz_cur {s : Sc} {F : Nat → Rw} {zs : List Int} {L : List Rw} (h : (Sn.md ⟨s, F, zs, L⟩).Ok) : (s.y.toNat : Int) = s.y ∧ (s.x.toNat : Int) = s.x ∧ ∀ k : Nat, s.y + 1 ≤ (k : Int) → k ≤ s.gn → (listG k F)[s.y.toNat]? = some (F s.y.toNat) ∧ s.x.toNat < (F s.y.toNat).n := by
  obtain ⟨f1, f2, w1, w2, t0, tb, bh, x0, x1, y0, y1, -, -⟩ := h.cf
  have hn := h.nH
  dsimp only [Sn.md] at *
  refine ⟨by omega, by omega, fun k h1 h2 => ⟨listG_at (by omega), ?_⟩⟩
  have := h.rown (i := s.y.toNat) (by show s.y.toNat < s.gn; omega)
  have e : (((F s.y.toNat).n : Nat) : Int) = s.W := this
  omega
theorem rz_rows {s : Sc} {F : Nat → Rw} {zs : List Int} {L : List Rw} (h : (Sn.md ⟨s, F, zs, L⟩).Ok) {k : Nat} (hk : k ≤ s.gn) : (listG k F).length ≤ 1000 ∧ ∀ r ∈ listG k F, r.n ≤ s.W.toNat := by
  have hn := h.nH
  have h2 := h.cf.h2
  dsimp only [Sn.md] at *
  rw [listG_len]
  refine ⟨by omega, fun r hr => ?_⟩
  obtain ⟨i, hi, rfl⟩ := listG_mem hr
  have := h.rown (i := i) (by show i < s.gn; omega)
  have e : (((F i).n : Nat) : Int) = s.W := this
  omega
def nilRz : Rw := ⟨none, 0, 0, fun _ => Row.blank 0 0 0, false, 0, false⟩
/-- the new rows, as they are put together -/
structure RzL (b0 : Nat) (W4 : World) (v : Value) (Rs : List Rw) (wz : World) : Prop where
  own : OwnX encR wz W4.heap.size 64 v Rs
  fr : ∀ r ∈ Rs, FrR wz b0 v.ownBlock r
  bl : Below W4.heap.size W4 wz
theorem RzL.below {b0 : Nat} {W4 w w' : World} {v : Value} {Rs : List Rw} (h : RzL b0 W4 v Rs w) (hb : Below w.heap.size w w') : RzL b0 W4 v Rs w' :=
  ⟨h.own.below hb (Nat.le_refl _), fun r hr => (h.fr r hr).below hb, h.bl.trans (hb.mono h.bl.size)⟩
theorem RzL.app {b0 : Nat} {W4 w w' : World} {v v' : Value} {Rs Z : List Rw} (h : RzL b0 W4 v Rs w) (hz : ∀ r ∈ Z, FrR w b0 v.ownBlock r) (ho : OwnX encR w' W4.heap.size 64 v' (Rs ++ Z)) (hg : w.grownBy w' v.ownBlock) (hor : v'.ownBlock = v.ownBlock ∨ v'.ownBlock = some w.heap.size) : RzL b0 W4 v' (Rs ++ Z) w' := by
  refine ⟨ho, fun r hr => ?_, below_ownx h.bl hg (fun g hg => (h.own.lt hg).1) h.bl.size⟩
  have hf : FrR w b0 v.ownBlock r := by
    rcases List.mem_append.1 hr with hr | hr
    · exact h.fr r hr
    · exact hz r hr
  have hf' := hf
  obtain ⟨-, b, o, hA, -, -, hn⟩ := hf'
  refine hf.gb hg (fun b' o' e => ?_) (fun b' o' e hlt => ?_)
  · rw [hA] at e
    injection e with e
    injection e with e1 e2
    subst e1
    exact hn
  · rcases hor with hor | hor
    · rw [hor]
      rw [hA] at e
      injection e with e
      injection e with e1 e2
      subst e1
      exact hn
    · rw [hor]
      intro e0
      injection e0 with e0
      omega
theorem RzL.old {b0 : Nat} {W4 w : World} {v x : Value} {Rs R : List Rw} {r : Rw} (h : RzL b0 W4 v Rs w) (hx : RdR W4 x R) (hF : Ft (b0 ≤ ·) x R) (hr : r ∈ R) (hn : 0 < r.n) : FrR w b0 v.ownBlock r := by
  have hok := hx.2 r hr
  obtain ⟨b, o, e, hb, -⟩ := hok.1 hn
  refine ⟨hok.below h.bl, b, o, e, hF.2 r hr hn b o e, Nat.lt_of_lt_of_le hb h.bl.size, fun e2 => ?_⟩
  have := (h.own.lt e2.symm).1
  omega
theorem RzL.rd {b0 : Nat} {W4 w : World} {v : Value} {Rs : List Rw} (h : RzL b0 W4 v Rs w) : RdR w v Rs := ⟨h.own.rd, fun r hr => (h.fr r hr).1⟩
theorem RzL.ft {b0 : Nat} {W4 w : World} {v : Value} {Rs : List Rw} (h : RzL b0 W4 v Rs w) (hb : b0 ≤ W4.heap.size) : Ft (b0 ≤ ·) v Rs :=
  ⟨fun _ b o c n e => Nat.le_trans hb (h.own.lt (by rw [e]; rfl)).1, fun r hr _ b o e => by
    obtain ⟨-, b', o', e', hb, -⟩ := h.fr r hr
    rw [e] at e'
    injection e' with e'
    injection e' with e1
    exact e1 ▸ hb⟩
theorem RzL.start {b0 : Nat} {W4 w : World} {v : Value} (h : OwnX encR w W4.heap.size 64 v []) (hg : W4.grownBy w none) : RzL b0 W4 v [] w := ⟨h, (fun r hr => by cases hr), gb_to_below hg (fun g e => by cases e) (Nat.le_refl _)⟩
theorem RzL.alloc {b0 : Nat} {W4 w : World} {v : Value} {Rs : List Rw} (h : RzL b0 W4 v Rs w) (o : Obj) : RzL b0 W4 v Rs (w.alloc o) := h.below ((Below.refl _ _).alloc (Nat.le_refl _) o)
theorem rz_min {j n h : Nat} {D : List Rw} (hn : D.length = n) (hj : j ≤ n) : (D.take (min j h)).length = min j h := by rw [List.length_take]; omega
theorem rz_next {j h : Nat} {D : List Rw} (hj : j < D.length) (hh : j < h) : D.take (min (j + 1) h) = D.take (min j h) ++ [D[j]] := by
  rw [show min (j + 1) h = j + 1 by omega, show min j h = j by omega, take_next hj]
theorem rz_same {j h : Nat} {D : List Rw} (hh : ¬ j < h) : D.take (min (j + 1) h) = D.take (min j h) := by
  rw [show min (j + 1) h = h by omega, show min j h = h by omega]
theorem rz_wrap {j n : Nat} (h : j ≤ n) (hn : n ≤ 100000) : wrap64 ((j : Int) + 1) = (j : Int) + 1 := IntWalk.wrap64_in _ (by omega)
theorem rz_meas {j n : Nat} (h : j < n) : n - (intOf (.int .i64 ((j : Int) + 1))).toNat < n - (intOf (.int .i64 (j : Int))).toNat := by
  simp [intOf]
  omega
theorem rz_minn {n h : Nat} {D : List Rw} (hn : D.length = n) : D.take (min n h) = D.take h := by
  by_cases e : n ≤ h
  · rw [Nat.min_eq_left e, List.take_of_length_le (by omega), List.take_of_length_le (by omega)]
  · rw [Nat.min_eq_right (by omega)]
theorem rz_new {b0 : Nat} {W4 w w' : World} {v : Value} {Rs : List Rw} {b q : Nat} (h : RzL b0 W4 v Rs w) (hb : w.heap.size ≤ b) (hB : Below w.heap.size w w') (ho : Own w' b q (fun _ => Row.blank 0 0 0)) (hq : q ≤ 4096) (h0 : b0 ≤ W4.heap.size) : RzL b0 W4 v Rs w' ∧ FrR w' b0 v.ownBlock (newRw b q 0 0 0) := by
  have h1 := h.bl.size
  refine ⟨h.below hB, ⟨ho.rd, Nat.le_refl _, (by show q ≤ 5000; omega)⟩, b, 0, rfl, by omega, ho.lt, fun e => ?_⟩
  have := (h.own.lt e.symm).2
  omega
theorem rz_meas2 {b0 l h : Nat} {W4 w : World} {v : Value} {A : Option Addr} {c : Nat} {Rs : List Rw} {r : Rw} (hv : RzL b0 W4 v (Rs ++ [r]) w) (hl : Rs.length = l) (hh : l < h) : h - sliceLen v < h - sliceLen (.slice A l c) := by
  obtain ⟨A', c', rfl, -⟩ := hv.own.rd.len
  show h - (Rs ++ [r]).length < h - l
  rw [List.length_append, List.length_singleton]
  omega
theorem rz_yg {n h Y gone : Nat} (hg : min (n - h) Y = gone) (hY : Y < n) (hn : n ≤ 100000) : wrap64 ((Y : Int) - (gone : Int)) = ((Y - gone : Nat) : Int) := by
  rw [IntWalk.wrap64_in _ (by omega)]
  omega
theorem rz_m63 {n : Nat} {r : Rw} (h : n + 1 ≤ 100001) : n + [r].length ≤ maxLen := by
  unfold maxLen
  rw [List.length_singleton]
  omega
theorem rz_m47 {n : Nat} {r : Rw} (h : n + 1 ≤ 100001) : (n + [r].length) * 48 ≤ 140737488355328 := by
  rw [List.length_singleton]
  omega
/-- the rows so far -/
def RzRows (R Rs : List Rw) (gone q h : Nat) : Prop := Rs.length ≤ h ∧ (∀ i, i < Rs.length → (Rs[i]?).map ct = some (rzG R gone q i)) ∧ min (R.length - gone) h ≤ Rs.length
theorem RzRows.take {R : List Rw} {gone q h : Nat} : RzRows R ((R.drop gone).take h) gone q h := by
  refine ⟨by rw [List.length_take]; omega, fun i hi => ?_, by rw [List.length_take, List.length_drop]; omega⟩
  rw [List.length_take, List.length_drop] at hi
  unfold rzG
  rw [List.getElem?_take, if_pos (by omega), List.getElem?_drop, List.getElem?_eq_getElem (by omega)]
  rfl
theorem RzRows.more {R Rs : List Rw} {gone q h : Nat} {r : Rw} (z : RzRows R Rs gone q h) (hl : Rs.length < h) (hr : ct r = newC q 0 0 0) : RzRows R (Rs ++ [r]) gone q h := by
  obtain ⟨z1, z2, z3⟩ := z
  refine ⟨by rw [List.length_append, List.length_singleton]; omega, fun i hi => ?_, by rw [List.length_append]; omega⟩
  by_cases e : i < Rs.length
  · rw [List.getElem?_append_left e]
    exact z2 i e
  · rw [List.length_append, List.length_singleton] at hi
    obtain rfl : i = Rs.length := by omega
    rw [List.getElem?_append_right (Nat.le_refl _), Nat.sub_self]
    unfold rzG
    rw [show R[gone + Rs.length]? = none from List.getElem?_eq_none (by omega)]
    exact congrArg some hr
theorem RzRows.all {R Rs : List Rw} {gone q h : Nat} (z : RzRows R Rs gone q h) (hl : ¬ Rs.length < h) : Rs.length = h ∧ ∀ i, i < h → ct (Rs.getD i nilRz) = rzG R gone q i := by
  obtain ⟨z1, z2, z3⟩ := z
  have e : Rs.length = h := by omega
  refine ⟨e, fun i hi => ?_⟩
  have := z2 i (by omega)
  rw [List.getElem?_eq_getElem (by omega)] at this
  rw [List.getD_eq_getElem?_getD, List.getElem?_eq_getElem (by omega)]
  simpa using this
theorem listG_getDz (L : List Rw) : listG L.length (fun i => L.getD i nilRz) = L := by
  unfold listG
  apply List.ext_getElem?
  intro i
  rw [List.getElem?_map]
  by_cases hi : i < L.length
  · rw [List.getElem?_range hi]
    simp [hi]
  · rw [List.getElem?_eq_none (by simp; omega), List.getElem?_eq_none (by omega)]
    rfl
theorem rz_n {S : Sn} (hO : S.md.Ok) {k q : Nat} {R : List Rw} (hk : k ≤ S.s.gn) (hq : wN (q : Int) = q) (hR : R.map Rw.sh = spreadS (joinR (listG k S.F)) (q : Int)) : ∀ r ∈ R, r.n = q := by
  obtain ⟨-, b⟩ := spread_sane1 hR (joinR_sane (gs_are hO hk))
  rw [hq] at b
  exact b
/-- only block g has turned -/
structure Only (g : Nat) (w w' : World) : Prop where
  os : w'.os = w.os
  tape : w'.tape = w.tape
  output : w'.output = w.output
  size : w'.heap.size = w.heap.size
  block : ∀ b, b ≠ g → w'.heap[b]? = w.heap[b]?
theorem Only.refl (g : Nat) (w : World) : Only g w w := ⟨rfl, rfl, rfl, rfl, fun _ _ => rfl⟩
theorem Only.set {g : Nat} {w w' : World} (h : Only g w w') (i : Nat) (u : Value) : Only g w (w'.setCell ⟨g, i, none⟩ u) :=
  ⟨h.os, h.tape, h.output, by simpa [World.setCell] using h.size, fun b hb => (Below.heap_setCell w' ⟨g, i, none⟩ u b hb).trans (h.block b hb)⟩
theorem WS.upd {g r k : Nat} {S0 S S' : Sn} {w W W' : World} (h : WS g r k S0 w W S) (hk : g < w.heap.size + k) (ho : Only g W W') (hB : SBlk W' g S'.s) (hv : Vt k S0 w W S → Vt k S0 w W S') : WS g r k S0 w W' S' := by
  have hb : Below w.heap.size W W' := ⟨ho.os, ho.tape, ho.output, by rw [ho.size]; exact Nat.le_refl _, fun b hb => ho.block b (by have := h.x.hg; omega)⟩
  have hv' := hv h.v
  refine ⟨⟨h.x.bw.trans (hb.mono (Nat.le_refl _)), hB, ?_, h.x.hg, h.x.hr, h.x.ne⟩, ⟨hv'.rd.keep hv'.out ⟨Nat.le_of_eq ho.size.symm, fun b hb _ => ho.block b (by have := h.x.hg; unfold Out at hb; omega)⟩, hv'.out, hv'.gen⟩⟩
  obtain ⟨z, hz⟩ := h.x.R
  exact ⟨z, (ho.block r (fun e => h.x.ne e.symm)).trans hz⟩
/-- cursor.Resize, as Resize calls it -/
theorem cresize_i (s : Sc) (F : Nat → Rw) (zs : List Int) (L : List Rw) (h q : Nat) (w : World) (hO : (Sn.md ⟨s, F, zs, L⟩).Ok) (hh : 1 ≤ h ∧ h ≤ 1000) (hq : 1 ≤ q ∧ q ≤ 4096) :
    Calls Tryz.prog 97 #[.agg #[.int .i64 s.x, .int .i64 s.y, .bool s.wr, .bool s.og, .int .i64 s.fg, .int .i64 s.bg, .int .i64 s.fl, .int .u8 s.g0, .int .u8 s.g1, .int .u8 s.g2, .int .u8 s.g3, .int .i64 s.gl, .int .i64 s.gr, .int .i64 s.on], .agg #[.int .i64 s.H, .int .i64 s.W, .int .i64 s.T, .int .i64 s.B], .int .i64 h, .int .i64 q] w fun e w' => ∃ x1 y1 : Int, e = .returned (.tuple #[.agg #[.int .i64 x1, .int .i64 y1, .bool false, .bool false, .int .i64 s.fg, .int .i64 s.bg, .int .i64 s.fl, .int .u8 s.g0, .int .u8 s.g1, .int .u8 s.g2, .int .u8 s.g3, .int .i64 s.gl, .int .i64 s.gr, .int .i64 s.on], .agg #[.int .i64 h, .int .i64 q, .int .i64 0, .int .i64 h]]) ∧ Grew w w' := by
  refine (Cur.resize_c h q s.x s.y s.wr s.og s.fg s.bg s.fl s.g0 s.g1 s.g2 s.g3 s.gl s.gr s.on s.H s.W s.T s.B w hO.cu).mono ?_
  rintro e w' ⟨rfl, hg⟩
  rw [Cur.btw_id (v := (h : Int)) (by omega) (by omega), Cur.btw_id (v := (q : Int)) (by omega) (by omega)]
  exact ⟨_, _, rfl, hg⟩
theorem rez_blk {w : World} {g : Nat} {s : Sc} {x1 y1 : Int} {h q : Nat} (h0 : SBlk w g s) : SBlk ((((((((((((((((((w.setCell ⟨g, 1, none⟩ (.int .i64 x1)).setCell ⟨g, 2, none⟩ (.int .i64 y1)).setCell ⟨g, 3, none⟩ (.bool false)).setCell ⟨g, 4, none⟩ (.bool false)).setCell ⟨g, 5, none⟩ (.int .i64 s.fg)).setCell ⟨g, 6, none⟩ (.int .i64 s.bg)).setCell ⟨g, 7, none⟩ (.int .i64 s.fl)).setCell ⟨g, 8, none⟩ (.int .u8 s.g0)).setCell ⟨g, 9, none⟩ (.int .u8 s.g1)).setCell ⟨g, 10, none⟩ (.int .u8 s.g2)).setCell ⟨g, 11, none⟩ (.int .u8 s.g3)).setCell ⟨g, 12, none⟩ (.int .i64 s.gl)).setCell ⟨g, 13, none⟩ (.int .i64 s.gr)).setCell ⟨g, 14, none⟩ (.int .i64 s.on)).setCell ⟨g, 15, none⟩ (.int .i64 (h : Int))).setCell ⟨g, 16, none⟩ (.int .i64 (q : Int))).setCell ⟨g, 17, none⟩ (.int .i64 0)).setCell ⟨g, 18, none⟩ (.int .i64 (h : Int))) g ({ s with x := x1, y := y1, wr := false, og := false, H := (h : Int), W := (q : Int), T := 0, B := (h : Int) } : Sc) := by
  have h1 : SBlk (w.setCell ⟨g, 1, none⟩ (.int .i64 x1)) g ({ s with x := x1 } : Sc) := SBlk.cell 1 (.int .i64 x1) h0 rfl
  have h2 : SBlk ((w.setCell ⟨g, 1, none⟩ (.int .i64 x1)).setCell ⟨g, 2, none⟩ (.int .i64 y1)) g ({ s with x := x1, y := y1 } : Sc) := SBlk.cell 2 (.int .i64 y1) h1 rfl
  have h3 : SBlk (((w.setCell ⟨g, 1, none⟩ (.int .i64 x1)).setCell ⟨g, 2, none⟩ (.int .i64 y1)).setCell ⟨g, 3, none⟩ (.bool false)) g ({ s with x := x1, y := y1, wr := false } : Sc) := SBlk.cell 3 (.bool false) h2 rfl
  have h4 : SBlk ((((w.setCell ⟨g, 1, none⟩ (.int .i64 x1)).setCell ⟨g, 2, none⟩ (.int .i64 y1)).setCell ⟨g, 3, none⟩ (.bool false)).setCell ⟨g, 4, none⟩ (.bool false)) g ({ s with x := x1, y := y1, wr := false, og := false } : Sc) := SBlk.cell 4 (.bool false) h3 rfl
  have h5 : SBlk (((((w.setCell ⟨g, 1, none⟩ (.int .i64 x1)).setCell ⟨g, 2, none⟩ (.int .i64 y1)).setCell ⟨g, 3, none⟩ (.bool false)).setCell ⟨g, 4, none⟩ (.bool false)).setCell ⟨g, 5, none⟩ (.int .i64 s.fg)) g ({ s with x := x1, y := y1, wr := false, og := false } : Sc) := SBlk.cell 5 (.int .i64 s.fg) h4 rfl
  have h6 : SBlk ((((((w.setCell ⟨g, 1, none⟩ (.int .i64 x1)).setCell ⟨g, 2, none⟩ (.int .i64 y1)).setCell ⟨g, 3, none⟩ (.bool false)).setCell ⟨g, 4, none⟩ (.bool false)).setCell ⟨g, 5, none⟩ (.int .i64 s.fg)).setCell ⟨g, 6, none⟩ (.int .i64 s.bg)) g ({ s with x := x1, y := y1, wr := false, og := false } : Sc) := SBlk.cell 6 (.int .i64 s.bg) h5 rfl
  have h7 : SBlk (((((((w.setCell ⟨g, 1, none⟩ (.int .i64 x1)).setCell ⟨g, 2, none⟩ (.int .i64 y1)).setCell ⟨g, 3, none⟩ (.bool false)).setCell ⟨g, 4, none⟩ (.bool false)).setCell ⟨g, 5, none⟩ (.int .i64 s.fg)).setCell ⟨g, 6, none⟩ (.int .i64 s.bg)).setCell ⟨g, 7, none⟩ (.int .i64 s.fl)) g ({ s with x := x1, y := y1, wr := false, og := false } : Sc) := SBlk.cell 7 (.int .i64 s.fl) h6 rfl
  have h8 : SBlk ((((((((w.setCell ⟨g, 1, none⟩ (.int .i64 x1)).setCell ⟨g, 2, none⟩ (.int .i64 y1)).setCell ⟨g, 3, none⟩ (.bool false)).setCell ⟨g, 4, none⟩ (.bool false)).setCell ⟨g, 5, none⟩ (.int .i64 s.fg)).setCell ⟨g, 6, none⟩ (.int .i64 s.bg)).setCell ⟨g, 7, none⟩ (.int .i64 s.fl)).setCell ⟨g, 8, none⟩ (.int .u8 s.g0)) g ({ s with x := x1, y := y1, wr := false, og := false } : Sc) := SBlk.cell 8 (.int .u8 s.g0) h7 rfl
  have h9 : SBlk (((((((((w.setCell ⟨g, 1, none⟩ (.int .i64 x1)).setCell ⟨g, 2, none⟩ (.int .i64 y1)).setCell ⟨g, 3, none⟩ (.bool false)).setCell ⟨g, 4, none⟩ (.bool false)).setCell ⟨g, 5, none⟩ (.int .i64 s.fg)).setCell ⟨g, 6, none⟩ (.int .i64 s.bg)).setCell ⟨g, 7, none⟩ (.int .i64 s.fl)).setCell ⟨g, 8, none⟩ (.int .u8 s.g0)).setCell ⟨g, 9, none⟩ (.int .u8 s.g1)) g ({ s with x := x1, y := y1, wr := false, og := false } : Sc) := SBlk.cell 9 (.int .u8 s.g1) h8 rfl
  have h10 : SBlk ((((((((((w.setCell ⟨g, 1, none⟩ (.int .i64 x1)).setCell ⟨g, 2, none⟩ (.int .i64 y1)).setCell ⟨g, 3, none⟩ (.bool false)).setCell ⟨g, 4, none⟩ (.bool false)).setCell ⟨g, 5, none⟩ (.int .i64 s.fg)).setCell ⟨g, 6, none⟩ (.int .i64 s.bg)).setCell ⟨g, 7, none⟩ (.int .i64 s.fl)).setCell ⟨g, 8, none⟩ (.int .u8 s.g0)).setCell ⟨g, 9, none⟩ (.int .u8 s.g1)).setCell ⟨g, 10, none⟩ (.int .u8 s.g2)) g ({ s with x := x1, y := y1, wr := false, og := false } : Sc) := SBlk.cell 10 (.int .u8 s.g2) h9 rfl
  have h11 : SBlk (((((((((((w.setCell ⟨g, 1, none⟩ (.int .i64 x1)).setCell ⟨g, 2, none⟩ (.int .i64 y1)).setCell ⟨g, 3, none⟩ (.bool false)).setCell ⟨g, 4, none⟩ (.bool false)).setCell ⟨g, 5, none⟩ (.int .i64 s.fg)).setCell ⟨g, 6, none⟩ (.int .i64 s.bg)).setCell ⟨g, 7, none⟩ (.int .i64 s.fl)).setCell ⟨g, 8, none⟩ (.int .u8 s.g0)).setCell ⟨g, 9, none⟩ (.int .u8 s.g1)).setCell ⟨g, 10, none⟩ (.int .u8 s.g2)).setCell ⟨g, 11, none⟩ (.int .u8 s.g3)) g ({ s with x := x1, y := y1, wr := false, og := false } : Sc) := SBlk.cell 11 (.int .u8 s.g3) h10 rfl
  have h12 : SBlk ((((((((((((w.setCell ⟨g, 1, none⟩ (.int .i64 x1)).setCell ⟨g, 2, none⟩ (.int .i64 y1)).setCell ⟨g, 3, none⟩ (.bool false)).setCell ⟨g, 4, none⟩ (.bool false)).setCell ⟨g, 5, none⟩ (.int .i64 s.fg)).setCell ⟨g, 6, none⟩ (.int .i64 s.bg)).setCell ⟨g, 7, none⟩ (.int .i64 s.fl)).setCell ⟨g, 8, none⟩ (.int .u8 s.g0)).setCell ⟨g, 9, none⟩ (.int .u8 s.g1)).setCell ⟨g, 10, none⟩ (.int .u8 s.g2)).setCell ⟨g, 11, none⟩ (.int .u8 s.g3)).setCell ⟨g, 12, none⟩ (.int .i64 s.gl)) g ({ s with x := x1, y := y1, wr := false, og := false } : Sc) := SBlk.cell 12 (.int .i64 s.gl) h11 rfl
  have h13 : SBlk (((((((((((((w.setCell ⟨g, 1, none⟩ (.int .i64 x1)).setCell ⟨g, 2, none⟩ (.int .i64 y1)).setCell ⟨g, 3, none⟩ (.bool false)).setCell ⟨g, 4, none⟩ (.bool false)).setCell ⟨g, 5, none⟩ (.int .i64 s.fg)).setCell ⟨g, 6, none⟩ (.int .i64 s.bg)).setCell ⟨g, 7, none⟩ (.int .i64 s.fl)).setCell ⟨g, 8, none⟩ (.int .u8 s.g0)).setCell ⟨g, 9, none⟩ (.int .u8 s.g1)).setCell ⟨g, 10, none⟩ (.int .u8 s.g2)).setCell ⟨g, 11, none⟩ (.int .u8 s.g3)).setCell ⟨g, 12, none⟩ (.int .i64 s.gl)).setCell ⟨g, 13, none⟩ (.int .i64 s.gr)) g ({ s with x := x1, y := y1, wr := false, og := false } : Sc) := SBlk.cell 13 (.int .i64 s.gr) h12 rfl
  have h14 : SBlk ((((((((((((((w.setCell ⟨g, 1, none⟩ (.int .i64 x1)).setCell ⟨g, 2, none⟩ (.int .i64 y1)).setCell ⟨g, 3, none⟩ (.bool false)).setCell ⟨g, 4, none⟩ (.bool false)).setCell ⟨g, 5, none⟩ (.int .i64 s.fg)).setCell ⟨g, 6, none⟩ (.int .i64 s.bg)).setCell ⟨g, 7, none⟩ (.int .i64 s.fl)).setCell ⟨g, 8, none⟩ (.int .u8 s.g0)).setCell ⟨g, 9, none⟩ (.int .u8 s.g1)).setCell ⟨g, 10, none⟩ (.int .u8 s.g2)).setCell ⟨g, 11, none⟩ (.int .u8 s.g3)).setCell ⟨g, 12, none⟩ (.int .i64 s.gl)).setCell ⟨g, 13, none⟩ (.int .i64 s.gr)).setCell ⟨g, 14, none⟩ (.int .i64 s.on)) g ({ s with x := x1, y := y1, wr := false, og := false } : Sc) := SBlk.cell 14 (.int .i64 s.on) h13 rfl
  have h15 : SBlk (((((((((((((((w.setCell ⟨g, 1, none⟩ (.int .i64 x1)).setCell ⟨g, 2, none⟩ (.int .i64 y1)).setCell ⟨g, 3, none⟩ (.bool false)).setCell ⟨g, 4, none⟩ (.bool false)).setCell ⟨g, 5, none⟩ (.int .i64 s.fg)).setCell ⟨g, 6, none⟩ (.int .i64 s.bg)).setCell ⟨g, 7, none⟩ (.int .i64 s.fl)).setCell ⟨g, 8, none⟩ (.int .u8 s.g0)).setCell ⟨g, 9, none⟩ (.int .u8 s.g1)).setCell ⟨g, 10, none⟩ (.int .u8 s.g2)).setCell ⟨g, 11, none⟩ (.int .u8 s.g3)).setCell ⟨g, 12, none⟩ (.int .i64 s.gl)).setCell ⟨g, 13, none⟩ (.int .i64 s.gr)).setCell ⟨g, 14, none⟩ (.int .i64 s.on)).setCell ⟨g, 15, none⟩ (.int .i64 (h : Int))) g ({ s with x := x1, y := y1, wr := false, og := false, H := (h : Int) } : Sc) := SBlk.cell 15 (.int .i64 (h : Int)) h14 rfl
  have h16 : SBlk ((((((((((((((((w.setCell ⟨g, 1, none⟩ (.int .i64 x1)).setCell ⟨g, 2, none⟩ (.int .i64 y1)).setCell ⟨g, 3, none⟩ (.bool false)).setCell ⟨g, 4, none⟩ (.bool false)).setCell ⟨g, 5, none⟩ (.int .i64 s.fg)).setCell ⟨g, 6, none⟩ (.int .i64 s.bg)).setCell ⟨g, 7, none⟩ (.int .i64 s.fl)).setCell ⟨g, 8, none⟩ (.int .u8 s.g0)).setCell ⟨g, 9, none⟩ (.int .u8 s.g1)).setCell ⟨g, 10, none⟩ (.int .u8 s.g2)).setCell ⟨g, 11, none⟩ (.int .u8 s.g3)).setCell ⟨g, 12, none⟩ (.int .i64 s.gl)).setCell ⟨g, 13, none⟩ (.int .i64 s.gr)).setCell ⟨g, 14, none⟩ (.int .i64 s.on)).setCell ⟨g, 15, none⟩ (.int .i64 (h : Int))).setCell ⟨g, 16, none⟩ (.int .i64 (q : Int))) g ({ s with x := x1, y := y1, wr := false, og := false, H := (h : Int), W := (q : Int) } : Sc) := SBlk.cell 16 (.int .i64 (q : Int)) h15 rfl
  have h17 : SBlk (((((((((((((((((w.setCell ⟨g, 1, none⟩ (.int .i64 x1)).setCell ⟨g, 2, none⟩ (.int .i64 y1)).setCell ⟨g, 3, none⟩ (.bool false)).setCell ⟨g, 4, none⟩ (.bool false)).setCell ⟨g, 5, none⟩ (.int .i64 s.fg)).setCell ⟨g, 6, none⟩ (.int .i64 s.bg)).setCell ⟨g, 7, none⟩ (.int .i64 s.fl)).setCell ⟨g, 8, none⟩ (.int .u8 s.g0)).setCell ⟨g, 9, none⟩ (.int .u8 s.g1)).setCell ⟨g, 10, none⟩ (.int .u8 s.g2)).setCell ⟨g, 11, none⟩ (.int .u8 s.g3)).setCell ⟨g, 12, none⟩ (.int .i64 s.gl)).setCell ⟨g, 13, none⟩ (.int .i64 s.gr)).setCell ⟨g, 14, none⟩ (.int .i64 s.on)).setCell ⟨g, 15, none⟩ (.int .i64 (h : Int))).setCell ⟨g, 16, none⟩ (.int .i64 (q : Int))).setCell ⟨g, 17, none⟩ (.int .i64 0)) g ({ s with x := x1, y := y1, wr := false, og := false, H := (h : Int), W := (q : Int), T := 0 } : Sc) := SBlk.cell 17 (.int .i64 0) h16 rfl
  have h18 : SBlk ((((((((((((((((((w.setCell ⟨g, 1, none⟩ (.int .i64 x1)).setCell ⟨g, 2, none⟩ (.int .i64 y1)).setCell ⟨g, 3, none⟩ (.bool false)).setCell ⟨g, 4, none⟩ (.bool false)).setCell ⟨g, 5, none⟩ (.int .i64 s.fg)).setCell ⟨g, 6, none⟩ (.int .i64 s.bg)).setCell ⟨g, 7, none⟩ (.int .i64 s.fl)).setCell ⟨g, 8, none⟩ (.int .u8 s.g0)).setCell ⟨g, 9, none⟩ (.int .u8 s.g1)).setCell ⟨g, 10, none⟩ (.int .u8 s.g2)).setCell ⟨g, 11, none⟩ (.int .u8 s.g3)).setCell ⟨g, 12, none⟩ (.int .i64 s.gl)).setCell ⟨g, 13, none⟩ (.int .i64 s.gr)).setCell ⟨g, 14, none⟩ (.int .i64 s.on)).setCell ⟨g, 15, none⟩ (.int .i64 (h : Int))).setCell ⟨g, 16, none⟩ (.int .i64 (q : Int))).setCell ⟨g, 17, none⟩ (.int .i64 0)).setCell ⟨g, 18, none⟩ (.int .i64 (h : Int))) g ({ s with x := x1, y := y1, wr := false, og := false, H := (h : Int), W := (q : Int), T := 0, B := (h : Int) } : Sc) := SBlk.cell 18 (.int .i64 (h : Int)) h17 rfl
  exact h18
end Go.Proofs.YtlchffkabpfjpaaGreat.Scr
