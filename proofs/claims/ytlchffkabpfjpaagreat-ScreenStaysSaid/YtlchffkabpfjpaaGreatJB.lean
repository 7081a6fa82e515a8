/- Joined: Frame RowOpen LstOpen IntsO DocOpen. -/
import Derived.Test.YtlchffkabpfjpaaGreatBase
import Derived.Test.YtlchffkabpfjpaaGreatRows
import Derived.ProofKit
import Derived.OpenShut
import Derived.WideKeyArgs
import Derived.ChangeSame
import Derived.Test.YtlchffkabpfjpaaGreatRowPure
import Derived.Deep.Slices
import Derived.Test.YtlchffkabpfjpaaGreatGA
import Derived.Test.YtlchffkabpfjpaaGreatGG
import Derived.Test.YtlchffkabpfjpaaGreatScrF
section
/- What all laws' last steps share: a struct argument's cells by their types; the arguments read again behind a call that only made new memory; the post of a law. -/
namespace Go.Proofs.YtlchffkabpfjpaaGreat
open Go.ChangeShapes Go.WideShapes Go.ChangeAt Go.RowKit

section
variable {P : Program} {W : World} {base : Nat} {t : TypeId} {v : Value}
theorem cell_int {k : IntKind} (hu : P.underlying t = some (.int k)) (h : Cell.okWide P W .any base t v) : ∃ n, v = .int k n ∧ (Lit.int k n).wf = true := by
  unfold Cell.okWide at h
  rw [hu] at h
  cases v <;> simp [Cell.ok, hu] at h
  obtain ⟨rfl, hh⟩ := h
  refine ⟨_, rfl, ?_⟩
  simpa [Lit.wf, IntKind.has] using hh
theorem cell_bool (hu : P.underlying t = some .bool) (h : Cell.okWide P W .any base t v) : ∃ b, v = .bool b := by
  unfold Cell.okWide at h
  rw [hu] at h
  cases v <;> simp [Cell.ok, hu] at h
  exact ⟨_, rfl⟩
theorem agg_cells {fs : Array Field} {ts : List TypeId} (hu : P.underlying t = some (.struct fs)) (hc : P.cellTypes P.depth t = some ts) (hn : P.cellsOf t = ts.length) (h : Value.okWide P W .any base t v) :
    ∃ cs : List Value, v = .agg cs.toArray ∧ cs.length = ts.length ∧ ∀ (i : Nat) (u : TypeId) (c : Value), ts[i]? = some u → cs[i]? = some c → Cell.okWide P W .any base u c := by
  unfold Value.okWide at h
  rw [hu] at h
  obtain ⟨cs, rfl, hsz, ts', hct, hm, hall⟩ := h
  rw [hc] at hct
  obtain rfl := Option.some.inj hct
  refine ⟨cs.toList, rfl, by simpa using hsz.trans hn, fun i u c hu hcc => ?_⟩
  obtain ⟨u', hu', hok⟩ := hall i c (by simpa using hcc)
  have hi : i < ts.length := (List.getElem?_eq_some_iff.1 hu).1
  rw [Nat.mod_eq_of_lt hi, hu] at hu'
  obtain rfl := Option.some.inj hu'
  exact hok
end

section
variable {H : Type} {enc : TypeId × Value → H} {P : Program}
theorem trodAll_stays (hl : laidOutB P = true) {W W' : World} {sp' : Nat → Bool} :
    ∀ (ts : List TypeId) (vs : List Value) (ds : List (DataW H)) (ps : List MemPlace), (∀ t ∈ ts, P.readableRec t = true ∧ t < P.types.size) →
      DataW.TrodAll enc P W 0 (fun _ => true) true ts vs ds ps → (∀ p ∈ ps, W.sameAt W' p) → (∀ p ∈ ps, sp' p.block = true) → DataW.TrodAll enc P W' 0 sp' true ts vs ds ps
  | [], [], [], _, _, h, _, _ => h
  | t :: ts, v :: vs, d :: ds, _, ht, ⟨p, q, h1, h2, e⟩, hs, hb => by
    subst e
    exact ⟨p, q, WideElems.Trod_stays hl (ht t (by simp)).1 (ht t (by simp)).2 h1 (fun x hx => hs x (by simp [hx])) (fun x hx => hb x (by simp [hx])),
      trodAll_stays hl ts vs ds q (fun t' ht' => ht t' (by simp [ht'])) h2 (fun x hx => hs x (by simp [hx])) (fun x hx => hb x (by simp [hx])), rfl⟩
  | [], [], _ :: _, _, _, h, _, _ => h.elim
  | [], _ :: _, _, _, _, h, _, _ => h.elim
  | _ :: _, [], _, _, _, h, _, _ => h.elim
  | _ :: _, _ :: _, [], _, _, h, _, _ => h.elim

/-- THE POST OF A LAW: it returned true, and below the first new block nothing was changed. -/
theorem law_post {f : Func} {s : ChangeSpec} {apart fresh handsOn again : Bool} {tb : TypeId} {W W' : World} {args : Array Value} {ds gs : List (DataW H)} {before : List MemPlace}
    (hl : laidOutB P = true) (hts : (f.params.toList.all fun t => P.readableRec t && decide (t < P.types.size)) = true) (hv : s.vars = []) (hr : f.resultTypes = #[tb]) (htb : P.underlying tb = some .bool)
    (hW : DataW.Whole enc P f.params.toList s.vars apart W args.toList ds gs before)
    (hfn : s.fn H (ds ++ gs) = { results := [.lit (.bool true)], args := ds }) (hb : Below W.heap.size W W') :
    s.post enc P f apart fresh handsOn again W args (.bool true) W' := by
  have hlt : ∀ p ∈ before, p.block < W.heap.size := fun p hp => hW.lt p hp
  have hold : ∀ p ∈ before, (fun b => decide (b < W.heap.size)) p.block = true := fun p hp => by simpa using hlt p hp
  have hW2 := hW
  obtain ⟨p, q, hA, hV, he, hz, hn⟩ := hW
  rw [hv] at hV
  obtain ⟨rfl, rfl⟩ := trodVars_none hV
  rw [List.append_nil] at he
  subst he
  have hts' : ∀ t ∈ f.params.toList, P.readableRec t = true ∧ t < P.types.size := fun t ht => by
    have := List.all_eq_true.1 hts t ht
    simpa using this
  have hargs : ∀ sp : Nat → Bool, (∀ p ∈ before, sp p.block = true) → DataW.TrodAll enc P W' 0 sp true f.params.toList args.toList ds before := fun sp hsp =>
    trodAll_stays hl _ _ _ _ hts' hA (fun x hx => hb.same (hlt x hx)) hsp
  have hres : ∀ (b : Nat) (sp : Nat → Bool) (hd : Bool), DataW.TrodAll enc P W' b sp hd f.resultTypes.toList ((Value.bool true).resultList f.resultTypes.size) [.lit (.bool true)] [] := fun b sp hd => by
    rw [hr]
    exact trodAll_cons_mk (shut_bool htb _) trodAll_mk0
  have hvars : ∀ sp : Nat → Bool, DataW.TrodVars enc P W' sp s.vars [] [] := fun sp => by rw [hv]; rfl
  refine ⟨ds, [], before, [], before, [], hW2, ?_, ?_, ?_, World.keptBut_mono (fun p hp => ⟨hp, by simpa using hp⟩) (hb.frame (· ∈ before)), fun _ => ?_⟩
  · rw [hfn]; exact hres _ _ _
  · rw [hfn]; exact hargs _ hold
  · rw [hfn]; exact hvars _
  · refine ⟨?_, _, _, ([] ++ before) ++ [], ⟨[] ++ before, [], trodAll_append (hargs _ (fun _ _ => rfl)) (hres _ _ _), hvars _, rfl, ?_, ?_⟩, ?_⟩
    · intro j t r hj hr'
      rw [hr] at hj hr'
      match j with
      | 0 =>
        simp at hj
        subst hj
        simp [Value.resultList] at hr'
        subst hr'
        exact okWide_bool_mk htb true
      | j + 1 => simp at hj
    · intro b off hp
      have hin : MemPlace.cell b off ∈ before := by simpa using hp
      rw [hb.frozen (hlt _ hin)]
      exact hz b off hin
    · intro ha
      simpa using hn ha
    · intro p hp _
      simpa using hp
end
end Go.Proofs.YtlchffkabpfjpaaGreat
end
section
/- Arguments that come in: a cell by value, a slice of cells, a row, a list of rows; what they hold. -/
namespace Go.Proofs.YtlchffkabpfjpaaGreat.Row
open Go.ChangeShapes Go.WideShapes Go.ChangeAt Go.RowKit

theorem cells_int : Tryz.prog.cellsOf 3 = 1 := by kernel_rfl
theorem cells_marks : Tryz.prog.cellsOf 65 = 2 := by kernel_rfl
theorem cells_pen : Tryz.prog.cellsOf 26 = 3 := by kernel_rfl
theorem cells_cell : Tryz.prog.cellsOf 67 = 7 := by kernel_rfl
theorem cells_row : Tryz.prog.cellsOf 64 = 4 := by kernel_rfl
theorem cells_slice : Tryz.prog.cellsOf 62 = 1 := by kernel_rfl
theorem cells_bool : Tryz.prog.cellsOf 4 = 1 := by kernel_rfl
section
variable {H : Type} {enc : TypeId × Value → H} {w : World} {base : Nat} {spare : Nat → Bool} {held : Bool}
theorem some_of {α : Type} {xs : List α} {n i : Nat} (h : xs.length = n) (hi : i < n) : ∃ y, xs[i]? = some y := ⟨_, List.getElem?_eq_getElem (by omega)⟩
set_option maxRecDepth 100000 in
theorem cell_of_trod {fuel : Nat} {cs : List Value} {x : DataW H × List MemPlace} (h : DataW.trod enc Tryz.prog w base spare held fuel 67 cs = some x) :
    ∃ c : Cl, cs = [.int .i64 c.r, .int .i64 c.m0, .int .i64 c.m1, .int .i64 c.w, .int .i64 c.fg, .int .i64 c.bg, .int .i64 c.fl] := by
  obtain ⟨xs, n, _, _, hlen, hxl, hg⟩ := DataW.trod_struct Tryz.underlying67 h
  rw [cells_cell] at hlen
  match cs, hlen with
  | [c0, c1, c2, c3, c4, c5, c6], _ =>
    obtain ⟨y0, e0⟩ := some_of (i := 0) hxl (by decide)
    obtain ⟨y1, e1⟩ := some_of (i := 1) hxl (by decide)
    obtain ⟨y2, e2⟩ := some_of (i := 2) hxl (by decide)
    obtain ⟨y3, e3⟩ := some_of (i := 3) hxl (by decide)
    have h0 : DataW.trod enc Tryz.prog w base spare held n 3 (([c0, c1, c2, c3, c4, c5, c6].drop 0).take (Tryz.prog.cellsOf 3)) = xs[0]? := hg 0 _ rfl
    have h1 : DataW.trod enc Tryz.prog w base spare held n 65 (([c0, c1, c2, c3, c4, c5, c6].drop 1).take (Tryz.prog.cellsOf 65)) = xs[1]? := hg 1 _ rfl
    have h2 : DataW.trod enc Tryz.prog w base spare held n 3 (([c0, c1, c2, c3, c4, c5, c6].drop 3).take (Tryz.prog.cellsOf 3)) = xs[2]? := hg 2 _ rfl
    have h3 : DataW.trod enc Tryz.prog w base spare held n 26 (([c0, c1, c2, c3, c4, c5, c6].drop 4).take (Tryz.prog.cellsOf 26)) = xs[3]? := hg 3 _ rfl
    rw [e0] at h0
    rw [e1] at h1
    rw [e2] at h2
    rw [e3] at h3
    rw [cells_int] at h0 h2
    rw [cells_marks] at h1
    rw [cells_pen] at h3
    simp only [List.drop_zero, List.drop_succ_cons, List.take_succ_cons, List.take_zero] at h0 h1 h2 h3
    obtain ⟨a0, p0, _⟩ := DataW.trod_int Tryz.underlying3 h0
    obtain ⟨a3, p3, _⟩ := DataW.trod_int Tryz.underlying3 h2
    obtain ⟨zs, m, _, _, _, hzl, hz⟩ := DataW.trod_array Tryz.underlying65 h1
    obtain ⟨z0, f0⟩ := some_of (i := 0) hzl (by decide)
    obtain ⟨z1, f1⟩ := some_of (i := 1) hzl (by decide)
    have k0 : DataW.trod enc Tryz.prog w base spare held m 3 (([c1, c2].drop (0 * Tryz.prog.cellsOf 3)).take (Tryz.prog.cellsOf 3)) = zs[0]? := hz 0 (by decide)
    have k1 : DataW.trod enc Tryz.prog w base spare held m 3 (([c1, c2].drop (1 * Tryz.prog.cellsOf 3)).take (Tryz.prog.cellsOf 3)) = zs[1]? := hz 1 (by decide)
    rw [f0] at k0
    rw [f1] at k1
    rw [cells_int] at k0 k1
    simp only [Nat.zero_mul, Nat.one_mul, List.drop_zero, List.drop_succ_cons, List.take_succ_cons, List.take_zero] at k0 k1
    obtain ⟨a1, p1, _⟩ := DataW.trod_int Tryz.underlying3 k0
    obtain ⟨a2, p2, _⟩ := DataW.trod_int Tryz.underlying3 k1
    obtain ⟨us, m', _, _, _, hul, hu⟩ := DataW.trod_struct Tryz.underlying26 h3
    obtain ⟨u0, g0⟩ := some_of (i := 0) hul (by decide)
    obtain ⟨u1, g1⟩ := some_of (i := 1) hul (by decide)
    obtain ⟨u2, g2⟩ := some_of (i := 2) hul (by decide)
    have l0 : DataW.trod enc Tryz.prog w base spare held m' 3 (([c4, c5, c6].drop 0).take (Tryz.prog.cellsOf 3)) = us[0]? := hu 0 _ rfl
    have l1 : DataW.trod enc Tryz.prog w base spare held m' 3 (([c4, c5, c6].drop 1).take (Tryz.prog.cellsOf 3)) = us[1]? := hu 1 _ rfl
    have l2 : DataW.trod enc Tryz.prog w base spare held m' 3 (([c4, c5, c6].drop 2).take (Tryz.prog.cellsOf 3)) = us[2]? := hu 2 _ rfl
    rw [g0] at l0
    rw [g1] at l1
    rw [g2] at l2
    rw [cells_int] at l0 l1 l2
    simp only [List.drop_zero, List.drop_succ_cons, List.take_succ_cons, List.take_zero] at l0 l1 l2
    obtain ⟨a4, p4, _⟩ := DataW.trod_int Tryz.underlying3 l0
    obtain ⟨a5, p5, _⟩ := DataW.trod_int Tryz.underlying3 l1
    obtain ⟨a6, p6, _⟩ := DataW.trod_int Tryz.underlying3 l2
    simp at p0 p1 p2 p3 p4 p5 p6
    refine ⟨⟨a0, a1, a2, a3, a4, a5, a6⟩, ?_⟩
    simp [p0, p1, p2, p3, p4, p5, p6]

set_option maxRecDepth 100000 in
/-- a slice of cells that comes in reads as cells -/
theorem slice_open {fuel : Nat} {cs : List Value} {x : DataW H × List MemPlace} (h : DataW.trod enc Tryz.prog w base spare held fuel 62 cs = some x) :
    ∃ (A : Option Addr) (n cap : Nat) (f : Nat → Cl), cs = [.slice A n cap] ∧ n ≤ cap ∧ cap ≤ maxLen ∧ Rd w A n f := by
  rcases Deep.open_slice Tryz.underlying62 h with ⟨rfl, _⟩ | ⟨a, n, cap, m, fu, D, Pl, rfl, _, hnc, hcap, hm, _, hx⟩
  · exact ⟨none, 0, 0, fun _ => ⟨0, 0, 0, 0, 0, 0, 0⟩, rfl, Nat.le_refl _, by unfold maxLen; omega, fun h => absurd h (by omega)⟩
  · have hnm : n ≤ m := by rw [hm]; split <;> omega
    have hall : ∀ i, i < n → a.spot = none ∧ a.block < w.heap.size ∧ ∃ c : Cl, CellAt w a.block (a.off + i * 7) c := fun i hi => by
      obtain ⟨cs', h1, h2⟩ := hx i (by omega)
      obtain ⟨c, rfl⟩ := cell_of_trod h2
      rw [cells_cell] at h1
      obtain ⟨_, _, hat⟩ := World.cells?_some h1
      obtain ⟨b, o, sp⟩ := a
      cases sp with
      | some s0 =>
        exfalso
        obtain ⟨cs0, g1, g2⟩ := hx 0 (by omega)
        rw [cells_cell] at g1
        obtain ⟨_, gl, gat⟩ := World.cells?_some g1
        have h0 := gat 0 (by omega)
        have e : ((⟨b, o, some s0⟩ : Addr).add (0 * 7)).add 0 = ⟨b, o, some s0⟩ := rfl
        rw [e, List.getElem?_eq_getElem (by omega)] at h0
        unfold World.cell? at h0
        split at h0 <;> simp at h0
      | none =>
        have hb : b < w.heap.size := by
          have h0 := hat 0 (by omega)
          have hb := World.block_lt_of_cell? w _ h0
          have e : (((⟨b, o, none⟩ : Addr).add (i * 7)).add 0).block = b := by unfold Addr.add; split <;> split <;> rfl
          rwa [e] at hb
        have hc : ∀ j, j < 7 → w.cell? ⟨b, o + i * 7 + j, none⟩ = [Value.int .i64 c.r, .int .i64 c.m0, .int .i64 c.m1, .int .i64 c.w, .int .i64 c.fg, .int .i64 c.bg, .int .i64 c.fl][j]? := fun j hj => by
          have h0 := hat j hj
          have e : ((⟨b, o, none⟩ : Addr).add (i * 7)).add j = ⟨b, o + i * 7 + j, none⟩ := by
            unfold Addr.add
            split <;> split <;> simp_all
          rwa [e] at h0
        exact ⟨rfl, hb, c, hc 0 (by omega), hc 1 (by omega), hc 2 (by omega), hc 3 (by omega), hc 4 (by omega), hc 5 (by omega), hc 6 (by omega)⟩
    by_cases h0 : 0 < n
    · obtain ⟨b, o, sp⟩ := a
      obtain ⟨rfl, hb, _⟩ := hall 0 h0
      have hch : ∀ i, ∃ c : Cl, i < n → CellAt w b (o + i * 7) c := fun i => by
        by_cases hi : i < n
        · obtain ⟨_, _, c, hc⟩ := hall i hi
          exact ⟨c, fun _ => hc⟩
        · exact ⟨⟨0, 0, 0, 0, 0, 0, 0⟩, fun h => absurd h hi⟩
      exact ⟨_, n, cap, fun i => (hch i).choose, rfl, hnc, hcap, fun _ => ⟨b, o, rfl, hb, fun i hi => (hch i).choose_spec hi⟩⟩
    · exact ⟨_, n, cap, fun _ => ⟨0, 0, 0, 0, 0, 0, 0⟩, rfl, hnc, hcap, fun h => absurd h h0⟩

end
end Go.Proofs.YtlchffkabpfjpaaGreat.Row
end
section
/- A slice of rows that comes in; history's and the document's structs of it. -/
namespace Go.Proofs.YtlchffkabpfjpaaGreat.Row
open Go.ChangeShapes Go.WideShapes Go.ChangeAt Go.RowKit
section
variable {H : Type} {enc : TypeId × Value → H} {w : World} {base : Nat} {spare : Nat → Bool} {held : Bool}
set_option maxRecDepth 100000 in
theorem row_of_trod {fuel : Nat} {cs : List Value} {x : DataW H × List MemPlace} (h : DataW.trod enc Tryz.prog w base spare held fuel 64 cs = some x) :
    ∃ r : Rw, cs = r.cells ∧ r.ok0 w := by
  obtain ⟨xs, n, _, _, hlen, hxl, hg⟩ := DataW.trod_struct Tryz.underlying64 h
  rw [cells_row] at hlen
  match cs, hlen with
  | [c0, c1, c2, c3], _ =>
    obtain ⟨y0, e0⟩ := some_of (i := 0) hxl (by decide)
    obtain ⟨y1, e1⟩ := some_of (i := 1) hxl (by decide)
    obtain ⟨y2, e2⟩ := some_of (i := 2) hxl (by decide)
    obtain ⟨y3, e3⟩ := some_of (i := 3) hxl (by decide)
    have h0 : DataW.trod enc Tryz.prog w base spare held n 62 (([c0, c1, c2, c3].drop 0).take (Tryz.prog.cellsOf 62)) = xs[0]? := hg 0 _ rfl
    have h1 : DataW.trod enc Tryz.prog w base spare held n 4 (([c0, c1, c2, c3].drop 1).take (Tryz.prog.cellsOf 4)) = xs[1]? := hg 1 _ rfl
    have h2 : DataW.trod enc Tryz.prog w base spare held n 3 (([c0, c1, c2, c3].drop 2).take (Tryz.prog.cellsOf 3)) = xs[2]? := hg 2 _ rfl
    have h3 : DataW.trod enc Tryz.prog w base spare held n 4 (([c0, c1, c2, c3].drop 3).take (Tryz.prog.cellsOf 4)) = xs[3]? := hg 3 _ rfl
    rw [e0] at h0
    rw [e1] at h1
    rw [e2] at h2
    rw [e3] at h3
    rw [cells_slice] at h0
    rw [cells_bool] at h1 h3
    rw [cells_int] at h2
    simp only [List.drop_zero, List.drop_succ_cons, List.take_succ_cons, List.take_zero] at h0 h1 h2 h3
    obtain ⟨A, m, cap, f, p0, k1, k2, k3⟩ := slice_open h0
    obtain ⟨b1, p1, _⟩ := DataW.trod_bool Tryz.underlying4 h1
    obtain ⟨a2, p2, _⟩ := DataW.trod_int Tryz.underlying3 h2
    obtain ⟨b3, p3, _⟩ := DataW.trod_bool Tryz.underlying4 h3
    simp at p0 p1 p2 p3
    refine ⟨⟨A, m, cap, f, b1, a2, b3⟩, ?_, k3, k1, k2⟩
    simp [Rw.cells, p0, p1, p2, p3]

set_option maxRecDepth 100000 in
/-- a slice of rows that comes in reads as rows -/
theorem rows_open {fuel : Nat} {cs : List Value} {x : DataW H × List MemPlace} (h : DataW.trod enc Tryz.prog w base spare held fuel 22 cs = some x) :
    ∃ (v : Value) (L : List Rw), cs = [v] ∧ RdR0 w v L ∧ L.length ≤ maxLen := by
  rcases Deep.open_slice Tryz.underlying22 h with ⟨rfl, _⟩ | ⟨a, n, cap, m, fu, D, Pl, rfl, _, hnc, hcap, hm, _, hx⟩
  · exact ⟨_, [], rfl, ⟨RdX.nil w none 0, fun r hr => by cases hr⟩, by simp⟩
  · have hnm : n ≤ m := by rw [hm]; split <;> omega
    have hall : ∀ i, i < n → a.spot = none ∧ a.block < w.heap.size ∧ ∃ r : Rw, RowAt w a.block (a.off + i * 4) r ∧ r.ok0 w := fun i hi => by
      obtain ⟨cs', h1, h2⟩ := hx i (by omega)
      obtain ⟨r, rfl, hok⟩ := row_of_trod h2
      rw [cells_row] at h1
      obtain ⟨_, _, hat⟩ := World.cells?_some h1
      obtain ⟨b, o, sp⟩ := a
      cases sp with
      | some s0 =>
        exfalso
        obtain ⟨cs0, g1, g2⟩ := hx 0 (by omega)
        rw [cells_row] at g1
        obtain ⟨_, gl, gat⟩ := World.cells?_some g1
        have h0 := gat 0 (by omega)
        have e : ((⟨b, o, some s0⟩ : Addr).add (0 * 4)).add 0 = ⟨b, o, some s0⟩ := rfl
        rw [e, List.getElem?_eq_getElem (by omega)] at h0
        unfold World.cell? at h0
        split at h0 <;> simp at h0
      | none =>
        have hb : b < w.heap.size := by
          have h0 := hat 0 (by omega)
          have hb := World.block_lt_of_cell? w _ h0
          have e : (((⟨b, o, none⟩ : Addr).add (i * 4)).add 0).block = b := by unfold Addr.add; split <;> split <;> rfl
          rwa [e] at hb
        have hc : ∀ j, j < 4 → w.cell? ⟨b, o + i * 4 + j, none⟩ = r.cells[j]? := fun j hj => by
          have h0 := hat j hj
          have e : ((⟨b, o, none⟩ : Addr).add (i * 4)).add j = ⟨b, o + i * 4 + j, none⟩ := by
            unfold Addr.add
            split <;> split <;> simp_all
          rwa [e] at h0
        exact ⟨rfl, hb, r, ⟨hc 0 (by omega), hc 1 (by omega), hc 2 (by omega), hc 3 (by omega)⟩, hok⟩
    have hch : ∀ i, ∃ r : Rw, i < n → RowAt w a.block (a.off + i * 4) r ∧ r.ok0 w := fun i => by
      by_cases hi : i < n
      · obtain ⟨_, _, r, hr⟩ := hall i hi
        exact ⟨r, fun _ => hr⟩
      · exact ⟨⟨none, 0, 0, fun _ => ⟨0, 0, 0, 0, 0, 0, 0⟩, false, 0, false⟩, fun h => absurd h hi⟩
    have hlen : ((List.range n).map fun i => (hch i).choose).length = n := by simp
    refine ⟨_, (List.range n).map fun i => (hch i).choose, rfl, ⟨⟨some a, cap, by rw [hlen], by rw [hlen]; exact hnc, fun hn => ?_⟩, fun r hr => ?_⟩, by rw [hlen]; omega⟩
    · rw [hlen] at hn
      obtain ⟨b, o, sp⟩ := a
      obtain ⟨rfl, hb, _⟩ := hall 0 hn
      refine ⟨b, o, rfl, hb, fun j r hj => ?_⟩
      have hjn : j < n := by have := (List.getElem?_eq_some_iff.1 hj).1; rwa [hlen] at this
      have hr : r = (hch j).choose := by
        rw [List.getElem?_map, List.getElem?_range hjn] at hj
        exact (Option.some.inj hj).symm
      rw [hr]
      exact rowAt_to ((hch j).choose_spec hjn).1
    · obtain ⟨i, hi, rfl⟩ := List.mem_map.1 hr
      exact ((hch i).choose_spec (List.mem_range.1 hi)).2
theorem cells_rows : Tryz.prog.cellsOf 22 = 1 := by kernel_rfl
end
end Go.Proofs.YtlchffkabpfjpaaGreat.Row
end
section
/- A slice of ints that comes in. -/
namespace Go.Proofs.YtlchffkabpfjpaaGreat.Tab
open Go.ChangeShapes Go.WideShapes Go.ChangeAt Go.RowKit
theorem cells_int : Tryz.prog.cellsOf 3 = 1 := by kernel_rfl
section
variable {H : Type} {enc : TypeId × Value → H} {w : World} {base : Nat} {spare : Nat → Bool} {held : Bool}
set_option maxRecDepth 100000 in
/-- a slice of ints that comes in reads as ints -/
theorem ints_open {fuel : Nat} {cs : List Value} {x : DataW H × List MemPlace} (h : DataW.trod enc Tryz.prog w base spare held fuel 34 cs = some x) :
    ∃ (v : Value) (zs : List Int), cs = [v] ∧ RdI w v zs := by
  rcases Deep.open_slice Tryz.underlying34 h with ⟨rfl, _⟩ | ⟨a, n, cap, m, fu, D, Pl, rfl, _, hnc, hcap, hm, _, hx⟩
  · exact ⟨_, [], rfl, none, 0, rfl, fun h => absurd h (by simp)⟩
  · have hnm : n ≤ m := by rw [hm]; split <;> omega
    have hall : ∀ i, i < n → a.spot = none ∧ a.block < w.heap.size ∧ ∃ z : Int, w.cell? ⟨a.block, a.off + i, none⟩ = some (.int .i64 z) := fun i hi => by
      obtain ⟨cs', h1, h2⟩ := hx i (by omega)
      obtain ⟨z, p2, _⟩ := DataW.trod_int Tryz.underlying3 h2
      rw [cells_int, Nat.mul_one] at h1
      obtain ⟨_, _, hat⟩ := World.cells?_some h1
      obtain ⟨b, o, sp⟩ := a
      have h0 := hat 0 (by omega)
      have h00 : ∃ u, w.cell? (((⟨b, o, sp⟩ : Addr).add i).add 0) = some u ∧ cs' = [u] := by
        rw [p2] at h0 ⊢
        exact ⟨_, h0, rfl⟩
      cases sp with
      | some s0 =>
        exfalso
        obtain ⟨cs0, g1, g2⟩ := hx 0 (by omega)
        rw [cells_int] at g1
        obtain ⟨_, gl, gat⟩ := World.cells?_some g1
        have h0 := gat 0 (by omega)
        have e : ((⟨b, o, some s0⟩ : Addr).add (0 * 1)).add 0 = ⟨b, o, some s0⟩ := rfl
        rw [e, List.getElem?_eq_getElem (by omega)] at h0
        unfold World.cell? at h0
        split at h0 <;> simp at h0
      | none =>
        obtain ⟨u, h3, h4⟩ := h00
        have e : ((⟨b, o, none⟩ : Addr).add i).add 0 = ⟨b, o + i, none⟩ := by
          unfold Addr.add
          split <;> split <;> simp_all
        rw [e] at h3
        rw [p2] at h4
        injection h4 with h4
        subst h4
        have hbb := World.block_lt_of_cell? w ⟨b, o + i, none⟩ h3
        exact ⟨rfl, hbb, z, h3⟩
    have hch : ∀ i, ∃ z : Int, i < n → w.cell? ⟨a.block, a.off + i, none⟩ = some (.int .i64 z) := fun i => by
      by_cases hi : i < n
      · obtain ⟨_, _, z, hz⟩ := hall i hi
        exact ⟨z, fun _ => hz⟩
      · exact ⟨0, fun h => absurd h hi⟩
    have hlen : ((List.range n).map fun i => (hch i).choose).length = n := by simp
    refine ⟨_, (List.range n).map fun i => (hch i).choose, rfl, some a, cap, by rw [hlen], fun hn => ?_⟩
    rw [hlen] at hn
    obtain ⟨b, o, sp⟩ := a
    obtain ⟨rfl, hb, _⟩ := hall 0 hn
    refine ⟨b, o, rfl, hb, fun j r hj => ?_⟩
    have hjn : j < n := by have := (List.getElem?_eq_some_iff.1 hj).1; rwa [hlen] at this
    have hr : r = (hch j).choose := by
      rw [List.getElem?_map, List.getElem?_range hjn] at hj
      exact (Option.some.inj hj).symm
    rw [hr]
    exact (hch j).choose_spec hjn
end
end Go.Proofs.YtlchffkabpfjpaaGreat.Tab
end
section
/- The document's screen as it comes in, by value. -/
namespace Go.Proofs.YtlchffkabpfjpaaGreat.Scr
open Go.ChangeShapes Go.WideShapes Go.ChangeAt Go.RowKit Go.Proofs.YtlchffkabpfjpaaGreat.Row
theorem leaves15 : Tryz.prog.cellTypes Tryz.prog.depth 40 = some [22, 3, 3, 4, 4, 3, 3, 3, 5, 5, 5, 5, 3, 3, 3, 3, 3, 3, 3, 34, 3, 22, 3, 3, 4] := by kernel_rfl
theorem cells15 : Tryz.prog.cellsOf 40 = 25 := by kernel_rfl
theorem cells_g9 : Tryz.prog.cellsOf 24 = 1 := by kernel_rfl
theorem cells_s12 : Tryz.prog.cellsOf 36 = 2 := by kernel_rfl
theorem cells_k10 : Tryz.prog.cellsOf 38 = 2 := by kernel_rfl
theorem cells_rw : Tryz.prog.cellsOf 22 = 1 := by kernel_rfl
theorem cells_is : Tryz.prog.cellsOf 34 = 1 := by kernel_rfl
section
variable {H : Type} {enc : TypeId × Value → H}
theorem some_at {α : Type} {xs : List α} {n i : Nat} (h : xs.length = n) (hi : i < n) : ∃ y, xs[i]? = some y := ⟨_, List.getElem?_eq_getElem (by omega)⟩
set_option maxRecDepth 100000 in
set_option maxHeartbeats 2000000 in
theorem doc_open {W0 : World} {base : Nat} {v : Value} {d : DataW H} {p : List MemPlace} (h : Value.okWide Tryz.prog W0 .any base 40 v) (ht : DataW.Trod enc Tryz.prog W0 0 (fun _ => true) true 40 v d p) :
    ∃ (s : Sc) (Lg Lk : List Rw) (zs : List Int), v = .agg #[.slice s.gA s.gn s.gc, .int .i64 s.x, .int .i64 s.y, .bool s.wr, .bool s.og, .int .i64 s.fg, .int .i64 s.bg, .int .i64 s.fl, .int .u8 s.g0, .int .u8 s.g1, .int .u8 s.g2, .int .u8 s.g3, .int .i64 s.gl, .int .i64 s.gr, .int .i64 s.on, .int .i64 s.H, .int .i64 s.W, .int .i64 s.T, .int .i64 s.B, .slice s.tA s.tn s.tc, .int .i64 s.tw, .slice s.kA s.kn s.kc, .int .i64 s.kp, .int .i64 s.dir, .bool s.ex] ∧ RdR0 W0 (.slice s.gA s.gn s.gc) Lg ∧ Lg.length ≤ maxLen ∧ RdI W0 (.slice s.tA s.tn s.tc) zs ∧ RdR0 W0 (.slice s.kA s.kn s.kc) Lk ∧ Lk.length ≤ maxLen ∧ (Lit.int .i64 s.W).wf = true := by
  obtain ⟨cs, rfl, hlen, hc⟩ := agg_cells Tryz.underlying40 leaves15 cells15 h
  obtain ⟨fuel, hf⟩ := ht
  match cs, hlen with
  | [c0, c1, c2, c3, c4, c5, c6, c7, c8, c9, c10, c11, c12, c13, c14, c15, c16, c17, c18, c19, c20, c21, c22, c23, c24], _ =>
    obtain ⟨x, rfl, w1⟩ := cell_int Tryz.underlying3 (hc 1 _ _ rfl rfl)
    obtain ⟨y, rfl, w2⟩ := cell_int Tryz.underlying3 (hc 2 _ _ rfl rfl)
    obtain ⟨wr, rfl⟩ := cell_bool Tryz.underlying4 (hc 3 _ _ rfl rfl)
    obtain ⟨og, rfl⟩ := cell_bool Tryz.underlying4 (hc 4 _ _ rfl rfl)
    obtain ⟨fg, rfl, w5⟩ := cell_int Tryz.underlying3 (hc 5 _ _ rfl rfl)
    obtain ⟨bg, rfl, w6⟩ := cell_int Tryz.underlying3 (hc 6 _ _ rfl rfl)
    obtain ⟨fl, rfl, w7⟩ := cell_int Tryz.underlying3 (hc 7 _ _ rfl rfl)
    obtain ⟨g0, rfl, w8⟩ := cell_int Tryz.underlying5 (hc 8 _ _ rfl rfl)
    obtain ⟨g1, rfl, w9⟩ := cell_int Tryz.underlying5 (hc 9 _ _ rfl rfl)
    obtain ⟨g2, rfl, w10⟩ := cell_int Tryz.underlying5 (hc 10 _ _ rfl rfl)
    obtain ⟨g3, rfl, w11⟩ := cell_int Tryz.underlying5 (hc 11 _ _ rfl rfl)
    obtain ⟨gl, rfl, w12⟩ := cell_int Tryz.underlying3 (hc 12 _ _ rfl rfl)
    obtain ⟨gr, rfl, w13⟩ := cell_int Tryz.underlying3 (hc 13 _ _ rfl rfl)
    obtain ⟨on, rfl, w14⟩ := cell_int Tryz.underlying3 (hc 14 _ _ rfl rfl)
    obtain ⟨H, rfl, w15⟩ := cell_int Tryz.underlying3 (hc 15 _ _ rfl rfl)
    obtain ⟨W, rfl, w16⟩ := cell_int Tryz.underlying3 (hc 16 _ _ rfl rfl)
    obtain ⟨T, rfl, w17⟩ := cell_int Tryz.underlying3 (hc 17 _ _ rfl rfl)
    obtain ⟨B, rfl, w18⟩ := cell_int Tryz.underlying3 (hc 18 _ _ rfl rfl)
    obtain ⟨tw, rfl, w20⟩ := cell_int Tryz.underlying3 (hc 20 _ _ rfl rfl)
    obtain ⟨kp, rfl, w22⟩ := cell_int Tryz.underlying3 (hc 22 _ _ rfl rfl)
    obtain ⟨dir, rfl, w23⟩ := cell_int Tryz.underlying3 (hc 23 _ _ rfl rfl)
    obtain ⟨ex, rfl⟩ := cell_bool Tryz.underlying4 (hc 24 _ _ rfl rfl)
    obtain ⟨xs, n, _, _, _, hxl, hg⟩ := DataW.trod_struct Tryz.underlying40 hf
    obtain ⟨y0, e0⟩ := some_at (i := 0) hxl (by decide)
    obtain ⟨y3, e3⟩ := some_at (i := 3) hxl (by decide)
    obtain ⟨y4, e4⟩ := some_at (i := 4) hxl (by decide)
    have h0 : DataW.trod enc Tryz.prog W0 0 (fun _ => true) true n 24 (([c0, (.int .i64 x : Value), (.int .i64 y : Value), (.bool wr : Value), (.bool og : Value), (.int .i64 fg : Value), (.int .i64 bg : Value), (.int .i64 fl : Value), (.int .u8 g0 : Value), (.int .u8 g1 : Value), (.int .u8 g2 : Value), (.int .u8 g3 : Value), (.int .i64 gl : Value), (.int .i64 gr : Value), (.int .i64 on : Value), (.int .i64 H : Value), (.int .i64 W : Value), (.int .i64 T : Value), (.int .i64 B : Value), c19, (.int .i64 tw : Value), c21, (.int .i64 kp : Value), (.int .i64 dir : Value), (.bool ex : Value)].drop 0).take (Tryz.prog.cellsOf 24)) = xs[0]? := hg 0 _ rfl
    have h3 : DataW.trod enc Tryz.prog W0 0 (fun _ => true) true n 36 (([c0, (.int .i64 x : Value), (.int .i64 y : Value), (.bool wr : Value), (.bool og : Value), (.int .i64 fg : Value), (.int .i64 bg : Value), (.int .i64 fl : Value), (.int .u8 g0 : Value), (.int .u8 g1 : Value), (.int .u8 g2 : Value), (.int .u8 g3 : Value), (.int .i64 gl : Value), (.int .i64 gr : Value), (.int .i64 on : Value), (.int .i64 H : Value), (.int .i64 W : Value), (.int .i64 T : Value), (.int .i64 B : Value), c19, (.int .i64 tw : Value), c21, (.int .i64 kp : Value), (.int .i64 dir : Value), (.bool ex : Value)].drop 19).take (Tryz.prog.cellsOf 36)) = xs[3]? := hg 3 _ rfl
    have h4 : DataW.trod enc Tryz.prog W0 0 (fun _ => true) true n 38 (([c0, (.int .i64 x : Value), (.int .i64 y : Value), (.bool wr : Value), (.bool og : Value), (.int .i64 fg : Value), (.int .i64 bg : Value), (.int .i64 fl : Value), (.int .u8 g0 : Value), (.int .u8 g1 : Value), (.int .u8 g2 : Value), (.int .u8 g3 : Value), (.int .i64 gl : Value), (.int .i64 gr : Value), (.int .i64 on : Value), (.int .i64 H : Value), (.int .i64 W : Value), (.int .i64 T : Value), (.int .i64 B : Value), c19, (.int .i64 tw : Value), c21, (.int .i64 kp : Value), (.int .i64 dir : Value), (.bool ex : Value)].drop 21).take (Tryz.prog.cellsOf 38)) = xs[4]? := hg 4 _ rfl
    rw [e0, cells_g9] at h0
    rw [e3, cells_s12] at h3
    rw [e4, cells_k10] at h4
    simp only [List.drop_zero, List.drop_succ_cons, List.take_succ_cons, List.take_zero] at h0 h3 h4
    obtain ⟨u0, m0, _, _, k0⟩ := trod_struct1 Tryz.underlying24 h0
    obtain ⟨u3, v3, m3, _, _, k3, _⟩ := trod_struct2 Tryz.underlying36 h3
    obtain ⟨u4, v4, m4, _, _, k4, _⟩ := trod_struct2 Tryz.underlying38 h4
    dsimp only at k0 k3 k4
    rw [cells_rw] at k0 k4
    rw [cells_is] at k3
    simp only [List.drop_zero, List.take_succ_cons, List.take_zero] at k0 k3 k4
    obtain ⟨a0, Lg, q0, r0, l0⟩ := rows_open k0
    obtain ⟨a3, zs, q3, r3⟩ := Tab.ints_open k3
    obtain ⟨a4, Lk, q4, r4, l4⟩ := rows_open k4
    obtain rfl : c0 = a0 := by simpa using q0
    obtain rfl : c19 = a3 := by simpa using q3
    obtain rfl : c21 = a4 := by simpa using q4
    obtain ⟨A0, p0, rfl, -⟩ := r0.1.len
    obtain ⟨A3, p3, rfl, -⟩ := id r3
    obtain ⟨A4, p4, rfl, -⟩ := r4.1.len
    exact ⟨⟨A0, Lg.length, p0, x, y, wr, og, fg, bg, fl, g0, g1, g2, g3, gl, gr, on, H, W, T, B, A3, zs.length, p3, tw, A4, Lk.length, p4, kp, dir, ex⟩, Lg, Lk, zs, rfl, r0, l0, r3, r4, l4, w16⟩
end
end Go.Proofs.YtlchffkabpfjpaaGreat.Scr
end
