/- Joined: RflE RflJ RflK RflM RflW RflQ RflR RflL RflN RflG. -/
import Derived.Test.YtlchffkabpfjpaaGreatGI
import Derived.RegionTactic
import Derived.ChangeAlike
import Derived.Deep.RegionWith
section
/- reflow.Find. -/
namespace Go.Proofs.YtlchffkabpfjpaaGreat.Row
open Go.RowKit
/-- the line and the place in it where the row k begins -/
def findN (L : List Rw) : Nat → Nat × Nat
  | 0 => (0, 0)
  | k + 1 => match L[k]? with
    | some r => if r.wb = true then ((findN L k).1, (findN L k).2 + rmN r L[k + 1]?) else ((findN L k).1 + 1, 0)
    | none => findN L k
theorem rmN_le (r : Rw) (o : Option Rw) : rmN r o ≤ r.n := by
  unfold rmN
  split <;> omega
theorem findN_le {L : List Rw} (h : ∀ r ∈ L, r.n ≤ 5000) : ∀ k, (findN L k).1 ≤ k ∧ (findN L k).2 ≤ k * 5000
  | 0 => ⟨Nat.le_refl _, Nat.le_refl _⟩
  | k + 1 => by
    have hk := findN_le h k
    unfold findN
    split
    · rename_i r hr
      have h1 := rmN_le r L[k + 1]?
      have h2 := h r (List.mem_of_getElem? hr)
      split <;> simp only <;> omega
    · omega
def FindP (e : Ending) (a b : Int) (ok : Bool) : Prop := e = .returned (.tuple #[.agg #[.int .i64 a, .int .i64 b], .bool ok])
theorem findP_of {L : List Rw} {i a c : Nat} {p : Int} (h1 : (findN L i).1 = a) (h2 : (findN L i).2 = c) : FindP (.returned (.tuple #[.agg #[.int .i64 a, .int .i64 ((c : Int) + p)], .bool true])) (findN L i).1 ((findN L i).2 + p) true := by
  rw [h1, h2]
  rfl
theorem sane_n {L : List Rw} (h : areB L = true) : ∀ r ∈ L, 1 ≤ r.n := fun r hr => (sane_iff.1 (areB_iff.1 h r hr)).1
set_option maxRecDepth 100000 in
set_option maxHeartbeats 4000000 in
theorem find_yes (x : Value) (L : List Rw) (y : Nat) (p : Int) (r : Rw) (w : World) (hx : RdR w x L) (hl : L.length ≤ 100000) (ha : areB L = true) (hr : L[y]? = some r) (hp : 0 ≤ p) (hp2 : p < (r.n : Int)) :
    Calls Tryz.prog 108 #[x, .int .i64 y, .int .i64 p] w fun e w' => FindP e (findN L y).1 ((findN L y).2 + p) true ∧ Grew w w' := by
  obtain ⟨A, cap, rfl, hc⟩ := hx.1.len
  have HLL := Lib.hid hl
  have HX := Lib.hid hx
  have hx0 := hx
  clear hx
  obtain ⟨n, hn⟩ : ∃ n, L.length = n := ⟨_, rfl⟩
  rw [hn] at hl hc hx0 ⊢
  replace HX : Hid (RdR w (.slice A n cap) L) := Lib.hid hx0
  have HN := Lib.hid hn
  clear hn
  have HAR := Lib.hid ha
  have hyl := (List.getElem?_eq_some_iff.1 hr).1
  have hri := (List.getElem?_eq_some_iff.1 hr).2
  obtain ⟨b, o, rfl, hbl, hat, hok⟩ := hx0.at_ hyl
  rw [hri] at hat hok
  obtain ⟨p0, p1, p2, p3⟩ := hat
  rw [HN.out] at hyl
  have hyI : (y : Int) < n := by omega
  have hyb2 : decide ((n : Int) ≤ y) = false := by simp; omega
  have hyb3 : decide (n ≤ y) = false := by simp; omega
  have hyb4 : decide ((y : Int) < 0) = false := by simp
  have hp5 : p ≤ 5000 := by have := hok.2.2; omega
  have HS := Lib.hid (sane_n ha)
  have hpb : decide (p < 0) = false := by simp; omega
  have hpb2 : decide ((r.n : Int) ≤ p) = false := by simp; omega
  have HP := Lib.hid hp
  have HFL := Lib.hid (findN_le (L := L) (fun r hr => (hx0.2 r hr).2.2))
  have HX0 := Lib.hid hx0
  clear ha hx0 hr hp hp2 hok hri
  go_enter Tryz.func108, Tryz.ntmps108
  go_wp2_with (go_at_call 116; (with_reducible refine (areSane_c (.slice (some ⟨b, o, none⟩) n cap) L _ (HX.out.below (by exact bcAll)) HLL.out).mono ?_); rw [HAR.out]; rintro e w1 ⟨rfl, X1, d1, rfl⟩)
  generalize hw0 : World.alloc (World.grow _ _ _) _ = w0
  have hbw : Below w.heap.size w w0 := by rw [← hw0]; exact bcAll
  have hB6 : Blk w0 w.heap.size 142 #[.int .i64 0, .int .i64 0] := by rw [← hw0]; exact ((Blk.new _ _ _).grow _ _).alloc _
  obtain ⟨g, hg⟩ : ∃ g, w.heap.size + 1 + X1.size = g := ⟨_, rfl⟩
  have hB8 : Blk w0 g 142 #[.int .i64 0, .int .i64 0] := by rw [← hw0]; exact Blk.new_at (by rw [← hg]; simp)
  rw [hg]
  have hg6 : w.heap.size < g := by omega
  clear hw0 hg
  have HB6 := Lib.hid hB6
  have HB8 := Lib.hid hB8
  have HBW := Lib.hid hbw
  clear hB6 hB8 hbw
  go_loopw [39] (fun i wz => ∃ k : Nat, k ≤ y ∧ i = .int .i64 k ∧ Blk wz g 142 #[.int .i64 (findN L k).1, .int .i64 (findN L k).2] ∧ w0.grownBy wz (some g)) (fun i _ => y - (intOf i).toNat)
  case atStart => exact ⟨0, Nat.zero_le _, rfl, HB8.out, World.grownBy.refl _ _⟩
  case round =>
    obtain ⟨i, hi, rfl, hBz, hgz⟩ := hrel
    have hbw : Below w.heap.size w wr := below_gb HBW.out hgz (by omega) HBW.out.size
    obtain ⟨q0, q1, qf, ql⟩ := hBz.facts2
    have HGZ := Lib.hid hgz
    have hi1 := (HFL.out i).1
    have hi2 := (HFL.out i).2
    have HN1 : Hid (∀ r2, L[i]? = some r2 → findN L (i + 1) = if r2.wb = true then ((findN L i).1, (findN L i).2 + rmN r2 L[i + 1]?) else ((findN L i).1 + 1, 0)) := fun r2 h => by
      show (match L[i]? with | some r => _ | none => _) = _
      rw [h]
    obtain ⟨a2, ha2⟩ : ∃ a2, (findN L i).1 = a2 := ⟨_, rfl⟩
    obtain ⟨c2, hc2⟩ : ∃ c2, (findN L i).2 = c2 := ⟨_, rfl⟩
    rw [ha2] at q0 hi1 HN1
    rw [hc2] at q1 hi2 HN1
    rw [ha2, hc2] at hBz
    have HBZ := Lib.hid hBz
    have HA2 := Lib.hid ha2
    have HC2 := Lib.hid hc2
    clear ha2 hc2 hBz hgz
    by_cases hlt : i < y
    · have hltI : (i : Int) < y := by omega
      have hil : i < L.length := by rw [HN.out]; omega
      obtain ⟨b3, o3, e3, -, hat, hok⟩ := (HX0.out.below hbw).at_ hil
      injection e3 with e3
      injection e3 with e3 e4
      subst e3 e4
      have hr2 : L[i]? = some L[i] := List.getElem?_eq_getElem hil
      have HN2 := Lib.hid (HN1.out _ hr2)
      have HR2 := Lib.hid hr2
      have hrl := rmN_le L[i] L[i + 1]?
      generalize L[i] = r2 at *
      obtain ⟨rm, hrm⟩ : ∃ rm, rmN r2 L[i + 1]? = rm := ⟨_, rfl⟩
      rw [hrm] at hrl HN2
      have HRM := Lib.hid hrm
      have hr5 := hok.2.2
      obtain ⟨p0, p1, p2, p3⟩ := hat
      clear hrm hr2 HN1 hok
      cases hwb : r2.wb
      · have HW := Lib.hid hwb
        rw [hwb] at p1
        clear hwb
        go_wp2_with fail
        go_roundw
        case rel =>
          refine ⟨i + 1, by omega, by go_num, ?_, by have := HGZ.out; (exact gbAll)⟩
          rw [HN2.out, if_neg (by rw [HW.out]; simp)]
          simp only [Int.natCast_add]
          exact (HBZ.out.set_ 0 _).set_ 1 _
        case measure => simp [intOf]; omega
      · have HW := Lib.hid hwb
        rw [hwb] at p1
        have hs5 : IntKind.i64.wrap ((c2 : Int) + (rm : Int)) = (c2 : Int) + (rm : Int) := by rw [IntWalk.i64_left]; exact IntWalk.wrap64_in _ (by omega)
        clear hwb
        go_upto_region 8 with fail
        refine hr_start (S := (fun _ => True)) (by kernel_rfl) rfl ?_ (fun hHeld => ?_)
        · ((try dsimp only); skip)
        refine hr_q 0 ?_
        simp only [st0, st1]
        refine hr_q 2 ?_
        simp only [st0, st1]
        refine hr_q 3 ?_
        simp only [st0, st1]
        refine hr_two (i := 1) (j := 4) rfl rfl rfl rfl (by kernel_rfl) (by kernel_rfl) (by kernel_rfl) (fun K hK => ?_) (fun K hK => ?_)
        · (try go_simp)
          (try go_wp2_with fail)
          refine hK.out (.int .i64 (c2 : Int)) _ ?_ (fun hHeld => ?_)
          · ((try dsimp only); skip)
          clear hK K
          simp only [st0, st1]
          refine hr_o 4 (fun K hK => ?_)
          (try go_simp)
          ((with_reducible refine (room_c (.slice (some ⟨b, o, none⟩) n cap) L i r2 _ (HX.out.below (by exact bcAll)) (Nat.le_trans HLL.out (by decide)) HR2.out HS.out).mono ?_); rw [HRM.out]; rintro e w5 ⟨rfl, X5, d5, rfl⟩)
          (try go_wp2_with fail)
          refine hK.out _ _ ?_ (fun hHeld => ?_)
          · ((try dsimp only); skip)
          clear hK K
          simp only [st0, st1]
          refine hr_q 5 ?_
          simp only [st0, st1]
          refine hr_q 6 ?_
          simp only [st0, st1]
          refine hr_op0 (i := 7) rfl (by kernel_rfl) (by kernel_rfl) (fun K hK => ?_)
          (try go_simp)
          (try go_wp2_with fail)
          refine hK.out _ ?_ (fun hHeld => ?_)
          · ((try dsimp only); skip)
          clear hK K
          refine hr_done (by kernel_rfl) ?_
          (go_wp2_with fail; go_roundw; (case rel => (refine ⟨i + 1, by omega, by go_num, ?_, by (have := HGZ.out; (exact gbAll))⟩; rw [HN2.out, if_pos HW.out]; simp only [Int.natCast_add]; first | exact (HBZ.out.set_ 1 _).grow _ _ | exact (HBZ.out.grow _ _).set_ 1 _)); (case measure => (simp [intOf]; omega)))
        · (try go_simp)
          ((with_reducible refine (room_c (.slice (some ⟨b, o, none⟩) n cap) L i r2 _ (HX.out.below (by exact bcAll)) (Nat.le_trans HLL.out (by decide)) HR2.out HS.out).mono ?_); rw [HRM.out]; rintro e w5 ⟨rfl, X5, d5, rfl⟩)
          (try go_wp2_with fail)
          refine hK.out _ _ ?_ (fun hHeld => ?_)
          · ((try dsimp only); skip)
          clear hK K
          simp only [st0, st1]
          refine hr_o 1 (fun K hK => ?_)
          (try go_simp)
          (try go_wp2_with fail)
          refine hK.out (.int .i64 (c2 : Int)) _ ?_ (fun hHeld => ?_)
          · ((try dsimp only); skip)
          clear hK K
          simp only [st0, st1]
          refine hr_q 5 ?_
          simp only [st0, st1]
          refine hr_q 6 ?_
          simp only [st0, st1]
          refine hr_op0 (i := 7) rfl (by kernel_rfl) (by kernel_rfl) (fun K hK => ?_)
          (try go_simp)
          (try go_wp2_with fail)
          refine hK.out _ ?_ (fun hHeld => ?_)
          · ((try dsimp only); skip)
          clear hK K
          refine hr_done (by kernel_rfl) ?_
          (go_wp2_with fail; go_roundw; (case rel => (refine ⟨i + 1, by omega, by go_num, ?_, by (have := HGZ.out; (exact gbAll))⟩; rw [HN2.out, if_pos HW.out]; simp only [Int.natCast_add]; first | exact (HBZ.out.set_ 1 _).grow _ _ | exact (HBZ.out.grow _ _).set_ 1 _)); (case measure => (simp [intOf]; omega)))
    · obtain rfl : i = y := by omega
      have hs6 : IntKind.i64.wrap ((c2 : Int) + p) = (c2 : Int) + p := by rw [IntWalk.i64_left]; exact IntWalk.wrap64_in _ (by have := HP.out; omega)
      obtain ⟨s0, s1, sf, sl⟩ := (HB6.out.gb HGZ.out (by intro e; injection e; omega)).facts2
      go_wp2_with fail
      generalize hwf : World.setCell (World.setCell (World.setCell wr _ _) _ _) _ _ = wf
      have hz : Blk wf w.heap.size 142 #[.int .i64 a2, .int .i64 ((c2 : Int) + p)] := by rw [← hwf]; exact (((HB6.out.gb HGZ.out (by intro e; injection e; omega)).of (Below.heap_setCell _ _ _ _ (by show w.heap.size ≠ g; omega))).set_ 0 _).set_ 1 _
      have hbf : Below w.heap.size w wf := by rw [← hwf]; exact bcAll
      clear hwf s0 s1 sf sl
      obtain ⟨y0, y1, yf, yl⟩ := hz.facts2
      (refine bodyPost_ret (v := _) (by simp [results, Tryz.results108, go_sem, *]; try exact rfl) rfl ⟨?_, (Below.toGrow (by exact bcAll))⟩; (exact findP_of HA2.out HC2.out))
end Go.Proofs.YtlchffkabpfjpaaGreat.Row
end
section
/- reflow.Join: what it computes, words. -/
namespace Go.RowKit
section
variable {α : Type} {E : Enc α}
theorem flat_set {a a' : α} {i : Nat} {u : Value} (hi : i < E.size) (hc : E.cells a' = (E.cells a).set i u) : ∀ (L : List α) (k : Nat), L[k]? = some a → (L.set k a').flatMap E.cells = (L.flatMap E.cells).set (k * E.size + i) u
  | [], k, h => by simp at h
  | b :: l, 0, h => by
    obtain rfl : b = a := by simpa using h
    rw [List.set_cons_zero, List.flatMap_cons, List.flatMap_cons, hc, Nat.zero_mul, Nat.zero_add, List.set_append_left _ _ (by rw [E.len]; exact hi)]
  | b :: l, k + 1, h => by
    rw [List.set_cons_succ, List.flatMap_cons, List.flatMap_cons, flat_set hi hc l k (by simpa using h), List.set_append_right _ _ (by rw [E.len, Nat.add_mul]; omega), E.len, show (k + 1) * E.size + i - E.size = k * E.size + i by rw [Nat.add_mul]; omega]
theorem ownX_set {w : World} {base e g n c : Nat} {L : List α} {k i : Nat} {a a' : α} {u : Value} (h : OwnX E w base e (.slice (some ⟨g, 0, none⟩) n c) L) (hk : L[k]? = some a) (hi : i < E.size) (hc : E.cells a' = (E.cells a).set i u) {p : Nat} (hp : p = k * E.size + i) :
    OwnX E (w.setCell ⟨g, p, none⟩ u) base e (.slice (some ⟨g, 0, none⟩) n c) (L.set k a') := by
  subst hp
  unfold OwnX World.ownsRow at *
  obtain ⟨hl, ⟨h0, _⟩ | ⟨g', cap, cur, hv, hb, hg, h1, h2, h3, h4⟩⟩ := h
  · cases h0
  · injection hv with e1 e2 e3
    injection e1 with e1
    injection e1 with e1 _
    subst e1 e2 e3
    rw [List.length_set]
    refine ⟨by rw [flat_set hi hc L k hk, List.length_set]; exact hl, .inr ⟨g, c, cur.setIfInBounds (k * E.size + i) u, rfl, hb, ?_, h1, h2, by rw [Array.size_setIfInBounds]; exact h3, ?_⟩⟩
    · simp [World.setCell, Array.getElem?_modify, hg]
    · rw [Array.toList_setIfInBounds, List.take_set, h4, flat_set hi hc L k hk]
theorem rdX_take {w : World} {A : Option Addr} {n c : Nat} {L : List α} (h : RdX E w (.slice A n c) L) {k m : Nat} (hk : k ≤ L.length) (hm : m = k) : RdX E w (.slice A m c) (L.take k) := by
  subst hm
  obtain ⟨A', c', e, hc, hcell⟩ := h
  injection e with e1 e2 e3
  subst e1 e3
  have hl : (L.take m).length = m := by rw [List.length_take]; omega
  refine ⟨A, c, by rw [hl], by omega, fun h0 => ?_⟩
  obtain ⟨b, o, rfl, hb, hat⟩ := hcell (by omega)
  refine ⟨b, o, rfl, hb, fun j a ha => hat j a ?_⟩
  rw [List.getElem?_take] at ha
  split at ha
  · exact ha
  · cases ha
end
end Go.RowKit
namespace Go.Proofs.YtlchffkabpfjpaaGreat.Row
open Go.RowKit
/-- the cells of a row that go into a line -/
def keptC (l : List Cl) : List Cl := l.filter (fun c => c.w != 0)
/-- the last line grows -/
def addL (M : List Ls) (cs : List Cl) : List Ls := M.dropLast ++ (match M.getLast? with | some x => [⟨x.cs ++ cs, x.dir, x.ex⟩] | none => [])
theorem addL_app (M : List Ls) (x : Ls) (cs : List Cl) : addL (M ++ [x]) cs = M ++ [⟨x.cs ++ cs, x.dir, x.ex⟩] := by
  unfold addL
  simp
/-- lines behind k rows; does the last one go on? -/
def joinN (L : List Rw) : Nat → List Ls × Bool
  | 0 => ([], false)
  | k + 1 => match L[k]? with
    | some r => (addL (if (joinN L k).2 = true then (joinN L k).1 else (joinN L k).1 ++ [⟨[], r.dir, r.ex⟩]) (keptC ((listF r.n r.f).take (rmN r L[k + 1]?))), r.wb)
    | none => joinN L k
def trimS (x : Ls) : Ls := ⟨trimL x.cs, x.dir, x.ex⟩
def joinR (L : List Rw) : List Ls := (joinN L L.length).1.map trimS
/-- a line whose cells lie in a block of the call's own (or nowhere), below B, but not in 'own' -/
def FrL (w : World) (base B : Nat) (own : Option Nat) (l : Ln) : Prop := RdX encC w (.slice l.A l.cs.length l.cap) l.cs ∧ ∀ b o, l.A = some ⟨b, o, none⟩ → base ≤ b ∧ b < B ∧ some b ≠ own
theorem FrL.of {w w' : World} {base B : Nat} {own : Option Nat} {l : Ln} (h : FrL w base B own l) (hs : w.heap.size ≤ w'.heap.size) (hb : ∀ b, b < B → b < w.heap.size → some b ≠ own → base ≤ b → w'.heap[b]? = w.heap[b]?) : FrL w' base B own l := by
  refine ⟨?_, h.2⟩
  obtain ⟨A, c, e, hc, hcell⟩ := h.1
  injection e with e1 e2 e3
  refine ⟨A, c, by rw [e1, e3], hc, fun h0 => ?_⟩
  obtain ⟨b, o, rfl, hlt, hat⟩ := hcell h0
  obtain ⟨h1, h2, h3⟩ := h.2 b o e1
  refine ⟨b, o, rfl, Nat.lt_of_lt_of_le hlt hs, fun j a ha i u hu => ?_⟩
  have := hat j a ha i u hu
  unfold World.cell? at this ⊢
  rw [hb b h2 hlt h3 h1]
  exact this
theorem FrL.own {w : World} {base B B' : Nat} {own own' : Option Nat} {l : Ln} (h : FrL w base B own l) (hB : B ≤ B') (ho : ∀ b, b < B → some b ≠ own → some b ≠ own') : FrL w base B' own' l :=
  ⟨h.1, fun b o e => by obtain ⟨h1, h2, h3⟩ := h.2 b o e; exact ⟨h1, by omega, ho b h2 h3⟩⟩
theorem keptC_app (a b : List Cl) : keptC (a ++ b) = keptC a ++ keptC b := by unfold keptC; exact List.filter_append ..
end Go.Proofs.YtlchffkabpfjpaaGreat.Row
end
section
/- reflow.Join: the lines in memory. -/
namespace Go.Proofs.YtlchffkabpfjpaaGreat.Row
open Go.RowKit
theorem ownX_slice {α : Type} {E : Enc α} {w : World} {base e : Nat} {v : Value} {L : List α} (h : OwnX E w base e v L) (h0 : 0 < L.length) : ∃ g c, v = .slice (some ⟨g, 0, none⟩) L.length c ∧ base ≤ g ∧ g < w.heap.size ∧ L.length ≤ c := by
  have h' := h
  unfold OwnX World.ownsRow at h'
  obtain ⟨_, ⟨_, e0⟩ | ⟨g, cap, cur, e1, h1, h2, h3, _⟩⟩ := h'
  · omega
  · exact ⟨g, cap, e1, h1, (Array.getElem?_eq_some_iff.1 h2).1, h3⟩
/-- lines of a call's own, the last one under way -/
structure JL (w : World) (base : Nat) (v : Value) (g cv : Nat) (M0 : List Ln) (B : Nat) (l : Ln) : Prop where
  hv : v = .slice (some ⟨g, 0, none⟩) (M0.length + 1) cv
  own : OwnX encL w base 154 v (M0 ++ [l])
  h1 : base ≤ B
  h2 : B ≤ w.heap.size
  h3 : g < B
  fr : ∀ l' ∈ M0, FrL w base B (some g) l'
  last : OwnX encC w B 67 (.slice l.A l.cs.length l.cap) l.cs
theorem JL.grown {w w' : World} {base g cv B : Nat} {v : Value} {M0 : List Ln} {l : Ln} (h : JL w base v g cv M0 B l) (hb : Below w.heap.size w w') : JL w' base v g cv M0 B l :=
  ⟨h.hv, h.own.below hb (Nat.le_refl _), h.h1, Nat.le_trans h.h2 hb.size, h.h3, fun l' hl => (h.fr l' hl).of hb.size (fun b _ hlt _ _ => hb.block b hlt), h.last.below hb (Nat.le_refl _)⟩
theorem JL.all {w : World} {base g cv B : Nat} {v : Value} {M0 : List Ln} {l : Ln} (h : JL w base v g cv M0 B l) : ∀ l' ∈ M0 ++ [l], FrL w base w.heap.size v.ownBlock l' := by
  intro l' hl'
  have hvo : v.ownBlock = some g := by rw [h.hv]; rfl
  rw [hvo]
  rcases List.mem_append.1 hl' with hm | hm
  · exact (h.fr l' hm).own h.h2 (fun b _ hb => hb)
  · obtain rfl := List.mem_singleton.1 hm
    refine ⟨h.last.rd, fun b o e => ?_⟩
    have hlt := h.last.lt (g := b) (by rw [e]; rfl)
    have := h.h1
    have := h.h3
    exact ⟨by omega, hlt.2, fun e => by injection e; omega⟩
/-- lines of a call's own: none, or one under way -/
def JJ (w : World) (base : Nat) (v : Value) (Ms : List Ln) : Prop := (v = .slice none 0 0 ∧ Ms = []) ∨ ∃ g cv M0 B l, Ms = M0 ++ [l] ∧ JL w base v g cv M0 B l
theorem JJ.own {w : World} {base : Nat} {v : Value} {Ms : List Ln} (h : JJ w base v Ms) : OwnX encL w base 154 v Ms := by
  rcases h with ⟨rfl, rfl⟩ | ⟨g, cv, M0, B, l, rfl, h⟩
  · exact OwnX.nil _ _ _
  · exact h.own
theorem JJ.all {w : World} {base : Nat} {v : Value} {Ms : List Ln} (h : JJ w base v Ms) : ∀ l ∈ Ms, FrL w base w.heap.size v.ownBlock l := by
  rcases h with ⟨rfl, rfl⟩ | ⟨g, cv, M0, B, l, rfl, h⟩
  · intro l hl
    cases hl
  · exact h.all
theorem JJ.grown {w w' : World} {base : Nat} {v : Value} {Ms : List Ln} (h : JJ w base v Ms) (hb : Below w.heap.size w w') : JJ w' base v Ms := by
  rcases h with h | ⟨g, cv, M0, B, l, rfl, h⟩
  · exact .inl h
  · exact .inr ⟨g, cv, M0, B, l, rfl, h.grown hb⟩
/-- a new line behind them -/
theorem JJ.new {w w' : World} {base : Nat} {v v' : Value} {Ms : List Ln} {o : Obj} {dir : Int} {ex : Bool} (h : JJ w base v Ms) (ho : OwnX encL w' base 154 v' (Ms ++ [⟨none, 0, [], dir, ex⟩])) (hg : (w.alloc o).grownBy w' v.ownBlock)
    (hor : v'.ownBlock = v.ownBlock ∨ v'.ownBlock = some (w.alloc o).heap.size) (hbase : base ≤ w.heap.size) : ∃ g cv B, JL w' base v' g cv Ms B ⟨none, 0, [], dir, ex⟩ := by
  obtain ⟨g, cv, hv, h1, h2, h3⟩ := ownX_slice ho (by simp)
  have hsz := hg.size
  rw [World.size_alloc] at hsz
  refine ⟨g, cv, w'.heap.size, by rw [hv]; simp, ho, by omega, Nat.le_refl _, h2, fun l' hl' => ?_, OwnX.nil _ _ _⟩
  have hf := h.all l' hl'
  have hvo : v'.ownBlock = some g := by rw [hv]; rfl
  rw [← hvo]
  refine FrL.own (B := w.heap.size) (own := v.ownBlock) (hf.of (w' := w') (by omega) (fun b hb hlt hne hb2 => ?_)) (by omega) (fun b hb hne => ?_)
  · rw [hg.block b (by rw [World.size_alloc]; omega) hne]
    exact Below.heap_alloc w o b hlt
  · rcases hor with hor | hor
    · rw [hor]
      exact hne
    · rw [hor]
      intro e
      injection e with e
      rw [World.size_alloc] at e
      omega
/-- a cell more in the last line -/
theorem JL.step {w w1 w6 : World} {base g cv B c6 n6 : Nat} {v : Value} {M0 : List Ln} {l : Ln} {ce : Cl} {A6 : Option Addr} (h : JL w base v g cv M0 B l) (hb : Below w.heap.size w w1)
    (hn6 : n6 = (l.cs ++ [ce]).length) (ho : OwnX encC w6 B 67 (.slice A6 n6 c6) (l.cs ++ [ce])) (hg : w1.grownBy w6 (Value.slice l.A l.cs.length l.cap).ownBlock) {p : Nat} (hp : p = M0.length * 3) :
    JL (w6.setCell ⟨g, p, none⟩ (.slice A6 n6 c6)) base v g cv M0 B ⟨A6, c6, l.cs ++ [ce], l.dir, l.ex⟩ := by
  subst hn6
  have h1 := h.grown hb
  have hlt := fun k (hk : (Value.slice l.A l.cs.length l.cap).ownBlock = some k) => h1.last.lt hk
  have hs6 := hg.size
  have hB2 := h1.h2
  have h3 := h1.h3
  have hgne : some g ≠ (Value.slice l.A l.cs.length l.cap).ownBlock := fun e => by have := hlt g e.symm; omega
  have hown6 : OwnX encL w6 base 154 v (M0 ++ [l]) := h1.own.gb hg (fun k hk => by
    have hvo : v.ownBlock = some g := by rw [h1.hv]; rfl
    rw [hvo] at hk
    injection hk with hk
    rw [← hk]
    exact hgne)
  refine ⟨h.hv, ?_, h.h1, by simpa [World.setCell] using (by omega : B ≤ w6.heap.size), h.h3, fun l' hl' => ?_, ?_⟩
  · have hv := h.hv
    subst hv
    have := ownX_set (E := encL) (a' := ⟨A6, c6, l.cs ++ [ce], l.dir, l.ex⟩) (u := .slice A6 (l.cs ++ [ce]).length c6) hown6 (k := M0.length) (i := 0) (a := l) (by simp) (by show 0 < 3; omega) rfl (p := p) (by rw [hp]; rfl)
    rwa [List.set_append_right _ _ (Nat.le_refl _), Nat.sub_self, List.set_cons_zero] at this
  · refine (h1.fr l' hl').of (by simpa [World.setCell] using hs6) (fun b hbB hblt hbne _ => ?_)
    rw [Below.heap_setCell _ _ _ _ (by show b ≠ g; exact fun e => hbne (by rw [e]))]
    exact hg.block b hblt (fun e => by have := hlt b e.symm; omega)
  · refine ho.of (fun k hk => Below.heap_setCell _ _ _ _ (by show k ≠ g; have := ho.lt hk; omega))
theorem ownX_frz {α : Type} {E : Enc α} {w : World} {base e g n c : Nat} {L : List α} (h : OwnX E w base e (.slice (some ⟨g, 0, none⟩) n c) L) (i : Nat) : w.frozen? ⟨g, i, none⟩ = false := by
  unfold OwnX World.ownsRow at h
  obtain ⟨_, ⟨h0, _⟩ | ⟨g', cap, cur, hv, hb, hg, _⟩⟩ := h
  · cases h0
  · injection hv with e1 e2 e3
    injection e1 with e1
    injection e1 with e1 _
    subst e1
    simp [World.frozen?, hg]
theorem ownL_cell {w : World} {base e g n c m : Nat} {L : List Ln} {l : Ln} (h : OwnX encL w base e (.slice (some ⟨g, 0, none⟩) n c) L) (hm : L[m]? = some l) : w.cell? ⟨g, m * 3, none⟩ = some (.slice l.A l.cs.length l.cap) := by
  have h1 := h.rd
  obtain ⟨A, c', e', _, _⟩ := h1
  have hn : n = L.length := by
    injection e'
  subst hn
  have := h.rd.at' hm 0 _ rfl
  rw [Nat.zero_add] at this
  exact this
end Go.Proofs.YtlchffkabpfjpaaGreat.Row
end
section
/- The walk of reflow.Join. -/
namespace Go.Proofs.YtlchffkabpfjpaaGreat.Row
open Go.RowKit
def sumN (L : List Rw) (k : Nat) : Nat := ((L.take k).map Rw.n).sum
theorem sumN_succ {L : List Rw} {k : Nat} {r : Rw} (h : L[k]? = some r) : sumN L (k + 1) = sumN L k + r.n := by
  obtain ⟨hk, rfl⟩ := List.getElem?_eq_some_iff.1 h
  unfold sumN
  rw [List.take_add_one, List.getElem?_eq_getElem hk, List.map_append, List.sum_append]
  simp [Option.toList]
theorem sumN_le (L : List Rw) : ∀ k, sumN L k ≤ sumN L L.length := by
  intro k
  unfold sumN
  rw [List.take_of_length_le (Nat.le_refl _)]
  have h : (L.map Rw.n).sum = ((L.take k).map Rw.n).sum + ((L.drop k).map Rw.n).sum := by rw [← List.sum_append, ← List.map_append, List.take_append_drop]
  omega
theorem keptC_len (l : List Cl) : (keptC l).length ≤ l.length := List.length_filter_le _ _
/-- what a call of Join gives -/
def JoinF (L : List Rw) (w : World) (e : Ending) (w' : World) : Prop := ∃ u M, e = .returned u ∧ Below w.heap.size w w' ∧ RdL w' u M ∧ M.map Ln.ls = joinR L ∧ (∀ l ∈ M, l.cs.length ≤ sumN L L.length) ∧ M.length ≤ L.length
/-- a line without the blank cells at its end -/
def trimLn (l : Ln) : Ln := ⟨l.A, l.cap, trimL l.cs, l.dir, l.ex⟩
def trimTo (Ms : List Ln) (q : Nat) : List Ln := (Ms.take q).map trimLn ++ Ms.drop q
theorem trimTo_len (Ms : List Ln) (q : Nat) : (trimTo Ms q).length = Ms.length := by
  unfold trimTo
  rw [List.length_append, List.length_map, ← List.length_append, List.take_append_drop]
theorem trimTo_get {Ms : List Ln} {q : Nat} (h : q < Ms.length) : (trimTo Ms q)[q]? = some Ms[q] := by
  unfold trimTo
  have hl : ((Ms.take q).map trimLn).length = q := by rw [List.length_map, List.length_take]; omega
  rw [List.getElem?_append_right (by omega), hl, Nat.sub_self, List.getElem?_drop, Nat.add_zero, List.getElem?_eq_getElem h]
theorem trimTo_succ {Ms : List Ln} {q : Nat} (h : q < Ms.length) : trimTo Ms (q + 1) = (trimTo Ms q).set q (trimLn Ms[q]) := by
  unfold trimTo
  have hl : ((Ms.take q).map trimLn).length = q := by rw [List.length_map, List.length_take]; omega
  rw [List.set_append_right _ _ (by omega), hl, Nat.sub_self, take_next h, List.map_append, List.append_assoc, List.drop_eq_getElem_cons h]
  rfl
theorem trimL_len (l : List Cl) : (trimL l).length = trimN l l.length := by
  unfold trimL
  have := trimN_le l l.length
  rw [List.length_take]
  omega
set_option maxRecDepth 100000 in
set_option maxHeartbeats 4000000 in
theorem join_c (x : Value) (L : List Rw) (w : World) (hx : RdR w x L) (hl : L.length ≤ 100000) (ha : areB L = true) (ht : sumN L L.length ≤ 9000000) :
    Calls Tryz.prog 109 #[x] w (JoinF L w) := by
  obtain ⟨A, cap, rfl, hc⟩ := hx.1.len
  have HLL := Lib.hid hl
  have HTT := Lib.hid ht
  have hx0 := hx
  clear hx ht
  obtain ⟨n, hn⟩ : ∃ n, L.length = n := ⟨_, rfl⟩
  rw [hn] at hl hc hx0 ⊢
  have HX : Hid (RdR w (.slice A n cap) L) := hx0
  have HN := Lib.hid hn
  have HAR := Lib.hid ha
  have HS := Lib.hid (sane_n ha)
  clear hn ha hx0
  obtain ⟨i3, hi3, hz3, hs3, hb3⟩ := cell_parts
  have HI3 := Lib.hid hi3
  have HZ3 := Lib.hid hz3
  have HS3 := Lib.hid hs3
  have HB3 := Lib.hid hb3
  clear hi3 hz3 hs3 hb3
  obtain ⟨i4, hi4, hz4, hs4, hb4⟩ := line_parts
  have HI4 := Lib.hid hi4
  have HZ4 := Lib.hid hz4
  have HS4 := Lib.hid hs4
  have HB4 := Lib.hid hb4
  clear hi4 hz4 hs4 hb4
  go_enter Tryz.func109, Tryz.ntmps109
  go_wp2_with (go_at_call 116; go_loud ((with_reducible refine (areSane_c (.slice A n cap) L _ (HX.out.below (by exact bcAll)) HLL.out).mono ?_); rw [HAR.out]; rintro e w1 ⟨rfl, X1, d1, rfl⟩))
  go_loopw [3, 4, 16] (fun v s i wz => ∃ (k : Nat) (Ms : List Ln), k ≤ n ∧ i = .int .i64 k ∧ s = .bool (joinN L k).2 ∧ Hid (JJ wz w.heap.size v Ms) ∧ Below w.heap.size w wz ∧ Hid (Ms.map Ln.ls = (joinN L k).1) ∧ Ms.length ≤ k ∧ Hid (∀ l ∈ Ms, l.cs.length ≤ sumN L k) ∧ Hid ((joinN L k).2 = true → Ms ≠ [])) (fun _ _ i _ => n - (intOf i).toNat)
  case atStart => exact ⟨0, [], Nat.zero_le _, rfl, rfl, .inl ⟨rfl, rfl⟩, by exact bcAll, rfl, Nat.zero_le _, (fun l hl => by cases hl), (fun h => by cases h)⟩
  case round =>
    obtain ⟨k, Ms, hk, rfl, rfl, HJ, hbw, HMS, hmk, HCS, HGO⟩ := hrel
    have hws := hbw.size
    by_cases hlt : k < n
    · have hltI : (k : Int) < n := by omega
      have hkl : k < L.length := by rw [HN.out]; exact hlt
      obtain ⟨b, o, rfl, hbl, hat, hok⟩ := (HX.out.below hbw).at_ hkl
      have hr : L[k]? = some L[k] := List.getElem?_eq_getElem hkl
      have HJN : Hid (joinN L (k + 1) = (addL (if (joinN L k).2 = true then (joinN L k).1 else (joinN L k).1 ++ [⟨[], L[k].dir, L[k].ex⟩]) (keptC ((listF L[k].n L[k].f).take (rmN L[k] L[k + 1]?))), L[k].wb)) := by
        show (match L[k]? with | some r => _ | none => _) = _
        rw [hr]
      have HSU := Lib.hid (sumN_succ hr)
      have HSL := Lib.hid (sumN_le L (k + 1))
      have HR := Lib.hid hr
      have hrm := rmN_le L[k] L[k + 1]?
      have HOK := Lib.hid (show L[k].ok w from HX.out.2 _ (List.getElem_mem hkl))
      generalize L[k] = r at *
      obtain ⟨rm, hrmE⟩ : ∃ rm, rmN r L[k + 1]? = rm := ⟨_, rfl⟩
      rw [hrmE] at hrm HJN
      have HRM := Lib.hid hrmE
      obtain ⟨p0, p1, p2, p3⟩ := hat
      have hrn := hok.2.1
      have hrc := hok.2.2
      clear hr hrmE hok
      go_upto_if 22 with fail
      generalize hw5 : wr.alloc _ = w5
      have hbw5 : Below w.heap.size w w5 := by rw [← hw5]; exact bcAll
      have HJ5 : Hid (JJ w5 w.heap.size u3 Ms) := by show JJ _ _ _ _; rw [← hw5]; exact HJ.out.grown ((Below.refl _ _).alloc (Nat.le_refl _) _)
      obtain ⟨g6, hg6⟩ : ∃ g6, wr.heap.size = g6 := ⟨_, rfl⟩
      have HB6 : Hid (Blk w5 g6 64 #[.slice r.A r.n r.cap, .bool r.wb, .int .i64 r.dir, .bool r.ex]) := by show Blk _ _ _ _; rw [← hw5, ← hg6]; exact Blk.new _ _ _
      have hw5s : w.heap.size ≤ g6 := by omega
      rw [hg6]
      have HM63 : Hid (Ms.length + 1 ≤ maxLen) := by show _ ≤ _; unfold maxLen; omega
      have HM47 : Hid ((Ms.length + 1) * 40 ≤ 140737488355328) := by show _ ≤ _; omega
      have HSZ : Hid (w.heap.size ≤ w5.heap.size) := hbw5.size
      clear hw5 hg6
      go_cut [3, 4] from 21 to 30 (fun v _ wc => ∃ g cv M0 B l, Hid (JL wc w.heap.size v g cv M0 B l) ∧ Hid ((M0 ++ [l]).map Ln.ls = if (joinN L k).2 = true then (joinN L k).1 else (joinN L k).1 ++ [⟨[], r.dir, r.ex⟩]) ∧ Below w.heap.size w wc ∧ Hid (Blk wc g6 64 #[.slice r.A r.n r.cap, .bool r.wb, .int .i64 r.dir, .bool r.ex]) ∧ M0.length ≤ k ∧ Hid (∀ l' ∈ M0 ++ [l], l'.cs.length ≤ sumN L k))
      case first =>
        cases hg : (joinN L k).2
        · obtain ⟨y0, y1, y2, y3, yf, yl⟩ := HB6.out.facts4
          have HG := Lib.hid hg
          go_wp2_with (at_builtin; go_loud (refine wpList_append_X encL rfl _ _ _ rfl w.heap.size 154 40 i4 _ rfl HI4.out HZ4.out HS4.out HB4.out rfl _ _ Ms [⟨none, 0, [], r.dir, r.ex⟩] rfl rfl ((HJ5.out.own).alloc _) (rdX_one (E := encL) _ _ ⟨none, 0, [], r.dir, r.ex⟩ _ _ rfl rfl) (by rw [List.length_singleton]; exact HM63.out) (by rw [List.length_singleton]; exact HM47.out) (Nat.le_trans HSZ.out (by simp)) ?_; intro v6 w6 hv6 hgb6 hor6))
          replace hgb6 : World.grownBy _ w6 u3.ownBlock := hgb6
          replace hor6 : v6.ownBlock = u3.ownBlock ∨ v6.ownBlock = _ := hor6
          go_meet
          case rel =>
            obtain ⟨g, cv, B, hJL⟩ := JJ.new HJ5.out hv6 hgb6 hor6 hbw5.size
            refine ⟨g, cv, Ms, B, _, hJL, ?_, below_ownx (hbw5.alloc hbw5.size _) hgb6 (fun g hg => (HJ5.out.own.lt hg).1) (Nat.le_trans hbw5.size (by simp)), (HB6.out.alloc _).gb hgb6 (HJ5.out.own.ne_ HB6.out (by decide)), hmk, fun l' hl' => ?_⟩
            · show _ = _
              rw [if_neg (by rw [HG.out]; simp), List.map_append, HMS.out]
              rfl
            · rcases List.mem_append.1 hl' with h | h
              · exact HCS.out l' h
              · obtain rfl := List.mem_singleton.1 h
                exact Nat.zero_le _
        · have HG := Lib.hid hg
          go_wp2_with fail
          go_meet
          case rel =>
            rcases HJ5.out with ⟨-, h0⟩ | ⟨g, cv, M0, B, l, rfl, hJL⟩
            · exact absurd h0 (HGO.out HG.out)
            · exact ⟨g, cv, M0, B, l, hJL, by show _ = _; rw [if_pos HG.out]; exact HMS.out, hbw5, HB6.out, by have := hmk; simp at this; omega, HCS.out⟩
      obtain ⟨g, cv, M0, B, l, HL, HMP, hbc, HB6c, hm0, HCL⟩ := hcut
      obtain ⟨m, hm⟩ : ∃ m, M0.length = m := ⟨_, rfl⟩
      obtain ⟨n1, hn1⟩ : ∃ n1, m + 1 = n1 := ⟨_, rfl⟩
      have hv := HL.out.hv
      rw [hm, hn1] at hv
      subst hv
      have hn1I : (n1 : Int) - 1 = (m : Int) := by omega
      have hmn : m < n1 := by omega
      have hmI : (m : Int) < (n1 : Int) := by omega
      have hm0I : (0 : Int) ≤ (m : Int) := by omega
      have hn15 : n1 ≤ 200000 := by omega
      have HM := Lib.hid hm
      obtain ⟨A2, -, hrun, hcut2⟩ := slice0 (E := encC) (P := Tryz.prog) 62 67 Tryz.underlying62 (by kernel_rfl) r.A r.n r.cap rm hrm hrn
      have HC2 := Lib.hid (hcut2 w (listF r.n r.f) (rd_toX HOK.out.1 hrn))
      obtain ⟨y0, y1, y2, y3, yf, yl⟩ := HB6c.out.facts4
      clear hcut2 hm hn1
      go_upto_region 11 with fail
      refine hr_start (S := (fun w' => w'.cell? ⟨g6, 0, none⟩ = some (.slice r.A r.n r.cap))) (by kernel_rfl) rfl ?_ (fun hHeld => ?_)
      · ((try dsimp only); go_simp)
      refine hr_q 0 ?_
      simp only [st0, st1]
      refine hr_q 1 ?_
      simp only [st0, st1]
      refine hr_q 2 ?_
      simp only [st0, st1]
      refine hr_q 3 ?_
      simp only [st0, st1]
      refine hr_q 7 ?_
      simp only [st0, st1]
      refine hr_o 4 (fun K hK => ?_)
      (try go_simp)
      ((with_reducible refine (room_c (.slice (some ⟨b, o, none⟩) n cap) L k r _ (HX.out.below (by exact bcAll)) (Nat.le_trans HLL.out (by decide)) HR.out HS.out).mono ?_); rw [HRM.out]; rintro e w7 ⟨rfl, X7, d7, rfl⟩)
      (try go_wp2_with fail)
      refine hK.out _ _ ?_ (fun hHeld => ?_)
      · ((try dsimp only); go_simp)
      clear hK K
      simp only [st0, st1]
      refine hr_q 5 ?_
      simp only [st0, st1]
      refine hr_q 6 ?_
      simp only [st0, st1]
      refine hr_done (by kernel_rfl) ?_
      go_wp2_with fail
      generalize hw8 : wc.grow X7 d7 = w8
      have HL8 : Hid (JL w8 w.heap.size (.slice (some ⟨g, 0, none⟩) n1 cv) g cv M0 B l) := by show JL _ _ _ _ _ _ _ _; rw [← hw8]; exact HL.out.grown ((Below.refl _ _).grow (Nat.le_refl _) _ _)
      have hb8 : Below w.heap.size w w8 := by rw [← hw8]; exact bcAll
      have HB68 : Hid (Blk w8 g6 64 #[.slice r.A r.n r.cap, .bool r.wb, .int .i64 r.dir, .bool r.ex]) := by show Blk _ _ _ _; rw [← hw8]; exact HB6c.out.grow _ _
      clear hw8 y0 y1 y2 y3 yf yl hHeld hrun
      go_loopw [43] (fun i wz => ∃ (j : Nat) (lA : Option Addr) (lc : Nat), j ≤ rm ∧ i = .int .i64 j ∧ Hid (JL wz w.heap.size (.slice (some ⟨g, 0, none⟩) n1 cv) g cv M0 B ⟨lA, lc, l.cs ++ keptC ((listF r.n r.f).take j), l.dir, l.ex⟩) ∧ Below w.heap.size w wz ∧ Hid (Blk wz g6 64 #[.slice r.A r.n r.cap, .bool r.wb, .int .i64 r.dir, .bool r.ex])) (fun i _ => rm - (intOf i).toNat)
      case atStart => exact ⟨0, l.A, l.cap, Nat.zero_le _, rfl, by show JL _ _ _ _ _ _ _ _; rw [List.take_zero, show keptC [] = [] from rfl, List.append_nil]; exact HL8.out, hb8, HB68.out⟩
      case round =>
        obtain ⟨j, lA, lc, hj, rfl, HLZ, hbz, HB6Z⟩ := hrel
        have hbzs := hbz.size
        by_cases hjt : j < rm
        · have hjI : (j : Int) < rm := by omega
          have hcj : ((listF r.n r.f).take rm)[j]? = some (r.f j) := by rw [List.getElem?_take, if_pos hjt, listF_get (by omega)]
          obtain ⟨bc, oc, rfl, hbcl, hat⟩ := rdC_at (HC2.out.below hbz) hcj
          have HTJ : Hid (keptC ((listF r.n r.f).take (j + 1)) = keptC ((listF r.n r.f).take j) ++ keptC [r.f j]) := by
            show _ = _
            rw [← keptC_app, List.take_add_one, listF_get (by omega)]
            rfl
          have hkl2 := Nat.le_trans (keptC_len ((listF r.n r.f).take j)) (List.length_take_le _ _)
          have hcl := HCL.out l (by simp)
          have hsl := HSL.out
          have htt := HTT.out
          have hsu := HSU.out
          generalize r.f j = ce at *
          obtain ⟨lcs, hlcs⟩ : ∃ lcs, l.cs ++ keptC ((listF r.n r.f).take j) = lcs := ⟨_, rfl⟩
          have hln : lcs.length ≤ 9100000 := by rw [← hlcs, List.length_append]; omega
          rw [hlcs] at HLZ
          have HLC := Lib.hid hlcs
          obtain ⟨c0, c1, c2, c3, c4, c5, c6⟩ := hat
          clear hcj hkl2 hcl hsl htt hsu hlcs
          by_cases hw0 : ce.w = 0
          · have hwb : (ce.w != 0) = false := by rw [hw0]; rfl
            have HKP : Hid (l.cs ++ keptC ((listF r.n r.f).take (j + 1)) = lcs) := by
              show _ = _
              rw [HTJ.out, ← HLC.out]
              simp [keptC, hw0]
            clear hw0
            go_wp2_with fail
            go_roundw
            case rel => exact ⟨j + 1, lA, lc, by omega, by go_num, by show JL _ _ _ _ _ _ _ _; rw [HKP.out]; exact HLZ.out.grown ((Below.refl _ _).alloc (Nat.le_refl _) _), by exact bcAll, HB6Z.out.alloc _⟩
            case measure => simp [intOf]; omega
          · have hwb : (ce.w != 0) = true := by simpa using hw0
            have HKP : Hid (l.cs ++ keptC ((listF r.n r.f).take (j + 1)) = lcs ++ [ce]) := by
              show _ = _
              rw [HTJ.out, ← HLC.out]
              simp [keptC, hw0]
            clear hw0
            obtain ⟨g9, hg9⟩ : ∃ g9, wr.heap.size = g9 := ⟨_, rfl⟩
            go_upto_region 15 with fail
            generalize hw9 : wr.alloc _ = w9
            have HLO : Hid (JL w9 w.heap.size (.slice (some ⟨g, 0, none⟩) n1 cv) g cv M0 B ⟨lA, lc, lcs, l.dir, l.ex⟩) := by show JL _ _ _ _ _ _ _ _; rw [← hw9]; exact HLZ.out.grown ((Below.refl _ _).alloc (Nat.le_refl _) _)
            have HB9 : Hid (Blk w9 g9 67 ce.cells.toArray) := by show Blk _ _ _ _; rw [← hw9, ← hg9]; exact Blk.new _ _ _
            have HBW9 : Hid (Below w.heap.size w w9) := by show Below _ _ _; rw [← hw9]; exact bcAll
            have HB69 : Hid (Blk w9 g6 64 #[.slice r.A r.n r.cap, .bool r.wb, .int .i64 r.dir, .bool r.ex]) := by show Blk _ _ _ _; rw [← hw9]; exact HB6Z.out.alloc _
            have HSZ9 : Hid (B ≤ w9.heap.size) := HLO.out.h2
            have HNE9 : Hid (some g9 ≠ (Value.slice lA lcs.length lc).ownBlock) := fun e => by have := (HLZ.out.last.lt e.symm).2; omega
            have HNE6 : Hid (some g6 ≠ (Value.slice lA lcs.length lc).ownBlock) := HLO.out.last.ne_ HB69.out (by decide)
            have HNEG : Hid (some g ≠ (Value.slice lA lcs.length lc).ownBlock) := fun e => by have := (HLZ.out.last.lt e.symm).1; have := HLZ.out.h3; omega
            have HGL : Hid (g < w9.heap.size) := (HLO.out.own.lt rfl).2
            have HGW : Hid (w.heap.size ≤ g) := (HLO.out.own.lt rfl).1
            have HG6 : Hid (g6 ≠ g) := fun e => HLO.out.own.ne_ HB69.out (by decide) (by rw [e]; rfl)
            have HM63 : Hid (lcs.length + 1 ≤ maxLen) := by show _ ≤ _; unfold maxLen; omega
            have HM47 : Hid ((lcs.length + 1) * 56 ≤ 140737488355328) := by show _ ≤ _; omega
            have HCE : Hid (w9.cell? ⟨g, m * 3, none⟩ = some (.slice lA lcs.length lc)) := ownL_cell HLO.out.own (l := ⟨lA, lc, lcs, l.dir, l.ex⟩) (by rw [List.getElem?_append_right (by rw [HM.out]; exact Nat.le_refl _), HM.out, Nat.sub_self]; rfl)
            have HFZ : Hid (∀ i, w9.frozen? ⟨g, i, none⟩ = false) := fun i => ownX_frz HLO.out.own i
            have hgl := HGL.out
            have hce := HCE.out
            have hg9g : g ≠ g9 := by have := (HLZ.out.own.lt (g := g) rfl).2; omega
            have hg9g' : g9 ≠ g := fun e => hg9g e.symm
            obtain ⟨e0, e1, e2, e3, e4, e5, e6, ef, el⟩ := HB9.out.facts7
            clear hw9 c0 c1 c2 c3 c4 c5 c6
            refine hr_start (S := (fun w' => w'.cell? ⟨g9, 0, none⟩ = some (.int .i64 ce.r) ∧ w'.cell? ⟨g9, 1, none⟩ = some (.int .i64 ce.m0) ∧ w'.cell? ⟨g9, 2, none⟩ = some (.int .i64 ce.m1) ∧ w'.cell? ⟨g9, 3, none⟩ = some (.int .i64 ce.w) ∧ w'.cell? ⟨g9, 4, none⟩ = some (.int .i64 ce.fg) ∧ w'.cell? ⟨g9, 5, none⟩ = some (.int .i64 ce.bg) ∧ w'.cell? ⟨g9, 6, none⟩ = some (.int .i64 ce.fl))) (by kernel_rfl) rfl ?_ (fun hHeld => ?_)
            · ((try dsimp only); go_simp)
            refine hr_q 0 ?_
            simp only [st0, st1]
            refine hr_q 1 ?_
            simp only [st0, st1]
            refine hr_q 2 ?_
            simp only [st0, st1]
            refine hr_q 3 ?_
            simp only [st0, st1]
            refine hr_q 5 ?_
            simp only [st0, st1]
            refine hr_two (i := 4) (j := 6) rfl rfl rfl rfl (by kernel_rfl) (by kernel_rfl) (by kernel_rfl) (fun K hK => ?_) (fun K hK => ?_)
            · (try go_simp)
              (try go_wp2_with fail)
              refine hK.out (.slice lA lcs.length lc) _ ?_ (fun hHeld => ?_)
              · ((try dsimp only); go_simp)
              clear hK K
              simp only [st0, st1]
              refine hr_o 6 (fun K hK => ?_)
              (try go_simp)
              (try go_wp2_with fail)
              refine hK.out _ _ ?_ (fun hHeld => ?_)
              · ((try dsimp only); go_simp)
              clear hK K
              simp only [st0, st1]
              refine hr_o 7 (fun K hK => ?_)
              (refine wp_append_X encC (.tmp 54) (.tmp 56) _ rfl B 67 56 i3 _ rfl HI3.out HZ3.out HS3.out HB3.out rfl _ _ lcs [ce] (by rfl) (by rfl) (OwnX.drew (HLO.out.last.alloc _)) (rdX_one_drew (E := encC) _ _ ce _ _ rfl rfl) (by rw [List.length_singleton]; exact HM63.out) (by rw [List.length_singleton]; exact HM47.out) (Nat.le_trans HSZ9.out (by simp)) ?_; intro v8 w8 hv8 hgb8 hor8; replace hgb8 : World.grownBy _ w8 (Value.slice lA lcs.length lc).ownBlock := hgb8; obtain ⟨gv, cvv, hv8e, -, -, -⟩ := ownX_slice hv8 (by simp); obtain ⟨n8, hn8⟩ : ∃ n8, n8 = (lcs ++ [ce]).length := ⟨_, rfl⟩; rw [← hn8] at hv8e; subst hv8e; have HN8 := Lib.hid hn8; clear hn8; obtain ⟨e0, e1, e2, e3, e4, e5, e6, ef, el⟩ := (Blk.gb (blk_alloc_drew HB9.out _) hgb8 HNE9.out).facts7; have zg8 := (hgb8.block g (by simp; have := HGL.out; omega) HNEG.out).trans (Below.heap_alloc _ _ _ HGL.out); have zc := (World.cell?_of_block (a := ⟨g, m * 3, none⟩) zg8).trans HCE.out; have zf := fun i => (World.frozen?_of_block (a := ⟨g, i, none⟩) zg8).trans (HFZ.out i))
              refine hK.out _ _ ?_ (fun hHeld => ?_)
              · ((try dsimp only); go_simp)
              clear hK K
              simp only [st0, st1]
              refine hr_q 8 ?_
              simp only [st0, st1]
              refine hr_q 9 ?_
              simp only [st0, st1]
              refine hr_op0 (i := 10) rfl (by kernel_rfl) (by kernel_rfl) (fun K hK => ?_)
              (try go_simp)
              (try go_wp2_with fail)
              refine hK.out _ ?_ (fun hHeld => ?_)
              · ((try dsimp only); go_simp)
              clear hK K
              refine hr_done (by kernel_rfl) ?_
              (go_wp2_with fail; go_roundw; (case rel => (refine ⟨j + 1, some ⟨gv, 0, none⟩, cvv, by omega, by go_num, ?_, ?_, ?_⟩; (focus (show JL _ _ _ _ _ _ _ _; rw [HKP.out]; exact JL.step HLO.out (by exact bcAll) HN8.out hv8 hgb8 (by rw [HM.out]))); (focus (exact (below_ownx (by have := HBW9.out; have := HBW9.out.size; exact bcAll) hgb8 (fun g hg => Nat.le_trans HLO.out.h1 (HLO.out.last.lt hg).1) (Nat.le_trans HBW9.out.size (by simp))).setCell HGW.out _)); (focus (exact (Blk.gb (blk_alloc_drew HB69.out _) hgb8 HNE6.out).of (Below.heap_setCell _ _ _ _ HG6.out))))); (case measure => (simp [intOf]; omega)))
            · (try go_simp)
              (try go_wp2_with fail)
              refine hK.out _ _ ?_ (fun hHeld => ?_)
              · ((try dsimp only); go_simp)
              clear hK K
              simp only [st0, st1]
              refine hr_o 4 (fun K hK => ?_)
              (try go_simp)
              (try go_wp2_with fail)
              refine hK.out (.slice lA lcs.length lc) _ ?_ (fun hHeld => ?_)
              · ((try dsimp only); go_simp)
              clear hK K
              simp only [st0, st1]
              refine hr_o 7 (fun K hK => ?_)
              (refine wp_append_X encC (.tmp 54) (.tmp 56) _ rfl B 67 56 i3 _ rfl HI3.out HZ3.out HS3.out HB3.out rfl _ _ lcs [ce] (by rfl) (by rfl) (OwnX.drew (HLO.out.last.alloc _)) (rdX_one_drew (E := encC) _ _ ce _ _ rfl rfl) (by rw [List.length_singleton]; exact HM63.out) (by rw [List.length_singleton]; exact HM47.out) (Nat.le_trans HSZ9.out (by simp)) ?_; intro v8 w8 hv8 hgb8 hor8; replace hgb8 : World.grownBy _ w8 (Value.slice lA lcs.length lc).ownBlock := hgb8; obtain ⟨gv, cvv, hv8e, -, -, -⟩ := ownX_slice hv8 (by simp); obtain ⟨n8, hn8⟩ : ∃ n8, n8 = (lcs ++ [ce]).length := ⟨_, rfl⟩; rw [← hn8] at hv8e; subst hv8e; have HN8 := Lib.hid hn8; clear hn8; obtain ⟨e0, e1, e2, e3, e4, e5, e6, ef, el⟩ := (Blk.gb (blk_alloc_drew HB9.out _) hgb8 HNE9.out).facts7; have zg8 := (hgb8.block g (by simp; have := HGL.out; omega) HNEG.out).trans (Below.heap_alloc _ _ _ HGL.out); have zc := (World.cell?_of_block (a := ⟨g, m * 3, none⟩) zg8).trans HCE.out; have zf := fun i => (World.frozen?_of_block (a := ⟨g, i, none⟩) zg8).trans (HFZ.out i))
              refine hK.out _ _ ?_ (fun hHeld => ?_)
              · ((try dsimp only); go_simp)
              clear hK K
              simp only [st0, st1]
              refine hr_q 8 ?_
              simp only [st0, st1]
              refine hr_q 9 ?_
              simp only [st0, st1]
              refine hr_op0 (i := 10) rfl (by kernel_rfl) (by kernel_rfl) (fun K hK => ?_)
              (try go_simp)
              (try go_wp2_with fail)
              refine hK.out _ ?_ (fun hHeld => ?_)
              · ((try dsimp only); go_simp)
              clear hK K
              refine hr_done (by kernel_rfl) ?_
              (go_wp2_with fail; go_roundw; (case rel => (refine ⟨j + 1, some ⟨gv, 0, none⟩, cvv, by omega, by go_num, ?_, ?_, ?_⟩; (focus (show JL _ _ _ _ _ _ _ _; rw [HKP.out]; exact JL.step HLO.out (by exact bcAll) HN8.out hv8 hgb8 (by rw [HM.out]))); (focus (exact (below_ownx (by have := HBW9.out; have := HBW9.out.size; exact bcAll) hgb8 (fun g hg => Nat.le_trans HLO.out.h1 (HLO.out.last.lt hg).1) (Nat.le_trans HBW9.out.size (by simp))).setCell HGW.out _)); (focus (exact (Blk.gb (blk_alloc_drew HB69.out _) hgb8 HNE6.out).of (Below.heap_setCell _ _ _ _ HG6.out))))); (case measure => (simp [intOf]; omega)))
        · obtain rfl : rm = j := by omega
          obtain ⟨y0, y1, y2, y3, yf, yl⟩ := HB6Z.out.facts4
          go_wp2_with fail
          go_roundw
          case rel =>
            refine ⟨k + 1, M0 ++ [⟨lA, lc, l.cs ++ keptC ((listF r.n r.f).take rm), l.dir, l.ex⟩], by omega, by go_num, by rw [HJN.out], .inr ⟨g, cv, M0, B, _, rfl, HLZ.out⟩, hbz, ?_, by rw [List.length_append]; simp; omega, fun l' hl' => ?_, fun _ => by simp⟩
            · show _ = _
              rw [HJN.out]
              simp only
              rw [← HMP.out, List.map_append, List.map_append, List.map_singleton, List.map_singleton, addL_app]
              rfl
            · rcases List.mem_append.1 hl' with h | h
              · have := HCL.out l' (List.mem_append_left _ h)
                have := HSU.out
                omega
              · obtain rfl := List.mem_singleton.1 h
                have := HCL.out l (by simp)
                have h2 := HSU.out
                have h3 := Nat.le_trans (keptC_len ((listF r.n r.f).take rm)) (List.length_take_le _ _)
                show (l.cs ++ keptC ((listF r.n r.f).take rm)).length ≤ _
                rw [List.length_append]
                omega
          case measure => simp [intOf]; omega
    · obtain rfl : n = k := by omega
      have HLEN : Hid (∀ l ∈ Ms, l.cs.length ≤ sumN L L.length) := by rw [HN.out]; exact HCS.out
      have HMN : Hid (Ms.map Ln.ls = (joinN L L.length).1) := by rw [HN.out]; exact HMS.out
      have HML : Hid (Ms.length ≤ L.length) := by rw [HN.out]; exact hmk
      obtain ⟨A3, c3, hv3, hc3⟩ := HJ.out.own.rd.len
      have HV3 := Lib.hid hv3
      obtain ⟨nl, hnl⟩ : ∃ nl, Ms.length = nl := ⟨_, rfl⟩
      rw [hnl] at hv3 hc3 hmk
      subst hv3
      have HNL := Lib.hid hnl
      have hown := HJ.out.own
      have HALL := Lib.hid HJ.out.all
      obtain ⟨wo, rfl⟩ : ∃ wo, wo = wr := ⟨_, rfl⟩
      clear HMS HCS HGO HJ hnl HV3
      go_wp2_with fail
      go_loopw [66] (fun i wz => ∃ q : Nat, q ≤ nl ∧ i = .int .i64 q ∧ Hid (OwnX encL wz w.heap.size 154 (.slice A3 nl c3) (trimTo Ms q)) ∧ wo.grownBy wz (Value.slice A3 nl c3).ownBlock) (fun i _ => nl - (intOf i).toNat)
      case atStart => exact ⟨0, Nat.zero_le _, rfl, hown, World.grownBy.refl _ _⟩
      case round =>
        obtain ⟨q, hq, rfl, HOW, hgz⟩ := hrel
        have hbz : Below w.heap.size w wr := below_ownx hbw hgz (fun g hg => (hown.lt hg).1) hws
        by_cases hlt2 : q < nl
        · have hqI : (q : Int) < nl := by omega
          have hql : q < Ms.length := by rw [HNL.out]; exact hlt2
          obtain ⟨g, cv, e3, hg1, hg2, -⟩ := ownX_slice HOW.out (by rw [trimTo_len]; omega)
          injection e3 with e3 e4 e5
          subst e3 e5
          clear e4
          have HTQ : Hid ((trimTo Ms q)[q]? = some Ms[q]) := trimTo_get hql
          have HTS : Hid (trimTo Ms (q + 1) = (trimTo Ms q).set q (trimLn Ms[q])) := trimTo_succ hql
          have HF := HALL.out Ms[q] (List.getElem_mem hql)
          have HL9 := HLEN.out Ms[q] (List.getElem_mem hql)
          generalize Ms[q] = le at *
          have hl9 : le.cs.length ≤ 10000000 := by have := HTT.out; omega
          have hgs := hgz.size
          have hrd : RdX encC wr (.slice le.A le.cs.length le.cap) le.cs := (HF.of (w' := wr) hgs (fun b _ hlt hne _ => hgz.block b hlt hne)).1
          have HRD := Lib.hid hrd
          have hce := ownL_cell HOW.out HTQ.out
          have hfz := fun i => ownX_frz HOW.out i
          obtain ⟨ln, hln⟩ : ∃ ln, le.cs.length = ln := ⟨_, rfl⟩
          have HLN := Lib.hid hln
          rw [hln] at hce
          clear hln HL9 hrd
          go_wp2_with (go_at_call 118; (with_reducible refine (trimmed_c le.A ln le.cap le.cs _ (by rw [← HLN.out]; exact HRD.out.below (by exact bcAll)) HLN.out.symm (by rw [← HLN.out]; exact hl9)).mono ?_); rintro e w5 ⟨rfl, X5, d5, rfl⟩)
          go_roundw
          case rel =>
            refine ⟨q + 1, by omega, by go_num, ?_, by (exact gbAll)⟩
            show OwnX _ _ _ _ _ _
            rw [HTS.out]
            have hcc : encL.cells (trimLn le) = (encL.cells le).set 0 (.slice le.A (trimN le.cs ln) le.cap) := by
              show [Value.slice le.A (trimL le.cs).length le.cap, _, _] = _
              rw [trimL_len, HLN.out]
              rfl
            first | exact (ownX_set HOW.out HTQ.out (by show 0 < 3; omega) hcc rfl).below ((Below.refl _ _).grow (Nat.le_refl _) _ _) (Nat.le_refl _) | exact ownX_set (HOW.out.below ((Below.refl _ _).grow (Nat.le_refl _) _ _) (Nat.le_refl _)) HTQ.out (by show 0 < 3; omega) hcc rfl
          case measure => simp [intOf]; omega
        · obtain rfl : nl = q := by omega
          go_wp2_with fail
          go_ret
          have hT : trimTo Ms nl = Ms.map trimLn := by
            unfold trimTo
            rw [List.take_of_length_le (by rw [HNL.out]; exact Nat.le_refl _), List.drop_eq_nil_of_le (by rw [HNL.out]; exact Nat.le_refl _), List.append_nil]
          have hrdL := HOW.out.rd
          rw [hT] at hrdL
          have htl : ∀ l : Ln, (trimLn l).cs.length ≤ l.cs.length := fun l => by
            show (trimL l.cs).length ≤ _
            rw [trimL_len]
            exact trimN_le _ _
          refine ⟨_, Ms.map trimLn, rfl, hbz, ⟨hrdL, fun l hl => ?_⟩, ?_, fun l hl => ?_, by rw [List.length_map]; exact HML.out⟩
          · obtain ⟨l0, h0, rfl⟩ := List.mem_map.1 hl
            have hrd : RdX encC wr (.slice l0.A l0.cs.length l0.cap) l0.cs := ((HALL.out l0 h0).of (w' := wr) hgz.size (fun b _ hlt hne _ => hgz.block b hlt hne)).1
            exact ⟨rdX_take hrd (trimN_le _ _) (trimL_len _), by have := htl l0; have := HLEN.out l0 h0; have := HTT.out; omega⟩
          · rw [List.map_map]
            unfold joinR
            rw [← HMN.out, List.map_map]
            rfl
          · obtain ⟨l0, h0, rfl⟩ := List.mem_map.1 hl
            exact Nat.le_trans (htl l0) (HLEN.out l0 h0)
end Go.Proofs.YtlchffkabpfjpaaGreat.Row
end
section
/- reflow.Where. -/
namespace Go.Proofs.YtlchffkabpfjpaaGreat.Row
open Go.RowKit
def rmS (r : Sh) (o : Option Sh) : Nat :=
  if (r.wb && (match o with | some s => decide (r.cs[r.cs.length - 1]? = some (blank 0 0 0)) && decide ((s.cs[0]?).map Cl.w = some 2) | none => false)) = true then r.cs.length - 1 else r.cs.length
theorem rmN_sh {r : Rw} {o : Option Rw} (h1 : 1 ≤ r.n) (h2 : ∀ s, o = some s → 1 ≤ s.n) : rmN r o = rmS r.sh (o.map Rw.sh) := by
  unfold rmN rmS rmB Rw.sh
  simp only [listF_len]
  cases o with
  | none => simp
  | some s =>
    have h3 := h2 s rfl
    have e1 : (listF r.n r.f)[r.n - 1]? = some (r.f (r.n - 1)) := listF_get (by omega)
    have e2 : (listF s.n s.f)[0]? = some (s.f 0) := listF_get (by omega)
    simp [e1, e2]
/-- where a line's place lies in its rows -/
def whereN : List Sh → Nat → Nat × Nat
  | [], left => (0, left)
  | [r], left => (0, min left (r.cs.length - 1))
  | r :: s :: rest, left => if left < rmS r (some s) then (0, left) else ((whereN (s :: rest) (left - rmS r (some s))).1 + 1, (whereN (s :: rest) (left - rmS r (some s))).2)
theorem splitG_ne {x : Ls} {v : Int} (h : sanL x = true) : 0 < (splitG x v).length := by
  unfold splitG
  rw [if_pos h]
  unfold splitS finS
  simp
theorem split_wd {x : Ls} {v : Int} : ∀ s ∈ splitG x v, s.cs.length = wN v := by
  intro s hs
  unfold splitG at hs
  split at hs
  · unfold splitS finS at hs
    rcases List.mem_append.1 hs with h | h
    · obtain ⟨l, _, rfl⟩ := List.mem_map.1 h
      exact listF_len _ _
    · obtain rfl := List.mem_singleton.1 h
      exact listF_len _ _
  · cases hs
theorem sh_len {R : List Rw} {S : List Sh} (h : R.map Rw.sh = S) : R.length = S.length := by rw [← h, List.length_map]
theorem sh_get {R : List Rw} {S : List Sh} (h : R.map Rw.sh = S) (i : Nat) : (R[i]?).map Rw.sh = S[i]? := by rw [← h, List.getElem?_map]
theorem sh_n {R : List Rw} {S : List Sh} {q : Nat} (h : R.map Rw.sh = S) (hq : ∀ s ∈ S, s.cs.length = q) : ∀ r ∈ R, r.n = q := fun r hr => by
  have := hq r.sh (by rw [← h]; exact List.mem_map_of_mem hr)
  rw [← this]
  exact (listF_len _ _).symm
/-- a step on -/
theorem whereN_step {S : List Sh} {i left : Nat} {r s : Sh} (h1 : S[i]? = some r) (h2 : S[i + 1]? = some s) : whereN (S.drop i) left = if left < rmS r (some s) then (0, left) else ((whereN (S.drop (i + 1)) (left - rmS r (some s))).1 + 1, (whereN (S.drop (i + 1)) (left - rmS r (some s))).2) := by
  obtain ⟨hi, rfl⟩ := List.getElem?_eq_some_iff.1 h1
  obtain ⟨hj, rfl⟩ := List.getElem?_eq_some_iff.1 h2
  rw [List.drop_eq_getElem_cons hi, List.drop_eq_getElem_cons hj]
  rfl
theorem whereN_last {S : List Sh} {i left : Nat} {r : Sh} (h1 : S[i]? = some r) (h2 : i + 1 = S.length) : whereN (S.drop i) left = (0, min left (r.cs.length - 1)) := by
  obtain ⟨hi, rfl⟩ := List.getElem?_eq_some_iff.1 h1
  rw [List.drop_eq_getElem_cons hi, List.drop_eq_nil_of_le (by omega)]
  rfl
set_option maxRecDepth 100000 in
set_option maxHeartbeats 4000000 in
theorem where_yes (x : Value) (L : List Ln) (v : Int) (pl pa : Nat) (lp : Ln) (w : World) (hx : RdL w x L) (hl : L.length ≤ 100000) (ht : tot L ≤ 10000000) (hs : ∀ l ∈ L, sanL l.ls = true) (hp : L[pl]? = some lp) (hpa : (pa : Int) ≤ 9223372036854775807) :
    Calls Tryz.prog 110 #[x, .int .i64 v, .agg #[.int .i64 pl, .int .i64 pa]] w fun e w' => e = .returned (.tuple #[.int .i64 ((spreadS ((L.take pl).map Ln.ls) v).length + (whereN (splitG lp.ls v) pa).1), .int .i64 (whereN (splitG lp.ls v) pa).2, .bool true]) ∧ Grew w w' := by
  obtain ⟨A, cap, rfl, hc⟩ := hx.1.len
  have hpl := (List.getElem?_eq_some_iff.1 hp).1
  obtain ⟨Y, hY⟩ : ∃ Y, Y = (spreadS ((L.take pl).map Ln.ls) v).length := ⟨_, rfl⟩
  have hYt : Y ≤ 10000000 := by
    rw [hY]
    have := spread_len v (L.take pl)
    have := tot_take L pl
    omega
  rw [← hY]
  have HY := Lib.hid hY
  obtain ⟨T1, T2, hT⟩ : ∃ T1 T2, whereN (splitG lp.ls v) pa = (T1, T2) := ⟨_, _, rfl⟩
  have HT := Lib.hid hT
  simp only [hT]
  clear hT
  obtain ⟨n, hn⟩ : ∃ n, L.length = n := ⟨_, rfl⟩
  have hx0 := hx
  clear hx hY
  rw [hn] at hl hc hx0 hpl ⊢
  have HX : Hid (RdL w (.slice A n cap) L) := hx0
  have HN := Lib.hid hn
  have HSA := Lib.hid hs
  have HSP := Lib.hid (hs lp (List.mem_of_getElem? hp))
  have HP := Lib.hid hp
  obtain ⟨A9, -, hrun, hcut⟩ := slice0 (E := encL) (P := Tryz.prog) 145 154 Tryz.underlying145 (by kernel_rfl) A n cap pl (by omega) hc
  have HX9 : Hid (RdL w (.slice A9 pl cap) (L.take pl)) := ⟨hcut w L hx0.1, fun l hl => hx0.2 l (List.mem_of_mem_take hl)⟩
  have HL9 : Hid ((L.take pl).length ≤ 100000) := by show _ ≤ _; rw [List.length_take]; omega
  have HT9 : Hid (tot (L.take pl) ≤ 10000000) := Nat.le_trans (tot_take L pl) ht
  have hpl1 : decide ((pl : Int) < 0) = false := by simp
  have hpl2 : decide ((n : Int) ≤ pl) = false := by simp; omega
  have hpl3 : decide (n ≤ pl) = false := by simp; omega
  have hpa1 : decide ((pa : Int) < 0) = false := by simp
  have hplI : (pl : Int) < n := by omega
  have hnr : ∀ r : List Rw, r.map Rw.sh = splitG lp.ls v → 0 < r.length ∧ r.length ≤ 10000001 := fun r h => by
    have h1 := splitG_ne (v := v) (hs lp (List.mem_of_getElem? hp))
    have h2 := split_len lp.ls v
    have h3 : lp.ls.cs.length ≤ 10000000 := (hx0.2 lp (List.mem_of_getElem? hp)).2
    rw [← h, List.length_map] at h1 h2
    omega
  have HNR := Lib.hid hnr
  have HOKP := Lib.hid (hx0.2 lp (List.mem_of_getElem? hp))
  clear hs hp hcut ht hn hnr
  go_enter Tryz.func110, Tryz.ntmps110
  go_wp2_with fail
  go_loopw [34] (fun i wz => ∃ k : Nat, k ≤ n ∧ i = .int .i64 k ∧ Below w.heap.size w wz ∧ Hid (Blk wz w.heap.size 142 #[.int .i64 pl, .int .i64 pa])) (fun i _ => n - (intOf i).toNat)
  case atStart => exact ⟨0, Nat.zero_le _, rfl, by exact bcAll, Blk.new _ _ _⟩
  case round =>
    obtain ⟨k, hk, rfl, hbw, HBP⟩ := hrel
    have hws := hbw.size
    by_cases hlt : k < n
    · have hltI : (k : Int) < n := by omega
      have hkl : k < L.length := by rw [HN.out]; exact hlt
      obtain ⟨b, o, rfl, hbl, hat, hok⟩ := (HX.out.below hbw).at_ hkl
      have HSL : Hid (sanL ⟨L[k].cs, L[k].dir, L[k].ex⟩ = true) := HSA.out _ (List.getElem_mem hkl)
      generalize L[k] = le at *
      have HOK := Lib.hid hok
      obtain ⟨p0, p1, p2⟩ := hat
      clear hok
      go_wp2_with (go_at_call 119; (with_reducible refine (saneL_c le.A le.cs.length le.cap le.cs le.dir le.ex _ (HOK.out.rdB (by exact bcAll)) rfl HOK.out.len).mono ?_); rw [HSL.out]; rintro e w2 ⟨rfl, X2, d2, rfl⟩)
      go_roundw
      case rel => exact ⟨k + 1, by omega, by go_num, by exact bcAll, by have := HBP.out; show Blk _ _ _ _; (repeat (first | (with_reducible assumption) | (with_reducible refine Blk.grow ?_ _ _) | (with_reducible refine Blk.alloc ?_ _)))⟩
      case measure => simp [intOf]; omega
    · obtain rfl : n = k := by omega
      obtain ⟨b, o, rfl, hbl, hat, hok⟩ := (HX.out.below hbw).at_ (k := pl) (by rw [HN.out]; omega)
      obtain ⟨hpl', hpe⟩ := List.getElem?_eq_some_iff.1 HP.out
      rw [hpe] at hat hok
      obtain ⟨p0, p1, p2⟩ := hat
      obtain ⟨q0, q1, qf, ql⟩ := HBP.out.facts2
      clear hpe hok
      go_upto_region 11 with (first | (go_at_call 111; (with_reducible refine (spread_c (.slice A9 pl cap) (L.take pl) v _ (HX9.out.below (by exact bcAll)) HL9.out HT9.out).mono ?_); rintro e w3 ⟨u3, R3, rfl, hb3, hr3, hs3⟩; have HLN3 : Hid (R3.length = Y) := (by show _ = _; rw [HY.out, ← hs3, List.length_map]); obtain ⟨A3, c3, hu3, -⟩ := hr3.1.rd.len; subst hu3; rw [HLN3.out]; obtain ⟨X3, d3, rfl⟩ := Below.toGrow hb3; clear hb3 hr3 hs3) | (go_at_call 120; (with_reducible refine (split_c lp.A lp.cs.length lp.cap lp.cs lp.dir lp.ex v _ (HOKP.out.rdB (by exact bcAll)) rfl HOKP.out.len).mono ?_); rintro e w4 ⟨u4, R4, rfl, hb4, hr4, hs4⟩; have HR4 := Lib.hid hr4.rd; have HS4 : Hid (R4.map Rw.sh = splitG lp.ls v) := hs4; have HB4 := Lib.hid hb4; clear hr4 hs4))
      obtain ⟨A4, c4, hu4, hc4⟩ := HR4.out.1.len
      obtain ⟨hr41, hr42⟩ := HNR.out R4 HS4.out
      have HWD := Lib.hid (sh_n HS4.out (split_wd (v := v)))
      have HG4 : Hid (∀ r ∈ R4, 1 ≤ r.n) := fun r hr => by rw [HWD.out r hr]; exact (wN_le v).1
      obtain ⟨nr, hnr⟩ : ∃ nr, R4.length = nr := ⟨_, rfl⟩
      rw [hnr] at hu4 hc4 hr41 hr42
      subst hu4
      have HRLN := Lib.hid hnr
      have HRL : Hid (R4.length ≤ 20000000) := by show _ ≤ _; rw [hnr]; omega
      obtain ⟨m, hmr⟩ : ∃ m, nr = m + 1 := ⟨nr - 1, by omega⟩
      have hm1 : (nr : Int) - 1 = (m : Int) := by omega
      have hmI : (m : Int) < nr := by omega
      have hmN : m < nr := by omega
      have HMR := Lib.hid hmr
      clear hmr
      have hbw4 : Below w.heap.size w w4 := by have := HB4.out; have h2 := (hbw.grow hws X3 d3).trans (this.mono (by simp; omega)); exact h2
      have HBP4 : Hid (Blk w4 w.heap.size 142 #[.int .i64 pl, .int .i64 pa]) := (HBP.out.grow X3 d3).below HB4.out (HBP.out.grow X3 d3).lt
      clear q0 q1 qf ql p0 p1 p2 hnr
      obtain ⟨q0, q1, qf, ql⟩ := HBP4.out.facts2
      go_wp2_with fail
      go_loopw [13, 62] (fun l i wz => ∃ (j left : Nat), j ≤ m ∧ i = .int .i64 j ∧ l = .int .i64 left ∧ left ≤ pa ∧ Below w4.heap.size w4 wz ∧ Hid (((whereN ((splitG lp.ls v).drop j) left).1 + j, (whereN ((splitG lp.ls v).drop j) left).2) = (T1, T2))) (fun _ i _ => m - (intOf i).toNat)
      case atStart => exact ⟨0, pa, Nat.zero_le _, rfl, rfl, Nat.le_refl _, Below.refl _ _, HT.out⟩
      case round =>
        obtain ⟨i, left, hi, rfl, rfl, hlp, hbz, HTI⟩ := hrel
        have hil : i < R4.length := by rw [HRLN.out]; omega
        obtain ⟨b4, o4, rfl, hb4l, hat, hok⟩ := (HR4.out.below hbz).at_ hil
        have HN4 : Hid (R4[i]? = some R4[i]) := List.getElem?_eq_getElem hil
        have HSI : Hid ((splitG lp.ls v)[i]? = some R4[i].sh) := by
          show _ = _
          rw [← sh_get HS4.out, HN4.out]
          rfl
        have hbzs := hbz.size
        have hw4s := hbw4.size
        have hbwr : Below w.heap.size w wr := hbw4.trans (hbz.mono hw4s)
        have hwrs := hbwr.size
        by_cases him : i < m
        · have himI : (i : Int) < m := by omega
          have hil2 : i + 1 < R4.length := by rw [HRLN.out]; omega
          have h5 : R4[i + 1]? = some R4[i + 1] := List.getElem?_eq_getElem hil2
          have HSI2 : Hid ((splitG lp.ls v)[i + 1]? = some R4[i + 1].sh) := by
            show _ = _
            rw [← sh_get HS4.out, h5]
            rfl
          have HWS := Lib.hid (whereN_step (left := left) HSI.out HSI2.out)
          have hrmE := rmN_sh (r := R4[i]) (o := R4[i + 1]?) (HG4.out _ (List.getElem_mem hil)) (fun s hs => by rw [h5] at hs; injection hs with hs; rw [← hs]; exact HG4.out _ (List.getElem_mem hil2))
          rw [h5, Option.map_some] at hrmE
          rw [← hrmE] at HWS
          have hrl := rmN_le R4[i] R4[i + 1]?
          rw [h5] at hrl
          obtain ⟨rm, hrm⟩ : ∃ rm, rmN R4[i] (some R4[i + 1]) = rm := ⟨_, rfl⟩
          rw [hrm] at HWS hrl
          have HRM : Hid (rmN R4[i] R4[i + 1]? = rm) := by show _ = _; rw [h5]; exact hrm
          have hr5 := hok.2.2
          generalize R4[i] = r4 at *
          clear h5 hrmE hrm hok hat
          by_cases hlr : left < rm
          · have hb5 : decide ((left : Int) < rm) = true := by simpa using hlr
            have hb6 : decide (left < rm) = true := by simpa using hlr
            have HTE : Hid ((i, left) = (T1, T2)) := by
              show _ = _
              rw [← HTI.out, HWS.out, if_pos hlr]
              simp
            obtain ⟨rfl, rfl⟩ : i = T1 ∧ left = T2 := by have := HTE.out; injection this with h1 h2; exact ⟨h1, h2⟩
            go_wp2_with (go_at_call 117; go_loud ((with_reducible refine (room_c (.slice (some ⟨b4, o4, none⟩) nr c4) R4 i r4 _ (HR4.out.below (by exact bcAll)) HRL.out HN4.out HG4.out).mono ?_); rw [HRM.out]; rintro e w6 ⟨rfl, X6, d6, rfl⟩))
            (refine bodyPost_ret (v := _) (by (simp [results, Tryz.results110, go_sem]; exact rfl)) rfl ⟨?_, (Below.toGrow (by exact bcAll))⟩; exact rfl)
          · have hb5 : decide ((left : Int) < rm) = false := by simpa using hlr
            have hb6 : decide (left < rm) = false := by simpa using hlr
            have hsub : (left : Int) - (rm : Int) = ((left - rm : Nat) : Int) := by omega
            have hrpa : left - rm ≤ pa := by omega
            have HTE : Hid (((whereN ((splitG lp.ls v).drop (i + 1)) (left - rm)).1 + (i + 1), (whereN ((splitG lp.ls v).drop (i + 1)) (left - rm)).2) = (T1, T2)) := by
              show _ = _
              rw [← HTI.out, HWS.out, if_neg hlr]
              simp only
              rw [Nat.add_right_comm]
              rfl
            obtain ⟨lf2, hlf2⟩ : ∃ lf2, left - rm = lf2 := ⟨_, rfl⟩
            rw [hlf2] at hsub hrpa HTE
            clear hlf2 HWS
            go_wp2_with (go_at_call 117; go_loud ((with_reducible refine (room_c (.slice (some ⟨b4, o4, none⟩) nr c4) R4 i r4 _ (HR4.out.below (by exact bcAll)) HRL.out HN4.out HG4.out).mono ?_); rw [HRM.out]; rintro e w6 ⟨rfl, X6, d6, rfl⟩))
            go_roundw
            case rel => exact ⟨i + 1, lf2, by omega, by go_num, rfl, hrpa, by exact bcAll, HTE.out⟩
            case measure => simp [intOf]; omega
        · obtain rfl : m = i := by omega
          have hwl := whereN_last (left := left) HSI.out (by rw [← sh_len HS4.out, HRLN.out, HMR.out])
          have hrn : (R4[m].sh.cs.length) = R4[m].n := listF_len _ _
          rw [hrn] at hwl
          have HTE : Hid ((m, min left (R4[m].n - 1)) = (T1, T2)) := by
            show _ = _
            rw [← HTI.out, hwl]
            simp
          have hr1 := HG4.out _ (List.getElem_mem hil)
          have hr5 := hok.2.2
          generalize R4[m] = r4 at *
          obtain ⟨p0, p1, p2, p3⟩ := hat
          obtain ⟨q2, hq2⟩ : ∃ q2, r4.n - 1 = q2 := ⟨_, rfl⟩
          have hn2 : (r4.n : Int) - 1 = (q2 : Int) := by omega
          rw [hq2] at HTE
          obtain ⟨hT1, hT2⟩ : m = T1 ∧ min left q2 = T2 := by have := HTE.out; injection this with h1 h2; exact ⟨h1, h2⟩
          subst hT1
          clear hwl hrn hq2 hok
          skip
          have hwr1 : IntKind.i64.wrap ((Y : Int) + (m : Int)) = (Y : Int) + (m : Int) := by rw [IntWalk.i64_left]; exact IntWalk.wrap64_in _ (by omega)
          have hwr2 : IntKind.i64.wrap (q2 : Int) = (q2 : Int) := by rw [IntWalk.i64_left]; exact IntWalk.wrap64_in _ (by omega)
          by_cases hlq : q2 < left
          · have hmin : min left q2 = q2 := by omega
            rw [hmin] at hT2
            subst hT2
            have hlqI : (q2 : Int) < left := by omega
            go_wp2_with fail
            refine hr_start (S := (fun w' => w'.cell? ⟨b4, o4 + m * 4, none⟩ = some (.slice r4.A r4.n r4.cap))) (by kernel_rfl) rfl ?_ (fun hHeld => ?_)
            · ((try dsimp only); go_simp)
            refine hr_q 0 ?_
            simp only [st0, st1]
            refine hr_q 1 ?_
            simp only [st0, st1]
            refine hr_q 2 ?_
            simp only [st0, st1]
            refine hr_q 3 ?_
            simp only [st0, st1]
            refine hr_q 4 ?_
            simp only [st0, st1]
            refine hr_q 5 ?_
            simp only [st0, st1]
            refine hr_q 6 ?_
            simp only [st0, st1]
            refine hr_q 7 ?_
            simp only [st0, st1]
            refine hr_q 8 ?_
            simp only [st0, st1]
            refine hr_q 9 ?_
            simp only [st0, st1]
            refine hr_q 10 ?_
            simp only [st0, st1]
            refine hr_q 11 ?_
            simp only [st0, st1]
            refine hr_q 12 ?_
            simp only [st0, st1]
            refine hr_q 13 ?_
            simp only [st0, st1]
            refine hr_q 14 ?_
            simp only [st0, st1]
            refine hr_done (by kernel_rfl) ?_
            go_wp2_with fail
            (refine bodyPost_ret (v := _) (by (simp [results, Tryz.results110, go_sem]; exact rfl)) rfl ⟨?_, (Below.toGrow (by exact bcAll))⟩; exact rfl)
          · have hmin : min left q2 = left := by omega
            rw [hmin] at hT2
            subst hT2
            have hlqI : ¬ (q2 : Int) < left := by omega
            go_wp2_with fail
            refine hr_start (S := (fun w' => w'.cell? ⟨b4, o4 + m * 4, none⟩ = some (.slice r4.A r4.n r4.cap))) (by kernel_rfl) rfl ?_ (fun hHeld => ?_)
            · ((try dsimp only); go_simp)
            refine hr_q 0 ?_
            simp only [st0, st1]
            refine hr_q 1 ?_
            simp only [st0, st1]
            refine hr_q 2 ?_
            simp only [st0, st1]
            refine hr_q 3 ?_
            simp only [st0, st1]
            refine hr_q 4 ?_
            simp only [st0, st1]
            refine hr_q 5 ?_
            simp only [st0, st1]
            refine hr_q 6 ?_
            simp only [st0, st1]
            refine hr_q 7 ?_
            simp only [st0, st1]
            refine hr_q 8 ?_
            simp only [st0, st1]
            refine hr_q 9 ?_
            simp only [st0, st1]
            refine hr_q 10 ?_
            simp only [st0, st1]
            refine hr_q 11 ?_
            simp only [st0, st1]
            refine hr_q 12 ?_
            simp only [st0, st1]
            refine hr_q 13 ?_
            simp only [st0, st1]
            refine hr_q 14 ?_
            simp only [st0, st1]
            refine hr_done (by kernel_rfl) ?_
            go_wp2_with fail
            (refine bodyPost_ret (v := _) (by (simp [results, Tryz.results110, go_sem]; exact rfl)) rfl ⟨?_, (Below.toGrow (by exact bcAll))⟩; exact rfl)
end Go.Proofs.YtlchffkabpfjpaaGreat.Row
end
section
/- reflow: plain facts of Join and Find. -/
namespace Go.Proofs.YtlchffkabpfjpaaGreat.Row
open Go.RowKit
theorem addL_len (M : List Ls) (cs : List Cl) : (addL M cs).length = M.length := by
  rcases List.eq_nil_or_concat M with rfl | ⟨M0, x, rfl⟩
  · rfl
  · rw [List.concat_eq_append, addL_app, List.length_append, List.length_append]
    rfl
theorem joinN_step {L : List Rw} {k : Nat} {r : Rw} (h : L[k]? = some r) : joinN L (k + 1) = (addL (if (joinN L k).2 = true then (joinN L k).1 else (joinN L k).1 ++ [⟨[], r.dir, r.ex⟩]) (keptC ((listF r.n r.f).take (rmN r L[k + 1]?))), r.wb) := by
  show (match L[k]? with | some r => _ | none => _) = _
  rw [h]
theorem findN_step {L : List Rw} {k : Nat} {r : Rw} (h : L[k]? = some r) : findN L (k + 1) = if r.wb = true then ((findN L k).1, (findN L k).2 + rmN r L[k + 1]?) else ((findN L k).1 + 1, 0) := by
  show (match L[k]? with | some r => _ | none => _) = _
  rw [h]
theorem join_len {L : List Rw} : ∀ k, k ≤ L.length → (joinN L k).1.length = (findN L k).1 + (if (joinN L k).2 = true then 1 else 0)
  | 0, _ => rfl
  | k + 1, hk => by
    have ih := join_len (L := L) k (by omega)
    have hr : L[k]? = some L[k] := List.getElem?_eq_getElem (by omega)
    rw [joinN_step hr, findN_step hr]
    simp only
    rw [addL_len]
    cases h1 : (joinN L k).2 <;> cases h2 : L[k].wb <;> rw [h1] at ih <;> simp at ih ⊢ <;> omega
theorem join_len_mono {L : List Rw} (k : Nat) : ∀ j, k + j ≤ L.length → (joinN L k).1.length ≤ (joinN L (k + j)).1.length
  | 0, _ => Nat.le_refl _
  | j + 1, h => by
    have ih := join_len_mono (L := L) k j (by omega)
    have hr : L[k + j]? = some L[k + j] := List.getElem?_eq_getElem (by omega)
    rw [← Nat.add_assoc, joinN_step hr]
    simp only
    rw [addL_len]
    split <;> simp <;> omega
theorem find_lt {L : List Rw} {y : Nat} (hy : y < L.length) : (findN L y).1 < (joinR L).length := by
  have h1 := join_len y (Nat.le_of_lt hy)
  have hr : L[y]? = some L[y] := List.getElem?_eq_getElem hy
  have h2 : (joinN L (y + 1)).1.length = (findN L y).1 + 1 := by
    rw [joinN_step hr]
    simp only
    rw [addL_len]
    cases h3 : (joinN L y).2 <;> simp [h3] at h1 ⊢ <;> omega
  have h3 := join_len_mono (L := L) (y + 1) (L.length - (y + 1)) (by omega)
  rw [show y + 1 + (L.length - (y + 1)) = L.length by omega] at h3
  unfold joinR
  rw [List.length_map]
  omega
theorem addL_mem {M : List Ls} {cs : List Cl} {P : Ls → Prop} (h : ∀ x ∈ M, P x) (hg : ∀ x ∈ M, P ⟨x.cs ++ cs, x.dir, x.ex⟩) : ∀ x ∈ addL M cs, P x := by
  rcases List.eq_nil_or_concat M with rfl | ⟨M0, x, rfl⟩
  · intro x hx
    cases hx
  · rw [List.concat_eq_append] at h hg ⊢
    rw [addL_app]
    intro y hy
    rcases List.mem_append.1 hy with hy | hy
    · exact h y (List.mem_append_left _ hy)
    · obtain rfl := List.mem_singleton.1 hy
      exact hg x (by simp)
theorem kept_ok {r : Rw} (hs : saneRw r = true) (m : Nat) : ∀ c ∈ keptC ((listF r.n r.f).take m), okC c = true := by
  intro c hc
  unfold keptC at hc
  obtain ⟨h1, h2⟩ := List.mem_filter.1 hc
  have h3 := List.mem_of_mem_take h1
  unfold listF at h3
  obtain ⟨i, hi, rfl⟩ := List.mem_map.1 h3
  have hf := fits_of_sane hs (List.mem_range.1 hi)
  rw [okC_iff]
  refine ⟨?_, hf⟩
  unfold fitsB at hf
  rw [decide_eq_true_eq] at hf
  simp at h2
  omega
theorem joinN_sane {L : List Rw} (ha : areB L = true) : ∀ k, k ≤ L.length → ∀ x ∈ (joinN L k).1, sanL x = true
  | 0, _ => fun x hx => by cases hx
  | k + 1, hk => by
    have ih := joinN_sane ha k (by omega)
    have hr : L[k]? = some L[k] := List.getElem?_eq_getElem (by omega)
    have hs := areB_iff.1 ha _ (List.getElem_mem (show k < L.length by omega))
    have hs' := sane_iff.1 hs
    rw [joinN_step hr]
    simp only
    have h0 : ∀ x ∈ (if (joinN L k).2 = true then (joinN L k).1 else (joinN L k).1 ++ [⟨[], L[k].dir, L[k].ex⟩]), sanL x = true := by
      intro x hx
      split at hx
      · exact ih x hx
      · rcases List.mem_append.1 hx with hx | hx
        · exact ih x hx
        · obtain rfl := List.mem_singleton.1 hx
          exact sanL_iff.2 ⟨hs'.2.2.1, hs'.2.2.2.1, fun c hc => by cases hc⟩
    refine addL_mem h0 (fun x hx => ?_)
    obtain ⟨a, b, c⟩ := sanL_iff.1 (h0 x hx)
    refine sanL_iff.2 ⟨a, b, fun d hd => ?_⟩
    rcases List.mem_append.1 hd with hd | hd
    · exact c d hd
    · exact kept_ok hs _ d hd
theorem trimS_sane {x : Ls} (h : sanL x = true) : sanL (trimS x) = true := by
  obtain ⟨a, b, c⟩ := sanL_iff.1 h
  exact sanL_iff.2 ⟨a, b, fun d hd => c d (List.mem_of_mem_take hd)⟩
theorem joinR_sane {L : List Rw} (ha : areB L = true) : ∀ x ∈ joinR L, sanL x = true := by
  intro x hx
  obtain ⟨y, hy, rfl⟩ := List.mem_map.1 hx
  exact trimS_sane (joinN_sane ha _ (Nat.le_refl _) y hy)
def totC (M : List Ls) : Nat := (M.map (fun x => x.cs.length)).sum
theorem totC_app (M K : List Ls) : totC (M ++ K) = totC M + totC K := by unfold totC; rw [List.map_append, List.sum_append]
theorem addL_tot (M : List Ls) (cs : List Cl) : totC (addL M cs) ≤ totC M + cs.length := by
  rcases List.eq_nil_or_concat M with rfl | ⟨M0, x, rfl⟩
  · simp [addL, totC]
  · rw [List.concat_eq_append, addL_app, totC_app, totC_app]
    simp [totC]
    omega
theorem joinN_tot {L : List Rw} : ∀ k, k ≤ L.length → totC (joinN L k).1 ≤ sumN L k
  | 0, _ => Nat.zero_le _
  | k + 1, hk => by
    have ih := joinN_tot (L := L) k (by omega)
    have hr : L[k]? = some L[k] := List.getElem?_eq_getElem (by omega)
    rw [joinN_step hr, sumN_succ hr]
    simp only
    refine Nat.le_trans (addL_tot _ _) ?_
    have h1 := Nat.le_trans (keptC_len ((listF L[k].n L[k].f).take (rmN L[k] L[k + 1]?))) (List.length_take_le _ _)
    have h2 := rmN_le L[k] L[k + 1]?
    split
    · omega
    · rw [totC_app]
      simp [totC]
      unfold totC at ih
      omega
theorem trim_tot : ∀ M : List Ls, totC (M.map trimS) ≤ totC M
  | [] => Nat.le_refl _
  | x :: M => by
    have ih := trim_tot M
    have h1 : (trimS x).cs.length ≤ x.cs.length := by
      show (trimL x.cs).length ≤ _
      rw [trimL_len]
      exact trimN_le _ _
    unfold totC at *
    simp only [List.map_cons, List.sum_cons]
    omega
theorem joinR_tot (L : List Rw) : totC (joinR L) ≤ sumN L L.length := Nat.le_trans (trim_tot _) (joinN_tot _ (Nat.le_refl _))
theorem tot_eq (M : List Ln) : tot M = totC (M.map Ln.ls) + M.length := by
  unfold tot totC
  induction M with
  | nil => rfl
  | cons l M ih =>
    simp only [List.map_cons, List.sum_cons, List.length_cons]
    rw [ih]
    show l.cs.length + 1 + _ = l.cs.length + _ + _
    omega
end Go.Proofs.YtlchffkabpfjpaaGreat.Row
end
section
/- reflow.Reflow. -/
namespace Go.Proofs.YtlchffkabpfjpaaGreat.Row
open Go.RowKit
/-- a line's place in rows -/
def whereR (M : List Ls) (v : Int) (pl pa : Nat) : Nat × Nat :=
  match M[pl]? with
  | some x => ((spreadS (M.take pl) v).length + (whereN (splitG x v) pa).1, (whereN (splitG x v) pa).2)
  | none => (0, 0)
def ReflowF (L : List Rw) (v : Int) (y p : Nat) (w : World) (e : Ending) (w' : World) : Prop :=
  ∃ u R, e = .returned (.tuple #[u, .int .i64 (whereR (joinR L) v (findN L y).1 ((findN L y).2 + p)).1, .int .i64 (whereR (joinR L) v (findN L y).1 ((findN L y).2 + p)).2]) ∧ Below w.heap.size w w' ∧ RdR w' u R ∧ R.map Rw.sh = spreadS (joinR L) v
/-- .. in new memory -/
def ReflowO (L : List Rw) (v : Int) (y p : Nat) (w : World) (e : Ending) (w' : World) : Prop :=
  ∃ u R, e = .returned (.tuple #[u, .int .i64 (whereR (joinR L) v (findN L y).1 ((findN L y).2 + p)).1, .int .i64 (whereR (joinR L) v (findN L y).1 ((findN L y).2 + p)).2]) ∧ Below w.heap.size w w' ∧ RdR w' u R ∧ R.map Rw.sh = spreadS (joinR L) v ∧ Ft (w.heap.size ≤ ·) u R
theorem RowsX.ft {w : World} {base : Nat} {v : Value} {R : List Rw} (h : RowsX w base v R) : Ft (base ≤ ·) v R :=
  ⟨fun _ b o c n e => (h.1.lt (by rw [e]; rfl)).1, fun r hr _ b o e => by
    obtain ⟨-, b', o', e', hb, -⟩ := h.2 r hr
    rw [e] at e'
    injection e' with e'
    injection e' with e1
    exact e1 ▸ hb⟩
set_option maxRecDepth 100000 in
set_option maxHeartbeats 4000000 in
theorem reflow_o (x : Value) (L : List Rw) (v : Int) (y p : Nat) (r : Rw) (w : World) (hx : RdR w x L) (hl : L.length ≤ 100000) (ha : areB L = true) (ht : sumN L L.length ≤ 9000000) (hr : L[y]? = some r) (hp : p < r.n) :
    Calls Tryz.prog 93 #[x, .int .i64 v, .int .i64 y, .int .i64 p] w (ReflowO L v y p w) := by
  obtain ⟨A, cap, rfl, hc⟩ := hx.1.len
  have HLL := Lib.hid hl
  have HT := Lib.hid ht
  have HA := Lib.hid ha
  have HR := Lib.hid hr
  have HP : Hid ((0 : Int) ≤ p) := by show _ ≤ _; omega
  have HPR : Hid ((p : Int) < r.n) := by show _ < _; omega
  have HFL := findN_le (L := L) (fun r hr => (hx.2 r hr).2.2) y
  have hyl := (List.getElem?_eq_some_iff.1 hr).1
  have HFJ := Lib.hid (find_lt hyl)
  have hr5 := (hx.2 r (List.mem_of_getElem? hr)).2.2
  obtain ⟨n, hn⟩ : ∃ n, L.length = n := ⟨_, rfl⟩
  rw [hn] at hl hc hx ⊢
  have HX := Lib.hid hx
  have HN := Lib.hid hn
  unfold ReflowO
  obtain ⟨pl, hpl⟩ : ∃ pl, (findN L y).1 = pl := ⟨_, rfl⟩
  obtain ⟨pa, hpa⟩ : ∃ pa, (findN L y).2 = pa := ⟨_, rfl⟩
  rw [hpl] at HFL HFJ
  rw [hpa] at HFL
  have HPL := Lib.hid hpl
  have HPA := Lib.hid hpa
  rw [hpl, hpa]
  obtain ⟨xl, hxl⟩ : ∃ xl, (joinR L)[pl]? = some xl := ⟨_, List.getElem?_eq_getElem HFJ.out⟩
  obtain ⟨pp, hpp⟩ : ∃ pp, pa + p = pp := ⟨_, rfl⟩
  have HPP : Hid ((pa : Int) + (p : Int) = (pp : Int)) := by show _ = _; omega
  have HPB : Hid ((pp : Int) ≤ 9223372036854775807) := by show _ ≤ _; omega
  rw [hpp]
  have hwr : whereR (joinR L) v pl pp = ((spreadS ((joinR L).take pl) v).length + (whereN (splitG xl v) pp).1, (whereN (splitG xl v) pp).2) := by
    unfold whereR
    rw [hxl]
  rw [hwr]
  simp only
  have HXL := Lib.hid hxl
  have HSJ := Lib.hid (joinR_sane ha)
  have HTJ := Lib.hid (joinR_tot L)
  clear hx hr hn hpl hpa hwr hxl ha hpp
  go_enter Tryz.func93, Tryz.ntmps93
  go_upto_region 2 with ((go_at_call 108; (with_reducible refine (find_yes (.slice A n cap) L y p r _ (HX.out.below (by exact bcAll)) HLL.out HA.out HR.out HP.out HPR.out).mono ?_); rintro e w1 ⟨he1, X1, d1, rfl⟩; unfold FindP at he1; subst he1); rw [HPL.out, HPA.out, HPP.out])
  obtain ⟨g, hg⟩ : ∃ g, w.heap.size + X1.size = g := ⟨_, rfl⟩
  rw [hg]
  generalize hw1 : (w.grow X1 d1).alloc _ = w1
  have hbw1 : Below w.heap.size w w1 := by rw [← hw1]; exact bcAll
  have HB1 : Hid (Blk w1 g 142 #[.int .i64 pl, .int .i64 pp]) := by show Blk _ _ _ _; rw [← hw1]; exact Blk.new_at (by rw [← hg]; simp)
  clear hw1 hg
  go_upto_region 5 with (go_at_call 109; (with_reducible refine (join_c (.slice A n cap) L _ (HX.out.below (by exact bcAll)) HLL.out HA.out HT.out).mono ?_); rintro e w2 ⟨u2, M, rfl, hb2, hm2, hms, hm3, hm4⟩; have HM := Lib.hid hm2; have HMS := Lib.hid hms; have HM4 := Lib.hid hm4; have HB2 := Lib.hid hb2; clear hb2 hm2 hms hm3 hm4)
  obtain ⟨lp, hlp, hlx⟩ : ∃ lp, M[pl]? = some lp ∧ lp.ls = xl := by
    have := HXL.out
    rw [← HMS.out, List.getElem?_map] at this
    cases h : M[pl]? with
    | none => rw [h] at this; cases this
    | some lp => rw [h] at this; injection this with this; exact ⟨lp, rfl, this⟩
  have HLP := Lib.hid hlp
  have HLX := Lib.hid hlx
  have HML : Hid (M.length ≤ 100000) := Nat.le_trans HM4.out HLL.out
  have HTM : Hid (tot M ≤ 10000000) := by
    show _ ≤ _
    rw [tot_eq, HMS.out]
    have := HTJ.out
    have := HML.out
    omega
  have HSM : Hid (∀ l ∈ M, sanL l.ls = true) := fun l hl => HSJ.out l.ls (by rw [← HMS.out]; exact List.mem_map_of_mem hl)
  have hbw2 : Below w.heap.size w w2 := hbw1.trans (HB2.out.mono hbw1.size)
  obtain ⟨q0, q1, qf, ql⟩ := (HB1.out.below HB2.out HB1.out.lt).facts2
  have HTK : Hid ((M.take pl).map Ln.ls = (joinR L).take pl) := by
    show _ = _
    rw [← HMS.out, List.map_take]
  clear hlp hlx
  go_upto_region 6 with (go_at_call 110; go_loud ((with_reducible refine (where_yes u2 M v pl pp lp _ (HM.out.below (by exact bcAll)) HML.out HTM.out HSM.out HLP.out HPB.out).mono ?_); rintro e w3 ⟨rfl, X3, d3, rfl⟩; rw [HTK.out, HLX.out]))
  go_wp2_with (go_at_call 111; go_loud ((with_reducible refine (spread_c u2 M v _ (HM.out.below (by exact bcAll)) HML.out HTM.out).mono ?_); rintro e w4 ⟨u4, R4, rfl, hb4, hr4, hs4⟩; rw [HMS.out] at hs4; have HR4 := Lib.hid hr4; have HS4 := Lib.hid hs4; have HB4 := Lib.hid hb4; clear hb4 hr4 hs4))
  have hbw4 : Below w.heap.size w w4 := by
    have h1 := HB4.out
    exact (hbw2.grow hbw2.size X3 d3).trans (h1.mono (by have := hbw2.size; simp; omega))
  refine bodyPost_ret (v := _) (by simp [results, Tryz.results93, go_sem]) rfl ⟨u4, R4, rfl, hbw4, HR4.out.rd, HS4.out, HR4.out.ft.mono fun b hb => Nat.le_trans (hbw2.grow hbw2.size X3 d3).size hb⟩
end Go.Proofs.YtlchffkabpfjpaaGreat.Row
end
section
/- reflow: letters never change (plain). -/
namespace Go.Proofs.YtlchffkabpfjpaaGreat.Row
open Go.RowKit
/-- the letters of cells -/
def letC (l : List Cl) : List Int := (l.filter (fun c => c.r != 0)).map Cl.r
theorem letC_app (a b : List Cl) : letC (a ++ b) = letC a ++ letC b := by unfold letC; rw [List.filter_append, List.map_append]
theorem letC_one (c : Cl) : letC [c] = if c.r = 0 then [] else [c.r] := by
  unfold letC
  split
  · rename_i h
    simp [h]
  · rename_i h
    simp [h]
theorem letC_whole (c : Cl) : letC (wholeL c) = letC [c] := by
  unfold wholeL
  split
  · rw [show [c, halfOf c] = [c] ++ [halfOf c] from rfl, letC_app, letC_one (halfOf c), if_pos (show (halfOf c).r = 0 from rfl), List.append_nil]
  · rfl
def letM (M : List (List Cl)) : List Int := M.flatMap letC
theorem letM_app (a b : List (List Cl)) : letM (a ++ b) = letM a ++ letM b := by unfold letM; exact List.flatMap_append
theorem letM_one (a : List Cl) : letM [a] = letC a := by unfold letM; simp
end Go.Proofs.YtlchffkabpfjpaaGreat.Row
end
section
/- reflow, plainly: what is spread is joined again; a place stays. -/
namespace Go.Proofs.YtlchffkabpfjpaaGreat.Row
open Go.RowKit
/-- the rows from the current one on -/
def tl (x : Ls) (q : Nat) : List Cl → List Cl → List Sh
  | now, [] => [rowS x q false now]
  | now, c :: cs => if (q : Int) < now.length + c.w then rowS x q true now :: tl x q (wholeL c) cs else tl x q (now ++ wholeL c) cs
theorem fold_tl (x : Ls) (q : Nat) (hq : 2 ≤ q) : ∀ (cs : List Cl) (s : List (List Cl) × List Cl), (∀ c ∈ cs, okC c = true) → finS x q (cs.foldl (stepS q) s) = s.1.map (rowS x q true) ++ tl x q s.2 cs
  | [], s, _ => rfl
  | c :: cs, s, h => by
    have hw := (okC_iff.1 (h c (by simp))).1
    have hno : ¬ (q : Int) < c.w := by omega
    rw [List.foldl_cons, fold_tl x q hq cs _ (fun d hd => h d (List.mem_cons_of_mem _ hd))]
    by_cases hov : (q : Int) < s.2.length + c.w
    · rw [stepS_new hno hov]
      simp only [tl]
      rw [if_pos hov, List.map_append, List.map_singleton, List.append_assoc]
      rfl
    · rw [stepS_put hno hov]
      simp only [tl]
      rw [if_neg hov]
theorem split_tl {x : Ls} {v : Int} (hs : sanL x = true) (hv : 2 ≤ wN v) : splitG x v = tl x (wN v) [] x.cs := by
  unfold splitG
  rw [if_pos hs]
  unfold splitS
  rw [fold_tl x _ hv _ _ (sanL_iff.1 hs).2.2]
  rfl
theorem rowS_len (x : Ls) (q : Nat) (b : Bool) (l : List Cl) : (rowS x q b l).cs.length = q := listF_len _ _
theorem rowS_get (x : Ls) (q : Nat) (b : Bool) (l : List Cl) {i : Nat} (hi : i < q) : (rowS x q b l).cs[i]? = some (padF l i) := listF_get hi
theorem padF_in {l : List Cl} {i : Nat} {c : Cl} (h : l[i]? = some c) : padF l i = c := by unfold padF; rw [h]; rfl
theorem padF_out {l : List Cl} {i : Nat} (h : l.length ≤ i) : padF l i = blank 0 0 0 := by unfold padF; rw [List.getElem?_eq_none h]; rfl
theorem tl_head (x : Ls) (q : Nat) (hq : 1 ≤ q) : ∀ (cs now : List Cl) (c : Cl), now[0]? = some c → ∃ s rest, tl x q now cs = s :: rest ∧ s.cs[0]? = some c
  | [], now, c, h => ⟨_, _, rfl, by rw [rowS_get x q false now (by omega), padF_in h]⟩
  | d :: cs, now, c, h => by
    simp only [tl]
    split
    · exact ⟨_, _, rfl, by rw [rowS_get x q true now (by omega), padF_in h]⟩
    · exact tl_head x q hq cs _ c (by
        have hl : 0 < now.length := (List.getElem?_eq_some_iff.1 h).1
        rw [List.getElem?_append_left hl]
        exact h)
theorem whole_head (c : Cl) : (wholeL c)[0]? = some c := by unfold wholeL; split <;> rfl
/-- what no row of a clean line ends with -/
def NB (l : List Cl) : Prop := ∀ c ∈ l, c ≠ blank 0 0 0
theorem NB.whole {c : Cl} (h : c ≠ blank 0 0 0) : NB (wholeL c) := fun d hd => by
  unfold wholeL at hd
  split at hd
  · simp at hd
    rcases hd with rfl | rfl
    · exact h
    · intro e
      have := congrArg Cl.w e
      simp [halfOf, blank] at this
  · simp at hd
    rw [hd]
    exact h
/-- a row that wraps has room for just its own cells -/
theorem room_wrap {x : Ls} {q : Nat} {now cs : List Cl} {c : Cl} {rest : List Sh} (hq : 2 ≤ q) (hc : okC c = true) (hn : now.length ≤ q) (hov : (q : Int) < now.length + c.w) (hb : NB now) : rmS (rowS x q true now) ((tl x q (wholeL c) cs ++ rest).head?) = now.length := by
  obtain ⟨s, rs, e, hs⟩ := tl_head x q (by omega) cs (wholeL c) c (whole_head c)
  rw [e, List.cons_append, List.head?_cons]
  have hw := (okC_iff.1 hc).1
  unfold rmS
  simp only [rowS_len, rowS_get x q true now (show q - 1 < q by omega), hs]
  by_cases h1 : now.length = q
  · obtain ⟨d, hd⟩ : ∃ d, now[q - 1]? = some d := ⟨_, List.getElem?_eq_getElem (by omega)⟩
    rw [padF_in hd]
    have hne : ¬ d = blank 0 0 0 := hb d (List.mem_of_getElem? hd)
    simp [hne, h1]
  · have hw2 : c.w = 2 := by omega
    rw [padF_out (by omega)]
    simp [hw2, rowS]
    omega
theorem take_row {x : Ls} {q : Nat} {b : Bool} {now : List Cl} (hn : now.length ≤ q) : (rowS x q b now).cs.take now.length = now := by
  apply List.ext_getElem?
  intro i
  rw [List.getElem?_take]
  split
  · rename_i h
    rw [rowS_get x q b now (by omega), padF_in (List.getElem?_eq_getElem h), List.getElem?_eq_getElem h]
  · rename_i h
    rw [List.getElem?_eq_none (by omega)]
/-! ### joined again -/
def joinS : List Sh → List Ls × Bool → List Ls × Bool
  | [], s => s
  | r :: rest, s => joinS rest (addL (if s.2 = true then s.1 else s.1 ++ [⟨[], r.dir, r.ex⟩]) (keptC (r.cs.take (rmS r rest.head?))), r.wb)
theorem drop_head {α : Type} (l : List α) (k : Nat) : (l.drop k).head? = l[k]? := by rw [List.head?_drop]
theorem keptC_whole {c : Cl} (h : okC c = true) : keptC (wholeL c) = [c] := by
  have hw := (okC_iff.1 h).1
  have h0 : ¬ c.w = 0 := by omega
  unfold wholeL keptC
  split <;> simp [h0, halfOf]
theorem kept_pad {q : Nat} {now : List Cl} (hn : now.length ≤ q) : keptC (listF q (padF now)) = keptC now ++ List.replicate (q - now.length) (blank 0 0 0) := by
  have h1 : listF q (padF now) = now ++ List.replicate (q - now.length) (blank 0 0 0) := by
    apply List.ext_getElem?
    intro i
    by_cases hi : i < q
    · rw [listF_get hi]
      by_cases h2 : i < now.length
      · rw [List.getElem?_append_left h2, padF_in (List.getElem?_eq_getElem h2), List.getElem?_eq_getElem h2]
      · rw [List.getElem?_append_right (by omega), padF_out (by omega), List.getElem?_replicate, if_pos (by omega)]
    · rw [List.getElem?_eq_none (by rw [listF_len]; omega), List.getElem?_eq_none (by rw [List.length_append, List.length_replicate]; omega)]
  rw [h1, keptC_app]
  congr 1
  unfold keptC
  simp [blank]
theorem trim_blank (cs : List Cl) (h : NB cs) : ∀ n, trimL (cs ++ List.replicate n (blank 0 0 0)) = cs := by
  have key : ∀ n k, k ≤ n → trimN (cs ++ List.replicate n (blank 0 0 0)) (cs.length + k) = cs.length := by
    intro n k
    induction k with
    | zero =>
      intro _
      rw [Nat.add_zero]
      cases hl : cs.length with
      | zero => rfl
      | succ m =>
        unfold trimN
        have hm : m < cs.length := by omega
        rw [List.getElem?_append_left hm, List.getElem?_eq_getElem hm, if_neg]
        intro e
        injection e with e
        exact h _ (List.getElem_mem hm) e
    | succ k ih =>
      intro hk
      rw [← Nat.add_assoc]
      unfold trimN
      have e : (cs ++ List.replicate n (blank 0 0 0))[cs.length + k]? = some (blank 0 0 0) := by rw [List.getElem?_append_right (by omega), List.getElem?_replicate, if_pos (by omega)]
      rw [if_pos e]
      exact ih (by omega)
  intro n
  unfold trimL
  rw [List.length_append, List.length_replicate, key n n (Nat.le_refl _), List.take_left]
end Go.Proofs.YtlchffkabpfjpaaGreat.Row
end
section
/- reflow, plainly: rows may be; a place stays. -/
namespace Go.Proofs.YtlchffkabpfjpaaGreat.Row
open Go.RowKit
/-- cells that may stand in a row -/
def Good (l : List Cl) : Prop := ∀ (i : Nat) (c : Cl), l[i]? = some c → fitsB c = true ∧ (c.w = 0 → ∃ d, 0 < i ∧ l[i - 1]? = some d ∧ d.w = 2) ∧ (c.w = 2 → ∃ d, l[i + 1]? = some d ∧ d.w = 0)
theorem Good.nil : Good [] := fun i c h => by simp at h
theorem Good.app {a b : List Cl} (ha : Good a) (hb : Good b) : Good (a ++ b) := by
  intro i c h
  by_cases hi : i < a.length
  · rw [List.getElem?_append_left hi] at h
    obtain ⟨h1, h2, h3⟩ := ha i c h
    refine ⟨h1, fun h0 => ?_, fun h0 => ?_⟩
    · obtain ⟨d, e1, e2, e3⟩ := h2 h0
      exact ⟨d, e1, by rw [List.getElem?_append_left (by omega)]; exact e2, e3⟩
    · obtain ⟨d, e1, e2⟩ := h3 h0
      have := (List.getElem?_eq_some_iff.1 e1).1
      exact ⟨d, by rw [List.getElem?_append_left this]; exact e1, e2⟩
  · rw [List.getElem?_append_right (by omega)] at h
    obtain ⟨h1, h2, h3⟩ := hb _ c h
    refine ⟨h1, fun h0 => ?_, fun h0 => ?_⟩
    · obtain ⟨d, e1, e2, e3⟩ := h2 h0
      exact ⟨d, by omega, by rw [List.getElem?_append_right (by omega), show i - 1 - a.length = i - a.length - 1 by omega]; exact e2, e3⟩
    · obtain ⟨d, e1, e2⟩ := h3 h0
      exact ⟨d, by rw [List.getElem?_append_right (by omega), show i + 1 - a.length = i - a.length + 1 by omega]; exact e1, e2⟩
theorem Good.whole {c : Cl} (h : okC c = true) : Good (wholeL c) := by
  obtain ⟨hw, hf⟩ := okC_iff.1 h
  intro i d hd
  unfold wholeL at *
  split at hd
  · rename_i h2
    match i, hd with
    | 0, hd =>
      obtain rfl : c = d := by simpa using hd
      exact ⟨hf, fun h0 => by omega, fun _ => ⟨halfOf c, by simp [h2], rfl⟩⟩
    | 1, hd =>
      obtain rfl : halfOf c = d := by simpa using hd
      exact ⟨fits_halfO hf, fun _ => ⟨c, by omega, by simp [h2], h2⟩, fun h0 => by simp [halfOf] at h0⟩
    | n + 2, hd => simp at hd
  · rename_i h2
    match i, hd with
    | 0, hd =>
      obtain rfl : c = d := by simpa using hd
      exact ⟨hf, fun h0 => by omega, fun h0 => by omega⟩
    | n + 1, hd => simp at hd
theorem fits_b0 : fitsB (blank 0 0 0) = true := by decide
theorem saneRow {q : Nat} {l : List Cl} {dir : Int} (h1 : 1 ≤ q) (h2 : q ≤ 4096) (hl : l.length ≤ q) (hg : Good l) (hd : 0 ≤ dir ∧ dir ≤ 2) : saneB q (padF l) dir = true := by
  rw [sane_iff]
  refine ⟨h1, h2, hd.1, hd.2, fun i hi => ?_⟩
  cases hc : l[i]? with
  | some c =>
    obtain ⟨g1, g2, g3⟩ := hg i c hc
    rw [padF_in hc]
    refine ⟨g1, ?_⟩
    unfold lostB
    rw [padF_in hc, decide_eq_false_iff_not]
    rintro (⟨h0, h3⟩ | ⟨h0, h3⟩)
    · obtain ⟨d, e1, e2, e3⟩ := g2 h0
      rw [padF_in e2] at h3
      rcases h3 with h3 | h3
      · omega
      · exact h3 e3
    · obtain ⟨d, e1, e2⟩ := g3 h0
      have := (List.getElem?_eq_some_iff.1 e1).1
      rw [padF_in e1] at h3
      rcases h3 with h3 | h3
      · omega
      · exact h3 e2
  | none =>
    have hlen : l.length ≤ i := List.getElem?_eq_none_iff.1 hc
    rw [padF_out hlen]
    refine ⟨fits_b0, ?_⟩
    unfold lostB
    rw [padF_out hlen]
    simp [blank]
/-! ### a place stays -/
/-- a line's cells with the halves behind wide ones -/
def wide (cs : List Cl) : List Cl := cs.flatMap wholeL
theorem wide_cons (c : Cl) (cs : List Cl) : wide (c :: cs) = wholeL c ++ wide cs := by unfold wide; rw [List.flatMap_cons]
def findS : List Sh → Nat → Nat × Nat → Nat × Nat
  | r :: rest, k + 1, s => findS rest k (if r.wb = true then (s.1, s.2 + rmS r rest.head?) else (s.1 + 1, 0))
  | _, _, s => s
theorem findS_zero (L : List Sh) (s : Nat × Nat) : findS L 0 s = s := by cases L <;> rfl
theorem findS_succ (r : Sh) (rest : List Sh) (k : Nat) (s : Nat × Nat) : findS (r :: rest) (k + 1) s = findS rest k (if r.wb = true then (s.1, s.2 + rmS r rest.head?) else (s.1 + 1, 0)) := rfl
end Go.Proofs.YtlchffkabpfjpaaGreat.Row
end
