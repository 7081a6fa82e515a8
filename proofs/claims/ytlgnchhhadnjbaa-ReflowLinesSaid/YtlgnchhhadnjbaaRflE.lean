/- reflow.Find. -/
import Derived.Test.YtlgnchhhadnjbaaRflB
import Derived.RegionTactic
import Derived.ChangeAlike
import Derived.Deep.RegionWith
namespace Go.Proofs.Ytlgnchhhadnjbaa.Row
open Go.RowKit
/-- the line and the place in it where the row k begins -/
def findN (L : List Rw) : Nat → Nat × Nat
  | 0 => (0, 0)
  | k + 1 => match L[k]? with
    | some r => if r.wb = true then ((findN L k).1, (findN L k).2 + rmN r L[k + 1]?) else ((findN L k).1 + 1, 0)
    | none => findN L k
theorem rmN_le (r : Rw) (o : Option Rw) : rmN r o ≤ r.n := by
  unfold rmN
  split <;> omega
theorem findN_le {L : List Rw} (h : ∀ r ∈ L, r.n ≤ 5000) : ∀ k, (findN L k).1 ≤ k ∧ (findN L k).2 ≤ k * 5000
  | 0 => ⟨Nat.le_refl _, Nat.le_refl _⟩
  | k + 1 => by
    have hk := findN_le h k
    unfold findN
    split
    · rename_i r hr
      have h1 := rmN_le r L[k + 1]?
      have h2 := h r (List.mem_of_getElem? hr)
      split <;> simp only <;> omega
    · omega
def FindP (e : Ending) (a b : Int) (ok : Bool) : Prop := e = .returned (.tuple #[.agg #[.int .i64 a, .int .i64 b], .bool ok])
theorem findP_of {L : List Rw} {i a c : Nat} {p : Int} (h1 : (findN L i).1 = a) (h2 : (findN L i).2 = c) : FindP (.returned (.tuple #[.agg #[.int .i64 a, .int .i64 ((c : Int) + p)], .bool true])) (findN L i).1 ((findN L i).2 + p) true := by
  rw [h1, h2]
  rfl
theorem sane_n {L : List Rw} (h : areB L = true) : ∀ r ∈ L, 1 ≤ r.n := fun r hr => (sane_iff.1 (areB_iff.1 h r hr)).1
set_option maxRecDepth 100000 in
set_option maxHeartbeats 4000000 in
theorem find_HA (x : Value) (L : List Rw) (y p : Int) (w : World) (hx : RdR w x L) (hl : L.length ≤ 100000) (ha : areB L = false) : Calls Try.prog 42 #[x, .int .i64 y, .int .i64 p] w fun e w' => FindP e 0 0 false ∧ Grew w w' := by
  obtain ⟨A, cap, rfl, hc⟩ := hx.1.len
  have HLL := Lib.hid hl
  have HX := Lib.hid hx
  have hx0 := hx
  clear hx
  obtain ⟨n, hn⟩ : ∃ n, L.length = n := ⟨_, rfl⟩
  rw [hn] at hl hc hx0 ⊢
  replace HX : Hid (RdR w (.slice A n cap) L) := Lib.hid hx0
  have HN := Lib.hid hn
  clear hn
  have HAR := Lib.hid ha
  clear ha hx0
  go_enter Try.func42, Try.ntmps42
  go_wp2_with (go_at_call 40; (with_reducible refine (areSane_c (.slice A n cap) L _ (HX.out.below (by (repeat (first | (with_reducible exact Below.refl _ _) | (with_reducible assumption) | (with_reducible refine Below.grow ?_ ?_ _ _) | (with_reducible refine Below.drewN' ?_ _) | (with_reducible refine Below.drew ?_) | (with_reducible refine Below.alloc ?_ ?_ _) | (with_reducible refine Below.setCell ?_ ?_ _) | omega | (focus (simp; done)) | (focus (simp; omega)))))) HLL.out).mono ?_); rw [HAR.out]; rintro e w1 ⟨rfl, X1, d1, rfl⟩)
  (refine bodyPost_ret (v := _) (by (simp [results, Try.results42, go_sem]; exact rfl)) rfl ⟨?_, (Below.toGrow (by repeat (first | (with_reducible exact Below.refl _ _) | (with_reducible assumption) | (with_reducible refine Below.grow ?_ ?_ _ _) | (with_reducible refine Below.drewN' ?_ _) | (with_reducible refine Below.drew ?_) | (with_reducible refine Below.alloc ?_ ?_ _) | (with_reducible refine Below.setCell ?_ ?_ _) | omega | (focus (simp; done)) | (focus (simp; omega)))))⟩; exact rfl)
set_option maxRecDepth 100000 in
set_option maxHeartbeats 4000000 in
theorem find_HY (x : Value) (L : List Rw) (y p : Int) (w : World) (hx : RdR w x L) (hl : L.length ≤ 100000) (ha : areB L = true) (hy : y < 0) : Calls Try.prog 42 #[x, .int .i64 y, .int .i64 p] w fun e w' => FindP e 0 0 false ∧ Grew w w' := by
  obtain ⟨A, cap, rfl, hc⟩ := hx.1.len
  have HLL := Lib.hid hl
  have HX := Lib.hid hx
  have hx0 := hx
  clear hx
  obtain ⟨n, hn⟩ : ∃ n, L.length = n := ⟨_, rfl⟩
  rw [hn] at hl hc hx0 ⊢
  replace HX : Hid (RdR w (.slice A n cap) L) := Lib.hid hx0
  have HN := Lib.hid hn
  clear hn
  have HAR := Lib.hid ha
  have hyb : decide (y < 0) = true := by simpa using hy
  clear ha hx0 hy
  go_enter Try.func42, Try.ntmps42
  go_wp2_with (go_at_call 40; (with_reducible refine (areSane_c (.slice A n cap) L _ (HX.out.below (by (repeat (first | (with_reducible exact Below.refl _ _) | (with_reducible assumption) | (with_reducible refine Below.grow ?_ ?_ _ _) | (with_reducible refine Below.drewN' ?_ _) | (with_reducible refine Below.drew ?_) | (with_reducible refine Below.alloc ?_ ?_ _) | (with_reducible refine Below.setCell ?_ ?_ _) | omega | (focus (simp; done)) | (focus (simp; omega)))))) HLL.out).mono ?_); rw [HAR.out]; rintro e w1 ⟨rfl, X1, d1, rfl⟩)
  (refine bodyPost_ret (v := _) (by (simp [results, Try.results42, go_sem]; exact rfl)) rfl ⟨?_, (Below.toGrow (by repeat (first | (with_reducible exact Below.refl _ _) | (with_reducible assumption) | (with_reducible refine Below.grow ?_ ?_ _ _) | (with_reducible refine Below.drewN' ?_ _) | (with_reducible refine Below.drew ?_) | (with_reducible refine Below.alloc ?_ ?_ _) | (with_reducible refine Below.setCell ?_ ?_ _) | omega | (focus (simp; done)) | (focus (simp; omega)))))⟩; exact rfl)
set_option maxRecDepth 100000 in
set_option maxHeartbeats 4000000 in
theorem find_HL (x : Value) (L : List Rw) (y p : Int) (w : World) (hx : RdR w x L) (hl : L.length ≤ 100000) (ha : areB L = true) (hy : 0 ≤ y) (hy2 : (L.length : Int) ≤ y) : Calls Try.prog 42 #[x, .int .i64 y, .int .i64 p] w fun e w' => FindP e 0 0 false ∧ Grew w w' := by
  obtain ⟨A, cap, rfl, hc⟩ := hx.1.len
  have HLL := Lib.hid hl
  have HX := Lib.hid hx
  have hx0 := hx
  clear hx
  obtain ⟨n, hn⟩ : ∃ n, L.length = n := ⟨_, rfl⟩
  rw [hn] at hl hc hx0 ⊢
  replace HX : Hid (RdR w (.slice A n cap) L) := Lib.hid hx0
  have HN := Lib.hid hn
  clear hn
  have HAR := Lib.hid ha
  rw [HN.out] at hy2
  have hyb : decide (y < 0) = false := by simp; omega
  have hyb2 : decide ((n : Int) ≤ y) = true := by simpa using hy2
  clear ha hx0 hy hy2
  go_enter Try.func42, Try.ntmps42
  go_wp2_with (go_at_call 40; (with_reducible refine (areSane_c (.slice A n cap) L _ (HX.out.below (by (repeat (first | (with_reducible exact Below.refl _ _) | (with_reducible assumption) | (with_reducible refine Below.grow ?_ ?_ _ _) | (with_reducible refine Below.drewN' ?_ _) | (with_reducible refine Below.drew ?_) | (with_reducible refine Below.alloc ?_ ?_ _) | (with_reducible refine Below.setCell ?_ ?_ _) | omega | (focus (simp; done)) | (focus (simp; omega)))))) HLL.out).mono ?_); rw [HAR.out]; rintro e w1 ⟨rfl, X1, d1, rfl⟩)
  (refine bodyPost_ret (v := _) (by (simp [results, Try.results42, go_sem]; exact rfl)) rfl ⟨?_, (Below.toGrow (by repeat (first | (with_reducible exact Below.refl _ _) | (with_reducible assumption) | (with_reducible refine Below.grow ?_ ?_ _ _) | (with_reducible refine Below.drewN' ?_ _) | (with_reducible refine Below.drew ?_) | (with_reducible refine Below.alloc ?_ ?_ _) | (with_reducible refine Below.setCell ?_ ?_ _) | omega | (focus (simp; done)) | (focus (simp; omega)))))⟩; exact rfl)
set_option maxRecDepth 100000 in
set_option maxHeartbeats 4000000 in
theorem find_HP (x : Value) (L : List Rw) (y p : Int) (w : World) (hx : RdR w x L) (hl : L.length ≤ 100000) (ha : areB L = true) (hy : 0 ≤ y) (hy2 : y < (L.length : Int)) (hp : p < 0) : Calls Try.prog 42 #[x, .int .i64 y, .int .i64 p] w fun e w' => FindP e 0 0 false ∧ Grew w w' := by
  obtain ⟨A, cap, rfl, hc⟩ := hx.1.len
  have HLL := Lib.hid hl
  have HX := Lib.hid hx
  have hx0 := hx
  clear hx
  obtain ⟨n, hn⟩ : ∃ n, L.length = n := ⟨_, rfl⟩
  rw [hn] at hl hc hx0 ⊢
  replace HX : Hid (RdR w (.slice A n cap) L) := Lib.hid hx0
  have HN := Lib.hid hn
  clear hn
  have HAR := Lib.hid ha
  rw [HN.out] at hy2
  have hyb : decide (y < 0) = false := by simp; omega
  have hyb2 : decide ((n : Int) ≤ y) = false := by simp; omega
  have hpb : decide (p < 0) = true := by simpa using hp
  clear ha hx0 hy hy2 hp
  go_enter Try.func42, Try.ntmps42
  go_wp2_with (go_at_call 40; (with_reducible refine (areSane_c (.slice A n cap) L _ (HX.out.below (by (repeat (first | (with_reducible exact Below.refl _ _) | (with_reducible assumption) | (with_reducible refine Below.grow ?_ ?_ _ _) | (with_reducible refine Below.drewN' ?_ _) | (with_reducible refine Below.drew ?_) | (with_reducible refine Below.alloc ?_ ?_ _) | (with_reducible refine Below.setCell ?_ ?_ _) | omega | (focus (simp; done)) | (focus (simp; omega)))))) HLL.out).mono ?_); rw [HAR.out]; rintro e w1 ⟨rfl, X1, d1, rfl⟩)
  (refine bodyPost_ret (v := _) (by (simp [results, Try.results42, go_sem]; exact rfl)) rfl ⟨?_, (Below.toGrow (by repeat (first | (with_reducible exact Below.refl _ _) | (with_reducible assumption) | (with_reducible refine Below.grow ?_ ?_ _ _) | (with_reducible refine Below.drewN' ?_ _) | (with_reducible refine Below.drew ?_) | (with_reducible refine Below.alloc ?_ ?_ _) | (with_reducible refine Below.setCell ?_ ?_ _) | omega | (focus (simp; done)) | (focus (simp; omega)))))⟩; exact rfl)
set_option maxRecDepth 100000 in
set_option maxHeartbeats 4000000 in
theorem find_HN (x : Value) (L : List Rw) (y : Nat) (p : Int) (r : Rw) (w : World) (hx : RdR w x L) (hl : L.length ≤ 100000) (ha : areB L = true) (hr : L[y]? = some r) (hp : 0 ≤ p) (hp2 : (r.n : Int) ≤ p) :
    Calls Try.prog 42 #[x, .int .i64 y, .int .i64 p] w fun e w' => FindP e 0 0 false ∧ Grew w w' := by
  obtain ⟨A, cap, rfl, hc⟩ := hx.1.len
  have HLL := Lib.hid hl
  have HX := Lib.hid hx
  have hx0 := hx
  clear hx
  obtain ⟨n, hn⟩ : ∃ n, L.length = n := ⟨_, rfl⟩
  rw [hn] at hl hc hx0 ⊢
  replace HX : Hid (RdR w (.slice A n cap) L) := Lib.hid hx0
  have HN := Lib.hid hn
  clear hn
  have HAR := Lib.hid ha
  have hyl := (List.getElem?_eq_some_iff.1 hr).1
  have hri := (List.getElem?_eq_some_iff.1 hr).2
  obtain ⟨b, o, rfl, hbl, hat, hok⟩ := hx0.at_ hyl
  rw [hri] at hat hok
  obtain ⟨p0, p1, p2, p3⟩ := hat
  rw [HN.out] at hyl
  have hyI : (y : Int) < n := by omega
  have hyb2 : decide ((n : Int) ≤ y) = false := by simp; omega
  have hyb3 : decide (n ≤ y) = false := by simp; omega
  have hyb4 : decide ((y : Int) < 0) = false := by simp
  have hpb : decide (p < 0) = false := by simp; omega
  have hpb2 : decide ((r.n : Int) ≤ p) = true := by simpa using hp2
  clear ha hx0 hr hp hp2 hok hri
  go_enter Try.func42, Try.ntmps42
  go_wp2_with (go_at_call 40; (with_reducible refine (areSane_c (.slice (some ⟨b, o, none⟩) n cap) L _ (HX.out.below (by (repeat (first | (with_reducible exact Below.refl _ _) | (with_reducible assumption) | (with_reducible refine Below.grow ?_ ?_ _ _) | (with_reducible refine Below.drewN' ?_ _) | (with_reducible refine Below.drew ?_) | (with_reducible refine Below.alloc ?_ ?_ _) | (with_reducible refine Below.setCell ?_ ?_ _) | omega | (focus (simp; done)) | (focus (simp; omega)))))) HLL.out).mono ?_); rw [HAR.out]; rintro e w1 ⟨rfl, X1, d1, rfl⟩)
  (refine bodyPost_ret (v := _) (by (simp [results, Try.results42, go_sem]; exact rfl)) rfl ⟨?_, (Below.toGrow (by repeat (first | (with_reducible exact Below.refl _ _) | (with_reducible assumption) | (with_reducible refine Below.grow ?_ ?_ _ _) | (with_reducible refine Below.drewN' ?_ _) | (with_reducible refine Below.drew ?_) | (with_reducible refine Below.alloc ?_ ?_ _) | (with_reducible refine Below.setCell ?_ ?_ _) | omega | (focus (simp; done)) | (focus (simp; omega)))))⟩; exact rfl)
set_option maxRecDepth 100000 in
set_option maxHeartbeats 4000000 in
theorem find_yes (x : Value) (L : List Rw) (y : Nat) (p : Int) (r : Rw) (w : World) (hx : RdR w x L) (hl : L.length ≤ 100000) (ha : areB L = true) (hr : L[y]? = some r) (hp : 0 ≤ p) (hp2 : p < (r.n : Int)) :
    Calls Try.prog 42 #[x, .int .i64 y, .int .i64 p] w fun e w' => FindP e (findN L y).1 ((findN L y).2 + p) true ∧ Grew w w' := by
  obtain ⟨A, cap, rfl, hc⟩ := hx.1.len
  have HLL := Lib.hid hl
  have HX := Lib.hid hx
  have hx0 := hx
  clear hx
  obtain ⟨n, hn⟩ : ∃ n, L.length = n := ⟨_, rfl⟩
  rw [hn] at hl hc hx0 ⊢
  replace HX : Hid (RdR w (.slice A n cap) L) := Lib.hid hx0
  have HN := Lib.hid hn
  clear hn
  have HAR := Lib.hid ha
  have hyl := (List.getElem?_eq_some_iff.1 hr).1
  have hri := (List.getElem?_eq_some_iff.1 hr).2
  obtain ⟨b, o, rfl, hbl, hat, hok⟩ := hx0.at_ hyl
  rw [hri] at hat hok
  obtain ⟨p0, p1, p2, p3⟩ := hat
  rw [HN.out] at hyl
  have hyI : (y : Int) < n := by omega
  have hyb2 : decide ((n : Int) ≤ y) = false := by simp; omega
  have hyb3 : decide (n ≤ y) = false := by simp; omega
  have hyb4 : decide ((y : Int) < 0) = false := by simp
  have hp5 : p ≤ 5000 := by have := hok.2.2; omega
  have HS := Lib.hid (sane_n ha)
  have hpb : decide (p < 0) = false := by simp; omega
  have hpb2 : decide ((r.n : Int) ≤ p) = false := by simp; omega
  have HP := Lib.hid hp
  have HFL := Lib.hid (findN_le (L := L) (fun r hr => (hx0.2 r hr).2.2))
  have HX0 := Lib.hid hx0
  clear ha hx0 hr hp hp2 hok hri
  go_enter Try.func42, Try.ntmps42
  go_wp2_with (go_at_call 40; (with_reducible refine (areSane_c (.slice (some ⟨b, o, none⟩) n cap) L _ (HX.out.below (by (repeat (first | (with_reducible exact Below.refl _ _) | (with_reducible assumption) | (with_reducible refine Below.grow ?_ ?_ _ _) | (with_reducible refine Below.drewN' ?_ _) | (with_reducible refine Below.drew ?_) | (with_reducible refine Below.alloc ?_ ?_ _) | (with_reducible refine Below.setCell ?_ ?_ _) | omega | (focus (simp; done)) | (focus (simp; omega)))))) HLL.out).mono ?_); rw [HAR.out]; rintro e w1 ⟨rfl, X1, d1, rfl⟩)
  generalize hw0 : World.alloc (World.grow _ _ _) _ = w0
  have hbw : Below w.heap.size w w0 := by rw [← hw0]; (repeat (first | (with_reducible exact Below.refl _ _) | (with_reducible assumption) | (with_reducible refine Below.grow ?_ ?_ _ _) | (with_reducible refine Below.drewN' ?_ _) | (with_reducible refine Below.drew ?_) | (with_reducible refine Below.alloc ?_ ?_ _) | (with_reducible refine Below.setCell ?_ ?_ _) | omega | (focus (simp; done)) | (focus (simp; omega))))
  have hB6 : Blk w0 w.heap.size 31 #[.int .i64 0, .int .i64 0] := by rw [← hw0]; exact ((Blk.new _ _ _).grow _ _).alloc _
  obtain ⟨g, hg⟩ : ∃ g, w.heap.size + 1 + X1.size = g := ⟨_, rfl⟩
  have hB8 : Blk w0 g 31 #[.int .i64 0, .int .i64 0] := by rw [← hw0]; exact Blk.new_at (by rw [← hg]; simp)
  rw [hg]
  have hg6 : w.heap.size < g := by omega
  clear hw0 hg
  have HB6 := Lib.hid hB6
  have HB8 := Lib.hid hB8
  have HBW := Lib.hid hbw
  clear hB6 hB8 hbw
  go_loopw [39] (fun i wz => ∃ k : Nat, k ≤ y ∧ i = .int .i64 k ∧ Blk wz g 31 #[.int .i64 (findN L k).1, .int .i64 (findN L k).2] ∧ w0.grownBy wz (some g)) (fun i _ => y - (intOf i).toNat)
  case atStart => exact ⟨0, Nat.zero_le _, rfl, HB8.out, World.grownBy.refl _ _⟩
  case round =>
    obtain ⟨i, hi, rfl, hBz, hgz⟩ := hrel
    have hbw : Below w.heap.size w wr := below_gb HBW.out hgz (by omega) HBW.out.size
    obtain ⟨q0, q1, qf, ql⟩ := hBz.facts2
    have HGZ := Lib.hid hgz
    have hi1 := (HFL.out i).1
    have hi2 := (HFL.out i).2
    have HN1 : Hid (∀ r2, L[i]? = some r2 → findN L (i + 1) = if r2.wb = true then ((findN L i).1, (findN L i).2 + rmN r2 L[i + 1]?) else ((findN L i).1 + 1, 0)) := fun r2 h => by
      show (match L[i]? with | some r => _ | none => _) = _
      rw [h]
    obtain ⟨a2, ha2⟩ : ∃ a2, (findN L i).1 = a2 := ⟨_, rfl⟩
    obtain ⟨c2, hc2⟩ : ∃ c2, (findN L i).2 = c2 := ⟨_, rfl⟩
    rw [ha2] at q0 hi1 HN1
    rw [hc2] at q1 hi2 HN1
    rw [ha2, hc2] at hBz
    have HBZ := Lib.hid hBz
    have HA2 := Lib.hid ha2
    have HC2 := Lib.hid hc2
    clear ha2 hc2 hBz hgz
    by_cases hlt : i < y
    · have hltI : (i : Int) < y := by omega
      have hil : i < L.length := by rw [HN.out]; omega
      obtain ⟨b3, o3, e3, -, hat, hok⟩ := (HX0.out.below hbw).at_ hil
      injection e3 with e3
      injection e3 with e3 e4
      subst e3 e4
      have hr2 : L[i]? = some L[i] := List.getElem?_eq_getElem hil
      have HN2 := Lib.hid (HN1.out _ hr2)
      have HR2 := Lib.hid hr2
      have hrl := rmN_le L[i] L[i + 1]?
      generalize L[i] = r2 at *
      obtain ⟨rm, hrm⟩ : ∃ rm, rmN r2 L[i + 1]? = rm := ⟨_, rfl⟩
      rw [hrm] at hrl HN2
      have HRM := Lib.hid hrm
      have hr5 := hok.2.2
      obtain ⟨p0, p1, p2, p3⟩ := hat
      clear hrm hr2 HN1 hok
      cases hwb : r2.wb
      · have HW := Lib.hid hwb
        rw [hwb] at p1
        clear hwb
        go_wp2_with fail
        go_roundw
        case rel =>
          refine ⟨i + 1, by omega, by go_num, ?_, by have := HGZ.out; (repeat (first | (with_reducible exact World.grownBy.refl _ _) | (with_reducible assumption) | (with_reducible refine gb_grow ?_ _ _) | (with_reducible refine gb_drewN ?_ _) | (with_reducible refine gb_drew ?_) | (with_reducible refine gb_alloc ?_ _) | (with_reducible refine gb_setCell ?_ ?_ _) | (focus (left; rfl)) | (focus (right; simp; done)) | (focus (right; simp; omega)) | (focus (right; omega))))⟩
          rw [HN2.out, if_neg (by rw [HW.out]; simp)]
          simp only [Int.natCast_add]
          exact (HBZ.out.set_ 0 _).set_ 1 _
        case measure => simp [intOf]; omega
      · have HW := Lib.hid hwb
        rw [hwb] at p1
        have hs5 : IntKind.i64.wrap ((c2 : Int) + (rm : Int)) = (c2 : Int) + (rm : Int) := by rw [IntWalk.i64_left]; exact IntWalk.wrap64_in _ (by omega)
        clear hwb
        go_upto_region 8 with fail
        refine hr_start (S := (fun _ => True)) (by kernel_rfl) rfl ?_ (fun hHeld => ?_)
        · ((try dsimp only); skip)
        refine hr_take (i := 0) rfl rfl (by kernel_rfl) (by kernel_rfl) (by kernel_rfl) (by kernel_rfl) (fun _ _ _ h => h) (v := ?_) ?_ (by assumption) ?_
        rotate_left
        focus (intro wS hSw; (try dsimp only at hSw); go_simp; (try with_reducible rfl))
        simp only [List.set_cons_zero, List.set_cons_succ]
        refine hr_take (i := 2) rfl rfl (by kernel_rfl) (by kernel_rfl) (by kernel_rfl) (by kernel_rfl) (fun _ _ _ h => h) (v := ?_) ?_ (by assumption) ?_
        rotate_left
        focus (intro wS hSw; (try dsimp only at hSw); go_simp; (try with_reducible rfl))
        simp only [List.set_cons_zero, List.set_cons_succ]
        refine hr_take (i := 3) rfl rfl (by kernel_rfl) (by kernel_rfl) (by kernel_rfl) (by kernel_rfl) (fun _ _ _ h => h) (v := ?_) ?_ (by assumption) ?_
        rotate_left
        focus (intro wS hSw; (try dsimp only at hSw); go_simp; (try with_reducible rfl))
        simp only [List.set_cons_zero, List.set_cons_succ]
        refine hr_two (i := 1) (j := 4) rfl rfl rfl rfl (by kernel_rfl) (by kernel_rfl) (by kernel_rfl) (fun K hK => ?_) (fun K hK => ?_)
        · go_simp
          (try go_wp2_with fail)
          refine hK.out (.int .i64 (c2 : Int)) _ ?_ (fun hHeld => ?_)
          · ((try dsimp only); skip)
          clear hK K
          simp only [List.set_cons_zero, List.set_cons_succ]
          refine hr_op (i := 4) rfl rfl (by kernel_rfl) (by kernel_rfl) (fun K hK => ?_)
          go_simp
          ((with_reducible refine (room_c (.slice (some ⟨b, o, none⟩) n cap) L i r2 _ (HX.out.below (by (repeat (first | (with_reducible exact Below.refl _ _) | (with_reducible assumption) | (with_reducible refine Below.grow ?_ ?_ _ _) | (with_reducible refine Below.drewN' ?_ _) | (with_reducible refine Below.drew ?_) | (with_reducible refine Below.alloc ?_ ?_ _) | (with_reducible refine Below.setCell ?_ ?_ _) | omega | (focus (simp; done)) | (focus (simp; omega)))))) (Nat.le_trans HLL.out (by decide)) HR2.out HS.out).mono ?_); rw [HRM.out]; rintro e w5 ⟨rfl, X5, d5, rfl⟩)
          (try go_wp2_with fail)
          refine hK.out _ _ ?_ (fun hHeld => ?_)
          · ((try dsimp only); skip)
          clear hK K
          simp only [List.set_cons_zero, List.set_cons_succ]
          refine hr_take (i := 5) rfl rfl (by kernel_rfl) (by kernel_rfl) (by kernel_rfl) (by kernel_rfl) (fun _ _ _ h => h) (v := ?_) ?_ (by assumption) ?_
          rotate_left
          focus (intro wS hSw; (try dsimp only at hSw); go_simp; (try with_reducible rfl))
          simp only [List.set_cons_zero, List.set_cons_succ]
          refine hr_take (i := 6) rfl rfl (by kernel_rfl) (by kernel_rfl) (by kernel_rfl) (by kernel_rfl) (fun _ _ _ h => h) (v := ?_) ?_ (by assumption) ?_
          rotate_left
          focus (intro wS hSw; (try dsimp only at hSw); go_simp; (try with_reducible rfl))
          simp only [List.set_cons_zero, List.set_cons_succ]
          refine hr_op0 (i := 7) rfl (by kernel_rfl) (by kernel_rfl) (fun K hK => ?_)
          go_simp
          (try go_wp2_with fail)
          refine hK.out _ ?_ (fun hHeld => ?_)
          · ((try dsimp only); skip)
          clear hK K
          refine hr_done (by kernel_rfl) ?_
          (go_wp2_with fail; go_roundw; (case rel => (refine ⟨i + 1, by omega, by go_num, ?_, by (have := HGZ.out; (repeat (first | (with_reducible exact World.grownBy.refl _ _) | (with_reducible assumption) | (with_reducible refine gb_grow ?_ _ _) | (with_reducible refine gb_drewN ?_ _) | (with_reducible refine gb_drew ?_) | (with_reducible refine gb_alloc ?_ _) | (with_reducible refine gb_setCell ?_ ?_ _) | (focus (left; rfl)) | (focus (right; simp; done)) | (focus (right; simp; omega)) | (focus (right; omega)))))⟩; rw [HN2.out, if_pos HW.out]; simp only [Int.natCast_add]; first | exact (HBZ.out.set_ 1 _).grow _ _ | exact (HBZ.out.grow _ _).set_ 1 _)); (case measure => (simp [intOf]; omega)))
        · go_simp
          ((with_reducible refine (room_c (.slice (some ⟨b, o, none⟩) n cap) L i r2 _ (HX.out.below (by (repeat (first | (with_reducible exact Below.refl _ _) | (with_reducible assumption) | (with_reducible refine Below.grow ?_ ?_ _ _) | (with_reducible refine Below.drewN' ?_ _) | (with_reducible refine Below.drew ?_) | (with_reducible refine Below.alloc ?_ ?_ _) | (with_reducible refine Below.setCell ?_ ?_ _) | omega | (focus (simp; done)) | (focus (simp; omega)))))) (Nat.le_trans HLL.out (by decide)) HR2.out HS.out).mono ?_); rw [HRM.out]; rintro e w5 ⟨rfl, X5, d5, rfl⟩)
          (try go_wp2_with fail)
          refine hK.out _ _ ?_ (fun hHeld => ?_)
          · ((try dsimp only); skip)
          clear hK K
          simp only [List.set_cons_zero, List.set_cons_succ]
          refine hr_op (i := 1) rfl rfl (by kernel_rfl) (by kernel_rfl) (fun K hK => ?_)
          go_simp
          (try go_wp2_with fail)
          refine hK.out (.int .i64 (c2 : Int)) _ ?_ (fun hHeld => ?_)
          · ((try dsimp only); skip)
          clear hK K
          simp only [List.set_cons_zero, List.set_cons_succ]
          refine hr_take (i := 5) rfl rfl (by kernel_rfl) (by kernel_rfl) (by kernel_rfl) (by kernel_rfl) (fun _ _ _ h => h) (v := ?_) ?_ (by assumption) ?_
          rotate_left
          focus (intro wS hSw; (try dsimp only at hSw); go_simp; (try with_reducible rfl))
          simp only [List.set_cons_zero, List.set_cons_succ]
          refine hr_take (i := 6) rfl rfl (by kernel_rfl) (by kernel_rfl) (by kernel_rfl) (by kernel_rfl) (fun _ _ _ h => h) (v := ?_) ?_ (by assumption) ?_
          rotate_left
          focus (intro wS hSw; (try dsimp only at hSw); go_simp; (try with_reducible rfl))
          simp only [List.set_cons_zero, List.set_cons_succ]
          refine hr_op0 (i := 7) rfl (by kernel_rfl) (by kernel_rfl) (fun K hK => ?_)
          go_simp
          (try go_wp2_with fail)
          refine hK.out _ ?_ (fun hHeld => ?_)
          · ((try dsimp only); skip)
          clear hK K
          refine hr_done (by kernel_rfl) ?_
          (go_wp2_with fail; go_roundw; (case rel => (refine ⟨i + 1, by omega, by go_num, ?_, by (have := HGZ.out; (repeat (first | (with_reducible exact World.grownBy.refl _ _) | (with_reducible assumption) | (with_reducible refine gb_grow ?_ _ _) | (with_reducible refine gb_drewN ?_ _) | (with_reducible refine gb_drew ?_) | (with_reducible refine gb_alloc ?_ _) | (with_reducible refine gb_setCell ?_ ?_ _) | (focus (left; rfl)) | (focus (right; simp; done)) | (focus (right; simp; omega)) | (focus (right; omega)))))⟩; rw [HN2.out, if_pos HW.out]; simp only [Int.natCast_add]; first | exact (HBZ.out.set_ 1 _).grow _ _ | exact (HBZ.out.grow _ _).set_ 1 _)); (case measure => (simp [intOf]; omega)))
    · obtain rfl : i = y := by omega
      have hs6 : IntKind.i64.wrap ((c2 : Int) + p) = (c2 : Int) + p := by rw [IntWalk.i64_left]; exact IntWalk.wrap64_in _ (by have := HP.out; omega)
      obtain ⟨s0, s1, sf, sl⟩ := (HB6.out.gb HGZ.out (by intro e; injection e; omega)).facts2
      go_wp2_with fail
      generalize hwf : World.setCell (World.setCell (World.setCell wr _ _) _ _) _ _ = wf
      have hz : Blk wf w.heap.size 31 #[.int .i64 a2, .int .i64 ((c2 : Int) + p)] := by rw [← hwf]; exact (((HB6.out.gb HGZ.out (by intro e; injection e; omega)).of (Below.heap_setCell _ _ _ _ (by show w.heap.size ≠ g; omega))).set_ 0 _).set_ 1 _
      have hbf : Below w.heap.size w wf := by rw [← hwf]; (repeat (first | (with_reducible exact Below.refl _ _) | (with_reducible assumption) | (with_reducible refine Below.grow ?_ ?_ _ _) | (with_reducible refine Below.drewN' ?_ _) | (with_reducible refine Below.drew ?_) | (with_reducible refine Below.alloc ?_ ?_ _) | (with_reducible refine Below.setCell ?_ ?_ _) | omega | (focus (simp; done)) | (focus (simp; omega))))
      clear hwf s0 s1 sf sl
      obtain ⟨y0, y1, yf, yl⟩ := hz.facts2
      (refine bodyPost_ret (v := _) (by simp [results, Try.results42, go_sem, *]; try exact rfl) rfl ⟨?_, (Below.toGrow (by repeat (first | (with_reducible exact Below.refl _ _) | (with_reducible assumption) | (with_reducible refine Below.grow ?_ ?_ _ _) | (with_reducible refine Below.drewN' ?_ _) | (with_reducible refine Below.drew ?_) | (with_reducible refine Below.alloc ?_ ?_ _) | (with_reducible refine Below.setCell ?_ ?_ _) | omega | (focus (simp; done)) | (focus (simp; omega)))))⟩; (exact findP_of HA2.out HC2.out))
end Go.Proofs.Ytlgnchhhadnjbaa.Row
