/- reflow: room, in both packages. -/
import Derived.Test.YtlgnchhhadnjbaaRflP
namespace Go.Proofs.Ytlgnchhhadnjbaa.Row
open Go.RowKit


/-- does a row lack its last place for a wide letter that stands first in the next one? -/
def rmB (r : Rw) (o : Option Rw) : Bool := r.wb && (match o with | some s => decide (r.f (r.n - 1) = blank 0 0 0) && decide ((s.f 0).w = 2) | none => false)
def rmN (r : Rw) (o : Option Rw) : Nat := if rmB r o = true then r.n - 1 else r.n
set_option maxRecDepth 100000 in
set_option maxHeartbeats 4000000 in
theorem room_c (x : Value) (L : List Rw) (y : Nat) (r : Rw) (w : World) (hx : RdR w x L) (hl : L.length ≤ 20000000) (hy : L[y]? = some r) (hs : ∀ r ∈ L, 1 ≤ r.n) :
    Calls Try.prog 31 #[x, .int .i64 y] w fun e w' => e = .returned (.int .i64 (rmN r L[y + 1]?)) ∧ Grew w w' := by
  obtain ⟨A, cap, rfl, hc⟩ := hx.1.len
  have hyl := (List.getElem?_eq_some_iff.1 hy).1
  have hri := (List.getElem?_eq_some_iff.1 hy).2
  obtain ⟨b, o, rfl, hbl, hat, hok⟩ := hx.at_ hyl
  rw [hri] at hat hok
  obtain ⟨p0, p1, p2, p3⟩ := hat
  have hr1 := hs r (List.mem_of_getElem? hy)
  have hr2 := hok.2.2
  have hylI : (y : Int) < L.length := by omega
  cases hwb : r.wb
  · have HR : rmN r L[y + 1]? = r.n := by unfold rmN rmB; rw [hwb]; rfl
    rw [HR]
    rw [hwb] at p1
    clear hwb HR hy hri hok hs hx
    generalize L.length = n at *
    generalize r.n = m at *
    go_enter Try.func31, Try.ntmps31
    go_wp2_with fail
    go_ret
    exact ⟨rfl, (Below.toGrow (by repeat (first | (with_reducible exact Below.refl _ _) | (with_reducible assumption) | (with_reducible refine Below.grow ?_ ?_ _ _) | (with_reducible refine Below.drewN' ?_ _) | (with_reducible refine Below.drew ?_) | (with_reducible refine Below.alloc ?_ ?_ _) | (with_reducible refine Below.setCell ?_ ?_ _) | omega | (focus (simp; done)) | (focus (simp; omega)))))⟩
  · by_cases hn : y + 1 < L.length
    · obtain ⟨b', o', e1, -, hat2, hok2⟩ := hx.at_ hn
      injection e1 with e1
      injection e1 with e1 e2
      subst e1 e2
      have hne := List.getElem?_eq_getElem hn
      have hs2 := hs _ (List.getElem_mem hn)
      rw [hne]
      generalize L[y + 1] = s at hat2 hok2 hs2
      obtain ⟨q0, q1, q2, q3⟩ := hat2
      have hs1 := hs2
      have hs3 := hok2.2.2
      have hok' := hok.1 (by omega)
      obtain ⟨b1, o1, hA1, hb1, hc1⟩ := hok'
      have hl1 := hc1 (r.n - 1) (by omega)
      obtain ⟨b2, o2, hA2, hb2, hc2⟩ := hok2.1 (by omega)
      have hl2 := hc2 0 (by omega)
      rw [Nat.zero_mul, Nat.add_zero] at hl2
      have hnI : (y : Int) + 1 < L.length := by omega
      rw [hwb] at p1
      rw [hA1] at p0
      rw [hA2] at q0
      have HRN : Hid (rmN r (some s) = if r.f (r.n - 1) = blank 0 0 0 ∧ (s.f 0).w = 2 then r.n - 1 else r.n) := by
        show _ = _
        unfold rmN rmB
        rw [hwb]
        simp
      obtain ⟨m, hm⟩ : ∃ m, r.n = m + 1 := ⟨r.n - 1, by omega⟩
      rw [hm] at p0 hl1 HRN
      rw [Nat.add_sub_cancel] at hl1 HRN
      have hm2 : m ≤ 5000 := by omega
      obtain ⟨c0, c1, c2, c3, c4, c5, c6⟩ := hl1
      obtain ⟨-, -, -, z3, -, -, -⟩ := hl2
      generalize r.f m = ce at c0 c1 c2 c3 c4 c5 c6 HRN
      obtain ⟨tb, htb⟩ : ∃ tb, decide (ce = blank 0 0 0) = tb := ⟨_, rfl⟩
      have HCE := Lib.hid htb
      have hyn : (y : Int) + 1 < 30000000 := by omega
      generalize (s.f 0).w = W at z3 HRN
      generalize r.cap = rc at p0
      generalize s.cap = sc at q0
      generalize s.n = sn at *
      have hsn : 0 < sn := by omega
      have HRR : Hid (rmN r (some s) = if tb = true ∧ W = 2 then m else m + 1) := by
        show _ = _
        rw [HRN.out, ← HCE.out]
        simp
      generalize rmN r (some s) = res at *
      clear htb HRN hwb hm hy hri hok hok2 hs hx hs2 hne hc1 hc2 hA1 hA2 hr1 hr2 hs3 hs1
      obtain ⟨j, hj⟩ : ∃ j, y + 1 = j := ⟨_, rfl⟩
      have hjI : (y : Int) + 1 = (j : Int) := by omega
      have hjn : (j : Int) < (L.length : Int) := by omega
      rw [hj] at q0 hn
      obtain ⟨n0, hn0⟩ : ∃ n0, m + 1 = n0 := ⟨_, rfl⟩
      have hsubI : (n0 : Int) - 1 = (m : Int) := by omega
      have hmn : m < n0 := by omega
      have hn05 : n0 ≤ 6000 := by omega
      rw [hn0] at p0 HRR
      clear hn0
      clear hj hnI q1 q2 q3
      generalize L.length = n at *
      cases tb
      · have hres := HRR.out
        rw [if_neg (by simp)] at hres
        subst hres
        go_enter Try.func31, Try.ntmps31
        go_wp2_with (go_at_call 44; (with_reducible refine (isBlank_c ce _).mono ?_); rw [HCE.out]; rintro e w1 ⟨rfl, X1, d1, rfl⟩)
        go_ret
        exact ⟨rfl, (Below.toGrow (by repeat (first | (with_reducible exact Below.refl _ _) | (with_reducible assumption) | (with_reducible refine Below.grow ?_ ?_ _ _) | (with_reducible refine Below.drewN' ?_ _) | (with_reducible refine Below.drew ?_) | (with_reducible refine Below.alloc ?_ ?_ _) | (with_reducible refine Below.setCell ?_ ?_ _) | omega | (focus (simp; done)) | (focus (simp; omega)))))⟩
      · by_cases hW : W = 2
        · have hres := HRR.out
          rw [if_pos ⟨rfl, hW⟩] at hres
          subst hres
          subst hW
          clear HRR
          go_enter Try.func31, Try.ntmps31
          go_wp2_with (go_at_call 44; (with_reducible refine (isBlank_c ce _).mono ?_); rw [HCE.out]; rintro e w1 ⟨rfl, X1, d1, rfl⟩)
          go_ret
          exact ⟨rfl, (Below.toGrow (by repeat (first | (with_reducible exact Below.refl _ _) | (with_reducible assumption) | (with_reducible refine Below.grow ?_ ?_ _ _) | (with_reducible refine Below.drewN' ?_ _) | (with_reducible refine Below.drew ?_) | (with_reducible refine Below.alloc ?_ ?_ _) | (with_reducible refine Below.setCell ?_ ?_ _) | omega | (focus (simp; done)) | (focus (simp; omega)))))⟩
        · have hres := HRR.out
          rw [if_neg (fun h => hW h.2)] at hres
          subst hres
          clear HRR
          have hwb : (W == 2) = false := by simpa using hW
          clear hW
          go_enter Try.func31, Try.ntmps31
          go_wp2_with (go_at_call 44; (with_reducible refine (isBlank_c ce _).mono ?_); rw [HCE.out]; rintro e w1 ⟨rfl, X1, d1, rfl⟩)
          go_ret
          exact ⟨rfl, (Below.toGrow (by repeat (first | (with_reducible exact Below.refl _ _) | (with_reducible assumption) | (with_reducible refine Below.grow ?_ ?_ _ _) | (with_reducible refine Below.drewN' ?_ _) | (with_reducible refine Below.drew ?_) | (with_reducible refine Below.alloc ?_ ?_ _) | (with_reducible refine Below.setCell ?_ ?_ _) | omega | (focus (simp; done)) | (focus (simp; omega)))))⟩
    · have hnone : L[y + 1]? = none := List.getElem?_eq_none (by omega)
      have HR : rmN r L[y + 1]? = r.n := by unfold rmN rmB; rw [hnone, hwb]; rfl
      rw [HR]
      rw [hwb] at p1
      have hnI : ¬ (y : Int) + 1 < L.length := by omega
      clear hwb HR hy hri hok hs hx hnone
      generalize L.length = n at *
      generalize r.n = m at *
      go_enter Try.func31, Try.ntmps31
      go_wp2_with fail
      go_ret
      exact ⟨rfl, (Below.toGrow (by repeat (first | (with_reducible exact Below.refl _ _) | (with_reducible assumption) | (with_reducible refine Below.grow ?_ ?_ _ _) | (with_reducible refine Below.drewN' ?_ _) | (with_reducible refine Below.drew ?_) | (with_reducible refine Below.alloc ?_ ?_ _) | (with_reducible refine Below.setCell ?_ ?_ _) | omega | (focus (simp; done)) | (focus (simp; omega)))))⟩
set_option maxRecDepth 100000 in
set_option maxHeartbeats 4000000 in
theorem room11_c (x : Value) (L : List Rw) (y : Nat) (r : Rw) (w : World) (hx : RdR w x L) (hl : L.length ≤ 20000000) (hy : L[y]? = some r) (hs : ∀ r ∈ L, 1 ≤ r.n) :
    Calls Try.prog 32 #[x, .int .i64 y] w fun e w' => e = .returned (.int .i64 (rmN r L[y + 1]?)) ∧ Grew w w' := by
  obtain ⟨A, cap, rfl, hc⟩ := hx.1.len
  have hyl := (List.getElem?_eq_some_iff.1 hy).1
  have hri := (List.getElem?_eq_some_iff.1 hy).2
  obtain ⟨b, o, rfl, hbl, hat, hok⟩ := hx.at_ hyl
  rw [hri] at hat hok
  obtain ⟨p0, p1, p2, p3⟩ := hat
  have hr1 := hs r (List.mem_of_getElem? hy)
  have hr2 := hok.2.2
  have hylI : (y : Int) < L.length := by omega
  cases hwb : r.wb
  · have HR : rmN r L[y + 1]? = r.n := by unfold rmN rmB; rw [hwb]; rfl
    rw [HR]
    rw [hwb] at p1
    clear hwb HR hy hri hok hs hx
    generalize L.length = n at *
    generalize r.n = m at *
    go_enter Try.func32, Try.ntmps32
    go_wp2_with fail
    go_ret
    exact ⟨rfl, (Below.toGrow (by repeat (first | (with_reducible exact Below.refl _ _) | (with_reducible assumption) | (with_reducible refine Below.grow ?_ ?_ _ _) | (with_reducible refine Below.drewN' ?_ _) | (with_reducible refine Below.drew ?_) | (with_reducible refine Below.alloc ?_ ?_ _) | (with_reducible refine Below.setCell ?_ ?_ _) | omega | (focus (simp; done)) | (focus (simp; omega)))))⟩
  · by_cases hn : y + 1 < L.length
    · obtain ⟨b', o', e1, -, hat2, hok2⟩ := hx.at_ hn
      injection e1 with e1
      injection e1 with e1 e2
      subst e1 e2
      have hne := List.getElem?_eq_getElem hn
      have hs2 := hs _ (List.getElem_mem hn)
      rw [hne]
      generalize L[y + 1] = s at hat2 hok2 hs2
      obtain ⟨q0, q1, q2, q3⟩ := hat2
      have hs1 := hs2
      have hs3 := hok2.2.2
      have hok' := hok.1 (by omega)
      obtain ⟨b1, o1, hA1, hb1, hc1⟩ := hok'
      have hl1 := hc1 (r.n - 1) (by omega)
      obtain ⟨b2, o2, hA2, hb2, hc2⟩ := hok2.1 (by omega)
      have hl2 := hc2 0 (by omega)
      rw [Nat.zero_mul, Nat.add_zero] at hl2
      have hnI : (y : Int) + 1 < L.length := by omega
      rw [hwb] at p1
      rw [hA1] at p0
      rw [hA2] at q0
      have HRN : Hid (rmN r (some s) = if r.f (r.n - 1) = blank 0 0 0 ∧ (s.f 0).w = 2 then r.n - 1 else r.n) := by
        show _ = _
        unfold rmN rmB
        rw [hwb]
        simp
      obtain ⟨m, hm⟩ : ∃ m, r.n = m + 1 := ⟨r.n - 1, by omega⟩
      rw [hm] at p0 hl1 HRN
      rw [Nat.add_sub_cancel] at hl1 HRN
      have hm2 : m ≤ 5000 := by omega
      obtain ⟨c0, c1, c2, c3, c4, c5, c6⟩ := hl1
      obtain ⟨-, -, -, z3, -, -, -⟩ := hl2
      generalize r.f m = ce at c0 c1 c2 c3 c4 c5 c6 HRN
      obtain ⟨tb, htb⟩ : ∃ tb, decide (ce = blank 0 0 0) = tb := ⟨_, rfl⟩
      have HCE := Lib.hid htb
      have hyn : (y : Int) + 1 < 30000000 := by omega
      generalize (s.f 0).w = W at z3 HRN
      generalize r.cap = rc at p0
      generalize s.cap = sc at q0
      generalize s.n = sn at *
      have hsn : 0 < sn := by omega
      have HRR : Hid (rmN r (some s) = if tb = true ∧ W = 2 then m else m + 1) := by
        show _ = _
        rw [HRN.out, ← HCE.out]
        simp
      generalize rmN r (some s) = res at *
      clear htb HRN hwb hm hy hri hok hok2 hs hx hs2 hne hc1 hc2 hA1 hA2 hr1 hr2 hs3 hs1
      obtain ⟨j, hj⟩ : ∃ j, y + 1 = j := ⟨_, rfl⟩
      have hjI : (y : Int) + 1 = (j : Int) := by omega
      have hjn : (j : Int) < (L.length : Int) := by omega
      rw [hj] at q0 hn
      obtain ⟨n0, hn0⟩ : ∃ n0, m + 1 = n0 := ⟨_, rfl⟩
      have hsubI : (n0 : Int) - 1 = (m : Int) := by omega
      have hmn : m < n0 := by omega
      have hn05 : n0 ≤ 6000 := by omega
      rw [hn0] at p0 HRR
      clear hn0
      clear hj hnI q1 q2 q3
      generalize L.length = n at *
      cases tb
      · have hres := HRR.out
        rw [if_neg (by simp)] at hres
        subst hres
        go_enter Try.func32, Try.ntmps32
        go_wp2_with (go_at_call 45; (with_reducible refine (blank11_c ce _).mono ?_); rw [HCE.out]; rintro e w1 ⟨rfl, X1, d1, rfl⟩)
        go_ret
        exact ⟨rfl, (Below.toGrow (by repeat (first | (with_reducible exact Below.refl _ _) | (with_reducible assumption) | (with_reducible refine Below.grow ?_ ?_ _ _) | (with_reducible refine Below.drewN' ?_ _) | (with_reducible refine Below.drew ?_) | (with_reducible refine Below.alloc ?_ ?_ _) | (with_reducible refine Below.setCell ?_ ?_ _) | omega | (focus (simp; done)) | (focus (simp; omega)))))⟩
      · by_cases hW : W = 2
        · have hres := HRR.out
          rw [if_pos ⟨rfl, hW⟩] at hres
          subst hres
          subst hW
          clear HRR
          go_enter Try.func32, Try.ntmps32
          go_wp2_with (go_at_call 45; (with_reducible refine (blank11_c ce _).mono ?_); rw [HCE.out]; rintro e w1 ⟨rfl, X1, d1, rfl⟩)
          go_ret
          exact ⟨rfl, (Below.toGrow (by repeat (first | (with_reducible exact Below.refl _ _) | (with_reducible assumption) | (with_reducible refine Below.grow ?_ ?_ _ _) | (with_reducible refine Below.drewN' ?_ _) | (with_reducible refine Below.drew ?_) | (with_reducible refine Below.alloc ?_ ?_ _) | (with_reducible refine Below.setCell ?_ ?_ _) | omega | (focus (simp; done)) | (focus (simp; omega)))))⟩
        · have hres := HRR.out
          rw [if_neg (fun h => hW h.2)] at hres
          subst hres
          clear HRR
          have hwb : (W == 2) = false := by simpa using hW
          clear hW
          go_enter Try.func32, Try.ntmps32
          go_wp2_with (go_at_call 45; (with_reducible refine (blank11_c ce _).mono ?_); rw [HCE.out]; rintro e w1 ⟨rfl, X1, d1, rfl⟩)
          go_ret
          exact ⟨rfl, (Below.toGrow (by repeat (first | (with_reducible exact Below.refl _ _) | (with_reducible assumption) | (with_reducible refine Below.grow ?_ ?_ _ _) | (with_reducible refine Below.drewN' ?_ _) | (with_reducible refine Below.drew ?_) | (with_reducible refine Below.alloc ?_ ?_ _) | (with_reducible refine Below.setCell ?_ ?_ _) | omega | (focus (simp; done)) | (focus (simp; omega)))))⟩
    · have hnone : L[y + 1]? = none := List.getElem?_eq_none (by omega)
      have HR : rmN r L[y + 1]? = r.n := by unfold rmN rmB; rw [hnone, hwb]; rfl
      rw [HR]
      rw [hwb] at p1
      have hnI : ¬ (y : Int) + 1 < L.length := by omega
      clear hwb HR hy hri hok hs hx hnone
      generalize L.length = n at *
      generalize r.n = m at *
      go_enter Try.func32, Try.ntmps32
      go_wp2_with fail
      go_ret
      exact ⟨rfl, (Below.toGrow (by repeat (first | (with_reducible exact Below.refl _ _) | (with_reducible assumption) | (with_reducible refine Below.grow ?_ ?_ _ _) | (with_reducible refine Below.drewN' ?_ _) | (with_reducible refine Below.drew ?_) | (with_reducible refine Below.alloc ?_ ?_ _) | (with_reducible refine Below.setCell ?_ ?_ _) | omega | (focus (simp; done)) | (focus (simp; omega)))))⟩
end Go.Proofs.Ytlgnchhhadnjbaa.Row
