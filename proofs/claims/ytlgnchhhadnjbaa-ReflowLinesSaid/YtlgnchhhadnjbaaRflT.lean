/- reflow: trimmed. -/
import Derived.Test.YtlgnchhhadnjbaaRflS
namespace Go.Proofs.Ytlgnchhhadnjbaa.Row
open Go.RowKit
/-- cells without the blank ones at the end -/
def trimN (l : List Cl) : Nat → Nat
  | 0 => 0
  | n + 1 => if l[n]? = some (blank 0 0 0) then trimN l n else n + 1
def trimL (l : List Cl) : List Cl := l.take (trimN l l.length)
theorem trimN_le (l : List Cl) : ∀ n, trimN l n ≤ n
  | 0 => Nat.le_refl _
  | n + 1 => by
    unfold trimN
    split
    · exact Nat.le_succ_of_le (trimN_le l n)
    · exact Nat.le_refl _
set_option maxRecDepth 100000 in
set_option maxHeartbeats 4000000 in
theorem trimmed_c (A : Option Addr) (n cap : Nat) (cs : List Cl) (w : World) (hx : RdX encC w (.slice A n cap) cs) (hn : n = cs.length) (hl : n ≤ 10000000) :
    Calls Try.prog 41 #[.slice A n cap] w fun e w' => e = .returned (.slice A (trimN cs n) cap) ∧ Grew w w' := by
  have hcap : n ≤ cap := by
    obtain ⟨A', c', e, hc⟩ := hx.len
    injection e with e1 e2 e3
    omega
  have HL := Lib.hid hn
  obtain ⟨res, hres⟩ : ∃ res, trimN cs n = res := ⟨_, rfl⟩
  rw [hres]
  have HRES := Lib.hid hres
  clear hn hres
  go_enter Try.func41, Try.ntmps41
  go_wp2_with fail
  go_loopw [0] (fun v wz => ∃ k : Nat, k ≤ n ∧ v = .slice A k cap ∧ Hid (trimN cs k = res) ∧ Below w.heap.size w wz) (fun v _ => match v with | .slice _ k _ => k | _ => 0)
  case atStart => exact ⟨n, Nat.le_refl _, rfl, HRES.out, by (repeat (first | (with_reducible exact Below.refl _ _) | (with_reducible assumption) | (with_reducible refine Below.grow ?_ ?_ _ _) | (with_reducible refine Below.drewN' ?_ _) | (with_reducible refine Below.drew ?_) | (with_reducible refine Below.alloc ?_ ?_ _) | (with_reducible refine Below.setCell ?_ ?_ _) | omega | (focus (simp; done)) | (focus (simp; omega))))⟩
  case round =>
    obtain ⟨k, hk, rfl, HT, hbw⟩ := hrel
    by_cases h0 : k = 0
    · subst h0
      have hr0 : res = 0 := by rw [← HT.out]; rfl
      subst hr0
      go_wp2_with fail
      go_ret
      exact ⟨rfl, Below.toGrow hbw⟩
    · obtain ⟨m, rfl⟩ : ∃ m, k = m + 1 := ⟨k - 1, by omega⟩
      have hkl : m < cs.length := by rw [← HL.out]; omega
      obtain ⟨b, o, rfl, hbl, hat⟩ := rdC_at (hx.below hbw) (List.getElem?_eq_getElem hkl)
      have HT2 : Hid (res = if decide (cs[m] = blank 0 0 0) = true then trimN cs m else m + 1) := by
        show _ = _
        rw [← HT.out]
        show (if cs[m]? = some (blank 0 0 0) then _ else _) = _
        rw [List.getElem?_eq_getElem hkl]
        simp
      generalize cs[m] = ce at *
      obtain ⟨c0, c1, c2, c3, c4, c5, c6⟩ := hat
      have hsub : ((m + 1 : Nat) : Int) - 1 = (m : Int) := by omega
      have hws := hbw.size
      obtain ⟨tb, htb⟩ : ∃ tb, decide (ce = blank 0 0 0) = tb := ⟨_, rfl⟩
      rw [htb] at HT2
      have HCE := Lib.hid htb
      clear htb HT
      cases tb
      · have hr0 := HT2.out
        rw [if_neg (by simp)] at hr0
        subst hr0
        go_wp2_with (go_at_call 44; (with_reducible refine (isBlank_c ce _).mono ?_); rintro e w1 ⟨rfl, X1, d1, rfl⟩; rw [HCE.out])
        go_ret
        exact ⟨rfl, (Below.toGrow (by repeat (first | (with_reducible exact Below.refl _ _) | (with_reducible assumption) | (with_reducible refine Below.grow ?_ ?_ _ _) | (with_reducible refine Below.drewN' ?_ _) | (with_reducible refine Below.drew ?_) | (with_reducible refine Below.alloc ?_ ?_ _) | (with_reducible refine Below.setCell ?_ ?_ _) | omega | (focus (simp; done)) | (focus (simp; omega)))))⟩
      · have hr0 := HT2.out
        rw [if_pos rfl] at hr0
        have HR := Lib.hid hr0
        clear hr0
        go_wp2_with (go_at_call 44; (with_reducible refine (isBlank_c ce _).mono ?_); rintro e w1 ⟨rfl, X1, d1, rfl⟩; rw [HCE.out])
        go_roundw
        case rel => exact ⟨m, by omega, rfl, HR.out.symm, by (repeat (first | (with_reducible exact Below.refl _ _) | (with_reducible assumption) | (with_reducible refine Below.grow ?_ ?_ _ _) | (with_reducible refine Below.drewN' ?_ _) | (with_reducible refine Below.drew ?_) | (with_reducible refine Below.alloc ?_ ?_ _) | (with_reducible refine Below.setCell ?_ ?_ _) | omega | (focus (simp; done)) | (focus (simp; omega))))⟩
        case measure => simp
end Go.Proofs.Ytlgnchhhadnjbaa.Row
