/- A new screen of another size, plainly; a row down and up again. -/
import Derived.Test.YtlchffkabpfjpaaRszT
import Derived.Test.YtlchffkabpfjpaaScrW
namespace Go.Proofs.Ytlchffkabpfjpaa.Scr
open Go.RowKit Go.Proofs.Ytlchffkabpfjpaa.Row
theorem sh_same {r s : Rw} (h : r.sh = s.sh) : sameRw r s = true := by
  obtain ⟨A, n, c, f, wb, dir, ex⟩ := r
  obtain ⟨A', n', c', f', wb', dir', ex'⟩ := s
  have hn : n = n' := by
    have := congrArg (fun t => t.cs.length) h
    simpa [Rw.sh, listF_len] using this
  subst hn
  have h2 : wb = wb' := congrArg Sh.wb h
  have h3 : dir = dir' := congrArg Sh.dir h
  have h4 : ex = ex' := congrArg Sh.ex h
  subst h2 h3 h4
  have h5 : ∀ i, i < n → f i = f' i := fun i hi => by
    have := congrArg (fun t => t.cs[i]?) h
    simp only [Rw.sh] at this
    rw [listF_get hi, listF_get hi] at this
    injection this
  unfold sameRw sameRowB sameB
  simp [h5]
  exact fun i hi => h5 i hi
theorem len_blank {f : Nat → Cl} : ∀ n, (∀ i, i < n → f i = Row.blank 0 0 0) → lenF f n = 0
  | 0, _ => rfl
  | n + 1, h => by
    unfold lenF
    rw [h n (by omega), if_neg (by decide)]
    exact len_blank n fun i hi => h i (by omega)
theorem blank_used {S : Sn} {k q : Nat} (hy : S.s.y = 0) (hF : ∀ i, i < S.s.gn → ct (S.F i) = newC q 0 0 0) (hu : UsedP S k) : k = 1 := by
  rcases hu.last with h | h
  · omega
  · exfalso
    have hl := hu.lo
    have hh := hu.hi
    have hc := hF (k - 1) (by omega)
    have e1 : (S.F (k - 1)).f = fun _ => Row.blank 0 0 0 := congrArg Ct.f hc
    exact h (by rw [e1]; exact len_blank _ fun _ _ => rfl)
/-- the shape of a blank row -/
def blkS (q : Nat) : Sh := ⟨listF q (fun _ => Row.blank 0 0 0), false, 0, false⟩
theorem new_sh (q : Nat) : (newC q 0 0 0).sh = blkS q := rfl
/-- a blank screen of another size is blank -/
theorem blank_rsz {S : Sn} {h q n k Y X gone q0 : Nat} {R : List Rw} {m : Md} (hh : 1 ≤ h) (hq : 1 ≤ q ∧ q ≤ 4096) (hn : S.s.gn = n) (hn1 : 1 ≤ n) (hy : S.s.y = 0) (hF : ∀ i, i < n → ct (S.F i) = newC q0 0 0 0) (hK : S.L.map ct = []) (z : Rsz S h q k R Y X gone m) : m.K = [] ∧ ∀ i, i < m.n → (m.G i).sh = blkS q := by
  subst hn
  obtain rfl := blank_used hy hF z.us
  have hw : wN (q : Int) = q := by unfold wN; omega
  have h0 := hF 0 (by omega)
  have hsh := z.sh
  have e1 : listG 1 S.F = [S.F 0] := rfl
  have hf : ∀ i, i < (S.F 0).n → (S.F 0).f i = Row.blank 0 0 0 := fun i _ => congrFun (congrArg Ct.f h0) i
  have hwb : (S.F 0).wb = false := congrArg Ct.wb h0
  have hd : (S.F 0).dir = 0 := congrArg Ct.dir h0
  have he : (S.F 0).ex = false := congrArg Ct.ex h0
  rw [e1, join_blank hf hwb, hd, he, spread_blank _ (by decide), hw] at hsh
  obtain ⟨r, hR⟩ : ∃ r, R = [r] := by
    have := congrArg List.length hsh
    simp only [List.length_map, List.length_singleton] at this
    exact List.length_eq_one_iff.1 this
  subst hR
  have hr : r.sh = blkS q := by
    simp only [List.map_cons, List.map_nil] at hsh
    injection hsh
  have hY := z.Yl
  have hg := z.gn
  simp only [List.length_singleton] at hY hg
  have hg0 : gone = 0 := by omega
  subst hg0
  refine ⟨?_, fun i hi => ?_⟩
  · rw [z.K, hK]
    simp [pushC]
  · rw [z.nH] at hi
    rw [z.G i hi]
    unfold rzG
    split
    · rename_i r' hr'
      have := (List.getElem?_eq_some_iff.1 hr').1
      simp only [List.length_singleton] at this
      obtain rfl : i = 0 := by omega
      simp only [Nat.zero_add, List.getElem?_cons_zero] at hr'
      injection hr' with hr'
      rw [← hr']
      exact hr
    · rfl
/-- what the law asks of the screen of the new size -/
theorem blank_t {S T : Sn} {n q n2 q2 : Nat} {kp : Int} {w : World} (hS : S.md = newMd n q kp) (hO : S.md.Ok) (hn : 1 ≤ n) (hh : 1 ≤ n2 ∧ n2 ≤ 1000) (hq : 1 ≤ q2 ∧ q2 ≤ 4096) (hT : T.rd w) (h : ((n2 : Int) = S.s.H ∧ (q2 : Int) = S.s.W ∧ T.md = S.md) ∨ ∃ k R Y X gone, Rsz S n2 q2 k R Y X gone T.md) :
    T.md.Ok ∧ T.s.kn = 0 ∧ ∀ i, i < T.s.gn → (T.F i).sh = blkS q2 := by
  have e1 : S.s.gn = n := congrArg Md.n hS
  have e2 : S.s.y = 0 := congrArg Md.y hS
  have e3 : ct ∘ S.F = fun _ => newC q 0 0 0 := congrArg Md.G hS
  have e4 : S.L.map ct = [] := congrArg Md.K hS
  have e5 : S.s.W = q := congrArg Md.W hS
  have hkn : T.md.K = [] → T.s.kn = 0 := fun h => by
    have e : T.L = [] := List.map_eq_nil_iff.1 h
    obtain ⟨A, cap, e', hcap⟩ := hT.2.2.1.len
    injection e' with _ e' _
    rw [e', e]
    rfl
  rcases h with ⟨h1, h2, h3⟩ | ⟨k, R, Y, X, gone, z⟩
  · refine ⟨h3 ▸ hO, hkn (by rw [h3, hS]; rfl), fun i hi => ?_⟩
    have hG : ct (T.F i) = newC q 0 0 0 := by
      have := congrFun (congrArg Md.G (h3.trans hS)) i
      exact this
    have hq2 : q2 = q := by omega
    rw [hq2, ← new_sh, ← hG]
    rfl
  · obtain ⟨a, b⟩ := blank_rsz hh.1 hq e1 hn e2 (fun i _ => congrFun e3 i) e4 z
    exact ⟨z.ok hO hh hq, hkn a, b⟩
/-- a row down, and up again -/
theorem down_up {m : Md} (hO : m.Ok) (hT : m.T = 0) (hB : m.y + 1 < m.B) (h : m.B = m.H) : (m.down).upC.y = m.y ∧ (m.down).Ok := by
  obtain ⟨h1, h2, w1, w2, t0, tb, bh, x0, x1, y0, y1, wx, oy⟩ := hO.cf
  have e : m.down = { m with wr := false, y := min (m.y + 1) (m.H - 1) } := by
    unfold Md.down
    rw [if_neg (by omega)]
  have hO2 : Md.Ok { m with wr := false, y := min (m.y + 1) (m.H - 1) } :=
    hO.move (x := m.x) (y := min (m.y + 1) (m.H - 1)) (wr := false) ⟨h1, h2, w1, w2, t0, tb, bh, x0, x1, by omega, by omega, (fun h => by cases h), fun ho => by have := oy ho; omega⟩
  rw [e]
  refine ⟨?_, hO2⟩
  unfold Md.upC
  simp only
  rw [if_neg (by omega)]
  simp only
  omega
end Go.Proofs.Ytlchffkabpfjpaa.Scr
