/- Letters printed one behind the other on a new screen (plain). -/
import Derived.Test.YtlchffkabpfjpaaGreatScrU
namespace Go.Proofs.YtlchffkabpfjpaaGreat.Scr
open Go.RowKit Go.Proofs.YtlchffkabpfjpaaGreat.Row
/-- a new screen -/
def newMd (n q : Nat) (kp : Int) : Md := ⟨n, fun _ => newC q 0 0 0, 0, 0, false, false, 0, 0, 0, 66, 66, 66, 66, 0, 2, 0, n, q, 0, n, Tab.eights 8 ((q - 1) / 8), q, [], kp, 0, false⟩
/-- row y when k letters are there -/
def prRow (q : Nat) (a : Nat → Int) (k y : Nat) : Ct := ⟨q, fun j => if j < q ∧ y * q + j < k then ⟨a (y * q + j), 0, 0, 1, 0, 0, 0⟩ else Row.blank 0 0 0, decide (y < (k - 1) / q), 0, false⟩
def prMd (n q : Nat) (kp : Int) (a : Nat → Int) (k : Nat) : Md :=
  { newMd n q kp with G := prRow q a k, x := if k = 0 then 0 else min ((((k - 1) % q : Nat) : Int) + 1) ((q : Int) - 1), y := (((k - 1) / q : Nat) : Int), wr := decide (k ≠ 0 ∧ (k - 1) % q = q - 1) }
theorem pr_start (n q : Nat) (kp : Int) (a : Nat → Int) : newMd n q kp = prMd n q kp a 0 := by
  have : prRow q a 0 = fun _ => newC q 0 0 0 := by
    funext y
    unfold prRow newC
    simp
  unfold prMd
  rw [this]
  simp [newMd]
theorem place {q y j k : Nat} (hj : j < q) : y * q + j = k ↔ y = k / q ∧ j = k % q := by
  constructor
  · rintro rfl
    rw [Nat.mul_comm, Nat.mul_add_div (by omega), Nat.mul_add_mod, Nat.div_eq_of_lt hj, Nat.mod_eq_of_lt hj]
    exact ⟨rfl, rfl⟩
  · rintro ⟨rfl, rfl⟩
    rw [Nat.mul_comm]
    exact Nat.div_add_mod k q
theorem back_in {q k : Nat} (hq : 0 < q) (h : k % q ≠ 0) : (k - 1) / q = k / q ∧ (k - 1) % q + 1 = k % q := by
  have hk := Nat.div_add_mod k q
  have hl := Nat.mod_lt k hq
  have e : k - 1 = k / q * q + (k % q - 1) := by rw [Nat.mul_comm]; omega
  have hj : k % q - 1 < q := by omega
  obtain ⟨h1, h2⟩ := (place (k := k - 1) hj).1 e.symm
  omega
theorem back_out {q k : Nat} (hq : 0 < q) (hk0 : 0 < k) (h : k % q = 0) : (k - 1) / q + 1 = k / q ∧ (k - 1) % q = q - 1 := by
  have hk := Nat.div_add_mod k q
  have hd : 0 < k / q := by
    rcases Nat.eq_zero_or_pos (k / q) with h0 | h0
    · rw [h0, h] at hk
      omega
    · exact h0
  have e : k - 1 = (k / q - 1) * q + (q - 1) := by
    rw [Nat.sub_mul, Nat.one_mul, Nat.mul_comm]
    have : q ≤ q * (k / q) := Nat.le_mul_of_pos_right q hd
    omega
  obtain ⟨h1, h2⟩ := (place (k := k - 1) (show q - 1 < q by omega)).1 e.symm
  omega
theorem mend_ones {n : Nat} {f : Nat → Cl} (h : ∀ i, (f i).w = 1) : mend n f = f := by
  funext i
  exact mend_keep (one_not_lost (h i))
theorem pr_w (q : Nat) (a : Nat → Int) (k y i : Nat) : ((prRow q a k y).f i).w = 1 := by
  unfold prRow
  dsimp only
  split <;> rfl
/-- one more letter in row y at j -/
theorem pr_put {q : Nat} (a : Nat → Int) (k : Nat) (hq : 0 < q) (c : Ct) (hc : c = prRow q a k (k / q) ∨ c = wrapC true (prRow q a k (k / q))) (b : Bool) (hb : (if b = true then false else c.wb) = false) :
    putC (k % q) ⟨a k, 0, 0, 1, 0, 0, 0⟩ 0 false b c = prRow q a (k + 1) (k / q) := by
  have hcn : c.n = q := by rcases hc with rfl | rfl <;> rfl
  have hcf : c.f = (prRow q a k (k / q)).f := by rcases hc with rfl | rfl <;> rfl
  have hl := Nat.mod_lt k hq
  have hk := Nat.div_add_mod k q
  unfold putC
  rw [hcn, hcf, hb, mend_ones (fun i => by
    rw [putF_at]
    split
    · rfl
    · split
      · rename_i h
        exact absurd h.1 (show ¬ (1 : Int) = 2 by decide)
      · exact pr_w q a k _ i)]
  unfold prRow
  simp only [Nat.add_sub_cancel, Nat.lt_irrefl, decide_false]
  congr 1
  funext i
  rw [putF_at]
  by_cases hi : i = k % q
  · rw [if_pos hi, if_pos ⟨by omega, by rw [hi, Nat.mul_comm]; omega⟩, hi, Nat.mul_comm, hk]
  · rw [if_neg hi, if_neg (fun h => absurd h.1 (show ¬ (1 : Int) = 2 by decide))]
    by_cases hj : i < q
    · have : k / q * q + i ≠ k := fun e => hi ((place hj).1 e).2
      by_cases h1 : k / q * q + i < k
      · rw [if_pos ⟨hj, h1⟩, if_pos ⟨hj, by omega⟩]
      · rw [if_neg (fun h => h1 h.2), if_neg (fun h => h1 (by omega))]
    · rw [if_neg (fun h => hj h.1), if_neg (fun h => hj h.1)]
/-- the other rows -/
theorem pr_other {q : Nat} (a : Nat → Int) (k : Nat) {y : Nat} (hy : y ≠ k / q) : (prRow q a (k + 1) y).f = (prRow q a k y).f := by
  unfold prRow
  funext i
  dsimp only
  by_cases hj : i < q
  · have : y * q + i ≠ k := fun e => hy ((place hj).1 e).1
    by_cases h1 : y * q + i < k
    · rw [if_pos ⟨hj, by omega⟩, if_pos ⟨hj, h1⟩]
    · rw [if_neg (fun h => h1 (by omega)), if_neg (fun h => h1 h.2)]
  · rw [if_neg (fun h => hj h.1), if_neg (fun h => hj h.1)]
theorem md_eq {m m' : Md} (hs : m.Same m') (hG : m'.G = m.G) (hx : m'.x = m.x) (hy : m'.y = m.y) (hw : m'.wr = m.wr) (hK : m'.K = m.K) : m' = m := by
  unfold Md.Same at hs
  rw [hs, hG, hx, hy, hw, hK]
theorem put_same (m : Md) (R v : Int) (ins au : Bool) : m.Same (m.put R v ins au) := rfl
theorem print_same (m : Md) (R v : Int) (ins au : Bool) : m.Same (m.print R v ins au) := (pre_same m v au).trans (put_same _ R v ins au)
/-- a narrow letter put at the cursor, whatever was ahead of it -/
theorem pr_tail {n q k : Nat} {kp : Int} {a : Nat → Int} (hq : 0 < q) (m2 : Md) (hs : (newMd n q kp).Same m2) (hx : m2.x = ((k % q : Nat) : Int)) (hy : m2.y = ((k / q : Nat) : Int)) (hK : m2.K = [])
    (hh : m2.G (k / q) = prRow q a k (k / q)) (ho : ∀ y, y ≠ k / q → m2.G y = prRow q a (k + 1) y) : m2.put (a k) 1 false true = prMd n q kp a (k + 1) := by
  have hW : m2.W = q := hs.W_
  have hfg : m2.fg = 0 := hs.fg_
  have hbg : m2.bg = 0 := hs.bg_
  have hfl : m2.fl = 0 := hs.fl_
  have hd : m2.dir = 0 := hs.dir_
  have he : m2.ex = false := hs.ex_
  have hl := Nat.mod_lt k hq
  have hyt : m2.y.toNat = k / q := by rw [hy]; exact Int.toNat_natCast _
  have hxt : m2.x.toNat = k % q := by rw [hx]; exact Int.toNat_natCast _
  refine md_eq (m := prMd n q kp a (k + 1)) ?_ ?_ ?_ ?_ ?_ ?_
  · have h1 : (prMd n q kp a (k + 1)).Same (newMd n q kp) := rfl
    exact h1.trans (hs.trans (put_same m2 (a k) 1 false true))
  · show updC m2.G m2.y.toNat (putC m2.x.toNat ⟨a k, 0, 0, 1, m2.fg, m2.bg, m2.fl⟩ m2.dir m2.ex (decide (m2.W - 1 < m2.x + 1)) m2.here) = prRow q a (k + 1)
    have hhere : m2.here = prRow q a k (k / q) := by
      unfold Md.here
      rw [hyt, hh]
    rw [hyt, hxt, hfg, hbg, hfl, hd, he, hhere, pr_put a k hq _ (.inl rfl) _ (by
      split
      · rfl
      · unfold prRow
        have : (k - 1) / q ≤ k / q := Nat.div_le_div_right (by omega)
        exact decide_eq_false (by omega))]
    funext y
    unfold updC
    split
    · rename_i h
      rw [h]
    · rename_i h
      exact ho y h
  · show min (m2.x + 1) (m2.W - 1) = if k + 1 = 0 then 0 else min ((((k + 1 - 1) % q : Nat) : Int) + 1) ((q : Int) - 1)
    rw [hx, hW, if_neg (by omega), Nat.add_sub_cancel]
  · show m2.y = (((k + 1 - 1) / q : Nat) : Int)
    rw [hy, Nat.add_sub_cancel]
  · show (decide (m2.W - 1 < m2.x + 1) && true) = decide (k + 1 ≠ 0 ∧ (k + 1 - 1) % q = q - 1)
    rw [hx, hW, Nat.add_sub_cancel, Bool.and_true, decide_eq_decide]
    omega
  · exact hK
theorem pr_step (n q : Nat) (kp : Int) (a : Nat → Int) (hq : 0 < q) (k : Nat) (hk : k / q < n) : (prMd n q kp a k).print (a k) 1 false true = prMd n q kp a (k + 1) := by
  have hl := Nat.mod_lt k hq
  unfold Md.print
  rw [pre_no (fun h => absurd h.1 (show ¬ (1 : Int) = 2 by decide))]
  by_cases hA : k = 0 ∨ k % q ≠ 0
  · have hdiv : (k - 1) / q = k / q := by
      rcases hA with rfl | h
      · rfl
      · exact (back_in hq h).1
    have hwr : (prMd n q kp a k).wr = false := by
      refine decide_eq_false fun h => ?_
      rcases hA with rfl | h'
      · exact h.1 rfl
      · have := (back_in hq h').2
        omega
    have hx : (prMd n q kp a k).x = ((k % q : Nat) : Int) := by
      show (if k = 0 then (0 : Int) else _) = _
      rcases hA with rfl | h'
      · simp
      · have h2 := (back_in hq h').2
        rw [if_neg (fun e => h' (by rw [e]; simp))]
        omega
    have hpre : (prMd n q kp a k).pre1 true = prMd n q kp a k := by
      unfold Md.pre1
      rw [hwr]
      rfl
    rw [hpre]
    refine pr_tail hq _ rfl hx ?_ rfl rfl fun y hy => ?_
    · show (((k - 1) / q : Nat) : Int) = _
      rw [hdiv]
    · show prRow q a k y = _
      have hf := pr_other a k hy
      unfold prRow at hf ⊢
      dsimp only at hf
      rw [hf, Nat.add_sub_cancel, hdiv]
  · have hk0 : 0 < k := by omega
    have hm : k % q = 0 := by omega
    obtain ⟨hb1, hb2⟩ := back_out hq hk0 hm
    have hwr : (prMd n q kp a k).wr = true := decide_eq_true ⟨by omega, hb2⟩
    have hpre : (prMd n q kp a k).pre1 true = (prMd n q kp a k).next := by
      unfold Md.pre1
      rw [hwr]
      rfl
    have hyt : (prMd n q kp a k).y.toNat = (k - 1) / q := by
      exact Int.toNat_natCast _
    have hdn : ((prMd n q kp a k).setR (wrapC true (prMd n q kp a k).here)).down = { (prMd n q kp a k).setR (wrapC true (prMd n q kp a k).here) with wr := false, y := ((k / q : Nat) : Int) } := by
      have hy1 : ((prMd n q kp a k).setR (wrapC true (prMd n q kp a k).here)).y = (((k - 1) / q : Nat) : Int) := rfl
      have hB : ((prMd n q kp a k).setR (wrapC true (prMd n q kp a k).here)).B = (n : Int) := rfl
      have hH : ((prMd n q kp a k).setR (wrapC true (prMd n q kp a k).here)).H = (n : Int) := rfl
      unfold Md.down
      rw [hy1, hB, hH, if_neg (by omega), show min ((((k - 1) / q : Nat) : Int) + 1) ((n : Int) - 1) = ((k / q : Nat) : Int) by omega]
      rfl
    rw [hpre]
    unfold Md.next
    rw [hdn]
    refine pr_tail hq _ rfl ?_ rfl rfl ?_ fun y hy => ?_
    · show (0 : Int) = _
      rw [hm]
      rfl
    · show updC (prRow q a k) (prMd n q kp a k).y.toNat _ (k / q) = _
      rw [hyt]
      unfold updC
      rw [if_neg (by omega)]
    · show updC (prRow q a k) (prMd n q kp a k).y.toNat (wrapC true (prRow q a k (prMd n q kp a k).y.toNat)) y = _
      have hf := pr_other a k hy
      rw [hyt]
      unfold updC
      split
      · rename_i h
        subst h
        unfold wrapC
        unfold prRow at hf ⊢
        dsimp only at hf
        simp only [hf, Nat.add_sub_cancel]
        rw [decide_eq_true (show (k - 1) / q < k / q by omega)]
      · rename_i h
        unfold prRow at hf ⊢
        dsimp only at hf
        rw [hf, Nat.add_sub_cancel]
        congr 1
        rw [decide_eq_decide]
        omega
end Go.Proofs.YtlchffkabpfjpaaGreat.Scr
