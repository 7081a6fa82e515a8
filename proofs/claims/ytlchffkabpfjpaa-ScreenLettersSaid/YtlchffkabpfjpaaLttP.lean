/- Letters printed on a screen, and on it at another width (plain). -/
import Derived.Test.YtlchffkabpfjpaaBlkP
namespace Go.Proofs.Ytlchffkabpfjpaa.Row
open Go.RowKit
/-- rows of cells of one place each -/
theorem tl_ones (x : Ls) {q : Nat} (hq : 1 ≤ q) : ∀ (cs now : List Cl), (∀ c ∈ cs, c.w = 1) → now.length ≤ q → ∀ i, (tl x q now cs)[i]? = if i * q < (now ++ cs).length ∨ i = 0 then some (rowS x q (decide ((i + 1) * q < (now ++ cs).length)) (((now ++ cs).drop (i * q)).take q)) else none
  | [], now, _, hn, i => by
    rw [List.append_nil]
    show ([rowS x q false now])[i]? = _
    match i with
    | 0 =>
      rw [if_pos (Or.inr rfl), Nat.zero_mul, List.drop_zero, List.take_of_length_le hn, decide_eq_false (by omega)]
      rfl
    | j + 1 =>
      have : q ≤ (j + 1) * q := Nat.le_mul_of_pos_left q (Nat.succ_pos j)
      rw [if_neg (by omega)]
      rfl
  | c :: cs, now, h, hn, i => by
    have hc : c.w = 1 := h c (by simp)
    have hw : wholeL c = [c] := by
      unfold wholeL
      rw [if_neg (by omega)]
    have ht : ∀ d ∈ cs, d.w = 1 := fun d hd => h d (List.mem_cons_of_mem _ hd)
    unfold tl
    rw [hw]
    by_cases hov : (q : Int) < now.length + c.w
    · rw [if_pos hov]
      have hnq : now.length = q := by omega
      match i with
      | 0 =>
        rw [if_pos (Or.inr rfl), Nat.zero_mul, List.drop_zero, List.take_left' hnq, decide_eq_true (by rw [List.length_append, List.length_cons]; omega)]
        rfl
      | j + 1 =>
        rw [List.getElem?_cons_succ, tl_ones x hq cs [c] ht (by simpa using hq) j]
        have e1 : (j + 1) * q = now.length + j * q := by rw [Nat.succ_mul, hnq, Nat.add_comm]
        have e2 : (j + 1 + 1) * q = now.length + (j + 1) * q := by rw [Nat.succ_mul (j + 1), hnq, Nat.add_comm]
        have e3 : (now ++ c :: cs).drop ((j + 1) * q) = ([c] ++ cs).drop (j * q) := by rw [e1, ← List.drop_drop, List.drop_left]; rfl
        rw [e3]
        have e4 : (now ++ c :: cs).length = now.length + ([c] ++ cs).length := by rw [List.length_append]; rfl
        have hpos : 0 < ([c] ++ cs).length := by simp
        rw [e4, e2, e1]
        have hA : j = 0 → j * q = 0 := fun e => by rw [e, Nat.zero_mul]
        generalize j * q = A at hA ⊢
        generalize ([c] ++ cs).length = M at hpos ⊢
        have e5 : decide (now.length + A < M) = decide (now.length + (now.length + A) < now.length + M) := by
          rw [Bool.eq_iff_iff, decide_eq_true_eq, decide_eq_true_eq]
          omega
        by_cases e6 : A < M ∨ j = 0
        · rw [if_pos e6, if_pos (by omega), e5]
        · rw [if_neg e6, if_neg (by omega)]
    · rw [if_neg hov, tl_ones x hq cs (now ++ [c]) ht (by rw [List.length_append, List.length_singleton]; omega) i, List.append_assoc]
      rfl
theorem letC_zero {l : List Cl} (h : ∀ c ∈ l, c.r = 0) : letC l = [] := by
  unfold letC
  rw [List.filter_eq_nil_iff.2 (fun c hc => by rw [h c hc]; simp)]
  rfl
theorem listF_same {n m : Nat} {f g : Nat → Cl} (hn : n = m) (h : ∀ i, i < n → f i = g i) : listF n f = listF m g := by
  subst hn
  apply List.ext_getElem?
  intro i
  by_cases hi : i < n
  · rw [listF_get hi, listF_get hi, h i hi]
  · rw [List.getElem?_eq_none (by rw [listF_len]; omega), List.getElem?_eq_none (by rw [listF_len]; omega)]
theorem letM_range {n : Nat} {A : Nat → List Cl} {P : List (List Cl)} (hl : P.length ≤ n) (h : ∀ i, i < n → letC (A i) = letC (P.getD i [])) : letM ((List.range n).map A) = letM P := by
  have key : ∀ k, k ≤ n → letM ((List.range k).map A) = letM (P.take k) := by
    intro k
    induction k with
    | zero => intro _; rfl
    | succ k ih =>
      intro hk
      rw [List.range_succ, List.map_append, letM_app, ih (by omega), List.map_singleton, letM_one, h k (by omega)]
      by_cases e : k < P.length
      · rw [List.getD_eq_getElem?_getD, List.getElem?_eq_getElem e, take_next e, letM_app, letM_one]
        rfl
      · rw [List.getD_eq_getElem?_getD, List.getElem?_eq_none (by omega), List.take_of_length_le (by omega), List.take_of_length_le (by omega)]
        simp [letC]
  rw [key n (Nat.le_refl _), List.take_of_length_le hl]
end Go.Proofs.Ytlchffkabpfjpaa.Row
namespace Go.Proofs.Ytlchffkabpfjpaa.Scr
open Go.RowKit Go.Proofs.Ytlchffkabpfjpaa.Row
/-- the printed letters as a line -/
def lnF (a : Nat → Int) (i : Nat) : Cl := ⟨a i, 0, 0, 1, 0, 0, 0⟩
def lnC (a : Nat → Int) (m : Nat) : List Cl := listF m (lnF a)
theorem letC_ln {a : Nat → Int} (ha : ∀ i, 33 ≤ a i ∧ a i ≤ 96) (m : Nat) : letC (lnC a m) = (List.range m).map a := by
  unfold letC lnC listF
  rw [List.filter_eq_self.2 (fun c hc => by
    obtain ⟨i, _, rfl⟩ := List.mem_map.1 hc
    have := ha i
    have h0 : a i ≠ 0 := by omega
    simpa [lnF] using h0), List.map_map]
  rfl
theorem ln_ok {a : Nat → Int} (ha : ∀ i, 33 ≤ a i ∧ a i ≤ 96) {m : Nat} {c : Cl} (h : c ∈ lnC a m) : c.w = 1 ∧ okC c = true ∧ c ≠ Row.blank 0 0 0 := by
  obtain ⟨i, _, rfl⟩ := List.mem_map.1 h
  obtain ⟨h1, h2⟩ := ha i
  refine ⟨rfl, okC_iff.2 ⟨Or.inl rfl, ?_⟩, fun e => ?_⟩
  · exact fits_letter (by omega) (by omega) (Or.inl rfl) (by decide)
  · have : a i = 0 := congrArg Cl.r e
    omega
theorem ln_san {a : Nat → Int} (ha : ∀ i, 33 ≤ a i ∧ a i ≤ 96) (m : Nat) : sanL ⟨lnC a m, 0, false⟩ = true := sanL_iff.2 ⟨Int.le_refl _, (by show (0 : Int) ≤ 2; decide), fun _ hc => (ln_ok ha hc).2.1⟩
/-- a row of the printed screen -/
theorem pr_sh {a : Nat → Int} {q m : Nat} (hq : 1 ≤ q) (i : Nat) : (prRow q a m i).sh = rowS ⟨lnC a m, 0, false⟩ q (decide ((i + 1) * q < m)) (((lnC a m).drop (i * q)).take q) := by
  have e1 : decide (i < (m - 1) / q) = decide ((i + 1) * q < m) := by
    rw [Bool.eq_iff_iff, decide_eq_true_eq, decide_eq_true_eq, ← Nat.succ_le_iff, Nat.le_div_iff_mul_le (by omega)]
    have : 0 < (i + 1) * q := Nat.mul_pos (Nat.succ_pos i) (by omega)
    show (i + 1) * q ≤ m - 1 ↔ _
    omega
  unfold prRow Ct.sh rowS
  dsimp only
  rw [e1]
  congr 1
  refine listF_same rfl fun j hj => ?_
  unfold padF
  rw [List.getElem?_take, if_pos hj, List.getElem?_drop]
  unfold lnC
  by_cases h : i * q + j < m
  · rw [if_pos ⟨hj, h⟩, listF_get h]
    rfl
  · rw [if_neg (fun e => h e.2), List.getElem?_eq_none (by rw [listF_len]; omega)]
    rfl
/-- .. all of them, as one line's rows -/
theorem pr_split {a : Nat → Int} (ha : ∀ i, 33 ≤ a i ∧ a i ≤ 96) {q m : Nat} (hq : 2 ≤ q) (hq2 : q ≤ 4096) {F : Nat → Rw} (hF : ∀ i, ct (F i) = prRow q a m i) : (listG ((m - 1) / q + 1) F).map Rw.sh = spreadS [⟨lnC a m, 0, false⟩] (q : Int) := by
  have hw : wN (q : Int) = q := by unfold wN; omega
  have e0 : spreadS [⟨lnC a m, 0, false⟩] (q : Int) = tl ⟨lnC a m, 0, false⟩ q [] (lnC a m) := by
    unfold spreadS
    rw [List.flatMap_cons, List.flatMap_nil, List.append_nil, split_tl (ln_san ha m) (by rw [hw]; exact hq), hw]
  rw [e0]
  apply List.ext_getElem?
  intro i
  rw [tl_ones _ (by omega) _ _ (fun c hc => (ln_ok ha hc).1) (Nat.zero_le _) i, List.nil_append]
  have hl : (lnC a m).length = m := listF_len _ _
  rw [hl]
  have hi : i < (m - 1) / q + 1 ↔ (i * q < m ∨ i = 0) := by
    rw [Nat.lt_succ_iff, Nat.le_div_iff_mul_le (by omega)]
    constructor
    · intro h
      by_cases e : i = 0
      · exact Or.inr e
      · left
        have : 0 < i * q := Nat.mul_pos (by omega) (by omega)
        omega
    · rintro (h | h)
      · omega
      · subst h
        omega
  rw [List.getElem?_map]
  by_cases h : i < (m - 1) / q + 1
  · rw [listG_at h, if_pos (hi.1 h), ← pr_sh (by omega) i]
    exact congrArg some (congrArg Ct.sh (hF i))
  · rw [List.getElem?_eq_none (by rw [listG_len]; omega), if_neg (fun e => h (hi.2 e))]
    rfl
theorem pr_blank {a : Nat → Int} {q m i : Nat} (hi : (m - 1) / q < i) (hq : 1 ≤ q) (j : Nat) : (prRow q a m i).f j = Row.blank 0 0 0 := by
  unfold prRow
  dsimp only
  rw [if_neg]
  rintro ⟨-, h⟩
  rw [Nat.div_lt_iff_lt_mul (by omega)] at hi
  omega
/-- what the law asks of the screen of the other width -/
theorem ltt_t {S T : Sn} {a : Nat → Int} (ha : ∀ i, 33 ≤ a i ∧ a i ≤ 96) {m q q2 : Nat} {kp : Int} {w : World} (hm : m ≤ 999) (hS : S.md = prMd (m + 1) q kp a m) (hO : S.md.Ok) (hq : 2 ≤ q ∧ q ≤ 4096) (hq2 : 2 ≤ q2 ∧ q2 ≤ 4096) (hT : T.rd w) (h : (((m + 1 : Nat) : Int) = S.s.H ∧ (q2 : Int) = S.s.W ∧ T.md = S.md) ∨ ∃ k R Y X gone, Rsz S (m + 1) q2 k R Y X gone T.md) :
    T.md.Ok ∧ T.s.kn = 0 ∧ letM ((listG T.s.gn T.F).map (fun r => listF r.n r.f)) = (List.range m).map a := by
  have e1 : S.s.gn = m + 1 := congrArg Md.n hS
  have e2 : S.s.y = (((m - 1) / q : Nat) : Int) := congrArg Md.y hS
  have e3 : ∀ i, ct (S.F i) = prRow q a m i := fun i => congrFun (congrArg Md.G hS) i
  have e4 : S.L.map ct = [] := congrArg Md.K hS
  have e5 : S.s.W = q := congrArg Md.W hS
  have hkn : T.md.K = [] → T.s.kn = 0 := fun h => by
    have e : T.L = [] := List.map_eq_nil_iff.1 h
    obtain ⟨A, cap, e', hcap⟩ := hT.2.2.1.len
    injection e' with _ e' _
    rw [e', e]
    rfl
  have hsp := pr_split ha hq.1 hq.2 e3 (m := m)
  have hdv : (m - 1) / q ≤ m := Nat.le_trans (Nat.div_le_self _ _) (Nat.sub_le _ _)
  have hlet : ∀ v : Nat, 2 ≤ v → v ≤ 4096 → letM ((spreadS [⟨lnC a m, 0, false⟩] (v : Int)).map Sh.cs) = (List.range m).map a := fun v h1 h2 => by
    rw [spread_letters (v := (v : Int)) (fun x hx => by obtain rfl := List.mem_singleton.1 hx; exact ln_san ha m) (by unfold wN; omega)]
    show letM [lnC a m] = _
    rw [letM_one, letC_ln ha]
  have hlist : (listG T.s.gn T.F).map (fun r => listF r.n r.f) = (List.range T.s.gn).map (fun i => (ct (T.F i)).sh.cs) := by
    unfold listG
    rw [List.map_map]
    rfl
  rw [hlist]
  rcases h with ⟨h1, h2, h3⟩ | ⟨k, R, Y, X, gone, z⟩
  · refine ⟨h3 ▸ hO, hkn (by rw [h3, hS]; rfl), ?_⟩
    have hG : ∀ i, ct (T.F i) = prRow q a m i := fun i => congrFun (congrArg Md.G (h3.trans hS)) i
    have hn : T.s.gn = m + 1 := congrArg Md.n (h3.trans hS)
    have hsp2 := pr_split ha hq.1 hq.2 hG (m := m)
    rw [← hlet q hq.1 hq.2, ← hsp2, List.map_map]
    refine letM_range (by rw [List.length_map, listG_len, hn]; omega) fun i hi => ?_
    rw [List.getD_eq_getElem?_getD, List.getElem?_map]
    by_cases hik : i < (m - 1) / q + 1
    · rw [listG_at hik]
      rfl
    · rw [List.getElem?_eq_none (by rw [listG_len]; omega), hG i]
      refine letC_zero fun c hc => ?_
      obtain ⟨j, _, rfl⟩ := List.mem_map.1 hc
      rw [pr_blank (by omega) (by omega)]
      rfl
  · have hus := z.us
    have hk : k = (m - 1) / q + 1 := by
      rcases hus.last with hh | hh
      · omega
      · have hl := hus.lo
        have hx := hus.hi
        by_cases e : k - 1 = (m - 1) / q
        · omega
        · exfalso
          apply hh
          have hc := e3 (k - 1)
          have hf : (S.F (k - 1)).f = (prRow q a m (k - 1)).f := congrArg Ct.f hc
          rw [hf]
          exact len_blank _ fun j _ => pr_blank (by omega) (by omega) j
    have hjoin : joinR (listG k S.F) = [⟨lnC a m, 0, false⟩] := by
      refine joinR_spread (v := (q : Int)) (by unfold wN; omega) (by rw [hk]; exact hsp) (fun r hr => ?_) (fun x hx => ?_)
      · obtain ⟨i, _, rfl⟩ := listG_mem hr
        have : (S.F i).n = q := congrArg Ct.n (e3 i)
        omega
      · obtain rfl := List.mem_singleton.1 hx
        exact ⟨ln_san ha m, fun c hc => (ln_ok ha hc).2.2⟩
    have hsh := z.sh
    rw [hjoin] at hsh
    have hlen : R.length ≤ m + 1 := by
      have h1 := spreadS_len (q2 : Int) [⟨lnC a m, 0, false⟩]
      rw [← hsh, List.length_map] at h1
      have h2 : totC [⟨lnC a m, 0, false⟩] = m := by
        unfold totC lnC
        simp [listF_len]
      rw [h2] at h1
      simpa using h1
    have hg0 : gone = 0 := by
      have := z.gn
      omega
    subst hg0
    refine ⟨z.ok hO ⟨by omega, by omega⟩ ⟨by omega, hq2.2⟩, hkn (by rw [z.K, e4]; simp [pushC]), ?_⟩
    have hn : T.s.gn = m + 1 := z.nH
    rw [← hlet q2 hq2.1 hq2.2, ← hsh, List.map_map]
    refine letM_range (by rw [List.length_map, hn]; exact hlen) fun i hi => ?_
    rw [hn] at hi
    have hG : ct (T.F i) = rzG R 0 q2 i := z.G i hi
    rw [List.getD_eq_getElem?_getD, List.getElem?_map, hG]
    unfold rzG
    rw [Nat.zero_add]
    by_cases e : i < R.length
    · rw [List.getElem?_eq_getElem e]
      rfl
    · rw [List.getElem?_eq_none (by omega)]
      refine letC_zero fun c hc => ?_
      obtain ⟨j, _, rfl⟩ := List.mem_map.1 hc
      rfl
end Go.Proofs.Ytlchffkabpfjpaa.Scr
