/- reflow, plainly: what is spread is joined again; a place stays. -/
import Derived.Test.YtlgnchhhadnjbaaRflL
namespace Go.Proofs.Ytlgnchhhadnjbaa.Row
open Go.RowKit
/-- the rows from the current one on -/
def tl (x : Ls) (q : Nat) : List Cl → List Cl → List Sh
  | now, [] => [rowS x q false now]
  | now, c :: cs => if (q : Int) < now.length + c.w then rowS x q true now :: tl x q (wholeL c) cs else tl x q (now ++ wholeL c) cs
theorem fold_tl (x : Ls) (q : Nat) (hq : 2 ≤ q) : ∀ (cs : List Cl) (s : List (List Cl) × List Cl), (∀ c ∈ cs, okC c = true) → finS x q (cs.foldl (stepS q) s) = s.1.map (rowS x q true) ++ tl x q s.2 cs
  | [], s, _ => rfl
  | c :: cs, s, h => by
    have hw := (okC_iff.1 (h c (by simp))).1
    have hno : ¬ (q : Int) < c.w := by omega
    rw [List.foldl_cons, fold_tl x q hq cs _ (fun d hd => h d (List.mem_cons_of_mem _ hd))]
    by_cases hov : (q : Int) < s.2.length + c.w
    · rw [stepS_new hno hov]
      simp only [tl]
      rw [if_pos hov, List.map_append, List.map_singleton, List.append_assoc]
      rfl
    · rw [stepS_put hno hov]
      simp only [tl]
      rw [if_neg hov]
theorem split_tl {x : Ls} {v : Int} (hs : sanL x = true) (hv : 2 ≤ wN v) : splitG x v = tl x (wN v) [] x.cs := by
  unfold splitG
  rw [if_pos hs]
  unfold splitS
  rw [fold_tl x _ hv _ _ (sanL_iff.1 hs).2.2]
  rfl
theorem rowS_len (x : Ls) (q : Nat) (b : Bool) (l : List Cl) : (rowS x q b l).cs.length = q := listF_len _ _
theorem rowS_get (x : Ls) (q : Nat) (b : Bool) (l : List Cl) {i : Nat} (hi : i < q) : (rowS x q b l).cs[i]? = some (padF l i) := listF_get hi
theorem padF_in {l : List Cl} {i : Nat} {c : Cl} (h : l[i]? = some c) : padF l i = c := by unfold padF; rw [h]; rfl
theorem padF_out {l : List Cl} {i : Nat} (h : l.length ≤ i) : padF l i = blank 0 0 0 := by unfold padF; rw [List.getElem?_eq_none h]; rfl
theorem tl_head (x : Ls) (q : Nat) (hq : 1 ≤ q) : ∀ (cs now : List Cl) (c : Cl), now[0]? = some c → ∃ s rest, tl x q now cs = s :: rest ∧ s.cs[0]? = some c
  | [], now, c, h => ⟨_, _, rfl, by rw [rowS_get x q false now (by omega), padF_in h]⟩
  | d :: cs, now, c, h => by
    simp only [tl]
    split
    · exact ⟨_, _, rfl, by rw [rowS_get x q true now (by omega), padF_in h]⟩
    · exact tl_head x q hq cs _ c (by
        have hl : 0 < now.length := (List.getElem?_eq_some_iff.1 h).1
        rw [List.getElem?_append_left hl]
        exact h)
theorem whole_head (c : Cl) : (wholeL c)[0]? = some c := by unfold wholeL; split <;> rfl
theorem whole_len2 {c : Cl} (h : okC c = true) : 1 ≤ (wholeL c).length ∧ (wholeL c).length ≤ 2 := by
  have h1 := whole_len h
  have h2 := (okC_iff.1 h).1
  omega
/-- what no row of a clean line ends with -/
def NB (l : List Cl) : Prop := ∀ c ∈ l, c ≠ blank 0 0 0
theorem NB.app {a b : List Cl} (h : NB a) (k : NB b) : NB (a ++ b) := fun c hc => by
  rcases List.mem_append.1 hc with hc | hc
  · exact h c hc
  · exact k c hc
theorem NB.whole {c : Cl} (h : c ≠ blank 0 0 0) : NB (wholeL c) := fun d hd => by
  unfold wholeL at hd
  split at hd
  · simp at hd
    rcases hd with rfl | rfl
    · exact h
    · intro e
      have := congrArg Cl.w e
      simp [halfOf, blank] at this
  · simp at hd
    rw [hd]
    exact h
/-- a row that wraps has room for just its own cells -/
theorem room_wrap {x : Ls} {q : Nat} {now cs : List Cl} {c : Cl} {rest : List Sh} (hq : 2 ≤ q) (hc : okC c = true) (hn : now.length ≤ q) (hov : (q : Int) < now.length + c.w) (hb : NB now) : rmS (rowS x q true now) ((tl x q (wholeL c) cs ++ rest).head?) = now.length := by
  obtain ⟨s, rs, e, hs⟩ := tl_head x q (by omega) cs (wholeL c) c (whole_head c)
  rw [e, List.cons_append, List.head?_cons]
  have hw := (okC_iff.1 hc).1
  unfold rmS
  simp only [rowS_len, rowS_get x q true now (show q - 1 < q by omega), hs]
  by_cases h1 : now.length = q
  · obtain ⟨d, hd⟩ : ∃ d, now[q - 1]? = some d := ⟨_, List.getElem?_eq_getElem (by omega)⟩
    rw [padF_in hd]
    have hne : ¬ d = blank 0 0 0 := hb d (List.mem_of_getElem? hd)
    simp [hne, h1]
  · have hw2 : c.w = 2 := by omega
    rw [padF_out (by omega)]
    simp [hw2, rowS]
    omega
theorem take_row {x : Ls} {q : Nat} {b : Bool} {now : List Cl} (hn : now.length ≤ q) : (rowS x q b now).cs.take now.length = now := by
  apply List.ext_getElem?
  intro i
  rw [List.getElem?_take]
  split
  · rename_i h
    rw [rowS_get x q b now (by omega), padF_in (List.getElem?_eq_getElem h), List.getElem?_eq_getElem h]
  · rename_i h
    rw [List.getElem?_eq_none (by omega)]
/-! ### joined again -/
def joinS : List Sh → List Ls × Bool → List Ls × Bool
  | [], s => s
  | r :: rest, s => joinS rest (addL (if s.2 = true then s.1 else s.1 ++ [⟨[], r.dir, r.ex⟩]) (keptC (r.cs.take (rmS r rest.head?))), r.wb)
theorem drop_head {α : Type} (l : List α) (k : Nat) : (l.drop k).head? = l[k]? := by rw [List.head?_drop]
theorem joinN_S {R : List Rw} (h1 : ∀ r ∈ R, 1 ≤ r.n) : ∀ (j k : Nat), k + j = R.length → joinS ((R.map Rw.sh).drop k) (joinN R k) = joinN R R.length
  | 0, k, h => by
    have : k = R.length := by omega
    subst this
    rw [List.drop_eq_nil_of_le (by rw [List.length_map]; exact Nat.le_refl _)]
    rfl
  | j + 1, k, h => by
    have hk : k < R.length := by omega
    have hr : R[k]? = some R[k] := List.getElem?_eq_getElem hk
    have ih := joinN_S h1 j (k + 1) (by omega)
    rw [joinN_step hr] at ih
    rw [List.drop_eq_getElem_cons (by rw [List.length_map]; exact hk)]
    simp only [joinS]
    rw [drop_head, List.getElem?_map, List.getElem_map, ← ih]
    have hrm := rmN_sh (r := R[k]) (o := R[k + 1]?) (h1 _ (List.getElem_mem hk)) (fun s hs => h1 s (List.mem_of_getElem? hs))
    rw [← hrm]
    rfl
theorem keptC_whole {c : Cl} (h : okC c = true) : keptC (wholeL c) = [c] := by
  have hw := (okC_iff.1 h).1
  have h0 : ¬ c.w = 0 := by omega
  unfold wholeL keptC
  split <;> simp [h0, halfOf]
theorem kept_pad {q : Nat} {now : List Cl} (hn : now.length ≤ q) : keptC (listF q (padF now)) = keptC now ++ List.replicate (q - now.length) (blank 0 0 0) := by
  have h1 : listF q (padF now) = now ++ List.replicate (q - now.length) (blank 0 0 0) := by
    apply List.ext_getElem?
    intro i
    by_cases hi : i < q
    · rw [listF_get hi]
      by_cases h2 : i < now.length
      · rw [List.getElem?_append_left h2, padF_in (List.getElem?_eq_getElem h2), List.getElem?_eq_getElem h2]
      · rw [List.getElem?_append_right (by omega), padF_out (by omega), List.getElem?_replicate, if_pos (by omega)]
    · rw [List.getElem?_eq_none (by rw [listF_len]; omega), List.getElem?_eq_none (by rw [List.length_append, List.length_replicate]; omega)]
  rw [h1, keptC_app]
  congr 1
  unfold keptC
  simp [blank]
theorem rmS_no {r : Sh} {o : Option Sh} (h : r.wb = false) : rmS r o = r.cs.length := by unfold rmS; rw [h]; simp
theorem join_tl {x : Ls} {q : Nat} (hq : 2 ≤ q) (rest : List Sh) (M : List Ls) : ∀ (cs now K : List Cl), (∀ c ∈ cs, okC c = true ∧ c ≠ blank 0 0 0) → now.length ≤ q → NB now →
    ∃ n, joinS (tl x q now cs ++ rest) (M ++ [⟨K, x.dir, x.ex⟩], true) = joinS rest (M ++ [⟨K ++ keptC now ++ cs ++ List.replicate n (blank 0 0 0), x.dir, x.ex⟩], false)
  | [], now, K, _, hn, _ => by
    refine ⟨q - now.length, ?_⟩
    simp only [tl, List.cons_append, List.nil_append, joinS]
    rw [if_pos trivial, rmS_no rfl, rowS_len, List.take_of_length_le (by rw [rowS_len]; exact Nat.le_refl _), addL_app]
    show joinS rest (M ++ [⟨K ++ keptC (listF q (padF now)), x.dir, x.ex⟩], false) = _
    rw [kept_pad hn]
    simp only [List.append_nil, List.append_assoc]
  | c :: cs, now, K, h, hn, hb => by
    obtain ⟨hok, hnb⟩ := h c (by simp)
    have hw := whole_len hok
    have hw2 := whole_len2 hok
    by_cases hov : (q : Int) < now.length + c.w
    · obtain ⟨n, ih⟩ := join_tl hq rest M cs (wholeL c) (K ++ keptC now) (fun d hd => h d (List.mem_cons_of_mem _ hd)) (by omega) (NB.whole hnb)
      refine ⟨n, ?_⟩
      simp only [tl]
      rw [if_pos hov, List.cons_append]
      simp only [joinS]
      rw [if_pos trivial, room_wrap hq hok hn hov hb, take_row hn, addL_app]
      show joinS _ (M ++ [⟨K ++ keptC now, x.dir, x.ex⟩], true) = _
      rw [ih, keptC_whole hok]
      simp only [List.append_assoc, List.cons_append, List.nil_append]
    · obtain ⟨n, ih⟩ := join_tl hq rest M cs (now ++ wholeL c) K (fun d hd => h d (List.mem_cons_of_mem _ hd)) (by rw [List.length_append]; omega) (hb.app (NB.whole hnb))
      refine ⟨n, ?_⟩
      simp only [tl]
      rw [if_neg hov, ih, keptC_app, keptC_whole hok]
      simp only [List.append_assoc, List.cons_append, List.nil_append]
theorem tl_dir (x : Ls) (q : Nat) : ∀ (cs now : List Cl), ∃ s rest, tl x q now cs = s :: rest ∧ s.dir = x.dir ∧ s.ex = x.ex
  | [], now => ⟨_, _, rfl, rfl, rfl⟩
  | c :: cs, now => by
    simp only [tl]
    split
    · exact ⟨_, _, rfl, rfl, rfl⟩
    · exact tl_dir x q cs _
theorem join_line {x : Ls} {q : Nat} (hq : 2 ≤ q) (rest : List Sh) (M : List Ls) (h : ∀ c ∈ x.cs, okC c = true ∧ c ≠ blank 0 0 0) :
    ∃ n, joinS (tl x q [] x.cs ++ rest) (M, false) = joinS rest (M ++ [⟨x.cs ++ List.replicate n (blank 0 0 0), x.dir, x.ex⟩], false) := by
  obtain ⟨n, hn⟩ := join_tl hq rest M x.cs [] [] h (by simp) (fun c hc => by cases hc)
  refine ⟨n, ?_⟩
  obtain ⟨s, rs, e, hd, hx⟩ := tl_dir x q x.cs []
  have e2 : joinS (tl x q [] x.cs ++ rest) (M, false) = joinS (tl x q [] x.cs ++ rest) (M ++ [⟨[], x.dir, x.ex⟩], true) := by
    rw [e, List.cons_append]
    simp only [joinS]
    rw [hd, hx]
    rfl
  rw [e2, hn]
  simp [keptC]
theorem trim_blank (cs : List Cl) (h : NB cs) : ∀ n, trimL (cs ++ List.replicate n (blank 0 0 0)) = cs := by
  have key : ∀ n k, k ≤ n → trimN (cs ++ List.replicate n (blank 0 0 0)) (cs.length + k) = cs.length := by
    intro n k
    induction k with
    | zero =>
      intro _
      rw [Nat.add_zero]
      cases hl : cs.length with
      | zero => rfl
      | succ m =>
        unfold trimN
        have hm : m < cs.length := by omega
        rw [List.getElem?_append_left hm, List.getElem?_eq_getElem hm, if_neg]
        intro e
        injection e with e
        exact h _ (List.getElem_mem hm) e
    | succ k ih =>
      intro hk
      rw [← Nat.add_assoc]
      unfold trimN
      have e : (cs ++ List.replicate n (blank 0 0 0))[cs.length + k]? = some (blank 0 0 0) := by rw [List.getElem?_append_right (by omega), List.getElem?_replicate, if_pos (by omega)]
      rw [if_pos e]
      exact ih (by omega)
  intro n
  unfold trimL
  rw [List.length_append, List.length_replicate, key n n (Nat.le_refl _), List.take_left]
theorem join_spread {v : Int} (hv : 2 ≤ wN v) : ∀ (X : List Ls) (M : List Ls), (∀ x ∈ X, sanL x = true ∧ ∀ c ∈ x.cs, c ≠ blank 0 0 0) → ∃ Y, joinS (spreadS X v) (M, false) = (M ++ Y, false) ∧ Y.map trimS = X
  | [], M, _ => ⟨[], by simp [spreadS, joinS], rfl⟩
  | x :: X, M, h => by
    obtain ⟨hs, hc⟩ := h x (by simp)
    have e : spreadS (x :: X) v = tl x (wN v) [] x.cs ++ spreadS X v := by
      unfold spreadS
      rw [List.flatMap_cons, split_tl hs hv]
    obtain ⟨n, hn⟩ := join_line hv (spreadS X v) M (fun c hcm => ⟨(sanL_iff.1 hs).2.2 c hcm, hc c hcm⟩)
    obtain ⟨Y, hY, hT⟩ := join_spread hv X (M ++ [⟨x.cs ++ List.replicate n (blank 0 0 0), x.dir, x.ex⟩]) (fun y hy => h y (List.mem_cons_of_mem _ hy))
    refine ⟨⟨x.cs ++ List.replicate n (blank 0 0 0), x.dir, x.ex⟩ :: Y, ?_, ?_⟩
    · rw [e, hn, hY, List.append_assoc]
      rfl
    · rw [List.map_cons, hT]
      unfold trimS
      simp only
      rw [trim_blank x.cs hc n]
theorem joinR_spread {R : List Rw} {X : List Ls} {v : Int} (hv : 2 ≤ wN v) (hR : R.map Rw.sh = spreadS X v) (h1 : ∀ r ∈ R, 1 ≤ r.n) (h : ∀ x ∈ X, sanL x = true ∧ ∀ c ∈ x.cs, c ≠ blank 0 0 0) : joinR R = X := by
  have h2 := joinN_S h1 R.length 0 (by omega)
  rw [List.drop_zero, hR] at h2
  obtain ⟨Y, hY, hT⟩ := join_spread hv X [] h
  have h3 : joinN R 0 = ([], false) := rfl
  rw [h3, hY] at h2
  unfold joinR
  rw [← h2]
  exact hT
end Go.Proofs.Ytlgnchhhadnjbaa.Row
