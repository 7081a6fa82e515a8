/- reflow: letters never change (plain). -/
import Derived.Test.YtlgnchhhadnjbaaRflX
namespace Go.Proofs.Ytlgnchhhadnjbaa.Row
open Go.RowKit
/-- the letters of cells -/
def letC (l : List Cl) : List Int := (l.filter (fun c => c.r != 0)).map Cl.r
theorem letC_app (a b : List Cl) : letC (a ++ b) = letC a ++ letC b := by unfold letC; rw [List.filter_append, List.map_append]
theorem letC_one (c : Cl) : letC [c] = if c.r = 0 then [] else [c.r] := by
  unfold letC
  split
  · rename_i h
    simp [h]
  · rename_i h
    simp [h]
theorem letC_whole (c : Cl) : letC (wholeL c) = letC [c] := by
  unfold wholeL
  split
  · rw [show [c, halfOf c] = [c] ++ [halfOf c] from rfl, letC_app, letC_one (halfOf c), if_pos (show (halfOf c).r = 0 from rfl), List.append_nil]
  · rfl
theorem letC_len (l : List Cl) : (letC l).length ≤ l.length := by
  unfold letC
  rw [List.length_map]
  exact List.length_filter_le _ _
theorem letC_pad (q : Nat) (l : List Cl) (h : l.length ≤ q) : letC (listF q (padF l)) = letC l := by
  have h1 : listF q (padF l) = l ++ List.replicate (q - l.length) (blank 0 0 0) := by
    apply List.ext_getElem?
    intro i
    by_cases hi : i < q
    · rw [listF_get hi]
      unfold padF
      by_cases h2 : i < l.length
      · rw [List.getElem?_append_left h2, List.getElem?_eq_getElem h2]
        rfl
      · rw [List.getElem?_append_right (by omega), List.getElem?_eq_none (by omega), List.getElem?_replicate, if_pos (by omega)]
        rfl
    · rw [List.getElem?_eq_none (by rw [listF_len]; omega), List.getElem?_eq_none (by rw [List.length_append, List.length_replicate]; omega)]
  rw [h1, letC_app]
  have h2 : ∀ n, letC (List.replicate n (blank 0 0 0)) = [] := fun n => by
    unfold letC
    simp [blank]
  rw [h2, List.append_nil]
def letM (M : List (List Cl)) : List Int := M.flatMap letC
theorem letM_app (a b : List (List Cl)) : letM (a ++ b) = letM a ++ letM b := by unfold letM; exact List.flatMap_append
theorem letM_one (a : List Cl) : letM [a] = letC a := by unfold letM; simp
theorem letM_take (M : List (List Cl)) (k : Nat) : (letM (M.take k)).length ≤ (letM M).length := by
  have h := letM_app (M.take k) (M.drop k)
  rw [List.take_append_drop] at h
  rw [h, List.length_append]
  omega
theorem fold_letters (q : Nat) (hq : 2 ≤ q) : ∀ (cs : List Cl) (s : List (List Cl) × List Cl), (∀ c ∈ cs, okC c = true) → s.2.length ≤ q → (∀ l ∈ s.1, l.length ≤ q) →
    letM (cs.foldl (stepS q) s).1 ++ letC (cs.foldl (stepS q) s).2 = letM s.1 ++ letC s.2 ++ letC cs ∧ (cs.foldl (stepS q) s).2.length ≤ q ∧ ∀ l ∈ (cs.foldl (stepS q) s).1, l.length ≤ q
  | [], s, _, h2, h3 => ⟨by simp [letC], h2, h3⟩
  | c :: cs, s, h1, h2, h3 => by
    have hc := h1 c (by simp)
    have hw := (okC_iff.1 hc).1
    have hl := whole_len hc
    rw [List.foldl_cons, show c :: cs = [c] ++ cs from rfl, letC_app]
    have hno : ¬ (q : Int) < c.w := by omega
    by_cases hov : (q : Int) < s.2.length + c.w
    · rw [stepS_new hno hov]
      obtain ⟨a, b, d⟩ := fold_letters q hq cs (s.1 ++ [s.2], wholeL c) (fun x hx => h1 x (List.mem_cons_of_mem _ hx)) (by simp only; omega) (fun l hl => by
        rcases List.mem_append.1 hl with h | h
        · exact h3 l h
        · obtain rfl := List.mem_singleton.1 h
          exact h2)
      refine ⟨?_, b, d⟩
      rw [a, letM_app, letM_one, letC_whole]
      simp only [List.append_assoc]
    · rw [stepS_put hno hov]
      obtain ⟨a, b, d⟩ := fold_letters q hq cs (s.1, s.2 ++ wholeL c) (fun x hx => h1 x (List.mem_cons_of_mem _ hx)) (by simp only [List.length_append]; omega) h3
      refine ⟨?_, b, d⟩
      rw [a, letC_app, letC_whole]
      simp only [List.append_assoc]
theorem split_letters {x : Ls} {v : Int} (hs : sanL x = true) (hv : 2 ≤ wN v) : letM ((splitG x v).map Sh.cs) = letC x.cs := by
  unfold splitG
  rw [if_pos hs]
  unfold splitS finS
  obtain ⟨a, b, d⟩ := fold_letters (wN v) hv x.cs ([], []) (sanL_iff.1 hs).2.2 (by simp) (fun l hl => by cases hl)
  rw [List.map_append, List.map_map, letM_app]
  have e1 : ∀ (M : List (List Cl)) (b : Bool), (∀ l ∈ M, l.length ≤ wN v) → letM (M.map (Sh.cs ∘ rowS x (wN v) b)) = letM M := by
    intro M b hM
    induction M with
    | nil => rfl
    | cons l M ih =>
      rw [List.map_cons, show ∀ (u : List Cl) (U : List (List Cl)), u :: U = [u] ++ U from fun _ _ => rfl, letM_app, ih (fun y hy => hM y (List.mem_cons_of_mem _ hy)), letM_one, show (l :: M) = [l] ++ M from rfl, letM_app, letM_one]
      congr 1
      exact letC_pad _ _ (hM l (by simp))
  rw [e1 _ _ d]
  have e2 : letM ([rowS x (wN v) false (x.cs.foldl (stepS (wN v)) ([], [])).2].map Sh.cs) = letC (x.cs.foldl (stepS (wN v)) ([], [])).2 := by
    rw [List.map_singleton, letM_one]
    exact letC_pad _ _ b
  rw [e2, a]
  simp [letM, letC]
theorem spread_letters {M : List Ls} {v : Int} (hs : ∀ x ∈ M, sanL x = true) (hv : 2 ≤ wN v) : letM ((spreadS M v).map Sh.cs) = letM (M.map Ls.cs) := by
  induction M with
  | nil => rfl
  | cons x M ih =>
    unfold spreadS at *
    rw [List.flatMap_cons, List.map_append, letM_app, split_letters (hs x (by simp)) hv, ih (fun y hy => hs y (List.mem_cons_of_mem _ hy)), List.map_cons, show ∀ (u : List Cl) (U : List (List Cl)), u :: U = [u] ++ U from fun _ _ => rfl, letM_app, letM_one]
theorem spread_more {M : List Ls} {v : Int} (hs : ∀ x ∈ M, sanL x = true) : M.length ≤ (spreadS M v).length := by
  induction M with
  | nil => simp
  | cons x M ih =>
    unfold spreadS at *
    rw [List.flatMap_cons, List.length_append, List.length_cons]
    have := ih (fun y hy => hs y (List.mem_cons_of_mem _ hy))
    have := splitG_ne (v := v) (hs x (by simp))
    omega
theorem letM_len : ∀ (M : List Ls), (letM (M.map Ls.cs)).length ≤ totC M
  | [] => by simp [letM, totC]
  | x :: M => by
    have ih := letM_len M
    have h := letC_len x.cs
    rw [List.map_cons, show ∀ (u : List Cl) (U : List (List Cl)), u :: U = [u] ++ U from fun _ _ => rfl, letM_app, letM_one, List.length_append]
    unfold totC at *
    rw [List.map_cons, List.sum_cons]
    omega
theorem few_sum {L : List Rw} (h : ∀ r ∈ L, r.n ≤ 100) : ∀ k, sumN L k ≤ k * 100
  | 0 => by simp [sumN]
  | k + 1 => by
    have ih := few_sum h k
    by_cases hk : k < L.length
    · rw [sumN_succ (List.getElem?_eq_getElem hk)]
      have := h _ (List.getElem_mem hk)
      omega
    · unfold sumN at *
      rw [List.take_of_length_le (by omega)] at *
      omega
end Go.Proofs.Ytlgnchhhadnjbaa.Row
