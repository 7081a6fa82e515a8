/- reflow, plainly: a line's cells in parts, a part a row. -/
import Derived.Test.YtlgnchhhadnjbaaRflG
namespace Go.Proofs.Ytlgnchhhadnjbaa.Row
open Go.RowKit
def parts (q : Nat) : List Cl → List Cl → List (List Cl)
  | cur, [] => [cur]
  | cur, c :: cs => if (q : Int) < (wide cur).length + c.w then cur :: parts q [c] cs else parts q (cur ++ [c]) cs
def rowsP (x : Ls) (q : Nat) : List (List Cl) → List Sh
  | [] => []
  | [p] => [rowS x q false (wide p)]
  | p :: r :: rest => rowS x q true (wide p) :: rowsP x q (r :: rest)
theorem wide_app (a b : List Cl) : wide (a ++ b) = wide a ++ wide b := by unfold wide; exact List.flatMap_append
theorem wide_one (c : Cl) : wide [c] = wholeL c := by unfold wide; simp
theorem parts_ne (q : Nat) : ∀ (cs cur : List Cl), ∃ p rest, parts q cur cs = p :: rest
  | [], cur => ⟨_, _, rfl⟩
  | c :: cs, cur => by
    unfold parts
    split
    · exact ⟨_, _, rfl⟩
    · exact parts_ne q cs _
theorem tl_parts (x : Ls) (q : Nat) : ∀ (cs cur : List Cl), tl x q (wide cur) cs = rowsP x q (parts q cur cs)
  | [], cur => rfl
  | c :: cs, cur => by
    have h1 := tl_parts x q cs [c]
    have h2 := tl_parts x q cs (cur ++ [c])
    rw [wide_one] at h1
    rw [wide_app, wide_one] at h2
    simp only [tl, parts]
    split
    · obtain ⟨p, rest, e⟩ := parts_ne q cs [c]
      rw [h1, e]
      rfl
    · exact h2
theorem parts_flat (q : Nat) : ∀ (cs cur : List Cl), (parts q cur cs).flatten = cur ++ cs
  | [], cur => by simp [parts]
  | c :: cs, cur => by
    have h1 := parts_flat q cs [c]
    have h2 := parts_flat q cs (cur ++ [c])
    unfold parts
    split
    · rw [List.flatten_cons, h1]
      rfl
    · rw [h2, List.append_assoc]
      rfl
theorem parts_fit {q : Nat} (hq : 2 ≤ q) : ∀ (cs cur : List Cl), (∀ c ∈ cs, okC c = true) → (wide cur).length ≤ q → ∀ p ∈ parts q cur cs, (wide p).length ≤ q
  | [], cur, _, h, p, hp => by
    obtain rfl := List.mem_singleton.1 hp
    exact h
  | c :: cs, cur, hc, h, p, hp => by
    have hok := hc c (by simp)
    have hw := whole_len hok
    have hw2 := whole_len2 hok
    unfold parts at hp
    split at hp
    · rcases List.mem_cons.1 hp with rfl | hp
      · exact h
      · exact parts_fit hq cs [c] (fun d hd => hc d (List.mem_cons_of_mem _ hd)) (by rw [wide_one]; omega) p hp
    · exact parts_fit hq cs (cur ++ [c]) (fun d hd => hc d (List.mem_cons_of_mem _ hd)) (by rw [wide_app, wide_one, List.length_append]; omega) p hp
theorem parts_next {q : Nat} : ∀ (cs cur : List Cl) (i : Nat) (p r : List Cl), (cur = [] ∨ True) → (parts q cur cs)[i]? = some p → (parts q cur cs)[i + 1]? = some r → ∃ c rest, r = c :: rest ∧ (q : Int) < (wide p).length + c.w
  | [], cur, i, p, r, _, h1, h2 => by simp [parts] at h2
  | c :: cs, cur, i, p, r, _, h1, h2 => by
    unfold parts at h1 h2
    split at h1
    · rename_i hov
      rw [if_pos hov] at h2
      cases i with
      | zero =>
        obtain rfl : cur = p := by simpa using h1
        have h3 : (parts q [c] cs)[0]? = some r := by simpa using h2
        have key : ∀ (cs cur : List Cl) (d : Cl), cur[0]? = some d → ∀ r, (parts q cur cs)[0]? = some r → r[0]? = some d := by
          intro cs
          induction cs with
          | nil =>
            intro cur d hd r hr
            obtain rfl : cur = r := by simpa [parts] using hr
            exact hd
          | cons e cs ih =>
            intro cur d hd r hr
            unfold parts at hr
            split at hr
            · obtain rfl : cur = r := by simpa using hr
              exact hd
            · exact ih (cur ++ [e]) d (by
                have hl : 0 < cur.length := (List.getElem?_eq_some_iff.1 hd).1
                rw [List.getElem?_append_left hl]
                exact hd) r hr
        have h4 := key cs [c] c rfl r h3
        cases r with
        | nil => simp at h4
        | cons d rest =>
          obtain rfl : d = c := by simpa using h4
          exact ⟨d, rest, rfl, hov⟩
      | succ i => exact parts_next cs [c] i p r (.inr trivial) (by simpa using h1) (by simpa using h2)
    · rename_i hov
      rw [if_neg hov] at h2
      exact parts_next cs (cur ++ [c]) i p r (.inr trivial) h1 h2
theorem rowsP_len (x : Ls) (q : Nat) : ∀ P, (rowsP x q P).length = P.length
  | [] => rfl
  | [_] => rfl
  | _ :: r :: rest => by
    have := rowsP_len x q (r :: rest)
    simp only [rowsP, List.length_cons] at this ⊢
    omega
theorem rowsP_get (x : Ls) (q : Nat) : ∀ (P : List (List Cl)) (i : Nat) (p : List Cl), P[i]? = some p → (rowsP x q P)[i]? = some (rowS x q (decide (i + 1 < P.length)) (wide p))
  | [], i, p, h => by simp at h
  | [a], i, p, h => by
    have hi : i < 1 := (List.getElem?_eq_some_iff.1 h).1
    obtain rfl : i = 0 := by omega
    obtain rfl : a = p := by simpa using h
    rfl
  | a :: r :: rest, i, p, h => by
    cases i with
    | zero =>
      obtain rfl : a = p := by simpa using h
      simp [rowsP]
    | succ i =>
      have ih := rowsP_get x q (r :: rest) i p (by simpa using h)
      simp only [rowsP, List.getElem?_cons_succ]
      rw [ih]
      simp
/-- a part's place in the line -/
theorem parts_at {P : List (List Cl)} {cs : List Cl} (hf : P.flatten = cs) {i : Nat} {p : List Cl} (h : P[i]? = some p) : ∀ t c, p[t]? = some c → cs[(P.take i).flatten.length + t]? = some c := by
  intro t c ht
  obtain ⟨hi, rfl⟩ := List.getElem?_eq_some_iff.1 h
  have e : P = P.take i ++ (P[i] :: P.drop (i + 1)) := by rw [← List.drop_eq_getElem_cons hi, List.take_append_drop]
  have hl : t < P[i].length := (List.getElem?_eq_some_iff.1 ht).1
  have e2 : P.flatten = (P.take i).flatten ++ (P[i] ++ (P.drop (i + 1)).flatten) := by
    conv => lhs; rw [e]
    rw [List.flatten_append, List.flatten_cons]
  rw [← hf, e2, List.getElem?_append_right (by omega), Nat.add_sub_cancel_left, List.getElem?_append_left hl]
  exact ht
theorem parts_sum {P : List (List Cl)} {i : Nat} {p : List Cl} (h : P[i]? = some p) : (P.take (i + 1)).flatten.length = (P.take i).flatten.length + p.length := by
  rw [List.take_add_one, h, List.flatten_append, List.length_append]
  simp [Option.toList]
/-- where a cell stands in its row -/
theorem wide_at {p : List Cl} {t : Nat} {c : Cl} (h : p[t]? = some c) : (wide p)[(wide (p.take t)).length]? = some c ∧ (wide (p.take (t + 1))).length = (wide (p.take t)).length + (wholeL c).length := by
  obtain ⟨ht, rfl⟩ := List.getElem?_eq_some_iff.1 h
  have e : p = p.take t ++ (p[t] :: p.drop (t + 1)) := by rw [← List.drop_eq_getElem_cons ht, List.take_append_drop]
  constructor
  · conv => lhs; arg 1; rw [e]
    rw [wide_app, List.getElem?_append_right (Nat.le_refl _), Nat.sub_self, wide_cons]
    have hl := List.getElem?_eq_some_iff.1 (whole_head p[t])
    rw [List.getElem?_append_left hl.1]
    exact whole_head _
  · rw [List.take_add_one, List.getElem?_eq_getElem ht, wide_app, List.length_append]
    simp [Option.toList, wide_one]
theorem wide_take_le (p : List Cl) (t : Nat) : (wide (p.take t)).length ≤ (wide p).length := by
  have h := wide_app (p.take t) (p.drop t)
  rw [List.take_append_drop] at h
  rw [h, List.length_append]
  omega
end Go.Proofs.Ytlgnchhhadnjbaa.Row
