/- Rows of another width, plainly: what holds at every width; how many rows; where a place is. -/
import Derived.Test.YtlchffkabpfjpaaGJ
namespace Go.Proofs.Ytlchffkabpfjpaa.Row
open Go.RowKit
theorem whereN_in {q : Nat} (hq : 1 ≤ q) : ∀ (S : List Sh) (left : Nat), S ≠ [] → (∀ s ∈ S, s.cs.length = q) → (whereN S left).1 < S.length ∧ (whereN S left).2 < q
  | [], _, h, _ => absurd rfl h
  | [r], left, _, h => by
    have h1 := h r (by simp)
    show 0 < 1 ∧ min left (r.cs.length - 1) < q
    omega
  | r :: s :: rest, left, _, h => by
    have hr := h r (by simp)
    have ih := whereN_in hq (s :: rest) (left - rmS r (some s)) (by simp) (fun x hx => h x (List.mem_cons_of_mem _ hx))
    have hle : rmS r (some s) ≤ r.cs.length := by
      have hh : ∀ (p : Prop) [Decidable p] (a : Nat), (if p then a - 1 else a) ≤ a := fun p _ a => by split <;> omega
      exact hh _ _
    rw [whereN]
    simp only [List.length_cons] at ih ⊢
    split
    · exact ⟨by omega, by simp only; omega⟩
    · exact ⟨by simp only; omega, ih.2⟩
theorem whereR_in {M : List Ls} {v : Int} {pl pa : Nat} (h : pl < M.length) (hs : ∀ x ∈ M, sanL x = true) : (whereR M v pl pa).1 < (spreadS M v).length ∧ (whereR M v pl pa).2 < wN v := by
  unfold whereR
  rw [List.getElem?_eq_getElem h]
  simp only
  have hx := hs M[pl] (List.getElem_mem h)
  have h0 := splitG_ne (v := v) hx
  have h1 := whereN_in (wN_le v).1 (splitG M[pl] v) pa (fun e => by rw [e] at h0; simp at h0) split_wd
  have e : spreadS M v = spreadS (M.take pl) v ++ (splitG M[pl] v ++ spreadS (M.drop (pl + 1)) v) := by
    conv => lhs; rw [← List.take_append_drop pl M, List.drop_eq_getElem_cons h]
    unfold spreadS
    rw [List.flatMap_append, List.flatMap_cons]
  rw [e, List.length_append, List.length_append]
  exact ⟨by omega, h1.2⟩
/-- how many rows there are at most -/
theorem spreadS_len (v : Int) : ∀ M : List Ls, (spreadS M v).length ≤ totC M + M.length
  | [] => by simp [spreadS]
  | x :: M => by
    have ih := spreadS_len v M
    have h := split_len x v
    unfold spreadS totC at *
    rw [List.flatMap_cons, List.length_append, List.map_cons, List.sum_cons, List.length_cons]
    omega
theorem joinN_len {L : List Rw} : ∀ k, k ≤ L.length → (joinN L k).1.length ≤ k
  | 0, _ => Nat.zero_le _
  | k + 1, hk => by
    have ih := joinN_len (L := L) k (by omega)
    rw [joinN_step (List.getElem?_eq_getElem (show k < L.length by omega))]
    simp only
    rw [addL_len]
    split
    · omega
    · rw [List.length_append]
      simp only [List.length_cons, List.length_nil]
      omega
theorem joinR_len (L : List Rw) : (joinR L).length ≤ L.length := by
  unfold joinR
  rw [List.length_map]
  exact joinN_len _ (Nat.le_refl _)
theorem reflow_len (L : List Rw) (v : Int) : (spreadS (joinR L) v).length ≤ sumN L L.length + L.length := by
  have h1 := spreadS_len v (joinR L)
  have h2 := joinR_tot L
  have h3 := joinR_len L
  omega
/-! ### rows may be, at every width -/
theorem fold_good (q : Nat) (hq : 1 ≤ q) : ∀ (cs : List Cl) (s : List (List Cl) × List Cl), (∀ c ∈ cs, okC c = true) → s.2.length ≤ q ∧ Good s.2 → (∀ l ∈ s.1, l.length ≤ q ∧ Good l) →
    ((cs.foldl (stepS q) s).2.length ≤ q ∧ Good (cs.foldl (stepS q) s).2) ∧ ∀ l ∈ (cs.foldl (stepS q) s).1, l.length ≤ q ∧ Good l
  | [], s, _, h2, h3 => ⟨h2, h3⟩
  | c :: cs, s, h1, h2, h3 => by
    have hc := h1 c (by simp)
    have hl := whole_len hc
    rw [List.foldl_cons]
    have ht : ∀ x ∈ cs, okC x = true := fun x hx => h1 x (List.mem_cons_of_mem _ hx)
    unfold stepS
    split
    · exact fold_good q hq cs s ht h2 h3
    · split
      · refine fold_good q hq cs _ ht ⟨by simp only; omega, Good.whole hc⟩ (fun l hl => ?_)
        rcases List.mem_append.1 hl with h | h
        · exact h3 l h
        · obtain rfl := List.mem_singleton.1 h
          exact h2
      · exact fold_good q hq cs _ ht ⟨by simp only [List.length_append]; omega, h2.2.app (Good.whole hc)⟩ h3
theorem rowS_sane {x : Ls} {q : Nat} {b : Bool} {l : List Cl} (hq : 1 ≤ q) (hq2 : q ≤ 4096) (hn : l.length ≤ q) (hg : Good l) (hd : 0 ≤ x.dir ∧ x.dir ≤ 2) : saneB q (fun i => ((rowS x q b l).cs[i]?).getD (blank 0 0 0)) x.dir = true := by
  rw [sane_congr (g := padF l) (fun i hi => by rw [rowS_get _ _ _ _ hi]; rfl)]
  exact saneRow (by omega) hq2 hn hg hd
theorem spread_sane1 {R : List Rw} {X : List Ls} {v : Int} (hR : R.map Rw.sh = spreadS X v) (h : ∀ x ∈ X, sanL x = true) : areB R = true ∧ ∀ r ∈ R, r.n = wN v := by
  have key : ∀ s ∈ spreadS X v, s.cs.length = wN v ∧ saneB (wN v) (fun i => (s.cs[i]?).getD (blank 0 0 0)) s.dir = true := by
    intro s hs
    unfold spreadS at hs
    obtain ⟨x, hx, hsx⟩ := List.mem_flatMap.1 hs
    have hsan := h x hx
    refine ⟨split_wd s hsx, ?_⟩
    unfold splitG at hsx
    rw [if_pos hsan] at hsx
    obtain ⟨d1, d2, d3⟩ := sanL_iff.1 hsan
    obtain ⟨g1, g2⟩ := fold_good (wN v) (wN_le v).1 x.cs ([], []) d3 ⟨by simp, Good.nil⟩ (fun l hl => by cases hl)
    unfold splitS finS at hsx
    rcases List.mem_append.1 hsx with hm | hm
    · obtain ⟨l, hl, rfl⟩ := List.mem_map.1 hm
      exact rowS_sane (wN_le v).1 (wN_le v).2 (g2 l hl).1 (g2 l hl).2 ⟨d1, d2⟩
    · obtain rfl := List.mem_singleton.1 hm
      exact rowS_sane (wN_le v).1 (wN_le v).2 g1.1 g1.2 ⟨d1, d2⟩
  have hn : ∀ r ∈ R, r.n = wN v := sh_n hR (fun s hs => (key s hs).1)
  refine ⟨areB_iff.2 fun r hr => ?_, hn⟩
  have hk := (key r.sh (by rw [← hR]; exact List.mem_map_of_mem hr)).2
  show saneB r.n r.f r.dir = true
  rw [hn r hr]
  rw [sane_congr (g := fun i => (r.sh.cs[i]?).getD (blank 0 0 0)) (fun i hi => by
    show r.f i = ((listF r.n r.f)[i]?).getD _
    rw [listF_get (by rw [hn r hr]; exact hi)]
    rfl)]
  exact hk
/-! ### a blank row, by itself -/
theorem keptC_blanks (n : Nat) : keptC (List.replicate n (blank 0 0 0)) = List.replicate n (blank 0 0 0) := by
  unfold keptC
  exact List.filter_eq_self.2 fun c hc => by rw [(List.mem_replicate.1 hc).2]; rfl
theorem join_blank {r : Rw} (hf : ∀ i, i < r.n → r.f i = blank 0 0 0) (hw : r.wb = false) : joinR [r] = [⟨[], r.dir, r.ex⟩] := by
  have h1 : joinN [r] 1 = (addL [⟨[], r.dir, r.ex⟩] (keptC ((listF r.n r.f).take (rmN r none))), r.wb) := rfl
  have h2 : rmN r none = r.n := by
    unfold rmN rmB
    rw [hw]
    rfl
  have h3 : listF r.n r.f = List.replicate r.n (blank 0 0 0) := by
    apply List.ext_getElem?
    intro i
    by_cases hi : i < r.n
    · rw [listF_get hi, List.getElem?_replicate, if_pos hi, hf i hi]
    · rw [List.getElem?_eq_none (by rw [listF_len]; omega), List.getElem?_eq_none (by rw [List.length_replicate]; omega)]
  rw [h2, h3, List.take_of_length_le (by simp), keptC_blanks] at h1
  unfold joinR
  show ((joinN [r] 1).1).map trimS = _
  rw [h1]
  have h4 : addL [(⟨[], r.dir, r.ex⟩ : Ls)] (List.replicate r.n (blank 0 0 0)) = [⟨[] ++ List.replicate r.n (blank 0 0 0), r.dir, r.ex⟩] := rfl
  rw [h4]
  show [trimS _] = _
  unfold trimS
  rw [trim_blank [] (fun c hc => by cases hc)]
theorem spread_blank {dir : Int} {ex : Bool} (v : Int) (hd : 0 ≤ dir ∧ dir ≤ 2) : spreadS [⟨[], dir, ex⟩] v = [⟨listF (wN v) (fun _ => blank 0 0 0), false, dir, ex⟩] := by
  unfold spreadS
  rw [List.flatMap_cons, List.flatMap_nil, List.append_nil]
  unfold splitG
  rw [if_pos (sanL_iff.2 ⟨hd.1, hd.2, fun c hc => by cases hc⟩)]
  rfl
end Go.Proofs.Ytlchffkabpfjpaa.Row
