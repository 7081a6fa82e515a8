/- reflow: plain facts of Join and Find. -/
import Derived.Test.YtlgnchhhadnjbaaRflM
import Derived.Test.YtlgnchhhadnjbaaRflW
namespace Go.Proofs.Ytlgnchhhadnjbaa.Row
open Go.RowKit
theorem addL_len (M : List Ls) (cs : List Cl) : (addL M cs).length = M.length := by
  rcases List.eq_nil_or_concat M with rfl | ⟨M0, x, rfl⟩
  · rfl
  · rw [List.concat_eq_append, addL_app, List.length_append, List.length_append]
    rfl
theorem joinN_step {L : List Rw} {k : Nat} {r : Rw} (h : L[k]? = some r) : joinN L (k + 1) = (addL (if (joinN L k).2 = true then (joinN L k).1 else (joinN L k).1 ++ [⟨[], r.dir, r.ex⟩]) (keptC ((listF r.n r.f).take (rmN r L[k + 1]?))), r.wb) := by
  show (match L[k]? with | some r => _ | none => _) = _
  rw [h]
theorem findN_step {L : List Rw} {k : Nat} {r : Rw} (h : L[k]? = some r) : findN L (k + 1) = if r.wb = true then ((findN L k).1, (findN L k).2 + rmN r L[k + 1]?) else ((findN L k).1 + 1, 0) := by
  show (match L[k]? with | some r => _ | none => _) = _
  rw [h]
theorem join_len {L : List Rw} : ∀ k, k ≤ L.length → (joinN L k).1.length = (findN L k).1 + (if (joinN L k).2 = true then 1 else 0)
  | 0, _ => rfl
  | k + 1, hk => by
    have ih := join_len (L := L) k (by omega)
    have hr : L[k]? = some L[k] := List.getElem?_eq_getElem (by omega)
    rw [joinN_step hr, findN_step hr]
    simp only
    rw [addL_len]
    cases h1 : (joinN L k).2 <;> cases h2 : L[k].wb <;> rw [h1] at ih <;> simp at ih ⊢ <;> omega
theorem join_len_mono {L : List Rw} (k : Nat) : ∀ j, k + j ≤ L.length → (joinN L k).1.length ≤ (joinN L (k + j)).1.length
  | 0, _ => Nat.le_refl _
  | j + 1, h => by
    have ih := join_len_mono (L := L) k j (by omega)
    have hr : L[k + j]? = some L[k + j] := List.getElem?_eq_getElem (by omega)
    rw [← Nat.add_assoc, joinN_step hr]
    simp only
    rw [addL_len]
    split <;> simp <;> omega
theorem find_lt {L : List Rw} {y : Nat} (hy : y < L.length) : (findN L y).1 < (joinR L).length := by
  have h1 := join_len y (Nat.le_of_lt hy)
  have hr : L[y]? = some L[y] := List.getElem?_eq_getElem hy
  have h2 : (joinN L (y + 1)).1.length = (findN L y).1 + 1 := by
    rw [joinN_step hr]
    simp only
    rw [addL_len]
    cases h3 : (joinN L y).2 <;> simp [h3] at h1 ⊢ <;> omega
  have h3 := join_len_mono (L := L) (y + 1) (L.length - (y + 1)) (by omega)
  rw [show y + 1 + (L.length - (y + 1)) = L.length by omega] at h3
  unfold joinR
  rw [List.length_map]
  omega
theorem addL_mem {M : List Ls} {cs : List Cl} {P : Ls → Prop} (h : ∀ x ∈ M, P x) (hg : ∀ x ∈ M, P ⟨x.cs ++ cs, x.dir, x.ex⟩) : ∀ x ∈ addL M cs, P x := by
  rcases List.eq_nil_or_concat M with rfl | ⟨M0, x, rfl⟩
  · intro x hx
    cases hx
  · rw [List.concat_eq_append] at h hg ⊢
    rw [addL_app]
    intro y hy
    rcases List.mem_append.1 hy with hy | hy
    · exact h y (List.mem_append_left _ hy)
    · obtain rfl := List.mem_singleton.1 hy
      exact hg x (by simp)
theorem kept_ok {r : Rw} (hs : saneRw r = true) (m : Nat) : ∀ c ∈ keptC ((listF r.n r.f).take m), okC c = true := by
  intro c hc
  unfold keptC at hc
  obtain ⟨h1, h2⟩ := List.mem_filter.1 hc
  have h3 := List.mem_of_mem_take h1
  unfold listF at h3
  obtain ⟨i, hi, rfl⟩ := List.mem_map.1 h3
  have hf := fits_of_sane hs (List.mem_range.1 hi)
  rw [okC_iff]
  refine ⟨?_, hf⟩
  unfold fitsB at hf
  rw [decide_eq_true_eq] at hf
  simp at h2
  omega
theorem joinN_sane {L : List Rw} (ha : areB L = true) : ∀ k, k ≤ L.length → ∀ x ∈ (joinN L k).1, sanL x = true
  | 0, _ => fun x hx => by cases hx
  | k + 1, hk => by
    have ih := joinN_sane ha k (by omega)
    have hr : L[k]? = some L[k] := List.getElem?_eq_getElem (by omega)
    have hs := areB_iff.1 ha _ (List.getElem_mem (show k < L.length by omega))
    have hs' := sane_iff.1 hs
    rw [joinN_step hr]
    simp only
    have h0 : ∀ x ∈ (if (joinN L k).2 = true then (joinN L k).1 else (joinN L k).1 ++ [⟨[], L[k].dir, L[k].ex⟩]), sanL x = true := by
      intro x hx
      split at hx
      · exact ih x hx
      · rcases List.mem_append.1 hx with hx | hx
        · exact ih x hx
        · obtain rfl := List.mem_singleton.1 hx
          exact sanL_iff.2 ⟨hs'.2.2.1, hs'.2.2.2.1, fun c hc => by cases hc⟩
    refine addL_mem h0 (fun x hx => ?_)
    obtain ⟨a, b, c⟩ := sanL_iff.1 (h0 x hx)
    refine sanL_iff.2 ⟨a, b, fun d hd => ?_⟩
    rcases List.mem_append.1 hd with hd | hd
    · exact c d hd
    · exact kept_ok hs _ d hd
theorem trimS_sane {x : Ls} (h : sanL x = true) : sanL (trimS x) = true := by
  obtain ⟨a, b, c⟩ := sanL_iff.1 h
  exact sanL_iff.2 ⟨a, b, fun d hd => c d (List.mem_of_mem_take hd)⟩
theorem joinR_sane {L : List Rw} (ha : areB L = true) : ∀ x ∈ joinR L, sanL x = true := by
  intro x hx
  obtain ⟨y, hy, rfl⟩ := List.mem_map.1 hx
  exact trimS_sane (joinN_sane ha _ (Nat.le_refl _) y hy)
def totC (M : List Ls) : Nat := (M.map (fun x => x.cs.length)).sum
theorem totC_app (M K : List Ls) : totC (M ++ K) = totC M + totC K := by unfold totC; rw [List.map_append, List.sum_append]
theorem addL_tot (M : List Ls) (cs : List Cl) : totC (addL M cs) ≤ totC M + cs.length := by
  rcases List.eq_nil_or_concat M with rfl | ⟨M0, x, rfl⟩
  · simp [addL, totC]
  · rw [List.concat_eq_append, addL_app, totC_app, totC_app]
    simp [totC]
    omega
theorem joinN_tot {L : List Rw} : ∀ k, k ≤ L.length → totC (joinN L k).1 ≤ sumN L k
  | 0, _ => Nat.zero_le _
  | k + 1, hk => by
    have ih := joinN_tot (L := L) k (by omega)
    have hr : L[k]? = some L[k] := List.getElem?_eq_getElem (by omega)
    rw [joinN_step hr, sumN_succ hr]
    simp only
    refine Nat.le_trans (addL_tot _ _) ?_
    have h1 := Nat.le_trans (keptC_len ((listF L[k].n L[k].f).take (rmN L[k] L[k + 1]?))) (List.length_take_le _ _)
    have h2 := rmN_le L[k] L[k + 1]?
    split
    · omega
    · rw [totC_app]
      simp [totC]
      unfold totC at ih
      omega
theorem trim_tot : ∀ M : List Ls, totC (M.map trimS) ≤ totC M
  | [] => Nat.le_refl _
  | x :: M => by
    have ih := trim_tot M
    have h1 : (trimS x).cs.length ≤ x.cs.length := by
      show (trimL x.cs).length ≤ _
      rw [trimL_len]
      exact trimN_le _ _
    unfold totC at *
    simp only [List.map_cons, List.sum_cons]
    omega
theorem joinR_tot (L : List Rw) : totC (joinR L) ≤ sumN L L.length := Nat.le_trans (trim_tot _) (joinN_tot _ (Nat.le_refl _))
theorem tot_eq (M : List Ln) : tot M = totC (M.map Ln.ls) + M.length := by
  unfold tot totC
  induction M with
  | nil => rfl
  | cons l M ih =>
    simp only [List.map_cons, List.sum_cons, List.length_cons]
    rw [ih]
    show l.cs.length + 1 + _ = l.cs.length + _ + _
    omega
end Go.Proofs.Ytlgnchhhadnjbaa.Row
