/- A drawn region walked by hand where three operations may come up. -/
import Derived.Test.YtlchffkabpfjpaaGreatGB
namespace Go
section
variable {P : Program} {l : List Oper} {Q : Exit → Act → World → Prop} {md : Region.Mode} {S : World → Prop}
theorem hr_three {i j k d e f : Nat} {oi oj ok : Oper} {fuel : Nat} {listed : Array Bool} {t : List Value} {ds : List Deferred} {w : World} (hi : l[i]? = some oi) (hj : l[j]? = some oj) (hk : l[k]? = some ok) (_hd : oi.dst = some d) (_he : oj.dst = some e) (_hf : ok.dst = some f) (hr : Region.ready md l.toArray listed = [i, j, k])
    (hwi : Region.wanted oi (yielded l.toArray t.toArray) = true) (hwj : Region.wanted oj (yielded l.toArray t.toArray) = true) (hwk : Region.wanted ok (yielded l.toArray t.toArray) = true)
    (h : ∀ K : Act → World → Prop, Shut (∀ v w, S w → (S w → wpAnyH P md l.toArray Q S fuel (listed.setIfInBounds i true) ⟨(t.set d v).toArray, ds⟩ w) → K (Act.put ⟨t.toArray, ds⟩ (some d) v) w) → Oper.wp P oi ⟨t.toArray, ds⟩ w K Q)
    (h' : ∀ K : Act → World → Prop, Shut (∀ v w, S w → (S w → wpAnyH P md l.toArray Q S fuel (listed.setIfInBounds j true) ⟨(t.set e v).toArray, ds⟩ w) → K (Act.put ⟨t.toArray, ds⟩ (some e) v) w) → Oper.wp P oj ⟨t.toArray, ds⟩ w K Q)
    (h'' : ∀ K : Act → World → Prop, Shut (∀ v w, S w → (S w → wpAnyH P md l.toArray Q S fuel (listed.setIfInBounds k true) ⟨(t.set f v).toArray, ds⟩ w) → K (Act.put ⟨t.toArray, ds⟩ (some f) v) w) → Oper.wp P ok ⟨t.toArray, ds⟩ w K Q) :
    wpAnyH P md l.toArray Q S (fuel + 1) listed ⟨t.toArray, ds⟩ w := by
  refine wpAnyH_ready hr (by simp) (AllReadyH.cons (o := oi) (by simpa using hi) (fun K hK => ?_) (AllReadyH.cons (o := oj) (by simpa using hj) (fun K hK => ?_) (AllReadyH.cons (o := ok) (by simpa using hk) (fun K hK => ?_) AllReadyH.nil)))
  · rw [if_pos hwi]
    refine h K fun v w hS hW => hK.out _ _ hS fun hS' => ?_
    simpa [Act.put] using hW hS'
  · rw [if_pos hwj]
    refine h' K fun v w hS hW => hK.out _ _ hS fun hS' => ?_
    simpa [Act.put] using hW hS'
  · rw [if_pos hwk]
    refine h'' K fun v w hS hW => hK.out _ _ hS fun hS' => ?_
    simpa [Act.put] using hW hS'
end
end Go
