/- A drawn region walked by hand where two operations may come up: both ways. -/
import Derived.Test.YtlgnchhhadnjbaaHand
namespace Go
section
variable {P : Program} {l : List Oper} {Q : Exit → Act → World → Prop} {md : Region.Mode} {S : World → Prop}
theorem hr_two {i j d e : Nat} {oi oj : Oper} {fuel : Nat} {listed : Array Bool} {t : List Value} {ds : List Deferred} {w : World} (hi : l[i]? = some oi) (hj : l[j]? = some oj) (_hd : oi.dst = some d) (_he : oj.dst = some e) (hr : Region.ready md l.toArray listed = [i, j])
    (hwi : Region.wanted oi (yielded l.toArray t.toArray) = true) (hwj : Region.wanted oj (yielded l.toArray t.toArray) = true)
    (h : ∀ K : Act → World → Prop, Shut (∀ v w, S w → (S w → wpAnyH P md l.toArray Q S fuel (listed.setIfInBounds i true) ⟨(t.set d v).toArray, ds⟩ w) → K (Act.put ⟨t.toArray, ds⟩ (some d) v) w) → Oper.wp P oi ⟨t.toArray, ds⟩ w K Q)
    (h' : ∀ K : Act → World → Prop, Shut (∀ v w, S w → (S w → wpAnyH P md l.toArray Q S fuel (listed.setIfInBounds j true) ⟨(t.set e v).toArray, ds⟩ w) → K (Act.put ⟨t.toArray, ds⟩ (some e) v) w) → Oper.wp P oj ⟨t.toArray, ds⟩ w K Q) :
    wpAnyH P md l.toArray Q S (fuel + 1) listed ⟨t.toArray, ds⟩ w := by
  refine wpAnyH_ready hr (by simp) (AllReadyH.cons (o := oi) (by simpa using hi) (fun K hK => ?_) (AllReadyH.cons (o := oj) (by simpa using hj) (fun K hK => ?_) AllReadyH.nil))
  · rw [if_pos hwi]
    refine h K fun v w hS hW => hK.out _ _ hS fun hS' => ?_
    simpa [Act.put] using hW hS'
  · rw [if_pos hwj]
    refine h' K fun v w hS hW => hK.out _ _ hS fun hS' => ?_
    simpa [Act.put] using hW hS'
end
end Go
