/- A drawn region walked by hand, operation by operation: laws on frames and regions that are written out as lists. -/
import Derived.Test.YtlgnchhhadnjbaaBase
import Derived.Deep.RegionHeld3
namespace Go
section
variable {P : Program} {l : List Oper} {Q : Exit → Act → World → Prop} {md : Region.Mode} {S : World → Prop}
theorem hr_start {id n : Nat} {t : List Value} {ds : List Deferred} {w : World} (hm : P.follows .mixedOrders = true) (hn : l.length = n) (hS : S w.drew)
    (h : S w.drew → wpAnyH P .any l.toArray Q S n (Array.replicate n false) ⟨t.toArray, ds⟩ w.drew) : (Code.region id l.toArray true).wp P Q ⟨t.toArray, ds⟩ w := by
  subst hn
  exact wp_region_held_drew hm hS (by simpa using h)
/-- an operation that only reads, taken first -/
theorem hr_take {i d : Nat} {oi : Oper} {v : Value} {fuel : Nat} {listed : Array Bool} {t : List Value} {ds : List Deferred} {w : World} (hi : l[i]? = some oi) (hd : oi.dst = some d)
    (hs : Region.noSelect l.toArray = true) (hf : Region.free md l.toArray listed i = true) (hr : (Region.ready md l.toArray listed).contains i = true) (hw : Region.wanted oi (yielded l.toArray t.toArray) = true)
    (hQ : ∀ c a w, Q (.panic c) (Act.put a (some d) v) w → Q (.panic c) a w)
    (hy : ∀ w, S w → (execOp (Act.eval ⟨t.toArray, ds⟩) oi).run P w = .ok (.value v) w) (hS : S w)
    (h : wpAnyH P md l.toArray Q S fuel (listed.setIfInBounds i true) ⟨(t.set d v).toArray, ds⟩ w) : wpAnyH P md l.toArray Q S (fuel + 1) listed ⟨t.toArray, ds⟩ w := by
  refine wpAnyH_take (oi := oi) (v := v) (by simpa using hi) hs hf hr (by rw [hd]; exact hQ) (.inl ⟨hw, hy⟩) hS ?_
  rw [hd]
  simpa [Act.put] using h
/-- an operation whose guard says no -/
theorem hr_skip {i d : Nat} {oi : Oper} {fuel : Nat} {listed : Array Bool} {t : List Value} {ds : List Deferred} {w : World} (hi : l[i]? = some oi) (hd : oi.dst = some d)
    (hs : Region.noSelect l.toArray = true) (hf : Region.free md l.toArray listed i = true) (hr : (Region.ready md l.toArray listed).contains i = true) (hw : Region.wanted oi (yielded l.toArray t.toArray) = false)
    (hQ : ∀ c a w, Q (.panic c) (Act.put a (some d) undef) w → Q (.panic c) a w) (hS : S w)
    (h : wpAnyH P md l.toArray Q S fuel (listed.setIfInBounds i true) ⟨(t.set d undef).toArray, ds⟩ w) : wpAnyH P md l.toArray Q S (fuel + 1) listed ⟨t.toArray, ds⟩ w := by
  refine wpAnyH_take (oi := oi) (v := undef) (by simpa using hi) hs hf hr (by rw [hd]; exact hQ) (.inr ⟨hw, rfl⟩) hS ?_
  rw [hd]
  simpa [Act.put] using h
/-- an operation that makes or writes memory, or calls, where no other may come up -/
theorem hr_op {i d : Nat} {oi : Oper} {fuel : Nat} {listed : Array Bool} {t : List Value} {ds : List Deferred} {w : World} (hi : l[i]? = some oi) (_hd : oi.dst = some d) (hr : Region.ready md l.toArray listed = [i])
    (hw : Region.wanted oi (yielded l.toArray t.toArray) = true)
    (h : ∀ K : Act → World → Prop, Shut (∀ v w, S w → (S w → wpAnyH P md l.toArray Q S fuel (listed.setIfInBounds i true) ⟨(t.set d v).toArray, ds⟩ w) → K (Act.put ⟨t.toArray, ds⟩ (some d) v) w) → Oper.wp P oi ⟨t.toArray, ds⟩ w K Q) :
    wpAnyH P md l.toArray Q S (fuel + 1) listed ⟨t.toArray, ds⟩ w := by
  refine wpAnyH_ready hr (by simp) (AllReadyH.cons (o := oi) (by simpa using hi) (fun K hK => ?_) AllReadyH.nil)
  rw [if_pos hw]
  refine h K fun v w hS hW => hK.out _ _ hS fun hS' => ?_
  simpa [Act.put] using hW hS'
/-- .. without a value -/
theorem hr_op0 {i : Nat} {oi : Oper} {fuel : Nat} {listed : Array Bool} {t : List Value} {ds : List Deferred} {w : World} (hi : l[i]? = some oi) (hr : Region.ready md l.toArray listed = [i])
    (hw : Region.wanted oi (yielded l.toArray t.toArray) = true)
    (h : ∀ K : Act → World → Prop, Shut (∀ w, S w → (S w → wpAnyH P md l.toArray Q S fuel (listed.setIfInBounds i true) ⟨t.toArray, ds⟩ w) → K ⟨t.toArray, ds⟩ w) → Oper.wp P oi ⟨t.toArray, ds⟩ w K Q) :
    wpAnyH P md l.toArray Q S (fuel + 1) listed ⟨t.toArray, ds⟩ w := by
  refine wpAnyH_ready hr (by simp) (AllReadyH.cons (o := oi) (by simpa using hi) (fun K hK => ?_) AllReadyH.nil)
  rw [if_pos hw]
  exact h K fun w hS hW => hK.out _ _ hS hW
theorem hr_done {fuel : Nat} {listed : Array Bool} {a : Act} {w : World} (hr : Region.ready md l.toArray listed = []) (h : Q .normal a w) : wpAnyH P md l.toArray Q S fuel listed a w := wpAnyH_done hr h fuel
end
end Go
