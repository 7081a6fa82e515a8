/- HistoryIs: what each call gives, whether anything may be kept or not. -/
import Derived.Test.YtpnadnjcacaibaaHisC
import Derived.Test.YtpnadnjcacaibaaHisD
import Derived.Test.YtpnadnjcacaibaaHisE
import Derived.Test.YtpnadnjcacaibaaHisF
namespace Go.Proofs.Ytpnadnjcacaibaa.Row
open Go.RowKit
def TakeA (s : Bool) (c : Int) (L : List Rw) (st : Nat) (w : World) (e : Ending) (w' : World) : Prop :=
  ∃ v1 v2, e = .returned (.tuple #[.agg #[v1, .int .i64 (hC s c)], v2]) ∧ Below w.heap.size w w' ∧ RdR w' v1 (hL s (L.take st)) ∧ RdR w' v2 (hL s (L.drop st))
theorem take_any (x : Value) (c k : Int) (L : List Rw) (st : Nat) (s : Bool) (w : World) (hx : RdR w x L) (hl : L.length ≤ 5000) (hs : hsaneB L c = s) (hst : (st : Int) = (L.length : Int) - max 0 (min k L.length)) :
    Calls Try.prog 29 #[.agg #[x, .int .i64 c], .int .i64 k] w (TakeA s c L st w) := by
  cases s
  · refine (take_no x c k L w hx hl hs).mono ?_
    rintro e w' ⟨rfl, hg⟩
    exact ⟨_, _, rfl, hg.below, RdR.nil _ _ _, RdR.nil _ _ _⟩
  · refine (take_c x c k L st w hx hl hs hst).mono ?_
    rintro e w' ⟨v1, v2, rfl, hg, h1, h2, -⟩
    exact ⟨_, _, rfl, hg, h1, h2⟩
theorem take10_any (x : Value) (c k : Int) (L : List Rw) (st : Nat) (s : Bool) (w : World) (hx : RdR w x L) (hl : L.length ≤ 5000) (hs : hsaneB L c = s) (hst : (st : Int) = (L.length : Int) - max 0 (min k L.length)) :
    Calls Try.prog 41 #[.agg #[x, .int .i64 c], .int .i64 k] w (TakeA s c L st w) := by
  cases s
  · refine (take10_no x c k L w hx hl hs).mono ?_
    rintro e w' ⟨rfl, hg⟩
    exact ⟨_, _, rfl, hg.below, RdR.nil _ _ _, RdR.nil _ _ _⟩
  · refine (take10_yes x c k L st w hx hl hs hst).mono ?_
    rintro e w' ⟨v1, v2, rfl, hg, h1, h2⟩
    exact ⟨_, _, rfl, hg, h1, h2⟩
def PushA (s : Bool) (c : Int) (L M : List Rw) (w : World) (e : Ending) (w' : World) : Prop :=
  ∃ v, e = .returned (.agg #[v, .int .i64 (hC s c)]) ∧ Below w.heap.size w w' ∧ RdR w' v (hL s (pushL L c.toNat M))
theorem push_any (x y : Value) (c : Int) (L M : List Rw) (s : Bool) (w : World) (hx : RdR w x L) (hy : RdR w y M) (hl : L.length ≤ 5000) (hm : M.length ≤ 5000) (hs : hsaneB L c = s) :
    Calls Try.prog 23 #[.agg #[x, .int .i64 c], y] w (PushA s c L M w) := by
  cases s
  · refine (push_no x y c L w hx hl hs).mono ?_
    rintro e w' ⟨rfl, hg⟩
    exact ⟨_, rfl, hg.below, RdR.nil _ _ _⟩
  · refine (push_c x y c L M w hx hy hl hm hs).mono ?_
    rintro e w' ⟨v, rfl, hg, h, -⟩
    exact ⟨_, rfl, hg, h⟩
theorem push10_any (x y : Value) (c : Int) (L M : List Rw) (s : Bool) (w : World) (hx : RdR w x L) (hy : RdR w y M) (hl : L.length ≤ 5000) (hm : M.length ≤ 5000) (hs : hsaneB L c = s) :
    Calls Try.prog 43 #[.agg #[x, .int .i64 c], y] w (PushA s c L M w) := by
  cases s
  · refine (push10_no x y c L w hx hl hs).mono ?_
    rintro e w' ⟨rfl, hg⟩
    exact ⟨_, rfl, hg.below, RdR.nil _ _ _⟩
  · refine (push10_yes x y c L M w hx hy hl hm hs).mono ?_
    rintro e w' ⟨v, rfl, hg, h⟩
    exact ⟨_, rfl, hg, h⟩
def WinA (s : Bool) (L G : List Rw) (q : Nat) (w : World) (e : Ending) (w' : World) : Prop := ∃ v, e = .returned v ∧ Below w.heap.size w w' ∧ RdR w' v (hL s (winL L G q))
theorem win_any (x y : Value) (c k : Int) (L G : List Rw) (q : Nat) (s : Bool) (w : World) (hx : RdR w x L) (hy : RdR w y G) (hl : L.length ≤ 5000) (hm : G.length ≤ 5000) (hs : (hsaneB L c && gsaneB G) = s) (hq : (q : Int) = max 0 (min k L.length)) :
    Calls Try.prog 35 #[.agg #[x, .int .i64 c], .agg #[y], .int .i64 k] w (WinA s L G q w) := by
  cases s
  · refine (window_no x y c k L G w hx hy hl hm (fun h => by rw [h.1, h.2] at hs; cases hs)).mono ?_
    rintro e w' ⟨rfl, hg⟩
    exact ⟨_, rfl, hg.below, RdR.nil _ _ _⟩
  · obtain ⟨h1, h2⟩ := (Bool.and_eq_true _ _ ▸ hs : hsaneB L c = true ∧ gsaneB G = true)
    refine (window_c x y c k L G q w hx hy hl hm h1 h2 hq).mono ?_
    rintro e w' ⟨v, rfl, hg, h⟩
    exact ⟨_, rfl, hg, h⟩
theorem win10_any (x y : Value) (c k : Int) (L G : List Rw) (q : Nat) (s : Bool) (w : World) (hx : RdR w x L) (hy : RdR w y G) (hl : L.length ≤ 5000) (hm : G.length ≤ 5000) (hs : (hsaneB L c && gsaneB G) = s) (hq : (q : Int) = max 0 (min k L.length)) :
    Calls Try.prog 44 #[.agg #[x, .int .i64 c], .agg #[y], .int .i64 k] w (WinA s L G q w) := by
  cases s
  · refine (window10_no x y c k L G w hx hy hl hm (fun h => by rw [h.1, h.2] at hs; cases hs)).mono ?_
    rintro e w' ⟨rfl, hg⟩
    exact ⟨_, rfl, hg.below, RdR.nil _ _ _⟩
  · obtain ⟨h1, h2⟩ := (Bool.and_eq_true _ _ ▸ hs : hsaneB L c = true ∧ gsaneB G = true)
    refine (window10_yes x y c k L G q w hx hy hl hm h1 h2 hq).mono ?_
    rintro e w' ⟨v, rfl, hg, h⟩
    exact ⟨_, rfl, hg, h⟩
theorem cells_any (x : Value) (c : Int) (L : List Rw) (s : Bool) (w : World) (hx : RdR w x L) (hl : L.length ≤ 5000) (hs : hsaneB L c = s) :
    Calls Try.prog 27 #[.agg #[x, .int .i64 c]] w fun e w' => e = .returned (.int .i64 (if s = true then cellsL L else 0)) ∧ Grew w w' := by
  cases s
  · exact cells_no x c L w hx hl hs
  · exact hcells_c x c L w hx hl hs
theorem cells10_any (x : Value) (c : Int) (L : List Rw) (s : Bool) (w : World) (hx : RdR w x L) (hl : L.length ≤ 5000) (hs : hsaneB L c = s) :
    Calls Try.prog 45 #[.agg #[x, .int .i64 c]] w fun e w' => e = .returned (.int .i64 (if s = true then cellsL L else 0)) ∧ Grew w w' := by
  cases s
  · exact cells10_no x c L w hx hl hs
  · exact cells10_yes x c L w hx hl hs
theorem hL_len (s : Bool) (L : List Rw) : (hL s L).length ≤ L.length := by cases s <;> simp [hL]
end Go.Proofs.Ytpnadnjcacaibaa.Row
