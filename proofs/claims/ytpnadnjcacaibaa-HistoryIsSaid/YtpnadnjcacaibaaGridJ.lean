/- Contracts of grid's functions with their footprints; lapwinglaw09.awake. -/
import Derived.Test.YtpnadnjcacaibaaGridI
import Derived.Test.YtpnadnjcacaibaaGridF
import Derived.Test.YtpnadnjcacaibaaHistLots
namespace Go.Proofs.Ytpnadnjcacaibaa.Row
open Go.RowKit
/-- P, or made since -/
def since (P : Nat → Prop) (s : Nat) (b : Nat) : Prop := P b ∨ s ≤ b
theorem ft_mk {P : Nat → Prop} {x : Value} {n m g c : Nat} {F H : Nat → Rw} {s : Nat} (h : Ft P x (listG m F)) (hg : s ≤ g) (hH : ∀ i, i < n → (∃ j, j < m ∧ H i = F j) ∨ ∃ B, s ≤ B ∧ (H i).A = some ⟨B, 0, none⟩) : Ft (since P s) (.slice (some ⟨g, 0, none⟩) n c) (listG n H) := by
  refine ⟨fun _ b o c n e => ?_, fun r hr h0 b o e => ?_⟩
  · injection e with e
    injection e with e
    injection e with e
    exact .inr (e ▸ hg)
  · obtain ⟨i, hi, rfl⟩ := listG_mem.1 hr
    rcases hH i hi with ⟨j, hj, ej⟩ | ⟨B, hB, eB⟩
    · exact .inl (h.2 _ (listG_mem.2 ⟨j, hj, rfl⟩) (by rw [← ej]; exact h0) b o (by rw [← ej]; exact e))
    · rw [eB] at e
      injection e with e
      injection e with e
      exact .inr (e ▸ hB)
def UpF (x : Value) (n : Nat) (F : Nat → Rw) (t b q : Nat) (fg bg fl : Int) (w : World) (e : Ending) (w' : World) : Prop :=
  ∃ (g c : Nat) (v2 : Value) (B : Nat → Nat), e = .returned (.tuple #[.agg #[.slice (some ⟨g, 0, none⟩) n c], v2]) ∧ Below w.heap.size w w' ∧ n ≤ c ∧
      RdR w' (.slice (some ⟨g, 0, none⟩) n c) (listG n (layG (mvG F t q (b - t - q)) (b - q) q B (F 0).n fg bg fl)) ∧ RdR w' v2 (listG q (fun i => F (t + i))) ∧
      ∀ P, Ft P x (listG n F) → Ft (since P w.heap.size) (.slice (some ⟨g, 0, none⟩) n c) (listG n (layG (mvG F t q (b - t - q)) (b - q) q B (F 0).n fg bg fl)) ∧ Ft (since P w.heap.size) v2 (listG q (fun i => F (t + i)))
theorem up_f (x : Value) (n : Nat) (F : Nat → Rw) (t b q : Nat) (k fg bg fl : Int) (w : World) (hx : RdR w x (listG n F)) (hs : gsaneB (listG n F) = true) (hp : penB fg bg fl = true) (htb : t < b) (hbn : b ≤ n) (hq : (q : Int) = max 0 (min k ((b : Int) - t))) :
    Calls Try.prog 39 #[.agg #[x], .int .i64 t, .int .i64 b, .int .i64 k, .agg #[.int .i64 fg, .int .i64 bg, .int .i64 fl]] w (UpF x n F t b q fg bg fl w) := by
  refine (up_c x n F t b q k fg bg fl w hx hs hp htb hbn hq).mono ?_
  rintro e w' ⟨g, c, v2, B, rfl, h1, h2, h3, h4, h5, h6, h7⟩
  have hqb : t + q ≤ b := by omega
  refine ⟨g, c, v2, B, rfl, h1, h2, h4, h6, fun P hP => ⟨ft_mk hP h3 fun i hi => ?_, ⟨fun _ b o c n e => .inr (h7 b o n c e), fun r hr h0 b' o e => ?_⟩⟩⟩
  · unfold layG
    split
    · rename_i h
      exact .inr ⟨_, h5 _ (by omega), rfl⟩
    · left
      unfold mvG
      split
      · rename_i h
        exact ⟨_, by omega, rfl⟩
      · exact ⟨i, hi, rfl⟩
  · obtain ⟨i, hi, rfl⟩ := listG_mem.1 hr
    exact .inl (hP.2 _ (listG_mem.2 ⟨t + i, by omega, rfl⟩) h0 b' o e)
def DownF (x : Value) (n : Nat) (F : Nat → Rw) (t b q : Nat) (fg bg fl : Int) (w : World) (e : Ending) (w' : World) : Prop :=
  ∃ (g c : Nat) (B : Nat → Nat), e = .returned (.agg #[.slice (some ⟨g, 0, none⟩) n c]) ∧ Below w.heap.size w w' ∧ n ≤ c ∧
      RdR w' (.slice (some ⟨g, 0, none⟩) n c) (listG n (layG (mdG F t q (b - t - q)) t q B (F 0).n fg bg fl)) ∧
      ∀ P, Ft P x (listG n F) → Ft (since P w.heap.size) (.slice (some ⟨g, 0, none⟩) n c) (listG n (layG (mdG F t q (b - t - q)) t q B (F 0).n fg bg fl))
theorem down_f (x : Value) (n : Nat) (F : Nat → Rw) (t b q : Nat) (k fg bg fl : Int) (w : World) (hx : RdR w x (listG n F)) (hs : gsaneB (listG n F) = true) (hp : penB fg bg fl = true) (htb : t < b) (hbn : b ≤ n) (hq : (q : Int) = max 0 (min k ((b : Int) - t))) :
    Calls Try.prog 53 #[.agg #[x], .int .i64 t, .int .i64 b, .int .i64 k, .agg #[.int .i64 fg, .int .i64 bg, .int .i64 fl]] w (DownF x n F t b q fg bg fl w) := by
  refine (down_c x n F t b q k fg bg fl w hx hs hp htb hbn hq).mono ?_
  rintro e w' ⟨g, c, B, rfl, h1, h2, h3, h4, h5⟩
  have hqb : t + q ≤ b := by omega
  refine ⟨g, c, B, rfl, h1, h2, h4, fun P hP => ft_mk hP h3 fun i hi => ?_⟩
  unfold layG
  split
  · rename_i h
    exact .inr ⟨_, h5 _ (by omega), rfl⟩
  · left
    unfold mdG
    split
    · rename_i h
      exact ⟨_, by omega, rfl⟩
    · exact ⟨i, hi, rfl⟩
def ClearF (x : Value) (n : Nat) (F : Nat → Rw) (t q : Nat) (fg bg fl : Int) (w : World) (e : Ending) (w' : World) : Prop :=
  ∃ (g c : Nat) (B : Nat → Nat), e = .returned (.agg #[.slice (some ⟨g, 0, none⟩) n c]) ∧ Below w.heap.size w w' ∧ n ≤ c ∧
      RdR w' (.slice (some ⟨g, 0, none⟩) n c) (listG n (layG F t q B (F 0).n fg bg fl)) ∧
      ∀ P, Ft P x (listG n F) → Ft (since P w.heap.size) (.slice (some ⟨g, 0, none⟩) n c) (listG n (layG F t q B (F 0).n fg bg fl))
theorem clear_f (x : Value) (n : Nat) (F : Nat → Rw) (t q tz : Nat) (from_ to_ fg bg fl : Int) (w : World) (hx : RdR w x (listG n F)) (hs : gsaneB (listG n F) = true) (hp : penB fg bg fl = true) (hF : max 0 (min from_ n) = (t : Int)) (hT : max 0 (min to_ n) = (tz : Int)) (hq : t + q = max t tz) :
    Calls Try.prog 52 #[.agg #[x], .int .i64 from_, .int .i64 to_, .agg #[.int .i64 fg, .int .i64 bg, .int .i64 fl]] w (ClearF x n F t q fg bg fl w) := by
  refine (clear_c x n F t q tz from_ to_ fg bg fl w hx hs hp hF hT hq).mono ?_
  rintro e w' ⟨g, c, B, rfl, h1, h2, h3, h4, h5⟩
  refine ⟨g, c, B, rfl, h1, h2, h4, fun P hP => ft_mk hP h3 fun i hi => ?_⟩
  unfold layG
  split
  · rename_i h
    exact .inr ⟨_, h5 _ (by omega), rfl⟩
  · exact .inl ⟨i, hi, rfl⟩
def SetF (x : Value) (n : Nat) (F : Nat → Rw) (y : Nat) (r : Rw) (w : World) (e : Ending) (w' : World) : Prop :=
  ∃ (g c : Nat), e = .returned (.agg #[.slice (some ⟨g, 0, none⟩) n c]) ∧ Below w.heap.size w w' ∧ n ≤ c ∧ RdR w' (.slice (some ⟨g, 0, none⟩) n c) (listG n (updG F y r)) ∧
    ∀ P : Nat → Prop, Ft P x (listG n F) → (0 < r.n → ∀ b o, r.A = some ⟨b, o, none⟩ → P b) → Ft (since P w.heap.size) (.slice (some ⟨g, 0, none⟩) n c) (listG n (updG F y r))
theorem set_f (x : Value) (n : Nat) (F : Nat → Rw) (y : Nat) (r : Rw) (w : World) (hx : RdR w x (listG n F)) (hok : r.ok w) (hs : gsaneB (listG n F) = true) (hy : y < n) (hrn : r.n = (F 0).n) (hsr : saneRw r = true) :
    Calls Try.prog 51 #[.agg #[x], .int .i64 y, .agg #[.slice r.A r.n r.cap, .bool r.wb, .int .i64 r.dir, .bool r.ex]] w (SetF x n F y r w) := by
  refine (set_yes x n F y r w hx hok hs hy hrn hsr).mono ?_
  rintro e w' ⟨g, c, rfl, h1, h2, h3, h4⟩
  refine ⟨g, c, rfl, h1, h2, h4, fun P hP hr => ⟨fun _ b o c n e => ?_, fun s hs h0 b o e => ?_⟩⟩
  · injection e with e
    injection e with e
    injection e with e
    exact .inr (e ▸ h3)
  · obtain ⟨i, hi, rfl⟩ := listG_mem.1 hs
    left
    unfold updG at h0 e
    split at e
    · rename_i h
      rw [if_pos h] at h0
      exact hr h0 b o e
    · rename_i h
      rw [if_neg h] at h0
      exact hP.2 _ (listG_mem.2 ⟨i, hi, rfl⟩) h0 b o e
def GNewF (n q : Nat) (fg bg fl : Int) (w : World) (e : Ending) (w' : World) : Prop :=
  ∃ (g : Nat) (B : Nat → Nat), e = .returned (.agg #[.slice (some ⟨g, 0, none⟩) n n]) ∧ Below w.heap.size w w' ∧ RdR w' (.slice (some ⟨g, 0, none⟩) n n) (listG n (fun i => newRw (B i) q fg bg fl)) ∧ Ft (since (fun _ => False) w.heap.size) (.slice (some ⟨g, 0, none⟩) n n) (listG n (fun i => newRw (B i) q fg bg fl))
theorem gnew_f (h v : Int) (n q : Nat) (fg bg fl : Int) (w : World) (hn : max 1 (min h 1000) = (n : Int)) (hv : max 1 (min v 4096) = (q : Int)) :
    Calls Try.prog 68 #[.int .i64 h, .int .i64 v, .agg #[.int .i64 fg, .int .i64 bg, .int .i64 fl]] w (GNewF n q fg bg fl w) := by
  refine (gnew_c h v n q fg bg fl w hn hv).mono ?_
  rintro e w' ⟨g, B, rfl, h1, h3, h4, h5⟩
  exact ⟨g, B, rfl, h1, h4, ft_mk (P := fun _ => False) (x := .slice none 0 0) (m := 0) (F := fun i => newRw (B i) q fg bg fl) ⟨fun h => absurd h (by simp [listG_len]), fun r hr => absurd hr (by simp [listG])⟩ h3 fun i hi => .inr ⟨_, h5 i hi, rfl⟩⟩
end Go.Proofs.Ytpnadnjcacaibaa.Row
