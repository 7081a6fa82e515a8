/- reflow.Join: the lines in memory. -/
import Derived.Test.YtlgnchhhadnjbaaRflJ
import Derived.Test.YtlgnchhhadnjbaaRflD
namespace Go.Proofs.Ytlgnchhhadnjbaa.Row
open Go.RowKit
theorem ownX_slice {α : Type} {E : Enc α} {w : World} {base e : Nat} {v : Value} {L : List α} (h : OwnX E w base e v L) (h0 : 0 < L.length) : ∃ g c, v = .slice (some ⟨g, 0, none⟩) L.length c ∧ base ≤ g ∧ g < w.heap.size ∧ L.length ≤ c := by
  have h' := h
  unfold OwnX World.ownsRow at h'
  obtain ⟨_, ⟨_, e0⟩ | ⟨g, cap, cur, e1, h1, h2, h3, _⟩⟩ := h'
  · omega
  · exact ⟨g, cap, e1, h1, (Array.getElem?_eq_some_iff.1 h2).1, h3⟩
/-- lines of a call's own, the last one under way -/
structure JL (w : World) (base : Nat) (v : Value) (g cv : Nat) (M0 : List Ln) (B : Nat) (l : Ln) : Prop where
  hv : v = .slice (some ⟨g, 0, none⟩) (M0.length + 1) cv
  own : OwnX encL w base 40 v (M0 ++ [l])
  h1 : base ≤ B
  h2 : B ≤ w.heap.size
  h3 : g < B
  fr : ∀ l' ∈ M0, FrL w base B (some g) l'
  last : OwnX encC w B 59 (.slice l.A l.cs.length l.cap) l.cs
theorem JL.grown {w w' : World} {base g cv B : Nat} {v : Value} {M0 : List Ln} {l : Ln} (h : JL w base v g cv M0 B l) (hb : Below w.heap.size w w') : JL w' base v g cv M0 B l :=
  ⟨h.hv, h.own.below hb (Nat.le_refl _), h.h1, Nat.le_trans h.h2 hb.size, h.h3, fun l' hl => (h.fr l' hl).of hb.size (fun b _ hlt _ _ => hb.block b hlt), h.last.below hb (Nat.le_refl _)⟩
theorem JL.all {w : World} {base g cv B : Nat} {v : Value} {M0 : List Ln} {l : Ln} (h : JL w base v g cv M0 B l) : ∀ l' ∈ M0 ++ [l], FrL w base w.heap.size v.ownBlock l' := by
  intro l' hl'
  have hvo : v.ownBlock = some g := by rw [h.hv]; rfl
  rw [hvo]
  rcases List.mem_append.1 hl' with hm | hm
  · exact (h.fr l' hm).own h.h2 (fun b _ hb => hb)
  · obtain rfl := List.mem_singleton.1 hm
    refine ⟨h.last.rd, fun b o e => ?_⟩
    have hlt := h.last.lt (g := b) (by rw [e]; rfl)
    have := h.h1
    have := h.h3
    exact ⟨by omega, hlt.2, fun e => by injection e; omega⟩
/-- lines of a call's own: none, or one under way -/
def JJ (w : World) (base : Nat) (v : Value) (Ms : List Ln) : Prop := (v = .slice none 0 0 ∧ Ms = []) ∨ ∃ g cv M0 B l, Ms = M0 ++ [l] ∧ JL w base v g cv M0 B l
theorem JJ.own {w : World} {base : Nat} {v : Value} {Ms : List Ln} (h : JJ w base v Ms) : OwnX encL w base 40 v Ms := by
  rcases h with ⟨rfl, rfl⟩ | ⟨g, cv, M0, B, l, rfl, h⟩
  · exact OwnX.nil _ _ _
  · exact h.own
theorem JJ.all {w : World} {base : Nat} {v : Value} {Ms : List Ln} (h : JJ w base v Ms) : ∀ l ∈ Ms, FrL w base w.heap.size v.ownBlock l := by
  rcases h with ⟨rfl, rfl⟩ | ⟨g, cv, M0, B, l, rfl, h⟩
  · intro l hl
    cases hl
  · exact h.all
theorem JJ.grown {w w' : World} {base : Nat} {v : Value} {Ms : List Ln} (h : JJ w base v Ms) (hb : Below w.heap.size w w') : JJ w' base v Ms := by
  rcases h with h | ⟨g, cv, M0, B, l, rfl, h⟩
  · exact .inl h
  · exact .inr ⟨g, cv, M0, B, l, rfl, h.grown hb⟩
/-- a new line behind them -/
theorem JJ.new {w w' : World} {base : Nat} {v v' : Value} {Ms : List Ln} {o : Obj} {dir : Int} {ex : Bool} (h : JJ w base v Ms) (ho : OwnX encL w' base 40 v' (Ms ++ [⟨none, 0, [], dir, ex⟩])) (hg : (w.alloc o).grownBy w' v.ownBlock)
    (hor : v'.ownBlock = v.ownBlock ∨ v'.ownBlock = some (w.alloc o).heap.size) (hbase : base ≤ w.heap.size) : ∃ g cv B, JL w' base v' g cv Ms B ⟨none, 0, [], dir, ex⟩ := by
  obtain ⟨g, cv, hv, h1, h2, h3⟩ := ownX_slice ho (by simp)
  have hsz := hg.size
  rw [World.size_alloc] at hsz
  refine ⟨g, cv, w'.heap.size, by rw [hv]; simp, ho, by omega, Nat.le_refl _, h2, fun l' hl' => ?_, OwnX.nil _ _ _⟩
  have hf := h.all l' hl'
  have hvo : v'.ownBlock = some g := by rw [hv]; rfl
  rw [← hvo]
  refine FrL.own (B := w.heap.size) (own := v.ownBlock) (hf.of (w' := w') (by omega) (fun b hb hlt hne hb2 => ?_)) (by omega) (fun b hb hne => ?_)
  · rw [hg.block b (by rw [World.size_alloc]; omega) hne]
    exact Below.heap_alloc w o b hlt
  · rcases hor with hor | hor
    · rw [hor]
      exact hne
    · rw [hor]
      intro e
      injection e with e
      rw [World.size_alloc] at e
      omega
/-- a cell more in the last line -/
theorem JL.step {w w1 w6 : World} {base g cv B c6 n6 : Nat} {v : Value} {M0 : List Ln} {l : Ln} {ce : Cl} {A6 : Option Addr} (h : JL w base v g cv M0 B l) (hb : Below w.heap.size w w1)
    (hn6 : n6 = (l.cs ++ [ce]).length) (ho : OwnX encC w6 B 59 (.slice A6 n6 c6) (l.cs ++ [ce])) (hg : w1.grownBy w6 (Value.slice l.A l.cs.length l.cap).ownBlock) {p : Nat} (hp : p = M0.length * 3) :
    JL (w6.setCell ⟨g, p, none⟩ (.slice A6 n6 c6)) base v g cv M0 B ⟨A6, c6, l.cs ++ [ce], l.dir, l.ex⟩ := by
  subst hn6
  have h1 := h.grown hb
  have hlt := fun k (hk : (Value.slice l.A l.cs.length l.cap).ownBlock = some k) => h1.last.lt hk
  have hs6 := hg.size
  have hB2 := h1.h2
  have h3 := h1.h3
  have hgne : some g ≠ (Value.slice l.A l.cs.length l.cap).ownBlock := fun e => by have := hlt g e.symm; omega
  have hown6 : OwnX encL w6 base 40 v (M0 ++ [l]) := h1.own.gb hg (fun k hk => by
    have hvo : v.ownBlock = some g := by rw [h1.hv]; rfl
    rw [hvo] at hk
    injection hk with hk
    rw [← hk]
    exact hgne)
  refine ⟨h.hv, ?_, h.h1, by simpa [World.setCell] using (by omega : B ≤ w6.heap.size), h.h3, fun l' hl' => ?_, ?_⟩
  · have hv := h.hv
    subst hv
    have := ownX_set (E := encL) (a' := ⟨A6, c6, l.cs ++ [ce], l.dir, l.ex⟩) (u := .slice A6 (l.cs ++ [ce]).length c6) hown6 (k := M0.length) (i := 0) (a := l) (by simp) (by show 0 < 3; omega) rfl (p := p) (by rw [hp]; rfl)
    rwa [List.set_append_right _ _ (Nat.le_refl _), Nat.sub_self, List.set_cons_zero] at this
  · refine (h1.fr l' hl').of (by simpa [World.setCell] using hs6) (fun b hbB hblt hbne _ => ?_)
    rw [Below.heap_setCell _ _ _ _ (by show b ≠ g; exact fun e => hbne (by rw [e]))]
    exact hg.block b hblt (fun e => by have := hlt b e.symm; omega)
  · refine ho.of (fun k hk => Below.heap_setCell _ _ _ _ (by show k ≠ g; have := ho.lt hk; omega))
theorem ownX_frz {α : Type} {E : Enc α} {w : World} {base e g n c : Nat} {L : List α} (h : OwnX E w base e (.slice (some ⟨g, 0, none⟩) n c) L) (i : Nat) : w.frozen? ⟨g, i, none⟩ = false := by
  unfold OwnX World.ownsRow at h
  obtain ⟨_, ⟨h0, _⟩ | ⟨g', cap, cur, hv, hb, hg, _⟩⟩ := h
  · cases h0
  · injection hv with e1 e2 e3
    injection e1 with e1
    injection e1 with e1 _
    subst e1
    simp [World.frozen?, hg]
theorem ownL_cell {w : World} {base e g n c m : Nat} {L : List Ln} {l : Ln} (h : OwnX encL w base e (.slice (some ⟨g, 0, none⟩) n c) L) (hm : L[m]? = some l) : w.cell? ⟨g, m * 3, none⟩ = some (.slice l.A l.cs.length l.cap) := by
  have h1 := h.rd
  obtain ⟨A, c', e', _, _⟩ := h1
  have hn : n = L.length := by
    injection e'
  subst hn
  have := h.rd.at' hm 0 _ rfl
  rw [Nat.zero_add] at this
  exact this
end Go.Proofs.Ytlgnchhhadnjbaa.Row
