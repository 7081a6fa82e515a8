/- Whatever is done to a screen that may be, it may be (plain). -/
import Derived.Test.YtlchffkabpfjpaaScrD
namespace Go.Proofs.Ytlchffkabpfjpaa.Scr
open Go.RowKit Go.Proofs.Ytlchffkabpfjpaa.Row
theorem gsC_of {n : Nat} {G : Nat → Ct} (m : Nat) (h1 : 1 ≤ n) (h2 : n ≤ 1000) (h : ∀ i, i < n → (G i).n = m ∧ (G i).sane = true) : gsC n G = true := by
  unfold gsC
  exact decide_eq_true ⟨h1, h2, fun i hi => ⟨(h i hi).1.trans (h 0 (by omega)).1.symm, (h i hi).2⟩⟩
theorem gsC_get {n : Nat} {G : Nat → Ct} (h : gsC n G = true) : 1 ≤ n ∧ n ≤ 1000 ∧ ∀ i, i < n → (G i).n = (G 0).n ∧ (G i).sane = true := by
  unfold gsC at h
  exact of_decide_eq_true h
theorem ct_len {c : Ct} (h : c.sane = true) : 1 ≤ c.n ∧ c.n ≤ 4096 := sane_len h
theorem newC_sane {q : Nat} {fg bg fl : Int} (h1 : 1 ≤ q) (h2 : q ≤ 4096) (hp : penB fg bg fl = true) : (newC q fg bg fl).sane = true := new_saneRw 0 q fg bg fl h1 h2 hp
/-- rows that are each one of those that were, or new -/
theorem gsC_sub {n : Nat} {G H : Nat → Ct} {fg bg fl : Int} (h : gsC n G = true) (hp : penB fg bg fl = true) (k : ∀ i, i < n → (∃ j, j < n ∧ H i = G j) ∨ H i = newC (G 0).n fg bg fl) : gsC n H = true ∧ (H 0).n = (G 0).n := by
  obtain ⟨h1, h2, h3⟩ := gsC_get h
  have hl := ct_len (h3 0 (by omega)).2
  have hh : ∀ i, i < n → (H i).n = (G 0).n ∧ (H i).sane = true := fun i hi => by
    rcases k i hi with ⟨j, hj, e⟩ | e
    · rw [e]
      exact h3 j hj
    · rw [e]
      exact ⟨rfl, newC_sane hl.1 hl.2 hp⟩
  exact ⟨gsC_of _ h1 h2 hh, (hh 0 (by omega)).1⟩
theorem gsC_upd {n : Nat} {G : Nat → Ct} {k : Nat} {c : Ct} (h : gsC n G = true) (hc : c.sane = true) (hn : c.n = (G 0).n) : gsC n (updC G k c) = true ∧ (updC G k c 0).n = (G 0).n := by
  obtain ⟨h1, h2, h3⟩ := gsC_get h
  have hh : ∀ i, i < n → (updC G k c i).n = (G 0).n ∧ (updC G k c i).sane = true := fun i hi => by
    unfold updC
    split
    · exact ⟨hn, hc⟩
    · exact h3 i hi
  exact ⟨gsC_of _ h1 h2 hh, (hh 0 (by omega)).1⟩
section
variable {m : Md}
/-- other rows -/
theorem Md.Ok.withG (h : m.Ok) {G : Nat → Ct} (hg : gsC m.n G = true ∧ (G 0).n = (m.G 0).n) : Md.Ok { m with G := G } :=
  ⟨h.d0, h.d2, h.cu, h.tb, h.tw, hg.1, h.nH, by show ((G 0).n : Int) = _; rw [hg.2]; exact h.nW, h.hs⟩
theorem Md.Ok.withK (h : m.Ok) {K : List Ct} (hk : hsC K m.kp = true) : Md.Ok { m with K := K } := ⟨h.d0, h.d2, h.cu, h.tb, h.tw, h.gs, h.nH, h.nW, hk⟩
theorem Md.Ok.setR (h : m.Ok) {c : Ct} (hc : c.sane = true) (hn : (c.n : Int) = m.W) : (m.setR c).Ok := h.withG (gsC_upd h.gs hc (by have := h.nW; omega))
theorem Md.Ok.mar (h : m.Ok) : m.T.toNat < m.B.toNat ∧ m.B.toNat ≤ m.n ∧ ((m.T.toNat : Nat) : Int) = m.T ∧ ((m.B.toNat : Nat) : Int) = m.B := by
  have := h.cf.t0
  have := h.cf.tb
  have := h.cf.bh
  have := h.nH
  omega
theorem up_rows (h : m.Ok) {t b q : Nat} (_hq : t + q ≤ b) (_hb : b ≤ m.n) : gsC m.n (layC (mvC m.G t q (b - t - q)) (b - q) q (m.G 0).n 0 m.bg 0) = true ∧ (layC (mvC m.G t q (b - t - q)) (b - q) q (m.G 0).n 0 m.bg 0 0).n = (m.G 0).n := by
  refine gsC_sub h.gs h.ground fun i hi => ?_
  unfold layC mvC
  split
  · exact .inr rfl
  · split
    · exact .inl ⟨_, by omega, rfl⟩
    · exact .inl ⟨i, hi, rfl⟩
theorem Md.Ok.upG (h : m.Ok) {t b q : Nat} (hq : t + q ≤ b) (hb : b ≤ m.n) : (m.upG t b q).Ok := h.withG (up_rows h hq hb)
theorem Md.Ok.dnG (h : m.Ok) {t b q : Nat} (_hq : t + q ≤ b) (_hb : b ≤ m.n) : (m.dnG t b q).Ok := by
  refine h.withG (gsC_sub h.gs h.ground fun i hi => ?_)
  unfold layC mdC
  split
  · exact .inr rfl
  · split
    · exact .inl ⟨_, by omega, rfl⟩
    · exact .inl ⟨i, hi, rfl⟩
theorem pushC_mem {K M : List Ct} {c : Nat} {x : Ct} (h : x ∈ pushC K c M) : x ∈ K ∨ (x ∈ M ∧ x.sane = true) := by
  unfold pushC at h
  rcases List.mem_append.1 (List.mem_of_mem_drop h) with h | h
  · exact .inl h
  · exact .inr (List.mem_filter.1 h)
theorem pushC_len (K : List Ct) (c : Nat) (M : List Ct) : (pushC K c M).length ≤ c := by
  unfold pushC
  rw [List.length_drop]
  omega
theorem hsC_push {K : List Ct} {kp : Int} (h : hsC K kp = true) (M : List Ct) : hsC (pushC K kp.toNat M) kp = true := by
  unfold hsC at h ⊢
  obtain ⟨h1, h2, h3, h4⟩ := of_decide_eq_true h
  have := pushC_len K kp.toNat M
  exact decide_eq_true ⟨h1, h2, by omega, fun c hc => (pushC_mem hc).elim (h4 c) (·.2)⟩
theorem Md.Ok.up (h : m.Ok) {q : Nat} (hq : m.T.toNat + q ≤ m.B.toNat) : (m.up q).Ok := by
  have h1 := h.upG hq h.mar.2.1
  unfold Md.up
  split
  · exact h1.withK (hsC_push h.hs _)
  · exact h1.withK h.hs
theorem Md.Ok.down (h : m.Ok) : m.down.Ok := by
  have hm := h.mar
  obtain ⟨h1, h2, w1, w2, t0, tb, bh, x0, x1, y0, y1, wx, oy⟩ := h.cf
  unfold Md.down
  split
  · exact h.dry.up (by show m.T.toNat + 1 ≤ m.B.toNat; omega)
  · refine h.move (x := m.x) ⟨h1, h2, w1, w2, t0, tb, bh, x0, x1, by omega, by omega, (fun h => by cases h), fun ho => ?_⟩
    have := oy ho
    omega
theorem Md.Ok.upC (h : m.Ok) : m.upC.Ok := by
  have hm := h.mar
  obtain ⟨h1, h2, w1, w2, t0, tb, bh, x0, x1, y0, y1, wx, oy⟩ := h.cf
  unfold Md.upC
  split
  · exact h.dry.dnG (by show m.T.toNat + 1 ≤ m.B.toNat; omega) hm.2.1
  · refine h.move (x := m.x) ⟨h1, h2, w1, w2, t0, tb, bh, x0, x1, by omega, by omega, (fun h => by cases h), fun ho => ?_⟩
    have := oy ho
    omega
/-- the row wraps, and the next one's beginning -/
def wrapC (b : Bool) (c : Ct) : Ct := { c with wb := b }
def Md.next (m : Md) : Md := { (m.setR (wrapC true m.here)).down with x := 0 }
theorem Md.down_wr (m : Md) : m.down.wr = false := by
  unfold Md.down
  split
  · unfold Md.up Md.upG
    rfl
  · rfl
theorem Md.Ok.x0 (h : m.Ok) (hw : m.wr = false) : Md.Ok { m with x := 0 } := by
  obtain ⟨h1, h2, w1, w2, t0, tb, bh, x0, x1, y0, y1, wx, oy⟩ := h.cf
  exact h.move (y := m.y) (wr := m.wr) ⟨h1, h2, w1, w2, t0, tb, bh, by omega, by omega, y0, y1, (fun e => by rw [hw] at e; cases e), oy⟩
theorem Md.Ok.wrapR (h : m.Ok) (b : Bool) : (m.setR (wrapC b m.here)).Ok := h.setR h.here.1 h.here.2
theorem Md.Ok.next (h : m.Ok) : m.next.Ok := (h.wrapR true).down.x0 (Md.down_wr _)
end
end Go.Proofs.Ytlchffkabpfjpaa.Scr
