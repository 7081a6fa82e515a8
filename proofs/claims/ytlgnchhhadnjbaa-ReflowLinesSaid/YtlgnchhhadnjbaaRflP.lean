/- reflow: the plain model; words for rows and lines of a call's own. -/
import Derived.Test.YtlgnchhhadnjbaaRflA
namespace Go.Proofs.Ytlgnchhhadnjbaa.Row
open Go.RowKit
theorem lt_add_r2 (a b x : Nat) (h : a < b) : (a < b + x) = True := by simp; omega
theorem le_add_r2 (a b x : Nat) (h : a ≤ b) : (a ≤ b + x) = True := by simp; omega
/-- a row's shape -/
structure Sh where
  cs : List Cl
  wb : Bool
  dir : Int
  ex : Bool
deriving DecidableEq
/-- a line -/
structure Ls where
  cs : List Cl
  dir : Int
  ex : Bool
deriving DecidableEq
def Rw.sh (r : Rw) : Sh := ⟨listF r.n r.f, r.wb, r.dir, r.ex⟩
def okC (c : Cl) : Bool := decide (c.w = 1 ∨ c.w = 2) && fitsB c
theorem okC_iff {c : Cl} : okC c = true ↔ (c.w = 1 ∨ c.w = 2) ∧ fitsB c = true := by unfold okC; rw [Bool.and_eq_true, decide_eq_true_eq]
def wF (c : Cl) (i : Nat) : Cl := if i = 0 then c else halfOf c
theorem whole_f (c : Cl) (i : Nat) (hi : i < (wholeL c).length) : (wholeL c)[i]? = some (wF c i) := by
  unfold wholeL wF at *
  split
  · rename_i h
    rw [if_pos h] at hi
    simp at hi
    match i, hi with
    | 0, _ => rfl
    | 1, _ => rfl
  · rename_i h
    rw [if_neg h] at hi
    simp at hi
    subst hi
    rfl
theorem fits_halfO {c : Cl} (h : fitsB c = true) : fitsB (halfOf c) = true := by
  unfold fitsB at *
  rw [decide_eq_true_eq] at *
  simp [halfOf]
  exact h.2.2.2.2.2.2.2.2.2.1
theorem sane_whole (c : Cl) (h : c.w = 1 ∨ c.w = 2) : saneB (wholeL c).length (wF c) 0 = fitsB c := by
  rw [Bool.eq_iff_iff, sane_iff]
  constructor
  · rintro ⟨h1, -, -, -, h2⟩
    exact (h2 0 (by omega)).1
  · intro hf
    rcases h with h | h
    · have hl : (wholeL c).length = 1 := by unfold wholeL; rw [if_neg (by omega)]; rfl
      rw [hl]
      refine ⟨by omega, by omega, by omega, by omega, fun i hi => ?_⟩
      obtain rfl : i = 0 := by omega
      refine ⟨hf, ?_⟩
      unfold lostB
      simp [wF, h]
    · have hl : (wholeL c).length = 2 := by unfold wholeL; rw [if_pos h]; rfl
      rw [hl]
      refine ⟨by omega, by omega, by omega, by omega, fun i hi => ?_⟩
      match i, hi with
      | 0, _ =>
        refine ⟨hf, ?_⟩
        unfold lostB
        simp [wF, h, halfOf]
      | 1, _ =>
        refine ⟨fits_halfO hf, ?_⟩
        unfold lostB
        simp [wF, h, halfOf]
def sanL (x : Ls) : Bool := decide (0 ≤ x.dir ∧ x.dir ≤ 2 ∧ ∀ c ∈ x.cs, okC c = true)
theorem sanL_iff {x : Ls} : sanL x = true ↔ 0 ≤ x.dir ∧ x.dir ≤ 2 ∧ ∀ c ∈ x.cs, okC c = true := by unfold sanL; rw [decide_eq_true_eq]
def stepS (w : Nat) (s : List (List Cl) × List Cl) (c : Cl) : List (List Cl) × List Cl :=
  if (w : Int) < c.w then s else if (w : Int) < s.2.length + c.w then (s.1 ++ [s.2], wholeL c) else (s.1, s.2 ++ wholeL c)
def padF (l : List Cl) (i : Nat) : Cl := (l[i]?).getD (blank 0 0 0)
def rowS (x : Ls) (w : Nat) (b : Bool) (l : List Cl) : Sh := ⟨listF w (padF l), b, x.dir, x.ex⟩
def finS (x : Ls) (w : Nat) (s : List (List Cl) × List Cl) : List Sh := s.1.map (rowS x w true) ++ [rowS x w false s.2]
def splitS (x : Ls) (w : Nat) : List Sh := finS x w (x.cs.foldl (stepS w) ([], []))
def wN (w : Int) : Nat := (max 1 (min w 4096)).toNat
theorem wN_eq (w : Int) : max 1 (min w 4096) = (wN w : Int) := by unfold wN; omega
theorem wN_le (w : Int) : 1 ≤ wN w ∧ wN w ≤ 4096 := by unfold wN; omega
def splitG (x : Ls) (w : Int) : List Sh := if sanL x = true then splitS x (wN w) else []
def spreadS (L : List Ls) (w : Int) : List Sh := L.flatMap (splitG · w)
theorem whole_len {c : Cl} (h : okC c = true) : ((wholeL c).length : Int) = c.w := by
  rcases (okC_iff.1 h).1 with h | h
  · unfold wholeL; rw [if_neg (by omega), h]; rfl
  · unfold wholeL; rw [if_pos h, h]; rfl
theorem rdC_at {w : World} {A : Option Addr} {n c k : Nat} {L : List Cl} {a : Cl} (h : RdX encC w (.slice A n c) L) (hk : L[k]? = some a) : ∃ b o, A = some ⟨b, o, none⟩ ∧ b < w.heap.size ∧ CellAt w b (o + k * 7) a := by
  obtain ⟨b, o, e, hb, hat⟩ := h.at_ hk
  exact ⟨b, o, e, hb, cellAt_ofX hat⟩
/-- a line in memory -/
structure Ln where
  A : Option Addr
  cap : Nat
  cs : List Cl
  dir : Int
  ex : Bool
def Ln.ls (l : Ln) : Ls := ⟨l.cs, l.dir, l.ex⟩
def Ln.cells (l : Ln) : List Value := [.slice l.A l.cs.length l.cap, .int .i64 l.dir, .bool l.ex]
def encL : Enc Ln := ⟨3, Ln.cells, fun _ => rfl, by decide, fun a u hu => by
  simp [Ln.cells] at hu
  rcases hu with rfl | rfl | rfl <;> rfl⟩
def Ln.ok (w : World) (l : Ln) : Prop := RdX encC w (.slice l.A l.cs.length l.cap) l.cs ∧ l.cs.length ≤ 10000000
theorem Ln.ok.below {w w' : World} {l : Ln} (h : l.ok w) (hb : Below w.heap.size w w') : l.ok w' := ⟨h.1.below hb, h.2⟩
theorem Ln.ok.rd {w : World} {l : Ln} (h : l.ok w) : RdX encC w (.slice l.A l.cs.length l.cap) l.cs := h.1
theorem Ln.ok.rdB {w w' : World} {l : Ln} (h : l.ok w) (hb : Below w.heap.size w w') : RdX encC w' (.slice l.A l.cs.length l.cap) l.cs := h.1.below hb
def RdL (w : World) (x : Value) (L : List Ln) : Prop := RdX encL w x L ∧ ∀ l ∈ L, l.ok w
theorem RdL.below {w w' : World} {x : Value} {L : List Ln} (h : RdL w x L) (hb : Below w.heap.size w w') : RdL w' x L := ⟨h.1.below hb, fun r hr => (h.2 r hr).below hb⟩
theorem RdL.at_ {w : World} {A : Option Addr} {n c : Nat} {L : List Ln} (h : RdL w (.slice A n c) L) {k : Nat} (hk : k < L.length) :
    ∃ b o, A = some ⟨b, o, none⟩ ∧ b < w.heap.size ∧ (w.cell? ⟨b, o + k * 3, none⟩ = some (.slice L[k].A L[k].cs.length L[k].cap) ∧ w.cell? ⟨b, o + k * 3 + 1, none⟩ = some (.int .i64 L[k].dir) ∧ w.cell? ⟨b, o + k * 3 + 2, none⟩ = some (.bool L[k].ex)) ∧ L[k].ok w := by
  obtain ⟨b, o, e, hb, hat⟩ := h.1.at_ (List.getElem?_eq_getElem hk)
  exact ⟨b, o, e, hb, ⟨hat 0 _ rfl, hat 1 _ rfl, hat 2 _ rfl⟩, h.2 _ (List.getElem_mem hk)⟩
/-- a row whose cells lie in a block of the call's own, but not in 'own' -/
def FrR (w : World) (base : Nat) (own : Option Nat) (r : Rw) : Prop := r.ok w ∧ ∃ b o, r.A = some ⟨b, o, none⟩ ∧ base ≤ b ∧ b < w.heap.size ∧ some b ≠ own
theorem FrR.gb {w w' : World} {base : Nat} {own row : Option Nat} {r : Rw} (h : FrR w base own r) (hg : w.grownBy w' row) (hne : ∀ b o, r.A = some ⟨b, o, none⟩ → some b ≠ row) {own' : Option Nat} (ho : ∀ b o, r.A = some ⟨b, o, none⟩ → b < w.heap.size → some b ≠ own') : FrR w' base own' r := by
  obtain ⟨⟨h1, h2⟩, b, o, hA, hb, hlt, hn⟩ := h
  refine ⟨⟨fun h0 => ?_, h2⟩, b, o, hA, hb, Nat.lt_of_lt_of_le hlt hg.size, ho b o hA hlt⟩
  obtain ⟨b', o', e, hb', hc⟩ := h1 h0
  rw [hA] at e
  injection e with e
  injection e with e1 e2
  subst e1 e2
  refine ⟨b, o, hA, Nat.lt_of_lt_of_le hb' hg.size, fun i hi => ?_⟩
  have hcell : ∀ j, w'.cell? ⟨b, j, none⟩ = w.cell? ⟨b, j, none⟩ := fun j => by
    unfold World.cell?
    rw [hg.block b hb' (hne b o hA)]
  obtain ⟨c0, c1, c2, c3, c4, c5, c6⟩ := hc i hi
  exact ⟨(hcell _).trans c0, (hcell _).trans c1, (hcell _).trans c2, (hcell _).trans c3, (hcell _).trans c4, (hcell _).trans c5, (hcell _).trans c6⟩
theorem FrR.below {w w' : World} {base : Nat} {own : Option Nat} {r : Rw} (h : FrR w base own r) (hb : Below w.heap.size w w') : FrR w' base own r := by
  obtain ⟨h1, b, o, hA, h2, h3, h4⟩ := h
  exact ⟨h1.below hb, b, o, hA, h2, Nat.lt_of_lt_of_le h3 hb.size, h4⟩
/-- a list of rows of the call's own, their cells too -/
def RowsX (w : World) (base : Nat) (v : Value) (R : List Rw) : Prop := OwnX encR w base 48 v R ∧ ∀ r ∈ R, FrR w base v.ownBlock r
theorem RowsX.below {w w' : World} {base : Nat} {v : Value} {R : List Rw} (h : RowsX w base v R) (hb : Below w.heap.size w w') : RowsX w' base v R :=
  ⟨h.1.below hb (Nat.le_refl _), fun r hr => (h.2 r hr).below hb⟩
theorem RowsX.rd {w : World} {base : Nat} {v : Value} {R : List Rw} (h : RowsX w base v R) : RdR w v R := ⟨h.1.rd, fun r hr => (h.2 r hr).1⟩
theorem RowsX.mono {w : World} {base base' : Nat} {v : Value} {R : List Rw} (h : RowsX w base v R) (hb : base' ≤ base) : RowsX w base' v R := by
  refine ⟨h.1.mono hb, fun r hr => ?_⟩
  obtain ⟨h1, b, o, hA, h2, h3, h4⟩ := h.2 r hr
  exact ⟨h1, b, o, hA, by omega, h3, h4⟩
theorem RowsX.app {w w' : World} {base : Nat} {v v' : Value} {R Z : List Rw} (h : RowsX w base v R) (hz : ∀ r ∈ Z, FrR w base v.ownBlock r) (ho : OwnX encR w' base 48 v' (R ++ Z)) (hg : w.grownBy w' v.ownBlock) (hor : v'.ownBlock = v.ownBlock ∨ v'.ownBlock = some w.heap.size) : RowsX w' base v' (R ++ Z) := by
  refine ⟨ho, fun r hr => ?_⟩
  have hf : FrR w base v.ownBlock r := by
    rcases List.mem_append.1 hr with hr | hr
    · exact h.2 r hr
    · exact hz r hr
  have hf' := hf
  obtain ⟨-, b, o, hA, -, -, hn⟩ := hf'
  refine hf.gb hg (fun b' o' e => ?_) (fun b' o' e hlt => ?_)
  · rw [hA] at e
    injection e with e
    injection e with e1 e2
    subst e1
    exact hn
  · rcases hor with hor | hor
    · rw [hor]
      rw [hA] at e
      injection e with e
      injection e with e1 e2
      subst e1
      exact hn
    · rw [hor]
      intro e0
      injection e0 with e0
      omega
theorem RowsX.nil (w : World) (base : Nat) : RowsX w base (.slice none 0 0) [] := ⟨OwnX.nil _ _ _, fun r hr => by cases hr⟩
theorem lineInfo : (Try.prog.info? 40).map (fun i => (i.zero, i.size, i.bytes)) = some (some (.agg #[.slice none 0 0, .int .i64 0, .bool false]), 3, 40) := by kernel_rfl
theorem line_parts : ∃ i, Try.prog.info? 40 = some i ∧ i.zero = some (.agg #[.slice none 0 0, .int .i64 0, .bool false]) ∧ i.size = 3 ∧ i.bytes = 40 := by
  obtain ⟨i, hi, hzz⟩ := Option.map_eq_some_iff.1 lineInfo
  simp only [Prod.mk.injEq] at hzz
  exact ⟨i, hi, hzz⟩
end Go.Proofs.Ytlgnchhhadnjbaa.Row
