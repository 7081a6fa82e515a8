/- Joined: RowI RowJ RflA RflP RflS RflT RflB RflC RflD. -/
import Derived.Test.YtlchffkabpfjpaaGreatGH
import Derived.Test.YtlchffkabpfjpaaGreatGG
import Derived.Deep.Cut
import Derived.Test.YtlchffkabpfjpaaGreatGA
import Derived.Test.YtlchffkabpfjpaaGreatGD
import Derived.Test.YtlchffkabpfjpaaGreatGB
import Derived.Deep.CutRange
import Derived.Test.YtlchffkabpfjpaaGreatGE
import Derived.RegionTactic
import Derived.ChangeAlike
import Derived.WalkMore
section
/- Walk of row.Letters. -/
namespace Go.Proofs.YtlchffkabpfjpaaGreat.Row
open Go.RowKit

/-- a cell's letter and marks -/
def lettersOf (c : Cl) : List Int := if c.w = 0 then [] else [if c.r = 0 then 32 else c.r] ++ ((if c.m0 = 0 then [] else [c.m0]) ++ (if c.m1 = 0 then [] else [c.m1]))
def lettersL (f : Nat → Cl) (a : Nat) : Nat → List Int
  | 0 => []
  | k + 1 => lettersL f a k ++ lettersOf (f (a + k))
end Go.Proofs.YtlchffkabpfjpaaGreat.Row
end
section
/- Walks of row.Letters at an empty range, row.Length, lapwingref03.Ints. -/
namespace Go.Proofs.YtlchffkabpfjpaaGreat.Row
open Go.RowKit

def hasB (c : Cl) : Bool := !(decide (c.r = 0)) || !(decide (c.fg = 0 ∧ c.bg = 0 ∧ c.fl = 0))
/-- how far there is something, of k cells -/
def lenF (f : Nat → Cl) : Nat → Int
  | 0 => 0
  | k + 1 => if hasB (f k) = true then k + max (f k).w 1 else lenF f k

set_option maxRecDepth 100000 in
set_option maxHeartbeats 4000000 in
theorem length_c (A : Option Addr) (n cap : Nat) (f : Nat → Cl) (wb : Bool) (dir : Int) (ex : Bool) (w : World) (hr : Rd w A n f) (hs : saneB n f dir = true) :
    Calls Tryz.prog 112 #[.agg #[.slice A n cap, .bool wb, .int .i64 dir, .bool ex]] w fun e w' => e = .returned (.int .i64 (lenF f n)) ∧ Below w.heap.size w w' := by
  obtain ⟨hn1, hn2⟩ := sane_len hs
  have HSN := Lib.hid hs
  have HRD := Lib.hid hr
  obtain ⟨bf, of_, rfl, hbf, hcf⟩ := hr (by omega)
  clear hcf
  have hnp := neq_pen
  go_enter Tryz.func112, Tryz.ntmps112
  go_wp2_with fail
  generalize hw0 : w.alloc _ = w0
  have hbw : Below w.heap.size w w0 := by rw [← hw0]; exact bcAll
  have hB1 : Blk w0 w.heap.size 64 #[.slice (some ⟨bf, of_, none⟩) n cap, .bool wb, .int .i64 dir, .bool ex] := by rw [← hw0]; exact Blk.new _ _ _
  clear hw0
  obtain ⟨r0, r1, r2, r3, rf, rl⟩ := hB1.facts4
  refine (sane_c (some ⟨bf, of_, none⟩) n cap f wb dir ex _ (hr.below hbw) (by omega)).mono ?_
  rintro e w1 ⟨rfl, hg⟩
  replace hg := hg.below
  replace hbw := hbw.trans (hg.mono hbw.size); replace hB1 := hB1.below hg hB1.lt; clear r0 r1 r2 r3 rf rl; obtain ⟨r0, r1, r2, r3, rf, rl⟩ := hB1.facts4; clear hg
  go_wp2_with fail
  have hbw2 : Below w.heap.size w w1 := hbw
  clear hB1 r0 r1 r2 r3 rf rl hbw hr hs
  go_loopw [3, 12] (fun v i wz => ∃ k : Nat, k ≤ n ∧ i = .int .i64 k ∧ v = .int .i64 (lenF f k) ∧ Below w.heap.size w wz) (fun _ i _ => n - (intOf i).toNat)
  case atStart => exact ⟨0, Nat.zero_le _, rfl, rfl, hbw2⟩
  case round =>
    obtain ⟨k, hk, rfl, rfl, hbz⟩ := hrel
    by_cases hlt : k < n
    · obtain ⟨b', o', e1, hbl, hcf⟩ := HRD.out.below hbz (by omega)
      injection e1 with e1
      injection e1 with e1 e2
      subst e1 e2
      have hck := hcf k hlt
      have hfz := fits_iff.1 (fits_of_sane HSN.out (i := k) (by omega))
      have HL1 : Hid (hasB (f k) = true → lenF f (k + 1) = k + max (f k).w 1) := fun h => if_pos h
      have HL2 : Hid (¬ hasB (f k) = true → lenF f (k + 1) = lenF f k) := fun h => if_neg h
      generalize f k = cl at *
      obtain ⟨R, m0, m1, W, fg, bg, fl⟩ := cl
      obtain ⟨c0, c1, c2, c3, c4, c5, c6⟩ := hck
      simp only at c0 c1 c2 c3 c4 c5 c6 hfz
      have hW : 0 ≤ W ∧ W ≤ 2 := by omega
      obtain ⟨hW0, hW2⟩ := hW
      clear hcf hfz
      have m2 : (k : Int) < (n : Int) := by omega
      have hws := hbz.size
      by_cases hR : R = 0
      · subst hR
        cases hp : decide (fg = 0 ∧ bg = 0 ∧ fl = 0)
        · go_wp2_with fail
          all_goals
            go_roundw
            case rel => exact ⟨k + 1, by omega, by go_num, by rw [HL1.out (by unfold hasB; simp only [hp]; rfl)]; congr 1; (show _ = _ + max W 1; split <;> omega), by exact bcAll⟩
            case measure => simp [intOf]; omega
        · go_wp2_with fail
          go_roundw
          case rel => exact ⟨k + 1, by omega, by go_num, by rw [HL2.out (by unfold hasB; simp only [hp]; simp)], by exact bcAll⟩
          case measure => simp [intOf]; omega
      · have hR' : (R != 0) = true := by simpa using hR
        have HR := Lib.hid hR
        clear hR
        go_wp2_with fail
        all_goals
          go_roundw
          case rel => exact ⟨k + 1, by omega, by go_num, by rw [HL1.out (by unfold hasB; simp [HR.out])]; congr 1; (show _ = _ + max W 1; split <;> omega), by exact bcAll⟩
          case measure => simp [intOf]; omega
    · obtain rfl : k = n := by omega
      go_wp2
      go_ret
      exact ⟨rfl, hbz⟩

end Go.Proofs.YtlchffkabpfjpaaGreat.Row
end
section
/- reflow: isBlank, whole, areSane (and the document's blank). -/
namespace Go.Proofs.YtlchffkabpfjpaaGreat.Row
open Go.RowKit
set_option maxRecDepth 100000 in
set_option maxHeartbeats 2000000 in
theorem isBlank_c (c : Cl) (w : World) : Calls Tryz.prog 121 #[.agg #[.int .i64 c.r, .int .i64 c.m0, .int .i64 c.m1, .int .i64 c.w, .int .i64 c.fg, .int .i64 c.bg, .int .i64 c.fl]] w fun e w' => e = .returned (.bool (decide (c = blank 0 0 0))) ∧ Grew w w' := by
  have he := eql_cell c (blank 0 0 0)
  go_enter Tryz.func121, Tryz.ntmps121
  go_upto_region 1 with fail
  generalize hw0 : w.alloc _ = w0
  have hb0 : Below w.heap.size w w0 := by rw [← hw0]; exact bcAll
  have hB : Blk w0 w.heap.size 67 #[.int .i64 c.r, .int .i64 c.m0, .int .i64 c.m1, .int .i64 c.w, .int .i64 c.fg, .int .i64 c.bg, .int .i64 c.fl] := by rw [← hw0]; exact Blk.new _ _ _
  clear hw0
  obtain ⟨q0, q1, q2, q3, q4, q5, q6, qf, ql⟩ := hB.facts7
  have hbs := hb0.size
  refine hr_start (S := (fun w' => w'.cell? ⟨w.heap.size, 0, none⟩ = some (.int .i64 c.r) ∧ w'.cell? ⟨w.heap.size, 1, none⟩ = some (.int .i64 c.m0) ∧ w'.cell? ⟨w.heap.size, 2, none⟩ = some (.int .i64 c.m1) ∧ w'.cell? ⟨w.heap.size, 3, none⟩ = some (.int .i64 c.w) ∧ w'.cell? ⟨w.heap.size, 4, none⟩ = some (.int .i64 c.fg) ∧ w'.cell? ⟨w.heap.size, 5, none⟩ = some (.int .i64 c.bg) ∧ w'.cell? ⟨w.heap.size, 6, none⟩ = some (.int .i64 c.fl))) (by kernel_rfl) rfl ?_ (fun hHeld => ?_)
  · ((try dsimp only); go_simp)
  refine hr_q 0 ?_
  simp only [st0, st1]
  refine hr_q 1 ?_
  simp only [st0, st1]
  refine hr_o 2 (fun K hK => ?_)
  go_simp
  ((with_reducible refine (blank_c 0 0 0 _).mono ?_); rintro e wq ⟨rfl, XB, dB, rfl⟩)
  (try go_wp2_with fail)
  refine hK.out _ _ ?_ (fun hHeld => ?_)
  · ((try dsimp only); go_simp)
  clear hK K
  simp only [st0, st1]
  refine hr_q 3 ?_
  simp only [st0, st1]
  refine hr_q 4 ?_
  simp only [st0, st1]
  refine hr_done (by kernel_rfl) ?_
  go_wp2_with fail
  go_ret
  exact ⟨rfl, (Below.toGrow (by exact bcAll))⟩
/-- the half behind a wide cell -/
def halfOf (c : Cl) : Cl := ⟨0, 0, 0, 0, c.fg, c.bg, c.fl⟩
def wholeL (c : Cl) : List Cl := if c.w = 2 then [c, halfOf c] else [c]
def WholeF (c : Cl) (w : World) (e : Ending) (w' : World) : Prop := ∃ A n, e = .returned (.slice A n n) ∧ n = (wholeL c).length ∧ Below w.heap.size w w' ∧ OwnX encC w' w.heap.size 67 (.slice A n n) (wholeL c)
set_option maxRecDepth 100000 in
set_option maxHeartbeats 2000000 in
theorem whole_c (c : Cl) (w : World) : Calls Tryz.prog 122 #[.agg #[.int .i64 c.r, .int .i64 c.m0, .int .i64 c.m1, .int .i64 c.w, .int .i64 c.fg, .int .i64 c.bg, .int .i64 c.fl]] w (WholeF c w) := by
  by_cases h2 : c.w = 2
  · go_enter Tryz.func122, Tryz.ntmps122
    go_wp2_with fail
    go_ret
    refine ⟨_, 2, rfl, by unfold wholeL; rw [if_pos h2]; rfl, by exact bcAll, ?_⟩
    have hl : wholeL c = [c, halfOf c] := if_pos h2
    rw [hl]
    exact ownX_lits _ _ _ _ 2 [c, halfOf c] _ (by simp [encC, Cl.cells, halfOf, h2]) rfl (by unfold maxLen; omega) (by simp) (by simp)
  · go_enter Tryz.func122, Tryz.ntmps122
    go_wp2_with fail
    go_ret
    refine ⟨_, 1, rfl, by unfold wholeL; rw [if_neg h2]; rfl, by exact bcAll, ?_⟩
    have hl : wholeL c = [c] := if_neg h2
    rw [hl]
    exact ownX_lits _ _ _ _ 1 [c] _ (by simp [encC, Cl.cells]) rfl (by unfold maxLen; omega) (by simp) (by simp)
def areB (L : List Rw) : Bool := decide (∀ r ∈ L, saneRw r = true)
theorem areB_iff {L : List Rw} : areB L = true ↔ ∀ r ∈ L, saneRw r = true := by unfold areB; rw [decide_eq_true_eq]
set_option maxRecDepth 100000 in
set_option maxHeartbeats 2000000 in
theorem areSane_c (x : Value) (L : List Rw) (w : World) (hx : RdR w x L) (hl : L.length ≤ 100000) :
    Calls Tryz.prog 116 #[x] w fun e w' => e = .returned (.bool (areB L)) ∧ Grew w w' := by
  obtain ⟨A, cap, rfl, hc⟩ := hx.1.len
  have HI := Lib.hid (@areB_iff L)
  have HN : Hid (¬ areB L = true → areB L = false) := fun h => by simpa using h
  generalize areB L = S at *
  generalize hn : L.length = n at hl hc hx ⊢
  have HL := Lib.hid hn
  clear hn
  go_enter Tryz.func116, Tryz.ntmps116
  go_wp2_with fail
  go_loopw [7] (fun i wz => ∃ k : Nat, k ≤ n ∧ i = .int .i64 k ∧ Hid (∀ j (h : j < L.length), j < k → saneRw L[j] = true) ∧ Below w.heap.size w wz) (fun i _ => n - (intOf i).toNat)
  case atStart => exact ⟨0, Nat.zero_le _, rfl, fun j _ hj => absurd hj (by omega), Below.refl _ _⟩
  case round =>
    obtain ⟨k, hk, rfl, HALL, hbw⟩ := hrel
    have hws := hbw.size
    by_cases hlt : k < n
    · have hkl : k < L.length := by rw [HL.out]; exact hlt
      obtain ⟨b, o, rfl, hbl, hat, hok⟩ := (hx.below hbw).at_ hkl
      have HE : Hid (saneRw L[k] = true → ∀ j (h : j < L.length), j < k + 1 → saneRw L[j] = true) := fun hs j h hj => by
        by_cases e : j = k
        · subst e; exact hs
        · exact HALL.out j h (by omega)
      have HM : Hid (L[k] ∈ L) := List.getElem_mem hkl
      generalize L[k] = r at *
      obtain ⟨p0, p1, p2, p3⟩ := hat
      have hltI : (k : Int) < n := by omega
      cases hs : saneRw r
      · go_wp2_with (go_at_call 45; (with_reducible refine (saner_c r _ (hok.below (by exact bcAll))).mono ?_); rintro e w2 ⟨rfl, X2, d2, rfl⟩)
        go_ret
        refine ⟨ebool (HN.out fun h => ?_).symm, (Below.toGrow (by exact bcAll))⟩
        have := HI.out.1 h r HM.out
        rw [hs] at this
        cases this
      · go_wp2_with (go_at_call 45; (with_reducible refine (saner_c r _ (hok.below (by exact bcAll))).mono ?_); rintro e w2 ⟨rfl, X2, d2, rfl⟩)
        go_roundw
        case rel => exact ⟨k + 1, by omega, by go_num, HE.out hs, by exact bcAll⟩
        case measure => simp [intOf]; omega
    · obtain rfl : k = n := by omega
      go_wp2_with fail
      go_ret
      refine ⟨ebool (HI.out.2 fun r hr => ?_).symm, Below.toGrow hbw⟩
      obtain ⟨j, hj, rfl⟩ := List.getElem_of_mem hr
      exact HALL.out j hj (by rw [← HL.out]; exact hj)
end Go.Proofs.YtlchffkabpfjpaaGreat.Row
end
section
/- reflow: the plain model; words for rows and lines of a call's own. -/
namespace Go.Proofs.YtlchffkabpfjpaaGreat.Row
open Go.RowKit
/-- a row's shape -/
structure Sh where
  cs : List Cl
  wb : Bool
  dir : Int
  ex : Bool
deriving DecidableEq
/-- a line -/
structure Ls where
  cs : List Cl
  dir : Int
  ex : Bool
deriving DecidableEq
def Rw.sh (r : Rw) : Sh := ⟨listF r.n r.f, r.wb, r.dir, r.ex⟩
def okC (c : Cl) : Bool := decide (c.w = 1 ∨ c.w = 2) && fitsB c
theorem okC_iff {c : Cl} : okC c = true ↔ (c.w = 1 ∨ c.w = 2) ∧ fitsB c = true := by unfold okC; rw [Bool.and_eq_true, decide_eq_true_eq]
def wF (c : Cl) (i : Nat) : Cl := if i = 0 then c else halfOf c
theorem whole_f (c : Cl) (i : Nat) (hi : i < (wholeL c).length) : (wholeL c)[i]? = some (wF c i) := by
  unfold wholeL wF at *
  split
  · rename_i h
    rw [if_pos h] at hi
    simp at hi
    match i, hi with
    | 0, _ => rfl
    | 1, _ => rfl
  · rename_i h
    rw [if_neg h] at hi
    simp at hi
    subst hi
    rfl
theorem fits_halfO {c : Cl} (h : fitsB c = true) : fitsB (halfOf c) = true := by
  unfold fitsB at *
  rw [decide_eq_true_eq] at *
  simp [halfOf]
  exact h.2.2.2.2.2.2.2.2.2.1
theorem sane_whole (c : Cl) (h : c.w = 1 ∨ c.w = 2) : saneB (wholeL c).length (wF c) 0 = fitsB c := by
  rw [Bool.eq_iff_iff, sane_iff]
  constructor
  · rintro ⟨h1, -, -, -, h2⟩
    exact (h2 0 (by omega)).1
  · intro hf
    rcases h with h | h
    · have hl : (wholeL c).length = 1 := by unfold wholeL; rw [if_neg (by omega)]; rfl
      rw [hl]
      refine ⟨by omega, by omega, by omega, by omega, fun i hi => ?_⟩
      obtain rfl : i = 0 := by omega
      refine ⟨hf, ?_⟩
      unfold lostB
      simp [wF, h]
    · have hl : (wholeL c).length = 2 := by unfold wholeL; rw [if_pos h]; rfl
      rw [hl]
      refine ⟨by omega, by omega, by omega, by omega, fun i hi => ?_⟩
      match i, hi with
      | 0, _ =>
        refine ⟨hf, ?_⟩
        unfold lostB
        simp [wF, h, halfOf]
      | 1, _ =>
        refine ⟨fits_halfO hf, ?_⟩
        unfold lostB
        simp [wF, h, halfOf]
def sanL (x : Ls) : Bool := decide (0 ≤ x.dir ∧ x.dir ≤ 2 ∧ ∀ c ∈ x.cs, okC c = true)
theorem sanL_iff {x : Ls} : sanL x = true ↔ 0 ≤ x.dir ∧ x.dir ≤ 2 ∧ ∀ c ∈ x.cs, okC c = true := by unfold sanL; rw [decide_eq_true_eq]
def stepS (w : Nat) (s : List (List Cl) × List Cl) (c : Cl) : List (List Cl) × List Cl :=
  if (w : Int) < c.w then s else if (w : Int) < s.2.length + c.w then (s.1 ++ [s.2], wholeL c) else (s.1, s.2 ++ wholeL c)
def padF (l : List Cl) (i : Nat) : Cl := (l[i]?).getD (blank 0 0 0)
def rowS (x : Ls) (w : Nat) (b : Bool) (l : List Cl) : Sh := ⟨listF w (padF l), b, x.dir, x.ex⟩
def finS (x : Ls) (w : Nat) (s : List (List Cl) × List Cl) : List Sh := s.1.map (rowS x w true) ++ [rowS x w false s.2]
def splitS (x : Ls) (w : Nat) : List Sh := finS x w (x.cs.foldl (stepS w) ([], []))
def wN (w : Int) : Nat := (max 1 (min w 4096)).toNat
theorem wN_le (w : Int) : 1 ≤ wN w ∧ wN w ≤ 4096 := by unfold wN; omega
def splitG (x : Ls) (w : Int) : List Sh := if sanL x = true then splitS x (wN w) else []
def spreadS (L : List Ls) (w : Int) : List Sh := L.flatMap (splitG · w)
theorem whole_len {c : Cl} (h : okC c = true) : ((wholeL c).length : Int) = c.w := by
  rcases (okC_iff.1 h).1 with h | h
  · unfold wholeL; rw [if_neg (by omega), h]; rfl
  · unfold wholeL; rw [if_pos h, h]; rfl
theorem rdC_at {w : World} {A : Option Addr} {n c k : Nat} {L : List Cl} {a : Cl} (h : RdX encC w (.slice A n c) L) (hk : L[k]? = some a) : ∃ b o, A = some ⟨b, o, none⟩ ∧ b < w.heap.size ∧ CellAt w b (o + k * 7) a := by
  obtain ⟨b, o, e, hb, hat⟩ := h.at_ hk
  exact ⟨b, o, e, hb, cellAt_ofX hat⟩
/-- a line in memory -/
structure Ln where
  A : Option Addr
  cap : Nat
  cs : List Cl
  dir : Int
  ex : Bool
def Ln.ls (l : Ln) : Ls := ⟨l.cs, l.dir, l.ex⟩
def Ln.cells (l : Ln) : List Value := [.slice l.A l.cs.length l.cap, .int .i64 l.dir, .bool l.ex]
def encL : Enc Ln := ⟨3, Ln.cells, fun _ => rfl, by decide, fun a u hu => by
  simp [Ln.cells] at hu
  rcases hu with rfl | rfl | rfl <;> rfl⟩
def Ln.ok (w : World) (l : Ln) : Prop := RdX encC w (.slice l.A l.cs.length l.cap) l.cs ∧ l.cs.length ≤ 10000000
theorem Ln.ok.below {w w' : World} {l : Ln} (h : l.ok w) (hb : Below w.heap.size w w') : l.ok w' := ⟨h.1.below hb, h.2⟩
theorem Ln.ok.rdB {w w' : World} {l : Ln} (h : l.ok w) (hb : Below w.heap.size w w') : RdX encC w' (.slice l.A l.cs.length l.cap) l.cs := h.1.below hb
def RdL (w : World) (x : Value) (L : List Ln) : Prop := RdX encL w x L ∧ ∀ l ∈ L, l.ok w
theorem RdL.below {w w' : World} {x : Value} {L : List Ln} (h : RdL w x L) (hb : Below w.heap.size w w') : RdL w' x L := ⟨h.1.below hb, fun r hr => (h.2 r hr).below hb⟩
theorem RdL.at_ {w : World} {A : Option Addr} {n c : Nat} {L : List Ln} (h : RdL w (.slice A n c) L) {k : Nat} (hk : k < L.length) :
    ∃ b o, A = some ⟨b, o, none⟩ ∧ b < w.heap.size ∧ (w.cell? ⟨b, o + k * 3, none⟩ = some (.slice L[k].A L[k].cs.length L[k].cap) ∧ w.cell? ⟨b, o + k * 3 + 1, none⟩ = some (.int .i64 L[k].dir) ∧ w.cell? ⟨b, o + k * 3 + 2, none⟩ = some (.bool L[k].ex)) ∧ L[k].ok w := by
  obtain ⟨b, o, e, hb, hat⟩ := h.1.at_ (List.getElem?_eq_getElem hk)
  exact ⟨b, o, e, hb, ⟨hat 0 _ rfl, hat 1 _ rfl, hat 2 _ rfl⟩, h.2 _ (List.getElem_mem hk)⟩
/-- a row whose cells lie in a block of the call's own, but not in 'own' -/
def FrR (w : World) (base : Nat) (own : Option Nat) (r : Rw) : Prop := r.ok w ∧ ∃ b o, r.A = some ⟨b, o, none⟩ ∧ base ≤ b ∧ b < w.heap.size ∧ some b ≠ own
theorem FrR.gb {w w' : World} {base : Nat} {own row : Option Nat} {r : Rw} (h : FrR w base own r) (hg : w.grownBy w' row) (hne : ∀ b o, r.A = some ⟨b, o, none⟩ → some b ≠ row) {own' : Option Nat} (ho : ∀ b o, r.A = some ⟨b, o, none⟩ → b < w.heap.size → some b ≠ own') : FrR w' base own' r := by
  obtain ⟨⟨h1, h2⟩, b, o, hA, hb, hlt, hn⟩ := h
  refine ⟨⟨fun h0 => ?_, h2⟩, b, o, hA, hb, Nat.lt_of_lt_of_le hlt hg.size, ho b o hA hlt⟩
  obtain ⟨b', o', e, hb', hc⟩ := h1 h0
  rw [hA] at e
  injection e with e
  injection e with e1 e2
  subst e1 e2
  refine ⟨b, o, hA, Nat.lt_of_lt_of_le hb' hg.size, fun i hi => ?_⟩
  have hcell : ∀ j, w'.cell? ⟨b, j, none⟩ = w.cell? ⟨b, j, none⟩ := fun j => by
    unfold World.cell?
    rw [hg.block b hb' (hne b o hA)]
  obtain ⟨c0, c1, c2, c3, c4, c5, c6⟩ := hc i hi
  exact ⟨(hcell _).trans c0, (hcell _).trans c1, (hcell _).trans c2, (hcell _).trans c3, (hcell _).trans c4, (hcell _).trans c5, (hcell _).trans c6⟩
theorem FrR.below {w w' : World} {base : Nat} {own : Option Nat} {r : Rw} (h : FrR w base own r) (hb : Below w.heap.size w w') : FrR w' base own r := by
  obtain ⟨h1, b, o, hA, h2, h3, h4⟩ := h
  exact ⟨h1.below hb, b, o, hA, h2, Nat.lt_of_lt_of_le h3 hb.size, h4⟩
/-- a list of rows of the call's own, their cells too -/
def RowsX (w : World) (base : Nat) (v : Value) (R : List Rw) : Prop := OwnX encR w base 64 v R ∧ ∀ r ∈ R, FrR w base v.ownBlock r
theorem RowsX.below {w w' : World} {base : Nat} {v : Value} {R : List Rw} (h : RowsX w base v R) (hb : Below w.heap.size w w') : RowsX w' base v R :=
  ⟨h.1.below hb (Nat.le_refl _), fun r hr => (h.2 r hr).below hb⟩
theorem RowsX.rd {w : World} {base : Nat} {v : Value} {R : List Rw} (h : RowsX w base v R) : RdR w v R := ⟨h.1.rd, fun r hr => (h.2 r hr).1⟩
theorem RowsX.mono {w : World} {base base' : Nat} {v : Value} {R : List Rw} (h : RowsX w base v R) (hb : base' ≤ base) : RowsX w base' v R := by
  refine ⟨h.1.mono hb, fun r hr => ?_⟩
  obtain ⟨h1, b, o, hA, h2, h3, h4⟩ := h.2 r hr
  exact ⟨h1, b, o, hA, by omega, h3, h4⟩
theorem RowsX.app {w w' : World} {base : Nat} {v v' : Value} {R Z : List Rw} (h : RowsX w base v R) (hz : ∀ r ∈ Z, FrR w base v.ownBlock r) (ho : OwnX encR w' base 64 v' (R ++ Z)) (hg : w.grownBy w' v.ownBlock) (hor : v'.ownBlock = v.ownBlock ∨ v'.ownBlock = some w.heap.size) : RowsX w' base v' (R ++ Z) := by
  refine ⟨ho, fun r hr => ?_⟩
  have hf : FrR w base v.ownBlock r := by
    rcases List.mem_append.1 hr with hr | hr
    · exact h.2 r hr
    · exact hz r hr
  have hf' := hf
  obtain ⟨-, b, o, hA, -, -, hn⟩ := hf'
  refine hf.gb hg (fun b' o' e => ?_) (fun b' o' e hlt => ?_)
  · rw [hA] at e
    injection e with e
    injection e with e1 e2
    subst e1
    exact hn
  · rcases hor with hor | hor
    · rw [hor]
      rw [hA] at e
      injection e with e
      injection e with e1 e2
      subst e1
      exact hn
    · rw [hor]
      intro e0
      injection e0 with e0
      omega
theorem RowsX.nil (w : World) (base : Nat) : RowsX w base (.slice none 0 0) [] := ⟨OwnX.nil _ _ _, fun r hr => by cases hr⟩
theorem lineInfo : (Tryz.prog.info? 154).map (fun i => (i.zero, i.size, i.bytes)) = some (some (.agg #[.slice none 0 0, .int .i64 0, .bool false]), 3, 40) := by kernel_rfl
theorem line_parts : ∃ i, Tryz.prog.info? 154 = some i ∧ i.zero = some (.agg #[.slice none 0 0, .int .i64 0, .bool false]) ∧ i.size = 3 ∧ i.bytes = 40 := by
  obtain ⟨i, hi, hzz⟩ := Option.map_eq_some_iff.1 lineInfo
  simp only [Prod.mk.injEq] at hzz
  exact ⟨i, hi, hzz⟩
end Go.Proofs.YtlchffkabpfjpaaGreat.Row
end
section
/- reflow: Sane of a line, in both packages; trimmed. -/
namespace Go.Proofs.YtlchffkabpfjpaaGreat.Row
open Go.RowKit
theorem whole_le (c : Cl) : (wholeL c).length ≤ 2 := by
  unfold wholeL
  split <;> simp
set_option maxRecDepth 100000 in
set_option maxHeartbeats 4000000 in
theorem saneL_c (A : Option Addr) (n cap : Nat) (cs : List Cl) (dir : Int) (ex : Bool) (w : World) (hx : RdX encC w (.slice A n cap) cs) (hn : n = cs.length) (hl : n ≤ 10000000) :
    Calls Tryz.prog 119 #[.agg #[.slice A n cap, .int .i64 dir, .bool ex]] w fun e w' => e = .returned (.bool (sanL ⟨cs, dir, ex⟩)) ∧ Grew w w' := by
  have HI := Lib.hid (@sanL_iff ⟨cs, dir, ex⟩)
  have HN : Hid (¬ sanL ⟨cs, dir, ex⟩ = true → sanL ⟨cs, dir, ex⟩ = false) := fun h => by simpa using h
  generalize sanL ⟨cs, dir, ex⟩ = S at *
  have HL := Lib.hid hn
  clear hn
  by_cases hd : 0 ≤ dir ∧ dir ≤ 2
  · obtain ⟨hd0, hd2⟩ := hd
    have HD := Lib.hid hd0
    have HD2 := Lib.hid hd2
    have hd0b : decide (dir < 0) = false := by simp; omega
    have hd2b : decide (2 < dir) = false := by simp; omega
    go_enter Tryz.func119, Tryz.ntmps119
    go_wp2_with fail
    clear hd0b hd2b hd0 hd2
    go_loopw [16] (fun i wz => ∃ k : Nat, k ≤ n ∧ i = .int .i64 k ∧ Hid (∀ j (h : j < cs.length), j < k → okC cs[j] = true) ∧ Below w.heap.size w wz) (fun i _ => n - (intOf i).toNat)
    case atStart => exact ⟨0, Nat.zero_le _, rfl, fun j _ hj => absurd hj (by omega), by exact bcAll⟩
    case round =>
      obtain ⟨k, hk, rfl, HALL, hbw⟩ := hrel
      have hws := hbw.size
      by_cases hlt : k < n
      · have hkl : k < cs.length := by rw [← HL.out]; exact hlt
        obtain ⟨b, o, rfl, hbl, hat⟩ := rdC_at (hx.below hbw) (List.getElem?_eq_getElem hkl)
        have HE : Hid (okC cs[k] = true → ∀ j (h : j < cs.length), j < k + 1 → okC cs[j] = true) := fun hs j h hj => by
          by_cases e : j = k
          · subst e; exact hs
          · exact HALL.out j h (by omega)
        have HM : Hid (cs[k] ∈ cs) := List.getElem_mem hkl
        generalize cs[k] = ce at *
        obtain ⟨c0, c1, c2, c3, c4, c5, c6⟩ := hat
        have hltI : (k : Int) < n := by omega
        by_cases h12 : ce.w = 1 ∨ ce.w = 2
        · have HSW := Lib.hid (sane_whole ce h12)
          have H12 := Lib.hid h12
          cases hf : fitsB ce
          · rcases h12 with h12 | h12
            · have hwa : (ce.w != 1) = false := by rw [h12]; rfl
              clear h12
              go_wp2_with (first | (go_at_call 122; (with_reducible refine (whole_c ce _).mono ?_); rintro e w5 ⟨A5, n5, rfl, hn5, hb5, ho5⟩; have HR5 := Lib.hid (rd_ofX ho5.rd hn5 (fun i hi => whole_f ce i (by rw [← hn5]; exact hi))); have HN5 := Lib.hid hn5; have HM5 : Hid (n5 ≤ 9223372036854775806) := (by have := whole_le ce; show _ ≤ _; omega); obtain ⟨X5, d5, rfl⟩ := Below.toGrow hb5; clear hb5 ho5 hn5) | (go_at_call 45; (with_reducible refine (sane_c A5 n5 n5 (wF ce) false 0 false _ HR5.out HM5.out).mono ?_); rw [HN5.out, HSW.out]; rintro e w6 ⟨rfl, X6, d6, rfl⟩))
              go_ret
              refine ⟨ebool (HN.out fun h => ?_).symm, (Below.toGrow (by exact bcAll))⟩
              have := (okC_iff.1 ((HI.out.1 h).2.2 ce HM.out)).2
              rw [hf] at this
              cases this
            · have hwa : (ce.w != 1) = true := by rw [h12]; rfl
              have hwb : (ce.w != 2) = false := by rw [h12]; rfl
              clear h12
              go_wp2_with (first | (go_at_call 122; (with_reducible refine (whole_c ce _).mono ?_); rintro e w5 ⟨A5, n5, rfl, hn5, hb5, ho5⟩; have HR5 := Lib.hid (rd_ofX ho5.rd hn5 (fun i hi => whole_f ce i (by rw [← hn5]; exact hi))); have HN5 := Lib.hid hn5; have HM5 : Hid (n5 ≤ 9223372036854775806) := (by have := whole_le ce; show _ ≤ _; omega); obtain ⟨X5, d5, rfl⟩ := Below.toGrow hb5; clear hb5 ho5 hn5) | (go_at_call 45; (with_reducible refine (sane_c A5 n5 n5 (wF ce) false 0 false _ HR5.out HM5.out).mono ?_); rw [HN5.out, HSW.out]; rintro e w6 ⟨rfl, X6, d6, rfl⟩))
              go_ret
              refine ⟨ebool (HN.out fun h => ?_).symm, (Below.toGrow (by exact bcAll))⟩
              have := (okC_iff.1 ((HI.out.1 h).2.2 ce HM.out)).2
              rw [hf] at this
              cases this
          · rcases h12 with h12 | h12
            · have hwa : (ce.w != 1) = false := by rw [h12]; rfl
              clear h12
              go_wp2_with (first | (go_at_call 122; (with_reducible refine (whole_c ce _).mono ?_); rintro e w5 ⟨A5, n5, rfl, hn5, hb5, ho5⟩; have HR5 := Lib.hid (rd_ofX ho5.rd hn5 (fun i hi => whole_f ce i (by rw [← hn5]; exact hi))); have HN5 := Lib.hid hn5; have HM5 : Hid (n5 ≤ 9223372036854775806) := (by have := whole_le ce; show _ ≤ _; omega); obtain ⟨X5, d5, rfl⟩ := Below.toGrow hb5; clear hb5 ho5 hn5) | (go_at_call 45; (with_reducible refine (sane_c A5 n5 n5 (wF ce) false 0 false _ HR5.out HM5.out).mono ?_); rw [HN5.out, HSW.out]; rintro e w6 ⟨rfl, X6, d6, rfl⟩))
              go_roundw
              case rel => exact ⟨k + 1, by omega, by go_num, HE.out (okC_iff.2 ⟨H12.out, hf⟩), by exact bcAll⟩
              case measure => simp [intOf]; omega
            · have hwa : (ce.w != 1) = true := by rw [h12]; rfl
              have hwb : (ce.w != 2) = false := by rw [h12]; rfl
              clear h12
              go_wp2_with (first | (go_at_call 122; (with_reducible refine (whole_c ce _).mono ?_); rintro e w5 ⟨A5, n5, rfl, hn5, hb5, ho5⟩; have HR5 := Lib.hid (rd_ofX ho5.rd hn5 (fun i hi => whole_f ce i (by rw [← hn5]; exact hi))); have HN5 := Lib.hid hn5; have HM5 : Hid (n5 ≤ 9223372036854775806) := (by have := whole_le ce; show _ ≤ _; omega); obtain ⟨X5, d5, rfl⟩ := Below.toGrow hb5; clear hb5 ho5 hn5) | (go_at_call 45; (with_reducible refine (sane_c A5 n5 n5 (wF ce) false 0 false _ HR5.out HM5.out).mono ?_); rw [HN5.out, HSW.out]; rintro e w6 ⟨rfl, X6, d6, rfl⟩))
              go_roundw
              case rel => exact ⟨k + 1, by omega, by go_num, HE.out (okC_iff.2 ⟨H12.out, hf⟩), by exact bcAll⟩
              case measure => simp [intOf]; omega
        · have hwa : (ce.w != 1) = true := by simp; omega
          have hwb : (ce.w != 2) = true := by simp; omega
          have H12 := Lib.hid h12
          clear h12
          go_wp2_with fail
          go_ret
          refine ⟨ebool (HN.out fun h => ?_).symm, (Below.toGrow (by exact bcAll))⟩
          exact H12.out (okC_iff.1 ((HI.out.1 h).2.2 ce HM.out)).1
      · obtain rfl : n = k := by omega
        go_wp2_with fail
        go_ret
        refine ⟨ebool (HI.out.2 ⟨HD.out, HD2.out, fun r hr => ?_⟩).symm, Below.toGrow hbw⟩
        obtain ⟨j, hj, rfl⟩ := List.getElem_of_mem hr
        exact HALL.out j hj (by rw [HL.out]; exact hj)
  · have HS : Hid (S = false) := HN.out fun h => hd ⟨(HI.out.1 h).1, (HI.out.1 h).2.1⟩
    by_cases h0 : dir < 0
    · have hd0b : decide (dir < 0) = true := by simpa using h0
      go_enter Tryz.func119, Tryz.ntmps119
      go_wp2_with fail
      go_ret
      exact ⟨ebool HS.out.symm, (Below.toGrow (by exact bcAll))⟩
    · have hd0b : decide (dir < 0) = false := by simpa using h0
      have hd2b : decide (2 < dir) = true := by simp; omega
      go_enter Tryz.func119, Tryz.ntmps119
      go_wp2_with fail
      go_ret
      exact ⟨ebool HS.out.symm, (Below.toGrow (by exact bcAll))⟩
end Go.Proofs.YtlchffkabpfjpaaGreat.Row
end
section
/- reflow: trimmed. -/
namespace Go.Proofs.YtlchffkabpfjpaaGreat.Row
open Go.RowKit
/-- cells without the blank ones at the end -/
def trimN (l : List Cl) : Nat → Nat
  | 0 => 0
  | n + 1 => if l[n]? = some (blank 0 0 0) then trimN l n else n + 1
def trimL (l : List Cl) : List Cl := l.take (trimN l l.length)
theorem trimN_le (l : List Cl) : ∀ n, trimN l n ≤ n
  | 0 => Nat.le_refl _
  | n + 1 => by
    unfold trimN
    split
    · exact Nat.le_succ_of_le (trimN_le l n)
    · exact Nat.le_refl _
set_option maxRecDepth 100000 in
set_option maxHeartbeats 4000000 in
theorem trimmed_c (A : Option Addr) (n cap : Nat) (cs : List Cl) (w : World) (hx : RdX encC w (.slice A n cap) cs) (hn : n = cs.length) (hl : n ≤ 10000000) :
    Calls Tryz.prog 118 #[.slice A n cap] w fun e w' => e = .returned (.slice A (trimN cs n) cap) ∧ Grew w w' := by
  have hcap : n ≤ cap := by
    obtain ⟨A', c', e, hc⟩ := hx.len
    injection e with e1 e2 e3
    omega
  have HL := Lib.hid hn
  obtain ⟨res, hres⟩ : ∃ res, trimN cs n = res := ⟨_, rfl⟩
  rw [hres]
  have HRES := Lib.hid hres
  clear hn hres
  go_enter Tryz.func118, Tryz.ntmps118
  go_wp2_with fail
  go_loopw [0] (fun v wz => ∃ k : Nat, k ≤ n ∧ v = .slice A k cap ∧ Hid (trimN cs k = res) ∧ Below w.heap.size w wz) (fun v _ => match v with | .slice _ k _ => k | _ => 0)
  case atStart => exact ⟨n, Nat.le_refl _, rfl, HRES.out, by exact bcAll⟩
  case round =>
    obtain ⟨k, hk, rfl, HT, hbw⟩ := hrel
    by_cases h0 : k = 0
    · subst h0
      have hr0 : res = 0 := by rw [← HT.out]; rfl
      subst hr0
      go_wp2_with fail
      go_ret
      exact ⟨rfl, Below.toGrow hbw⟩
    · obtain ⟨m, rfl⟩ : ∃ m, k = m + 1 := ⟨k - 1, by omega⟩
      have hkl : m < cs.length := by rw [← HL.out]; omega
      obtain ⟨b, o, rfl, hbl, hat⟩ := rdC_at (hx.below hbw) (List.getElem?_eq_getElem hkl)
      have HT2 : Hid (res = if decide (cs[m] = blank 0 0 0) = true then trimN cs m else m + 1) := by
        show _ = _
        rw [← HT.out]
        show (if cs[m]? = some (blank 0 0 0) then _ else _) = _
        rw [List.getElem?_eq_getElem hkl]
        simp
      generalize cs[m] = ce at *
      obtain ⟨c0, c1, c2, c3, c4, c5, c6⟩ := hat
      have hsub : ((m + 1 : Nat) : Int) - 1 = (m : Int) := by omega
      have hws := hbw.size
      obtain ⟨tb, htb⟩ : ∃ tb, decide (ce = blank 0 0 0) = tb := ⟨_, rfl⟩
      rw [htb] at HT2
      have HCE := Lib.hid htb
      clear htb HT
      cases tb
      · have hr0 := HT2.out
        rw [if_neg (by simp)] at hr0
        subst hr0
        go_wp2_with (go_at_call 121; (with_reducible refine (isBlank_c ce _).mono ?_); rintro e w1 ⟨rfl, X1, d1, rfl⟩; rw [HCE.out])
        go_ret
        exact ⟨rfl, (Below.toGrow (by exact bcAll))⟩
      · have hr0 := HT2.out
        rw [if_pos rfl] at hr0
        have HR := Lib.hid hr0
        clear hr0
        go_wp2_with (go_at_call 121; (with_reducible refine (isBlank_c ce _).mono ?_); rintro e w1 ⟨rfl, X1, d1, rfl⟩; rw [HCE.out])
        go_roundw
        case rel => exact ⟨m, by omega, rfl, HR.out.symm, by exact bcAll⟩
        case measure => simp
end Go.Proofs.YtlchffkabpfjpaaGreat.Row
end
section
/- reflow: room, in both packages. -/
namespace Go.Proofs.YtlchffkabpfjpaaGreat.Row
open Go.RowKit


/-- does a row lack its last place for a wide letter that stands first in the next one? -/
def rmB (r : Rw) (o : Option Rw) : Bool := r.wb && (match o with | some s => decide (r.f (r.n - 1) = blank 0 0 0) && decide ((s.f 0).w = 2) | none => false)
def rmN (r : Rw) (o : Option Rw) : Nat := if rmB r o = true then r.n - 1 else r.n
set_option maxRecDepth 100000 in
set_option maxHeartbeats 4000000 in
theorem room_c (x : Value) (L : List Rw) (y : Nat) (r : Rw) (w : World) (hx : RdR w x L) (hl : L.length ≤ 20000000) (hy : L[y]? = some r) (hs : ∀ r ∈ L, 1 ≤ r.n) :
    Calls Tryz.prog 117 #[x, .int .i64 y] w fun e w' => e = .returned (.int .i64 (rmN r L[y + 1]?)) ∧ Grew w w' := by
  obtain ⟨A, cap, rfl, hc⟩ := hx.1.len
  have hyl := (List.getElem?_eq_some_iff.1 hy).1
  have hri := (List.getElem?_eq_some_iff.1 hy).2
  obtain ⟨b, o, rfl, hbl, hat, hok⟩ := hx.at_ hyl
  rw [hri] at hat hok
  obtain ⟨p0, p1, p2, p3⟩ := hat
  have hr1 := hs r (List.mem_of_getElem? hy)
  have hr2 := hok.2.2
  have hylI : (y : Int) < L.length := by omega
  cases hwb : r.wb
  · have HR : rmN r L[y + 1]? = r.n := by unfold rmN rmB; rw [hwb]; rfl
    rw [HR]
    rw [hwb] at p1
    clear hwb HR hy hri hok hs hx
    generalize L.length = n at *
    generalize r.n = m at *
    go_enter Tryz.func117, Tryz.ntmps117
    go_wp2_with fail
    go_ret
    exact ⟨rfl, (Below.toGrow (by exact bcAll))⟩
  · by_cases hn : y + 1 < L.length
    · obtain ⟨b', o', e1, -, hat2, hok2⟩ := hx.at_ hn
      injection e1 with e1
      injection e1 with e1 e2
      subst e1 e2
      have hne := List.getElem?_eq_getElem hn
      have hs2 := hs _ (List.getElem_mem hn)
      rw [hne]
      generalize L[y + 1] = s at hat2 hok2 hs2
      obtain ⟨q0, q1, q2, q3⟩ := hat2
      have hs1 := hs2
      have hs3 := hok2.2.2
      have hok' := hok.1 (by omega)
      obtain ⟨b1, o1, hA1, hb1, hc1⟩ := hok'
      have hl1 := hc1 (r.n - 1) (by omega)
      obtain ⟨b2, o2, hA2, hb2, hc2⟩ := hok2.1 (by omega)
      have hl2 := hc2 0 (by omega)
      rw [Nat.zero_mul, Nat.add_zero] at hl2
      have hnI : (y : Int) + 1 < L.length := by omega
      rw [hwb] at p1
      rw [hA1] at p0
      rw [hA2] at q0
      have HRN : Hid (rmN r (some s) = if r.f (r.n - 1) = blank 0 0 0 ∧ (s.f 0).w = 2 then r.n - 1 else r.n) := by
        show _ = _
        unfold rmN rmB
        rw [hwb]
        simp
      obtain ⟨m, hm⟩ : ∃ m, r.n = m + 1 := ⟨r.n - 1, by omega⟩
      rw [hm] at p0 hl1 HRN
      rw [Nat.add_sub_cancel] at hl1 HRN
      have hm2 : m ≤ 5000 := by omega
      obtain ⟨c0, c1, c2, c3, c4, c5, c6⟩ := hl1
      obtain ⟨-, -, -, z3, -, -, -⟩ := hl2
      generalize r.f m = ce at c0 c1 c2 c3 c4 c5 c6 HRN
      obtain ⟨tb, htb⟩ : ∃ tb, decide (ce = blank 0 0 0) = tb := ⟨_, rfl⟩
      have HCE := Lib.hid htb
      have hyn : (y : Int) + 1 < 30000000 := by omega
      generalize (s.f 0).w = W at z3 HRN
      generalize r.cap = rc at p0
      generalize s.cap = sc at q0
      generalize s.n = sn at *
      have hsn : 0 < sn := by omega
      have HRR : Hid (rmN r (some s) = if tb = true ∧ W = 2 then m else m + 1) := by
        show _ = _
        rw [HRN.out, ← HCE.out]
        simp
      generalize rmN r (some s) = res at *
      clear htb HRN hwb hm hy hri hok hok2 hs hx hs2 hne hc1 hc2 hA1 hA2 hr1 hr2 hs3 hs1
      obtain ⟨j, hj⟩ : ∃ j, y + 1 = j := ⟨_, rfl⟩
      have hjI : (y : Int) + 1 = (j : Int) := by omega
      have hjn : (j : Int) < (L.length : Int) := by omega
      rw [hj] at q0 hn
      obtain ⟨n0, hn0⟩ : ∃ n0, m + 1 = n0 := ⟨_, rfl⟩
      have hsubI : (n0 : Int) - 1 = (m : Int) := by omega
      have hmn : m < n0 := by omega
      have hn05 : n0 ≤ 6000 := by omega
      rw [hn0] at p0 HRR
      clear hn0
      clear hj hnI q1 q2 q3
      generalize L.length = n at *
      cases tb
      · have hres := HRR.out
        rw [if_neg (by simp)] at hres
        subst hres
        go_enter Tryz.func117, Tryz.ntmps117
        go_wp2_with (go_at_call 121; (with_reducible refine (isBlank_c ce _).mono ?_); rw [HCE.out]; rintro e w1 ⟨rfl, X1, d1, rfl⟩)
        go_ret
        exact ⟨rfl, (Below.toGrow (by exact bcAll))⟩
      · by_cases hW : W = 2
        · have hres := HRR.out
          rw [if_pos ⟨rfl, hW⟩] at hres
          subst hres
          subst hW
          clear HRR
          go_enter Tryz.func117, Tryz.ntmps117
          go_wp2_with (go_at_call 121; (with_reducible refine (isBlank_c ce _).mono ?_); rw [HCE.out]; rintro e w1 ⟨rfl, X1, d1, rfl⟩)
          go_ret
          exact ⟨rfl, (Below.toGrow (by exact bcAll))⟩
        · have hres := HRR.out
          rw [if_neg (fun h => hW h.2)] at hres
          subst hres
          clear HRR
          have hwb : (W == 2) = false := by simpa using hW
          clear hW
          go_enter Tryz.func117, Tryz.ntmps117
          go_wp2_with (go_at_call 121; (with_reducible refine (isBlank_c ce _).mono ?_); rw [HCE.out]; rintro e w1 ⟨rfl, X1, d1, rfl⟩)
          go_ret
          exact ⟨rfl, (Below.toGrow (by exact bcAll))⟩
    · have hnone : L[y + 1]? = none := List.getElem?_eq_none (by omega)
      have HR : rmN r L[y + 1]? = r.n := by unfold rmN rmB; rw [hnone, hwb]; rfl
      rw [HR]
      rw [hwb] at p1
      have hnI : ¬ (y : Int) + 1 < L.length := by omega
      clear hwb HR hy hri hok hs hx hnone
      generalize L.length = n at *
      generalize r.n = m at *
      go_enter Tryz.func117, Tryz.ntmps117
      go_wp2_with fail
      go_ret
      exact ⟨rfl, (Below.toGrow (by exact bcAll))⟩
end Go.Proofs.YtlchffkabpfjpaaGreat.Row
end
section
/- reflow.Split. -/
namespace Go.Proofs.YtlchffkabpfjpaaGreat.Row
open Go.RowKit
theorem pad_whole {now : List Cl} {c : Cl} (j : Nat) : (if now.length * 7 ≤ j ∧ j < now.length * 7 + (wholeL c).length * 7 then valF (wF c) (j - now.length * 7) else valF (padF now) j) = valF (padF (now ++ wholeL c)) j := by
  have hj : j = j / 7 * 7 + j % 7 := by omega
  have hm : j % 7 < 7 := by omega
  generalize j / 7 = a at hj
  generalize j % 7 = b at hj hm
  subst hj
  split
  · rename_i h
    rw [show a * 7 + b - now.length * 7 = (a - now.length) * 7 + b by omega, valF_at _ _ _ hm, valF_at _ _ _ hm]
    unfold padF
    rw [List.getElem?_append_right (by omega), whole_f c _ (by omega)]
    rfl
  · rename_i h
    rw [valF_at _ _ _ hm, valF_at _ _ _ hm]
    unfold padF
    by_cases ha : a < now.length
    · rw [List.getElem?_append_left ha]
    · rw [List.getElem?_eq_none (by omega), List.getElem?_eq_none (by rw [List.length_append]; omega)]
theorem rdX_one_drew {α : Type} {E : Enc α} (w : World) (b : Nat) (a : α) (cs : Array Value) (t : TypeId) (hcs : cs = (E.cells a).toArray) (h : b = w.heap.size) : RdX E (w.alloc (.cells cs t)).drew (.slice (some ⟨b, 0, none⟩) 1 1) [a] := rdX_one w b a cs t hcs h
theorem rowsX_alloc {w : World} {base : Nat} {v : Value} {R : List Rw} (h : RowsX w base v R) (o : Obj) : RowsX (w.alloc o) base v R := h.below ((Below.refl _ _).alloc (Nat.le_refl _) _)
theorem rowsX_alloc_drew {w : World} {base : Nat} {v : Value} {R : List Rw} (h : RowsX w base v R) (o : Obj) : RowsX (w.alloc o).drew base v R := h.below (((Below.refl _ _).alloc (Nat.le_refl _) _).drew)
theorem blk_alloc_drew {w : World} {g : Nat} {t : TypeId} {cs : Array Value} (h : Blk w g t cs) (o : Obj) : Blk (w.alloc o).drew g t cs := h.alloc o
section
variable {α : Type} {E : Enc α} {P : Program}
theorem slice1_at (t e : TypeId) (hu : P.underlying t = some (.slice e)) (hsz : (P.info? e).map (·.size) = some E.size) (b o N c lo : Nat) (h2 : lo < N) (h3 : N ≤ c) (w : World) :
    (Instr.slice t (.slice (some ⟨b, o, none⟩) N c) (some (.int .i64 (lo : Int))) none none).run P w = .ok (.slice (some ⟨b, o + lo * E.size, none⟩) (N - lo) (c - lo)) w := by
  obtain ⟨i, hi', hs⟩ := Option.map_eq_some_iff.1 hsz
  have l2 : (0 : Int) ≤ (lo : Int) ∧ (lo : Int) ≤ (N : Int) := by omega
  simp [Instr.slice, run_underlying hu, Instr.sliceBounds, Instr.sliceBound, asIntOf, l2, sizeOf, typeInfo, hi', hs, show lo ≤ N by omega, addr_add, show ¬ c = lo by omega]
end
/-- what a call of whole gives -/
theorem whole_c2 (c : Cl) (w : World) (_hok : okC c = true) : Calls Tryz.prog 122 #[.agg #[.int .i64 c.r, .int .i64 c.m0, .int .i64 c.m1, .int .i64 c.w, .int .i64 c.fg, .int .i64 c.bg, .int .i64 c.fl]] w fun e w' => ∃ b o n, e = .returned (.slice (some ⟨b, o, none⟩) n n) ∧ n = (wholeL c).length ∧ 1 ≤ n ∧ n ≤ 2 ∧ Below w.heap.size w w' ∧ b < w'.heap.size ∧ ∀ i, i < n → CellAt w' b (o + i * 7) (wF c i) := by
  refine (whole_c c w).mono ?_
  rintro e w' ⟨A, n, rfl, hn, hb, ho⟩
  have h1 : 1 ≤ n := by
    rw [hn]
    unfold wholeL
    split <;> simp
  have hr : Rd w' A n (wF c) := rd_ofX ho.rd hn (fun i hi => whole_f c i (by omega))
  obtain ⟨b, o, rfl, hbl, hc⟩ := hr (by omega)
  exact ⟨b, o, n, rfl, hn, h1, by rw [hn]; exact whole_le c, hb, hbl, hc⟩
/-- what a call of Split gives -/
def SplitF (x : Ls) (v : Int) (w : World) (e : Ending) (w' : World) : Prop := ∃ u R, e = .returned u ∧ Below w.heap.size w w' ∧ RowsX w' w.heap.size u R ∧ R.map Rw.sh = splitG x v
theorem stepS_skip {w : Nat} {s : List (List Cl) × List Cl} {c : Cl} (h : (w : Int) < c.w) : stepS w s c = s := by unfold stepS; rw [if_pos h]
theorem stepS_new {w : Nat} {s : List (List Cl) × List Cl} {c : Cl} (h : ¬ (w : Int) < c.w) (h2 : (w : Int) < s.2.length + c.w) : stepS w s c = (s.1 ++ [s.2], wholeL c) := by unfold stepS; rw [if_neg h, if_pos h2]
theorem stepS_put {w : Nat} {s : List (List Cl) × List Cl} {c : Cl} (h : ¬ (w : Int) < c.w) (h2 : ¬ (w : Int) < s.2.length + c.w) : stepS w s c = (s.1, s.2 ++ wholeL c) := by unfold stepS; rw [if_neg h, if_neg h2]
set_option maxRecDepth 100000 in
set_option maxHeartbeats 4000000 in
theorem split_no (A : Option Addr) (n cap : Nat) (cs : List Cl) (dir : Int) (ex : Bool) (v : Int) (w : World) (hx : RdX encC w (.slice A n cap) cs) (hn : n = cs.length) (hl : n ≤ 10000000) (hs : sanL ⟨cs, dir, ex⟩ = false) :
    Calls Tryz.prog 120 #[.agg #[.slice A n cap, .int .i64 dir, .bool ex], .int .i64 v] w (SplitF ⟨cs, dir, ex⟩ v w) := by
  have HX := Lib.hid hx
  have HL := Lib.hid hn
  have HLL := Lib.hid hl
  have HSN := Lib.hid hs
  clear hx hn hl hs
  go_enter Tryz.func120, Tryz.ntmps120
  go_wp2_with fail
  go_step3
  go_wp2_with (go_at_call 119; (with_reducible refine (saneL_c A n cap cs dir ex _ (HX.out.below (by exact bcAll)) HL.out HLL.out).mono ?_); rw [HSN.out]; rintro e w1 ⟨rfl, X1, d1, rfl⟩)
  rw [Exit.noGoto_ret]
  go_ret
  exact ⟨_, [], rfl, by exact bcAll, RowsX.nil _ _, by unfold splitG; rw [if_neg (by rw [HSN.out]; simp)]; rfl⟩
def sliceLen : Value → Nat
  | .slice _ n _ => n
  | _ => 0
theorem maxmin_eq (v : Int) : ∃ q : Nat, wN v = q ∧ 1 ≤ q ∧ q ≤ 4096 ∧ ∃ m : Int, (if 4096 < v then 4096 else v) = m ∧ (if m ≤ 1 then 1 else m) = (q : Int) := by
  refine ⟨wN v, rfl, (wN_le v).1, (wN_le v).2, _, rfl, ?_⟩
  unfold wN
  split <;> split <;> omega
set_option maxRecDepth 100000 in
set_option maxHeartbeats 4000000 in
theorem split_yes (A : Option Addr) (n cap : Nat) (cs : List Cl) (dir : Int) (ex : Bool) (v : Int) (w : World) (hx : RdX encC w (.slice A n cap) cs) (hn : n = cs.length) (hl : n ≤ 10000000) (hs : sanL ⟨cs, dir, ex⟩ = true) :
    Calls Tryz.prog 120 #[.agg #[.slice A n cap, .int .i64 dir, .bool ex], .int .i64 v] w (SplitF ⟨cs, dir, ex⟩ v w) := by
  obtain ⟨q, hq, hq1, hq2, m0, hm1, hm2⟩ := maxmin_eq v
  have HOK : Hid (∀ c ∈ cs, okC c = true) := (sanL_iff.1 hs).2.2
  have HFIN : Hid (splitG ⟨cs, dir, ex⟩ v = finS ⟨cs, dir, ex⟩ q (cs.foldl (stepS q) ([], []))) := by
    show _ = _
    unfold splitG
    rw [if_pos hs, hq]
    rfl
  have HQ : Hid (max 1 (min (q : Int) 4096) = (q : Int)) := by show _ = _; omega
  have hcap : n ≤ cap := by
    obtain ⟨A', c', e, hc⟩ := hx.len
    injection e with e1 e2 e3
    omega
  have HX := Lib.hid hx
  have HL := Lib.hid hn
  have HLL := Lib.hid hl
  have HSN := Lib.hid hs
  clear hx hn hs hq
  unfold SplitF
  rw [HFIN.out]
  clear HFIN
  generalize hFIN : cs.foldl (stepS q) ([], []) = FIN
  have HFI := Lib.hid hFIN
  clear hFIN
  obtain ⟨i3, hi3, hz3, hs3, hb3⟩ := row_parts
  have HI3 := Lib.hid hi3
  have HZ3 := Lib.hid hz3
  have HS3 := Lib.hid hs3
  have HB3 := Lib.hid hb3
  clear hi3 hz3 hs3 hb3
  go_enter Tryz.func120, Tryz.ntmps120
  go_wp2_with fail
  go_step3
  go_upto_region 3 with (go_at_call 119; (with_reducible refine (saneL_c A n cap cs dir ex _ (HX.out.below (by exact bcAll)) HL.out HLL.out).mono ?_); rw [HSN.out]; rintro e w1 ⟨rfl, X1, d1, rfl⟩)
  generalize hw0 : (w.alloc _).grow X1 d1 = w0
  have hbw0 : Below w.heap.size w w0 := by rw [← hw0]; exact bcAll
  have hB1 : Blk w0 w.heap.size 154 #[.slice A n cap, .int .i64 dir, .bool ex] := by rw [← hw0]; exact (Blk.new _ _ _).grow _ _
  clear hw0
  go_cut [1] from 14 to 16 (fun v wc => v = .int .i64 (q : Int) ∧ wc = w0)
  case first =>
    go_wp2_with fail
    · go_meet
      case rel => exact ⟨by rw [if_neg (by omega)] at hm2; rw [hm2], rfl⟩
    · go_meet
      case rel => exact ⟨by rw [if_pos (by omega)] at hm2; rw [← hm2], rfl⟩
  obtain ⟨rfl, hwc⟩ := hcut
  rw [hwc]
  clear hm1 hm2 hwc wc
  have HB1 := Lib.hid hB1
  have HBW0 := Lib.hid hbw0
  clear hB1 hbw0
  obtain ⟨r0, r1, r2, rf, rl⟩ := HB1.out.facts3
  go_wp2_with fail
  go_step3
  go_wp2_with fail
  clear r0 r1 r2 rf rl
  go_loopw [5, 6] (fun l lf wz => ∃ R done A1 n1 cp1 rest, lf = .slice A1 n1 cp1 ∧ n1 = rest.length ∧ n1 ≤ cp1 ∧ R.length + n1 ≤ n ∧ Below w0.heap.size w0 wz ∧ RowsX wz w0.heap.size l R ∧ RdX encC w0 (.slice A1 n1 cp1) rest ∧ Hid (rest.foldl (stepS q) (done, []) = FIN) ∧ Hid (R.map Rw.sh = done.map (rowS ⟨cs, dir, ex⟩ q true)) ∧ Hid (∀ c ∈ rest, okC c = true)) (fun _ lf _ => sliceLen lf)
  case atStart => exact ⟨[], [], A, n, cap, cs, rfl, HL.out, hcap, by simp, Below.refl _ _, RowsX.nil _ _, HX.out.below HBW0.out, HFI.out, rfl, HOK.out⟩
  case round =>
    obtain ⟨R, done, A1, n1, cp1, rest, rfl, hn1, hcp1, hRn, hb, hR, hrd, HFO, HSH, HOK1⟩ := hrel
    have HN1 := Lib.hid hn1
    have HB := Lib.hid hb
    have HR := Lib.hid hR
    have HRD := Lib.hid hrd
    have hwrs := hb.size
    obtain ⟨wo, rfl⟩ : ∃ wo, wo = wr := ⟨_, rfl⟩
    obtain ⟨vl, rfl⟩ : ∃ vl, vl = u5 := ⟨_, rfl⟩
    clear hn1 hb hR hrd
    go_upto_region 7 with (go_at_call 96; (with_reducible refine (new_c (q : Int) q 0 0 0 _ HQ.out).mono ?_); rintro e w2 ⟨b, rfl, hb0, hb2, ho⟩)
    have hbx2 : Below w0.heap.size w0 w2 := HB.out.trans (hb2.mono HB.out.size)
    have hR2 := HR.out.below hb2
    have hB12 := HB1.out.below hbx2 HB1.out.lt
    generalize hw3 : w2.alloc _ = w3
    have HW3 : Hid (w3 = w2.alloc (.cells #[.slice (some ⟨b, 0, none⟩) q q, .bool false, .int .i64 0, .bool false] 64)) := hw3.symm
    have hbx3 : Below w0.heap.size w0 w3 := by rw [← hw3]; exact hbx2.alloc hbx2.size _
    have hBx := hB12.below (B := w2.heap.size) (w' := w3) (by rw [← hw3]; exact (Below.refl _ _).alloc (Nat.le_refl _) _) hB12.lt
    have hBr : Blk w3 w2.heap.size 64 #[.slice (some ⟨b, 0, none⟩) q q, .bool false, .int .i64 0, .bool false] := by rw [← hw3]; exact Blk.new _ _ _
    have ho3 := (ho.alloc (.cells #[.slice (some ⟨b, 0, none⟩) q q, .bool false, .int .i64 0, .bool false] 64))
    rw [hw3] at ho3
    clear hw3
    obtain ⟨r0, r1, r2, rf, rl⟩ := hBx.facts3
    obtain ⟨z0, z1, z2, z3, zf, zl⟩ := hBr.facts4
    have hne : w.heap.size ≠ w2.heap.size := by have := hB12.lt; omega
    go_region
    generalize hw4 : (World.setCell (World.setCell w3 _ _) _ _).drew = w4
    have hblt : b < w2.heap.size := ho.lt
    have hg34 : w3.grownBy w4 (some w2.heap.size) := by rw [← hw4]; (exact gbAll)
    have hBr4 : Blk w4 w2.heap.size 64 #[.slice (some ⟨b, 0, none⟩) q q, .bool false, .int .i64 dir, .bool ex] := by rw [← hw4]; exact (hBr.set_ 2 (.int .i64 dir)).set_ 3 (.bool ex)
    have hb4 : Below wo.heap.size wo w4 := below_gb ((hb2.trans (by rw [show w3 = w2.alloc (.cells #[.slice (some ⟨b, 0, none⟩) q q, .bool false, .int .i64 0, .bool false] 64) from HW3.out]; exact ((Below.refl _ _).alloc hb2.size _)))) hg34 (by have := hb2.size; omega) (by have := hb2.size; omega)
    have ho4 : Own w4 b q (padF []) := (ho3.gb hg34 (by intro e; injection e; omega)).congr fun i hi => rfl
    have HBr4 := Lib.hid hBr4
    have HB4 := Lib.hid hb4
    have hw24 : w2.heap.size < w4.heap.size := hBr4.lt
    clear hw4 hg34 hBr hBr4 r0 r1 r2 rf rl z0 z1 z2 z3 zf zl hBx hbx3 ho3 hbx2 hR2 hB12 hb4 HW3
    go_wp2_with fail
    go_loopw [5, 6, 8, 30] (fun l lf s i wz => ∃ (k : Nat) (now : List Cl), l = vl ∧ lf = .slice A1 n1 cp1 ∧ k ≤ n1 ∧ i = .int .i64 k ∧ s = .int .i64 now.length ∧ now.length ≤ q ∧ (now.length = 0 ∨ 1 ≤ k) ∧ Own wz b q (padF now) ∧ w4.grownBy wz (some b) ∧ Hid ((rest.drop k).foldl (stepS q) (done, now) = FIN)) (fun _ _ _ i _ => n1 - (intOf i).toNat)
    case atStart => exact ⟨0, [], rfl, rfl, Nat.zero_le _, rfl, rfl, Nat.zero_le _, .inl rfl, ho4, World.grownBy.refl _ _, HFO.out⟩
    case round =>
      obtain ⟨k, now, rfl, rfl, hk, rfl, rfl, hnq, hnk, hoz, hgz, HF⟩ := hrel
      have hbz : Below wo.heap.size wo wr := below_gb HB4.out hgz hb0 HB4.out.size
      have hBrz := HBr4.out.gb hgz (by intro e; injection e; omega)
      obtain ⟨z0, z1, z2, z3, zf, zl⟩ := hBrz.facts4
      have hgs := hgz.size
      have HBZ := Lib.hid hbz
      have HBZ0 : Hid (Below w0.heap.size w0 wr) := HB.out.trans (hbz.mono HB.out.size)
      have HOZ := Lib.hid hoz
      have HBRZ := Lib.hid hBrz
      have HGZ := Lib.hid hgz
      clear hoz hgz hBrz hbz
      by_cases hlt : k < n1
      · have hltI : (k : Int) < n1 := by omega
        have hkl : k < rest.length := by rw [← HN1.out]; exact hlt
        obtain ⟨bc, oc, rfl, hbl, hat⟩ := rdC_at (HRD.out.below HBZ0.out) (List.getElem?_eq_getElem hkl)
        have HOKC : Hid (okC rest[k] = true) := HOK1.out _ (List.getElem_mem hkl)
        have HF1 : Hid ((rest.drop (k + 1)).foldl (stepS q) (stepS q (done, now) rest[k]) = FIN) := by
          show _ = _
          rw [← HF.out, List.drop_eq_getElem_cons hkl]
          rfl
        have HDR : Hid (rest.drop k = rest[k] :: rest.drop (k + 1)) := List.drop_eq_getElem_cons hkl
        generalize rest[k] = ce at *
        obtain ⟨c0, c1, c2, c3, c4, c5, c6⟩ := hat
        have hwl := whole_len HOKC.out
        have hw12 : 1 ≤ ce.w ∧ ce.w ≤ 2 := by have := (okC_iff.1 HOKC.out).1; omega
        obtain ⟨p, hp⟩ : ∃ p, now.length = p := ⟨_, rfl⟩
        rw [hp] at hnq hnk ⊢
        have HP := Lib.hid hp
        clear hp
        have hwrap : IntKind.i64.wrap ((p : Int) + ce.w) = (p : Int) + ce.w := by rw [IntWalk.i64_left]; exact IntWalk.wrap64_in _ (by omega)
        by_cases hgt : (q : Int) < ce.w
        · have hgb : decide ((q : Int) < ce.w) = true := by simpa using hgt
          have HGT := Lib.hid hgt
          clear hgt
          go_wp2_with fail
          go_roundw
          case rel => exact ⟨k + 1, now, rfl, rfl, by omega, by go_num, by rw [HP.out], by rw [HP.out]; exact hnq, .inr (by omega), HOZ.out.alloc _, gb_alloc HGZ.out _, by have := HF1.out; rw [stepS_skip HGT.out] at this; exact this⟩
          case measure => simp [intOf]; omega
        · have hgb : decide ((q : Int) < ce.w) = false := by simpa using hgt
          have HGT := Lib.hid hgt
          clear hgt
          by_cases hov : (q : Int) < (p : Int) + ce.w
          · have hob : decide ((q : Int) < (p : Int) + ce.w) = true := by simpa using hov
            have HOV := Lib.hid hov
            have hk1 : 1 ≤ k := by have := HGT.out; omega
            clear hov
            go_wp2_with fail
            generalize hw5 : World.alloc (World.setCell wr _ _) _ = w5
            have HB5 : Hid (Blk w5 w2.heap.size 64 #[.slice (some ⟨b, 0, none⟩) q q, .bool true, .int .i64 dir, .bool ex]) := by show Blk _ _ _ _; rw [← hw5]; exact (HBRZ.out.set_ 1 (.bool true)).alloc _
            have hb5 : Below wo.heap.size wo w5 := by rw [← hw5]; exact (HBZ.out.setCell (by have := hb2.size; omega) _).alloc (by simpa [World.setCell] using HBZ.out.size) _
            have HO5 : Hid (Own w5 b q (padF now)) := by show Own _ _ _ _; rw [← hw5]; exact (HOZ.out.far' (by show w2.heap.size ≠ b; omega) _).alloc _
            have HB0 : Hid (Below w0.heap.size w0 w5) := HB.out.trans (hb5.mono HB.out.size)
            have HRX : Hid (RowsX w5 w0.heap.size u5 R) := HR.out.below hb5
            have HNE : Hid (some w2.heap.size ≠ u5.ownBlock) := fun e => by have := (HR.out.1.lt e.symm).2; have := hb2.size; omega
            have HNB : Hid (some b ≠ u5.ownBlock) := fun e => by have := (HR.out.1.lt e.symm).2; omega
            have HM63 : Hid (R.length + 1 ≤ maxLen) := by show _ ≤ _; unfold maxLen; omega
            have HM47 : Hid ((R.length + 1) * 48 ≤ 140737488355328) := by show _ ≤ _; omega
            have HSZ : Hid (w0.heap.size ≤ w5.heap.size) := HB0.out.size
            have HW5 : Hid (b < w5.heap.size ∧ w0.heap.size ≤ b) := ⟨HO5.out.lt, by omega⟩
            obtain ⟨A2, -, hrun, hcut⟩ := slice1 (E := encC) (P := Tryz.prog) 62 67 Tryz.underlying62 (by kernel_rfl) (some ⟨bc, oc, none⟩) n1 cp1 k (by omega) hcp1
            have HCUT := Lib.hid hcut
            obtain ⟨y0, y1, y2, y3, yf, yl⟩ := HB5.out.facts4
            clear hw5 z0 z1 z2 z3 zf zl c0 c1 c2 c3 c4 c5 c6 hcut hb5
            refine hr_start (S := (fun w' => w'.cell? ⟨w2.heap.size, 0, none⟩ = some (.slice (some ⟨b, 0, none⟩) q q) ∧ w'.cell? ⟨w2.heap.size, 1, none⟩ = some (.bool true) ∧ w'.cell? ⟨w2.heap.size, 2, none⟩ = some (.int .i64 dir) ∧ w'.cell? ⟨w2.heap.size, 3, none⟩ = some (.bool ex))) (by kernel_rfl) rfl ?_ (fun hHeld => ?_)
            · ((try dsimp only); go_simp)
            refine hr_q 0 ?_
            simp only [st0, st1]
            refine hr_q 1 ?_
            simp only [st0, st1]
            refine hr_q 4 ?_
            simp only [st0, st1]
            refine hr_q 5 ?_
            simp only [st0, st1]
            refine hr_q 6 ?_
            simp only [st0, st1]
            refine hr_o 2 (fun K hK => ?_)
            go_simp
            (try go_wp2_with fail)
            refine hK.out _ _ ?_ (fun hHeld => ?_)
            · ((try dsimp only); go_simp)
            clear hK K
            simp only [st0, st1]
            refine hr_o 3 (fun K hK => ?_)
            (refine wp_append_X encR (.tmp 46) (.tmp 48) _ rfl w0.heap.size 64 48 i3 _ rfl HI3.out HZ3.out HS3.out HB3.out rfl _ _ R [(⟨some ⟨b, 0, none⟩, q, q, padF now, true, dir, ex⟩ : Rw)] (by rfl) (by rfl) (OwnX.drew (HRX.out.1.alloc _)) (rdX_one_drew (E := encR) _ _ (⟨some ⟨b, 0, none⟩, q, q, padF now, true, dir, ex⟩ : Rw) _ _ rfl rfl) (by rw [List.length_singleton]; exact HM63.out) (by rw [List.length_singleton]; exact HM47.out) (Nat.le_trans HSZ.out (by simp)) ?_; intro v6 w6 hv6 hgb6 hor6; obtain ⟨y0, y1, y2, y3, yf, yl⟩ := (Blk.gb (blk_alloc_drew HB5.out _) hgb6 HNE.out).facts4)
            refine hK.out _ _ ?_ (fun hHeld => ?_)
            · ((try dsimp only); go_simp)
            clear hK K
            simp only [st0, st1]
            refine hr_q 7 ?_
            simp only [st0, st1]
            refine hr_q 8 ?_
            simp only [st0, st1]
            refine hr_done (by kernel_rfl) ?_
            go_wp2_with fail
            go_roundw
            case rel =>
              have hbl6 : Below w0.heap.size w0 w6 := below_ownx (by have := HB0.out; have := HB0.out.size; exact bcAll) hgb6 (fun g hg => (HR.out.1.lt hg).1) (Nat.le_trans HSZ.out (by simp))
              refine ⟨R ++ [(⟨some ⟨b, 0, none⟩, q, q, padF now, true, dir, ex⟩ : Rw)], done ++ [now], A2, n1 - k, cp1 - k, rest.drop k, rfl, by rw [List.length_drop, ← HN1.out], by omega, by rw [List.length_append, List.length_singleton]; omega, hbl6, RowsX.app (rowsX_alloc_drew HRX.out _) (fun r hr => ?_) hv6 hgb6 hor6, HCUT.out w0 rest HRD.out, ?_, ?_, fun c hc => HOK1.out c (List.mem_of_mem_drop hc)⟩
              · obtain rfl := List.mem_singleton.1 hr
                exact ⟨⟨own_drew (HO5.out.alloc _) |>.rd, Nat.le_refl q, by show q ≤ 5000; omega⟩, b, 0, rfl, HW5.out.2, Nat.lt_of_lt_of_le HW5.out.1 (by simp), HNB.out⟩
              · show _ = _
                rw [HDR.out, List.foldl_cons, ← HF1.out, stepS_new (s := (done, now)) (by have := HGT.out; omega) (by rw [HP.out]; exact HOV.out), stepS_put (s := (done ++ [now], [])) (by have := HGT.out; omega) (by have := HGT.out; simp only [List.length_nil]; omega)]
                rfl
              · show _ = _
                rw [List.map_append, HSH.out, List.map_append]
                rfl
            case measure => simp [sliceLen]; omega
          · have hob : decide ((q : Int) < (p : Int) + ce.w) = false := by simpa using hov
            have HOV := Lib.hid hov
            have hpq : p < q := by omega
            have hpw : p + (wholeL ce).length ≤ q := by omega
            obtain ⟨g, hg⟩ : ∃ g, wr.heap.size = g := ⟨_, rfl⟩
            go_wp2_with fail
            generalize hw5 : wr.alloc _ = w5
            have HB5 : Hid (Blk w5 w2.heap.size 64 #[.slice (some ⟨b, 0, none⟩) q q, .bool false, .int .i64 dir, .bool ex]) := by show Blk _ _ _ _; rw [← hw5]; exact HBRZ.out.alloc _
            have HBC : Hid (Blk w5 g 67 ce.cells.toArray) := by show Blk _ _ _ _; rw [← hw5, ← hg]; exact Blk.new _ _ _
            have HO5 : Hid (Own w5 b q (padF now)) := by show Own _ _ _ _; rw [← hw5]; exact HOZ.out.alloc _
            have HG5 : Hid (w4.grownBy w5 (some b)) := by show World.grownBy _ _ _; rw [← hw5]; exact gb_alloc HGZ.out _
            have HNE2 : Hid (some w2.heap.size ≠ some b) := fun e => by injection e; omega
            have HNE3 : Hid (some g ≠ some b) := fun e => by injection e; omega
            have hrun : ∀ w, (Instr.slice 62 (.slice (some ⟨b, 0, none⟩) q q) (some (.int .i64 (p : Int))) none none).run Tryz.prog w = .ok (.slice (some ⟨b, p * 7, none⟩) (q - p) (q - p)) w := fun w => by
              have h := slice1_at (E := encC) (P := Tryz.prog) 62 67 Tryz.underlying62 (by kernel_rfl) b 0 q q p hpq (Nat.le_refl q) w
              rw [Nat.zero_add] at h
              exact h
            obtain ⟨y0, y1, y2, y3, yf, yl⟩ := HB5.out.facts4
            obtain ⟨e0, e1, e2, e3, e4, e5, e6, ef, el⟩ := HBC.out.facts7
            clear hw5 z0 z1 z2 z3 zf zl c0 c1 c2 c3 c4 c5 c6 hov hg
            refine hr_start (S := (fun w' => w'.cell? ⟨w2.heap.size, 0, none⟩ = some (.slice (some ⟨b, 0, none⟩) q q) ∧ w'.cell? ⟨g, 0, none⟩ = some (.int .i64 ce.r) ∧ w'.cell? ⟨g, 1, none⟩ = some (.int .i64 ce.m0) ∧ w'.cell? ⟨g, 2, none⟩ = some (.int .i64 ce.m1) ∧ w'.cell? ⟨g, 3, none⟩ = some (.int .i64 ce.w) ∧ w'.cell? ⟨g, 4, none⟩ = some (.int .i64 ce.fg) ∧ w'.cell? ⟨g, 5, none⟩ = some (.int .i64 ce.bg) ∧ w'.cell? ⟨g, 6, none⟩ = some (.int .i64 ce.fl))) (by kernel_rfl) rfl ?_ (fun hHeld => ?_)
            · ((try dsimp only); go_simp)
            refine hr_q 0 ?_
            simp only [st0, st1]
            refine hr_q 1 ?_
            simp only [st0, st1]
            refine hr_q 2 ?_
            simp only [st0, st1]
            refine hr_q 3 ?_
            simp only [st0, st1]
            refine hr_q 4 ?_
            simp only [st0, st1]
            refine hr_q 5 ?_
            simp only [st0, st1]
            refine hr_o 6 (fun K hK => ?_)
            go_simp
            (go_at_call 122; (with_reducible refine (whole_c2 ce _ HOKC.out).mono ?_); rintro e w7 ⟨b5, o5, n5, rfl, hn5, h51, h52, hb7, hl7, hc7⟩; have hwr5 : IntKind.i64.wrap ((p : Int) + (n5 : Int)) = (p : Int) + (n5 : Int) := (by rw [IntWalk.i64_left]; exact IntWalk.wrap64_in _ (by omega)); have HN5 := Lib.hid hn5; have HC7 := Lib.hid hc7; have HB7 := Lib.hid hb7; have hfit5 : p * 7 + n5 * 7 ≤ q * 7 := (by rw [hn5]; omega); have hmin5 : n5 ≤ q - p := (by omega); obtain ⟨X7, d7, rfl⟩ := Below.toGrow hb7; clear hb7 hc7 hn5)
            (try go_wp2_with fail)
            refine hK.out _ _ ?_ (fun hHeld => ?_)
            · ((try dsimp only); go_simp)
            clear hK K
            simp only [st0, st1]
            refine hr_o 7 (fun K hK => ?_)
            (refine wp_copy_rows (.tmp 57) (.tmp 59) _ _ rfl 67 7 Tryz.underlying62 cellSize b (p * 7) (q * 7) 67 (valF (padF now)) _ _ _ _ n5 ⟨b5, o5, none⟩ (valF (wF ce)) (by rfl) (by rfl) (show Own _ _ _ _ from (Own.grow (own_drew HO5.out) X7 d7)) (by show min _ _ = _; omega) (fun j hj => Rd.cellsOf HC7.out j hj) hfit5 (fun j _ => val_one _ _) ?_; intro w6 hrow6 hg6 hz6; obtain ⟨y0, y1, y2, y3, yf, yl⟩ := (Blk.gb (Blk.grow (show Blk w5.drew _ _ _ from HB5.out) X7 d7) hg6 HNE2.out).facts4; obtain ⟨e0, e1, e2, e3, e4, e5, e6, ef, el⟩ := (Blk.gb (Blk.grow (show Blk w5.drew _ _ _ from HBC.out) X7 d7) hg6 HNE3.out).facts7)
            refine hK.out _ _ ?_ (fun hHeld => ?_)
            · ((try dsimp only); go_simp)
            clear hK K
            simp only [st0, st1]
            refine hr_q 8 ?_
            simp only [st0, st1]
            refine hr_q 9 ?_
            simp only [st0, st1]
            refine hr_done (by kernel_rfl) ?_
            go_wp2_with fail
            go_roundw
            case rel =>
              have hlen : ((now ++ wholeL ce).length : Int) = (p : Int) + n5 := by rw [List.length_append, HP.out, ← HN5.out]; omega
              refine ⟨k + 1, now ++ wholeL ce, rfl, rfl, by omega, by go_num, by rw [hlen], by rw [List.length_append, HP.out, ← HN5.out]; omega, .inr (by omega), ?_, ?_, ?_⟩
              · have h := hrow6
                rw [← HP.out, HN5.out] at h
                exact World.rowIs.congr h fun i _ => pad_whole i
              · exact gb_trans (by have := HG5.out; (exact gbAll)) hg6
              · show _ = _
                have := HF1.out
                rw [stepS_put (s := (done, now)) (by have := HGT.out; omega) (by rw [HP.out]; have := HOV.out; omega)] at this
                exact this
            case measure => simp [intOf]; omega
      · obtain rfl : n1 = k := by omega
        have hD : rest.drop n1 = [] := List.drop_eq_nil_of_le (by rw [← HN1.out]; exact Nat.le_refl _)
        have HFE : Hid ((done, now) = FIN) := by
          show _ = _
          rw [← HF.out, hD]
          rfl
        have HRX : Hid (RowsX wr w0.heap.size u5 R) := HR.out.below HBZ.out
        have HNB : Hid (some b ≠ u5.ownBlock) := fun e => by have := (HR.out.1.lt e.symm).2; omega
        have HSZ : Hid (w0.heap.size ≤ wr.heap.size) := HBZ0.out.size
        have HM63 : Hid (R.length + 1 ≤ maxLen) := by show _ ≤ _; unfold maxLen; omega
        have HM47 : Hid ((R.length + 1) * 48 ≤ 140737488355328) := by show _ ≤ _; omega
        clear hD
        have HGZ0 : Hid (Below w0.heap.size w0 wr) := HBZ0.out
        go_wp2_with (at_builtin; go_loud (refine wpList_append_X encR rfl _ _ _ rfl w0.heap.size 64 48 i3 _ rfl HI3.out HZ3.out HS3.out HB3.out rfl _ _ R [(⟨some ⟨b, 0, none⟩, q, q, padF now, false, dir, ex⟩ : Rw)] rfl rfl (HRX.out.1.alloc _) (rdX_one (E := encR) _ _ (⟨some ⟨b, 0, none⟩, q, q, padF now, false, dir, ex⟩ : Rw) _ _ rfl rfl) (by rw [List.length_singleton]; exact HM63.out) (by rw [List.length_singleton]; exact HM47.out) (Nat.le_trans HSZ.out (by simp)) ?_; intro v6 w6 hv6 hgb6 hor6))
        replace hgb6 : World.grownBy _ w6 u5.ownBlock := hgb6
        replace hor6 : v6.ownBlock = u5.ownBlock ∨ v6.ownBlock = _ := hor6
        have hbl6 : Below w0.heap.size w0 w6 := below_ownx (by have := HBZ0.out; have := HBZ0.out.size; exact bcAll) hgb6 (fun g hg => (HR.out.1.lt hg).1) (Nat.le_trans HSZ.out (by simp))
        rw [Exit.noGoto_ret]
        go_ret
        refine ⟨v6, R ++ [(⟨some ⟨b, 0, none⟩, q, q, padF now, false, dir, ex⟩ : Rw)], rfl, HBW0.out.trans (hbl6.mono HBW0.out.size), RowsX.mono (RowsX.app (rowsX_alloc HRX.out _) (fun r hr => ?_) hv6 hgb6 hor6) HBW0.out.size, ?_⟩
        · obtain rfl := List.mem_singleton.1 hr
          exact ⟨⟨(HOZ.out.alloc _).rd, Nat.le_refl q, by show q ≤ 5000; omega⟩, b, 0, rfl, by omega, Nat.lt_of_lt_of_le HOZ.out.lt (by simp), HNB.out⟩
        · rw [List.map_append, HSH.out, ← HFE.out]
          rfl
theorem split_c (A : Option Addr) (n cap : Nat) (cs : List Cl) (dir : Int) (ex : Bool) (v : Int) (w : World) (hx : RdX encC w (.slice A n cap) cs) (hn : n = cs.length) (hl : n ≤ 10000000) :
    Calls Tryz.prog 120 #[.agg #[.slice A n cap, .int .i64 dir, .bool ex], .int .i64 v] w (SplitF ⟨cs, dir, ex⟩ v w) := by
  cases hs : sanL ⟨cs, dir, ex⟩
  · exact split_no A n cap cs dir ex v w hx hn hl hs
  · exact split_yes A n cap cs dir ex v w hx hn hl hs
end Go.Proofs.YtlchffkabpfjpaaGreat.Row
end
section
/- reflow.Spread. -/
namespace Go.Proofs.YtlchffkabpfjpaaGreat.Row
open Go.RowKit
def tot (L : List Ln) : Nat := (L.map (fun l => l.cs.length + 1)).sum
theorem Ln.ok.len {w : World} {l : Ln} (h : l.ok w) : l.cs.length ≤ 10000000 := h.2
theorem fold_len (w : Nat) : ∀ (cs : List Cl) (s : List (List Cl) × List Cl), (cs.foldl (stepS w) s).1.length ≤ s.1.length + cs.length
  | [], s => by simp
  | c :: cs, s => by
    rw [List.foldl_cons, List.length_cons]
    refine Nat.le_trans (fold_len w cs _) ?_
    unfold stepS
    split
    · omega
    · split
      · rw [List.length_append, List.length_singleton]
        omega
      · simp only
        omega
theorem split_len (x : Ls) (v : Int) : (splitG x v).length ≤ x.cs.length + 1 := by
  unfold splitG
  split
  · unfold splitS finS
    rw [List.length_append, List.length_map, List.length_singleton]
    have := fold_len (wN v) x.cs ([], [])
    simp only [List.length_nil] at this
    omega
  · simp
theorem spread_len (v : Int) : ∀ L : List Ln, (spreadS (L.map Ln.ls) v).length ≤ tot L
  | [] => by simp [spreadS, tot]
  | l :: L => by
    have h := spread_len v L
    have h2 := split_len l.ls v
    unfold spreadS tot at *
    rw [List.map_cons, List.flatMap_cons, List.length_append, List.map_cons, List.sum_cons]
    have : l.ls.cs = l.cs := rfl
    rw [this] at h2
    omega
theorem tot_app (L M : List Ln) : tot (L ++ M) = tot L + tot M := by unfold tot; rw [List.map_append, List.sum_append]
theorem tot_take (L : List Ln) (k : Nat) : tot (L.take k) ≤ tot L := by
  have h := tot_app (L.take k) (L.drop k)
  rw [List.take_append_drop] at h
  omega
theorem take_next {α : Type} {L : List α} {k : Nat} (h : k < L.length) : L.take (k + 1) = L.take k ++ [L[k]] := by
  rw [List.take_add_one, List.getElem?_eq_getElem h]
  rfl
def SpreadF (L : List Ls) (v : Int) (w : World) (e : Ending) (w' : World) : Prop := ∃ u R, e = .returned u ∧ Below w.heap.size w w' ∧ RowsX w' w.heap.size u R ∧ R.map Rw.sh = spreadS L v
theorem frR_up {w : World} {base base' : Nat} {own own' : Option Nat} {r : Rw} (h : FrR w base' own' r) (hb : base ≤ base') (ho : ∀ g, own = some g → g < base') : FrR w base own r := by
  obtain ⟨h1, b, o, hA, h2, h3, -⟩ := h
  exact ⟨h1, b, o, hA, by omega, h3, fun e => by have := ho b e.symm; omega⟩
theorem below_then {a w w1 w2 : World} (_ : Below a.heap.size a w) (h1 : Below w.heap.size w w1) (h2 : Below w1.heap.size w1 w2) : Below w.heap.size w w2 := h1.trans (h2.mono h1.size)
set_option maxRecDepth 100000 in
set_option maxHeartbeats 4000000 in
theorem spread_c (x : Value) (L : List Ln) (v : Int) (w : World) (hx : RdL w x L) (hl : L.length ≤ 100000) (ht : tot L ≤ 10000000) :
    Calls Tryz.prog 111 #[x, .int .i64 v] w (SpreadF (L.map Ln.ls) v w) := by
  obtain ⟨A, cap, rfl, hc⟩ := hx.1.len
  have HT := Lib.hid ht
  have HX := Lib.hid hx
  clear ht
  obtain ⟨n, hn⟩ : ∃ n, L.length = n := ⟨_, rfl⟩
  rw [hn] at hl hc ⊢
  have HN := Lib.hid hn
  replace hx : Hid (RdL w (.slice A n cap) L) := by show RdL _ _ _; rw [← hn]; exact hx
  clear HX hn
  obtain ⟨i3, hi3, hz3, hs3, hb3⟩ := row_parts
  have HI3 := Lib.hid hi3
  have HZ3 := Lib.hid hz3
  have HS3 := Lib.hid hs3
  have HB3 := Lib.hid hb3
  clear hi3 hz3 hs3 hb3
  go_enter Tryz.func111, Tryz.ntmps111
  go_wp2_with fail
  go_loopw [5, 10] (fun l i wz => ∃ (k : Nat) (R : List Rw), k ≤ n ∧ i = .int .i64 k ∧ Hid (RowsX wz w.heap.size l R) ∧ Below w.heap.size w wz ∧ Hid (R.map Rw.sh = spreadS ((L.take k).map Ln.ls) v)) (fun _ i _ => n - (intOf i).toNat)
  case atStart => exact ⟨0, [], Nat.zero_le _, rfl, RowsX.nil _ _, Below.refl _ _, rfl⟩
  case round =>
    obtain ⟨k, R, hk, rfl, HR, hbw, HSH⟩ := hrel
    have hws := hbw.size
    by_cases hlt : k < n
    · have hkl : k < L.length := by rw [HN.out]; exact hlt
      obtain ⟨b, o, rfl, hbl, hat, hok⟩ := (hx.out.below hbw).at_ hkl
      have HTK := Lib.hid (take_next hkl)
      have HTT : Hid (R.length + (L[k].cs.length + 1) ≤ 10000000) := by
        show _ ≤ _
        have h1 := tot_take L (k + 1)
        rw [take_next hkl, tot_app] at h1
        have h2 := spread_len v (L.take k)
        rw [← HSH.out, List.length_map] at h2
        have h3 := HT.out
        have h4 : tot [L[k]] = L[k].cs.length + 1 := by simp [tot]
        omega
      generalize L[k] = le at *
      have HOK := Lib.hid hok
      obtain ⟨p0, p1, p2⟩ := hat
      have hltI : (k : Int) < n := by omega
      clear hok
      go_wp2_with (first | (go_at_call 120; go_loud ((with_reducible refine (split_c le.A le.cs.length le.cap le.cs le.dir le.ex v _ (HOK.out.rdB (by exact bcAll)) rfl HOK.out.len).mono ?_); rintro e w2 ⟨u2, R2, rfl, hb2, hr2, hs2⟩; have HB2 := Lib.hid hb2; have HR2 := Lib.hid hr2; have HS2 := Lib.hid hs2; have HL2 : Hid (R2.length ≤ le.cs.length + 1) := (by show _ ≤ _; rw [← List.length_map (f := Rw.sh), hs2]; exact split_len le.ls v); have HM63 : Hid (R.length + R2.length ≤ maxLen) := (by have h1 := HL2.out; have h2 := HTT.out; show _ ≤ _; unfold maxLen; omega); have HM47 : Hid ((R.length + R2.length) * 48 ≤ 140737488355328) := (by have h1 := HL2.out; have h2 := HTT.out; show _ ≤ _; omega); have HSZ : Hid (w.heap.size ≤ w2.heap.size) := (by have h1 := hb2.size; have h2 := hbw.size; show _ ≤ _; simp only [World.size_alloc] at h1; omega); have HX2 : Hid (OwnX encR w2 w.heap.size 64 u5 R) := (HR.out.1.below (B := wr.heap.size) (below_then hbw ((Below.refl _ _).alloc (Nat.le_refl _) _) hb2) (Nat.le_refl _)); clear hb2 hr2 hs2)) | (at_builtin; go_loud (refine wpList_append_X encR rfl _ _ _ rfl w.heap.size 64 48 i3 _ rfl HI3.out HZ3.out HS3.out HB3.out rfl _ _ R R2 rfl rfl HX2.out HR2.out.1.rd HM63.out HM47.out HSZ.out ?_; intro v6 w6 hv6 hgb6 hor6)))
      replace hgb6 : World.grownBy _ w6 u5.ownBlock := hgb6
      replace hor6 : v6.ownBlock = u5.ownBlock ∨ v6.ownBlock = _ := hor6
      have hbw2 : Below w.heap.size w w2 := hbw.trans ((below_then hbw ((Below.refl _ _).alloc (Nat.le_refl _) _) HB2.out).mono hbw.size)
      have hbw6 : Below w.heap.size w w6 := below_ownx hbw2 hgb6 (fun g hg => (HR.out.1.lt hg).1) hbw2.size
      have hR2 : RowsX w2 w.heap.size u5 R := HR.out.below (below_then hbw ((Below.refl _ _).alloc (Nat.le_refl _) _) HB2.out)
      go_roundw
      case rel =>
        refine ⟨k + 1, R ++ R2, by omega, by go_num, RowsX.app hR2 (fun r hr => frR_up (HR2.out.2 r hr) (by simp; omega) (fun g hg => by have := (HR.out.1.lt hg).2; simp; omega)) hv6 hgb6 hor6, hbw6, ?_⟩
        show _ = _
        rw [List.map_append, HSH.out, HS2.out, HTK.out, List.map_append]
        unfold spreadS
        rw [List.flatMap_append]
        simp [Ln.ls]
      case measure => simp [intOf]; omega
    · obtain rfl : n = k := by omega
      go_wp2_with fail
      go_ret
      refine ⟨_, R, rfl, hbw, HR.out, ?_⟩
      rw [HSH.out, List.take_of_length_le (by rw [HN.out]; exact Nat.le_refl _)]
end Go.Proofs.YtlchffkabpfjpaaGreat.Row
end
