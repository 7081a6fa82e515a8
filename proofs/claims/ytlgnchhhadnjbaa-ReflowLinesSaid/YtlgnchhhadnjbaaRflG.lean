/- reflow, plainly: rows may be; a place stays. -/
import Derived.Test.YtlgnchhhadnjbaaRflN
namespace Go.Proofs.Ytlgnchhhadnjbaa.Row
open Go.RowKit
/-- cells that may stand in a row -/
def Good (l : List Cl) : Prop := ∀ (i : Nat) (c : Cl), l[i]? = some c → fitsB c = true ∧ (c.w = 0 → ∃ d, 0 < i ∧ l[i - 1]? = some d ∧ d.w = 2) ∧ (c.w = 2 → ∃ d, l[i + 1]? = some d ∧ d.w = 0)
theorem Good.nil : Good [] := fun i c h => by simp at h
theorem Good.app {a b : List Cl} (ha : Good a) (hb : Good b) : Good (a ++ b) := by
  intro i c h
  by_cases hi : i < a.length
  · rw [List.getElem?_append_left hi] at h
    obtain ⟨h1, h2, h3⟩ := ha i c h
    refine ⟨h1, fun h0 => ?_, fun h0 => ?_⟩
    · obtain ⟨d, e1, e2, e3⟩ := h2 h0
      exact ⟨d, e1, by rw [List.getElem?_append_left (by omega)]; exact e2, e3⟩
    · obtain ⟨d, e1, e2⟩ := h3 h0
      have := (List.getElem?_eq_some_iff.1 e1).1
      exact ⟨d, by rw [List.getElem?_append_left this]; exact e1, e2⟩
  · rw [List.getElem?_append_right (by omega)] at h
    obtain ⟨h1, h2, h3⟩ := hb _ c h
    refine ⟨h1, fun h0 => ?_, fun h0 => ?_⟩
    · obtain ⟨d, e1, e2, e3⟩ := h2 h0
      exact ⟨d, by omega, by rw [List.getElem?_append_right (by omega), show i - 1 - a.length = i - a.length - 1 by omega]; exact e2, e3⟩
    · obtain ⟨d, e1, e2⟩ := h3 h0
      exact ⟨d, by rw [List.getElem?_append_right (by omega), show i + 1 - a.length = i - a.length + 1 by omega]; exact e1, e2⟩
theorem Good.whole {c : Cl} (h : okC c = true) : Good (wholeL c) := by
  obtain ⟨hw, hf⟩ := okC_iff.1 h
  intro i d hd
  unfold wholeL at *
  split at hd
  · rename_i h2
    match i, hd with
    | 0, hd =>
      obtain rfl : c = d := by simpa using hd
      exact ⟨hf, fun h0 => by omega, fun _ => ⟨halfOf c, by simp [h2], rfl⟩⟩
    | 1, hd =>
      obtain rfl : halfOf c = d := by simpa using hd
      exact ⟨fits_halfO hf, fun _ => ⟨c, by omega, by simp [h2], h2⟩, fun h0 => by simp [halfOf] at h0⟩
    | n + 2, hd => simp at hd
  · rename_i h2
    match i, hd with
    | 0, hd =>
      obtain rfl : c = d := by simpa using hd
      exact ⟨hf, fun h0 => by omega, fun h0 => by omega⟩
    | n + 1, hd => simp at hd
theorem fits_b0 : fitsB (blank 0 0 0) = true := by decide
theorem saneRow {q : Nat} {l : List Cl} {dir : Int} (h1 : 1 ≤ q) (h2 : q ≤ 4096) (hl : l.length ≤ q) (hg : Good l) (hd : 0 ≤ dir ∧ dir ≤ 2) : saneB q (padF l) dir = true := by
  rw [sane_iff]
  refine ⟨h1, h2, hd.1, hd.2, fun i hi => ?_⟩
  cases hc : l[i]? with
  | some c =>
    obtain ⟨g1, g2, g3⟩ := hg i c hc
    rw [padF_in hc]
    refine ⟨g1, ?_⟩
    unfold lostB
    rw [padF_in hc, decide_eq_false_iff_not]
    rintro (⟨h0, h3⟩ | ⟨h0, h3⟩)
    · obtain ⟨d, e1, e2, e3⟩ := g2 h0
      rw [padF_in e2] at h3
      rcases h3 with h3 | h3
      · omega
      · exact h3 e3
    · obtain ⟨d, e1, e2⟩ := g3 h0
      have := (List.getElem?_eq_some_iff.1 e1).1
      rw [padF_in e1] at h3
      rcases h3 with h3 | h3
      · omega
      · exact h3 e2
  | none =>
    have hlen : l.length ≤ i := List.getElem?_eq_none_iff.1 hc
    rw [padF_out hlen]
    refine ⟨fits_b0, ?_⟩
    unfold lostB
    rw [padF_out hlen]
    simp [blank]
theorem tl_sane {x : Ls} {q : Nat} (hq : 2 ≤ q) (hq2 : q ≤ 4096) (hd : 0 ≤ x.dir ∧ x.dir ≤ 2) : ∀ (cs now : List Cl), (∀ c ∈ cs, okC c = true) → now.length ≤ q → Good now → ∀ s ∈ tl x q now cs, s.cs.length = q ∧ saneB q (fun i => (s.cs[i]?).getD (blank 0 0 0)) s.dir = true
  | [], now, _, hn, hg, s, hs => by
    obtain rfl := List.mem_singleton.1 hs
    refine ⟨rowS_len _ _ _ _, ?_⟩
    rw [sane_congr (g := padF now) (fun i hi => by rw [rowS_get _ _ _ _ hi]; rfl)]
    exact saneRow (by omega) hq2 hn hg hd
  | c :: cs, now, h, hn, hg, s, hs => by
    have hok := h c (by simp)
    have hw := whole_len hok
    have hw2 := whole_len2 hok
    simp only [tl] at hs
    split at hs
    · rcases List.mem_cons.1 hs with rfl | hs
      · refine ⟨rowS_len _ _ _ _, ?_⟩
        rw [sane_congr (g := padF now) (fun i hi => by rw [rowS_get _ _ _ _ hi]; rfl)]
        exact saneRow (by omega) hq2 hn hg hd
      · exact tl_sane hq hq2 hd cs (wholeL c) (fun d hd => h d (List.mem_cons_of_mem _ hd)) (by omega) (Good.whole hok) s hs
    · rename_i hov
      exact tl_sane hq hq2 hd cs (now ++ wholeL c) (fun d hd => h d (List.mem_cons_of_mem _ hd)) (by rw [List.length_append]; omega) (hg.app (Good.whole hok)) s hs
theorem spread_sane {R : List Rw} {X : List Ls} {v : Int} (hv : 2 ≤ wN v) (hR : R.map Rw.sh = spreadS X v) (h : ∀ x ∈ X, sanL x = true) : areB R = true ∧ ∀ r ∈ R, r.n = wN v := by
  have key : ∀ s ∈ spreadS X v, s.cs.length = wN v ∧ saneB (wN v) (fun i => (s.cs[i]?).getD (blank 0 0 0)) s.dir = true := by
    intro s hs
    unfold spreadS at hs
    obtain ⟨x, hx, hsx⟩ := List.mem_flatMap.1 hs
    have hsan := h x hx
    rw [split_tl hsan hv] at hsx
    obtain ⟨d1, d2, d3⟩ := sanL_iff.1 hsan
    exact tl_sane hv (wN_le v).2 ⟨d1, d2⟩ x.cs [] d3 (by simp) Good.nil s hsx
  have hn : ∀ r ∈ R, r.n = wN v := sh_n hR (fun s hs => (key s hs).1)
  refine ⟨areB_iff.2 fun r hr => ?_, hn⟩
  have hk := (key r.sh (by rw [← hR]; exact List.mem_map_of_mem hr)).2
  show saneB r.n r.f r.dir = true
  rw [hn r hr]
  rw [sane_congr (g := fun i => (r.sh.cs[i]?).getD (blank 0 0 0)) (fun i hi => by
    show r.f i = ((listF r.n r.f)[i]?).getD _
    rw [listF_get (by rw [hn r hr]; exact hi)]
    rfl)]
  exact hk
/-! ### a place stays -/
/-- a line's cells with the halves behind wide ones -/
def wide (cs : List Cl) : List Cl := cs.flatMap wholeL
theorem wide_cons (c : Cl) (cs : List Cl) : wide (c :: cs) = wholeL c ++ wide cs := by unfold wide; rw [List.flatMap_cons]
theorem tl_ne (x : Ls) (q : Nat) (cs now : List Cl) : ∃ s rest, tl x q now cs = s :: rest := by
  obtain ⟨s, rest, e, _⟩ := tl_dir x q cs now
  exact ⟨s, rest, e⟩
theorem where_tl {x : Ls} {q : Nat} (hq : 2 ≤ q) : ∀ (cs now : List Cl) (left : Nat), (∀ c ∈ cs, okC c = true ∧ c ≠ blank 0 0 0) → now.length ≤ q → NB now →
    (whereN (tl x q now cs) left).1 < (tl x q now cs).length ∧ (whereN (tl x q now cs) left).2 < q ∧ ∀ c, (now ++ wide cs)[left]? = some c → ∃ s, (tl x q now cs)[(whereN (tl x q now cs) left).1]? = some s ∧ s.cs[(whereN (tl x q now cs) left).2]? = some c
  | [], now, left, _, hn, _ => by
    simp only [tl, whereN, rowS_len]
    refine ⟨by simp, by omega, fun c hc => ⟨_, rfl, ?_⟩⟩
    rw [show wide [] = [] from rfl, List.append_nil] at hc
    have hl := (List.getElem?_eq_some_iff.1 hc).1
    rw [show min left (q - 1) = left by omega, rowS_get _ _ _ _ (by omega), padF_in hc]
  | c :: cs, now, left, h, hn, hb => by
    obtain ⟨hok, hnb⟩ := h c (by simp)
    have hw := whole_len hok
    have hw2 := whole_len2 hok
    by_cases hov : (q : Int) < now.length + c.w
    · have hrm := room_wrap (x := x) (rest := []) (cs := cs) hq hok hn hov hb
      rw [List.append_nil] at hrm
      obtain ⟨s, rest, e⟩ := tl_ne x q cs (wholeL c)
      have ih := where_tl (x := x) hq cs (wholeL c) (left - now.length) (fun d hd => h d (List.mem_cons_of_mem _ hd)) (by omega) (NB.whole hnb)
      simp only [tl]
      rw [if_pos hov]
      rw [e] at ih hrm ⊢
      rw [List.head?_cons] at hrm
      simp only [whereN]
      rw [hrm]
      by_cases hl : left < now.length
      · rw [if_pos hl]
        refine ⟨by simp, by simp only; omega, fun d hd => ⟨_, rfl, ?_⟩⟩
        rw [List.getElem?_append_left hl] at hd
        rw [rowS_get _ _ _ _ (by simp only; omega), padF_in hd]
      · rw [if_neg hl]
        refine ⟨by simpa using ih.1, ih.2.1, fun d hd => ?_⟩
        rw [List.getElem?_append_right (by omega), wide_cons] at hd
        obtain ⟨s2, h1, h2⟩ := ih.2.2 d hd
        exact ⟨s2, by simpa using h1, h2⟩
    · have ih := where_tl (x := x) hq cs (now ++ wholeL c) left (fun d hd => h d (List.mem_cons_of_mem _ hd)) (by rw [List.length_append]; omega) (hb.app (NB.whole hnb))
      simp only [tl]
      rw [if_neg hov]
      rw [wide_cons, ← List.append_assoc]
      exact ih
def findS : List Sh → Nat → Nat × Nat → Nat × Nat
  | r :: rest, k + 1, s => findS rest k (if r.wb = true then (s.1, s.2 + rmS r rest.head?) else (s.1 + 1, 0))
  | _, _, s => s
theorem findS_zero (L : List Sh) (s : Nat × Nat) : findS L 0 s = s := by cases L <;> rfl
theorem findS_succ (r : Sh) (rest : List Sh) (k : Nat) (s : Nat × Nat) : findS (r :: rest) (k + 1) s = findS rest k (if r.wb = true then (s.1, s.2 + rmS r rest.head?) else (s.1 + 1, 0)) := rfl
theorem findN_S {R : List Rw} (h1 : ∀ r ∈ R, 1 ≤ r.n) : ∀ (j k : Nat), k + j ≤ R.length → findS ((R.map Rw.sh).drop k) j (findN R k) = findN R (k + j)
  | 0, k, h => by
    cases (R.map Rw.sh).drop k <;> rfl
  | j + 1, k, h => by
    have hk : k < R.length := by omega
    have hr : R[k]? = some R[k] := List.getElem?_eq_getElem hk
    have ih := findN_S h1 j (k + 1) (by omega)
    rw [findN_step hr] at ih
    rw [List.drop_eq_getElem_cons (by rw [List.length_map]; exact hk)]
    simp only [findS]
    rw [drop_head, List.getElem?_map, List.getElem_map, show k + (j + 1) = k + 1 + j by omega, ← ih]
    have hrm := rmN_sh (r := R[k]) (o := R[k + 1]?) (h1 _ (List.getElem_mem hk)) (fun s hs => h1 s (List.mem_of_getElem? hs))
    rw [← hrm]
    rfl
theorem find_tl {x : Ls} {q : Nat} (hq : 2 ≤ q) (rest : List Sh) (ln : Nat) : ∀ (cs now : List Cl) (off k : Nat), (∀ c ∈ cs, okC c = true ∧ c ≠ blank 0 0 0) → now.length ≤ q → NB now →
    (k < (tl x q now cs).length → (findS (tl x q now cs ++ rest) k (ln, off)).1 = ln ∧ off ≤ (findS (tl x q now cs ++ rest) k (ln, off)).2 ∧ ∀ s j c, (tl x q now cs)[k]? = some s → s.cs[j]? = some c → c.r ≠ 0 → (now ++ wide cs)[(findS (tl x q now cs ++ rest) k (ln, off)).2 - off + j]? = some c) ∧
    ((tl x q now cs).length ≤ k → findS (tl x q now cs ++ rest) k (ln, off) = findS rest (k - (tl x q now cs).length) (ln + 1, 0))
  | [], now, off, k, _, hn, _ => by
    simp only [tl, List.cons_append, List.nil_append]
    refine ⟨fun hk => ?_, fun hk => ?_⟩
    · have : k = 0 := by simpa using hk
      subst this
      refine ⟨rfl, Nat.le_refl _, fun s j c hs hc hr => ?_⟩
      obtain rfl : rowS x q false now = s := by simpa using hs
      have hj : j < q := by have := (List.getElem?_eq_some_iff.1 hc).1; rwa [rowS_len] at this
      rw [rowS_get _ _ _ _ hj] at hc
      rw [findS_zero]
      simp only [Nat.sub_self, Nat.zero_add]
      rw [show wide [] = [] from rfl, List.append_nil]
      by_cases hl : j < now.length
      · rw [padF_in (List.getElem?_eq_getElem hl)] at hc
        rw [List.getElem?_eq_getElem hl]
        exact hc
      · rw [padF_out (by omega)] at hc
        injection hc with hc
        exact absurd (by rw [← hc]; rfl) hr
    · obtain ⟨m, rfl⟩ : ∃ m, k = m + 1 := ⟨k - 1, by simp at hk; omega⟩
      simp only [findS]
      rw [if_neg (by show ¬ (false = true); simp)]
      simp
  | c :: cs, now, off, k, h, hn, hb => by
    obtain ⟨hok, hnb⟩ := h c (by simp)
    have hw := whole_len hok
    have hw2 := whole_len2 hok
    by_cases hov : (q : Int) < now.length + c.w
    · have hrm := room_wrap (x := x) (rest := rest) (cs := cs) hq hok hn hov hb
      simp only [tl]
      rw [if_pos hov]
      cases k with
      | zero =>
        refine ⟨fun _ => ⟨rfl, Nat.le_refl _, fun s j d hs hc hr => ?_⟩, fun hk => by simp at hk⟩
        obtain rfl : rowS x q true now = s := by simpa using hs
        have hj : j < q := by have := (List.getElem?_eq_some_iff.1 hc).1; rwa [rowS_len] at this
        rw [rowS_get _ _ _ _ hj] at hc
        rw [findS_zero]
        simp only [Nat.sub_self, Nat.zero_add]
        by_cases hl : j < now.length
        · rw [padF_in (List.getElem?_eq_getElem hl)] at hc
          rw [List.getElem?_append_left hl, List.getElem?_eq_getElem hl]
          exact hc
        · rw [padF_out (by omega)] at hc
          injection hc with hc
          exact absurd (by rw [← hc]; rfl) hr
      | succ k =>
        have ih := find_tl (x := x) hq rest ln cs (wholeL c) (off + now.length) k (fun d hd => h d (List.mem_cons_of_mem _ hd)) (by omega) (NB.whole hnb)
        rw [List.cons_append, findS_succ, hrm, if_pos (show (rowS x q true now).wb = true from rfl), show ((ln, off).1, (ln, off).2 + now.length) = (ln, off + now.length) from rfl]
        refine ⟨fun hk => ?_, fun hk => ?_⟩
        · obtain ⟨i1, i2, i3⟩ := ih.1 (by simpa using hk)
          refine ⟨i1, by omega, fun s j d hs hc hr => ?_⟩
          have := i3 s j d (by simpa using hs) hc hr
          rw [wide_cons, List.getElem?_append_right (by omega)]
          rw [← this]
          congr 1
          omega
        · rw [ih.2 (by simpa using hk)]
          simp
    · have ih := find_tl (x := x) hq rest ln cs (now ++ wholeL c) off k (fun d hd => h d (List.mem_cons_of_mem _ hd)) (by rw [List.length_append]; omega) (hb.app (NB.whole hnb))
      simp only [tl]
      rw [if_neg hov, wide_cons, ← List.append_assoc]
      exact ih
theorem find_spread {v : Int} (hv : 2 ≤ wN v) : ∀ (X : List Ls) (ln k : Nat), (∀ x ∈ X, sanL x = true ∧ ∀ c ∈ x.cs, c ≠ blank 0 0 0) → k < (spreadS X v).length →
    ∃ i x, X[i]? = some x ∧ (findS (spreadS X v) k (ln, 0)).1 = ln + i ∧ ∀ s j c, (spreadS X v)[k]? = some s → s.cs[j]? = some c → c.r ≠ 0 → (wide x.cs)[(findS (spreadS X v) k (ln, 0)).2 + j]? = some c
  | [], ln, k, _, hk => by simp [spreadS] at hk
  | x :: X, ln, k, h, hk => by
    obtain ⟨hs, hc⟩ := h x (by simp)
    have e : spreadS (x :: X) v = tl x (wN v) [] x.cs ++ spreadS X v := by
      unfold spreadS
      rw [List.flatMap_cons, split_tl hs hv]
    rw [e] at hk ⊢
    obtain ⟨f1, f2⟩ := find_tl hv (spreadS X v) ln x.cs [] 0 k (fun c hcm => ⟨(sanL_iff.1 hs).2.2 c hcm, hc c hcm⟩) (by simp) (fun c hc => by cases hc)
    by_cases hkl : k < (tl x (wN v) [] x.cs).length
    · obtain ⟨i1, i2, i3⟩ := f1 hkl
      refine ⟨0, x, rfl, i1, fun s j c hs2 hc2 hr => ?_⟩
      rw [List.getElem?_append_left hkl] at hs2
      have := i3 s j c hs2 hc2 hr
      rwa [Nat.sub_zero, List.nil_append] at this
    · obtain ⟨i, y, h1, h2, h3⟩ := find_spread hv X (ln + 1) (k - (tl x (wN v) [] x.cs).length) (fun y hy => h y (List.mem_cons_of_mem _ hy)) (by rw [List.length_append] at hk; omega)
      rw [f2 (by omega)]
      refine ⟨i + 1, y, h1, by rw [h2]; omega, fun s j c hs2 hc2 hr => ?_⟩
      rw [List.getElem?_append_right (by omega)] at hs2
      exact h3 s j c hs2 hc2 hr
/-- the place of a place, in rows of another width -/
theorem place_stays {R : List Rw} {X : List Ls} {v u : Int} {k j : Nat} (hv : 2 ≤ wN v) (hu : 2 ≤ wN u) (hR : R.map Rw.sh = spreadS X v) (h1 : ∀ r ∈ R, 1 ≤ r.n) (h : ∀ x ∈ X, sanL x = true ∧ ∀ c ∈ x.cs, c ≠ blank 0 0 0) (hk : k < R.length) :
    (whereR X u (findN R k).1 ((findN R k).2 + j)).1 < (spreadS X u).length ∧ (whereR X u (findN R k).1 ((findN R k).2 + j)).2 < wN u ∧
    ∀ s c, (spreadS X v)[k]? = some s → s.cs[j]? = some c → c.r ≠ 0 → ∃ t, (spreadS X u)[(whereR X u (findN R k).1 ((findN R k).2 + j)).1]? = some t ∧ t.cs[(whereR X u (findN R k).1 ((findN R k).2 + j)).2]? = some c := by
  have hf := findN_S h1 k 0 (by omega)
  rw [List.drop_zero, hR, Nat.zero_add, show findN R 0 = (0, 0) from rfl] at hf
  have hkl : k < (spreadS X v).length := by rw [← sh_len hR]; exact hk
  obtain ⟨i, x, hx, h2, h3⟩ := find_spread hv X 0 k h hkl
  rw [hf] at h2 h3
  rw [Nat.zero_add] at h2
  rw [h2]
  obtain ⟨hs, hc⟩ := h x (List.mem_of_getElem? hx)
  have hw := where_tl (x := x) hu x.cs [] ((findN R k).2 + j) (fun c hcm => ⟨(sanL_iff.1 hs).2.2 c hcm, hc c hcm⟩) (by simp) (fun c hc => by cases hc)
  rw [← split_tl hs hu] at hw
  obtain ⟨w1, w2, w3⟩ := hw
  have hil := (List.getElem?_eq_some_iff.1 hx).1
  have hxe := (List.getElem?_eq_some_iff.1 hx).2
  have hsp : spreadS X u = spreadS (X.take i) u ++ (splitG x u ++ spreadS (X.drop (i + 1)) u) := by
    have e : X = X.take i ++ (x :: X.drop (i + 1)) := by rw [← hxe, ← List.drop_eq_getElem_cons hil, List.take_append_drop]
    conv => lhs; rw [e]
    unfold spreadS
    rw [List.flatMap_append, List.flatMap_cons]
  unfold whereR
  rw [hx]
  simp only
  refine ⟨by rw [hsp, List.length_append, List.length_append]; omega, w2, fun s c hs2 hc2 hr => ?_⟩
  obtain ⟨t, ht1, ht2⟩ := w3 c (by rw [List.nil_append]; exact h3 s j c hs2 hc2 hr)
  refine ⟨t, ?_, ht2⟩
  rw [hsp, List.getElem?_append_right (by omega), Nat.add_sub_cancel_left, List.getElem?_append_left w1]
  exact ht1
end Go.Proofs.Ytlgnchhhadnjbaa.Row
