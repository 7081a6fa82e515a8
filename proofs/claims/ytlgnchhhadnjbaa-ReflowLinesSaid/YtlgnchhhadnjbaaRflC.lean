/- reflow.Split. -/
import Derived.Test.YtlgnchhhadnjbaaRflS
import Derived.Test.YtlgnchhhadnjbaaRflB
import Derived.RegionTactic
import Derived.ChangeAlike
import Derived.WalkMore
namespace Go.Proofs.Ytlgnchhhadnjbaa.Row
open Go.RowKit
theorem pad_whole {now : List Cl} {c : Cl} (j : Nat) : (if now.length * 7 ≤ j ∧ j < now.length * 7 + (wholeL c).length * 7 then valF (wF c) (j - now.length * 7) else valF (padF now) j) = valF (padF (now ++ wholeL c)) j := by
  have hj : j = j / 7 * 7 + j % 7 := by omega
  have hm : j % 7 < 7 := by omega
  generalize j / 7 = a at hj
  generalize j % 7 = b at hj hm
  subst hj
  split
  · rename_i h
    rw [show a * 7 + b - now.length * 7 = (a - now.length) * 7 + b by omega, valF_at _ _ _ hm, valF_at _ _ _ hm]
    unfold padF
    rw [List.getElem?_append_right (by omega), whole_f c _ (by omega)]
    rfl
  · rename_i h
    rw [valF_at _ _ _ hm, valF_at _ _ _ hm]
    unfold padF
    by_cases ha : a < now.length
    · rw [List.getElem?_append_left ha]
    · rw [List.getElem?_eq_none (by omega), List.getElem?_eq_none (by rw [List.length_append]; omega)]
theorem rdX_one_drew {α : Type} {E : Enc α} (w : World) (b : Nat) (a : α) (cs : Array Value) (t : TypeId) (hcs : cs = (E.cells a).toArray) (h : b = w.heap.size) : RdX E (w.alloc (.cells cs t)).drew (.slice (some ⟨b, 0, none⟩) 1 1) [a] := rdX_one w b a cs t hcs h
theorem own_drew {w : World} {b n : Nat} {f : Nat → Cl} (h : Own w b n f) : Own w.drew b n f := h
theorem rowsX_alloc {w : World} {base : Nat} {v : Value} {R : List Rw} (h : RowsX w base v R) (o : Obj) : RowsX (w.alloc o) base v R := h.below ((Below.refl _ _).alloc (Nat.le_refl _) _)
theorem rowsX_alloc_drew {w : World} {base : Nat} {v : Value} {R : List Rw} (h : RowsX w base v R) (o : Obj) : RowsX (w.alloc o).drew base v R := h.below (((Below.refl _ _).alloc (Nat.le_refl _) _).drew)
theorem blk_alloc_drew {w : World} {g : Nat} {t : TypeId} {cs : Array Value} (h : Blk w g t cs) (o : Obj) : Blk (w.alloc o).drew g t cs := h.alloc o
section
variable {α : Type} {E : Enc α} {P : Program}
theorem slice1_at (t e : TypeId) (hu : P.underlying t = some (.slice e)) (hsz : (P.info? e).map (·.size) = some E.size) (b o N c lo : Nat) (h2 : lo < N) (h3 : N ≤ c) (w : World) :
    (Instr.slice t (.slice (some ⟨b, o, none⟩) N c) (some (.int .i64 (lo : Int))) none none).run P w = .ok (.slice (some ⟨b, o + lo * E.size, none⟩) (N - lo) (c - lo)) w := by
  obtain ⟨i, hi', hs⟩ := Option.map_eq_some_iff.1 hsz
  have l2 : (0 : Int) ≤ (lo : Int) ∧ (lo : Int) ≤ (N : Int) := by omega
  simp [Instr.slice, run_underlying hu, Instr.sliceBounds, Instr.sliceBound, asIntOf, l2, sizeOf, typeInfo, hi', hs, show lo ≤ N by omega, addr_add, show ¬ c = lo by omega]
end
/-- what a call of whole gives -/
theorem whole_c2 (c : Cl) (w : World) (_hok : okC c = true) : Calls Try.prog 34 #[.agg #[.int .i64 c.r, .int .i64 c.m0, .int .i64 c.m1, .int .i64 c.w, .int .i64 c.fg, .int .i64 c.bg, .int .i64 c.fl]] w fun e w' => ∃ b o n, e = .returned (.slice (some ⟨b, o, none⟩) n n) ∧ n = (wholeL c).length ∧ 1 ≤ n ∧ n ≤ 2 ∧ Below w.heap.size w w' ∧ b < w'.heap.size ∧ ∀ i, i < n → CellAt w' b (o + i * 7) (wF c i) := by
  refine (whole_c c w).mono ?_
  rintro e w' ⟨A, n, rfl, hn, hb, ho⟩
  have h1 : 1 ≤ n := by
    rw [hn]
    unfold wholeL
    split <;> simp
  have hr : Rd w' A n (wF c) := rd_ofX ho.rd hn (fun i hi => whole_f c i (by omega))
  obtain ⟨b, o, rfl, hbl, hc⟩ := hr (by omega)
  exact ⟨b, o, n, rfl, hn, h1, by rw [hn]; exact whole_le c, hb, hbl, hc⟩
theorem drop_get {α : Type} {l : List α} {k : Nat} (h : k < l.length) : l.drop k = l[k] :: l.drop (k + 1) := List.drop_eq_getElem_cons h
/-- what a call of Split gives -/
def SplitF (x : Ls) (v : Int) (w : World) (e : Ending) (w' : World) : Prop := ∃ u R, e = .returned u ∧ Below w.heap.size w w' ∧ RowsX w' w.heap.size u R ∧ R.map Rw.sh = splitG x v
theorem stepS_skip {w : Nat} {s : List (List Cl) × List Cl} {c : Cl} (h : (w : Int) < c.w) : stepS w s c = s := by unfold stepS; rw [if_pos h]
theorem stepS_new {w : Nat} {s : List (List Cl) × List Cl} {c : Cl} (h : ¬ (w : Int) < c.w) (h2 : (w : Int) < s.2.length + c.w) : stepS w s c = (s.1 ++ [s.2], wholeL c) := by unfold stepS; rw [if_neg h, if_pos h2]
theorem stepS_put {w : Nat} {s : List (List Cl) × List Cl} {c : Cl} (h : ¬ (w : Int) < c.w) (h2 : ¬ (w : Int) < s.2.length + c.w) : stepS w s c = (s.1, s.2 ++ wholeL c) := by unfold stepS; rw [if_neg h, if_neg h2]
set_option maxRecDepth 100000 in
set_option maxHeartbeats 4000000 in
theorem split_no (A : Option Addr) (n cap : Nat) (cs : List Cl) (dir : Int) (ex : Bool) (v : Int) (w : World) (hx : RdX encC w (.slice A n cap) cs) (hn : n = cs.length) (hl : n ≤ 10000000) (hs : sanL ⟨cs, dir, ex⟩ = false) :
    Calls Try.prog 18 #[.agg #[.slice A n cap, .int .i64 dir, .bool ex], .int .i64 v] w (SplitF ⟨cs, dir, ex⟩ v w) := by
  have HX := Lib.hid hx
  have HL := Lib.hid hn
  have HLL := Lib.hid hl
  have HSN := Lib.hid hs
  clear hx hn hl hs
  go_enter Try.func18, Try.ntmps18
  go_wp2_with fail
  go_step3
  go_wp2_with (go_at_call 16; (with_reducible refine (saneL_c A n cap cs dir ex _ (HX.out.below (by (repeat (first | (with_reducible exact Below.refl _ _) | (with_reducible assumption) | (with_reducible refine Below.grow ?_ ?_ _ _) | (with_reducible refine Below.drewN' ?_ _) | (with_reducible refine Below.drew ?_) | (with_reducible refine Below.alloc ?_ ?_ _) | (with_reducible refine Below.setCell ?_ ?_ _) | omega | (focus (simp; done)) | (focus (simp; omega)))))) HL.out HLL.out).mono ?_); rw [HSN.out]; rintro e w1 ⟨rfl, X1, d1, rfl⟩)
  rw [Exit.noGoto_ret]
  go_ret
  exact ⟨_, [], rfl, by (repeat (first | (with_reducible exact Below.refl _ _) | (with_reducible assumption) | (with_reducible refine Below.grow ?_ ?_ _ _) | (with_reducible refine Below.drewN' ?_ _) | (with_reducible refine Below.drew ?_) | (with_reducible refine Below.alloc ?_ ?_ _) | (with_reducible refine Below.setCell ?_ ?_ _) | omega | (focus (simp; done)) | (focus (simp; omega)))), RowsX.nil _ _, by unfold splitG; rw [if_neg (by rw [HSN.out]; simp)]; rfl⟩
def sliceLen : Value → Nat
  | .slice _ n _ => n
  | _ => 0
theorem maxmin_eq (v : Int) : ∃ q : Nat, wN v = q ∧ 1 ≤ q ∧ q ≤ 4096 ∧ ∃ m : Int, (if 4096 < v then 4096 else v) = m ∧ (if m ≤ 1 then 1 else m) = (q : Int) := by
  refine ⟨wN v, rfl, (wN_le v).1, (wN_le v).2, _, rfl, ?_⟩
  unfold wN
  split <;> split <;> omega
set_option maxRecDepth 100000 in
set_option maxHeartbeats 4000000 in
theorem split_yes (A : Option Addr) (n cap : Nat) (cs : List Cl) (dir : Int) (ex : Bool) (v : Int) (w : World) (hx : RdX encC w (.slice A n cap) cs) (hn : n = cs.length) (hl : n ≤ 10000000) (hs : sanL ⟨cs, dir, ex⟩ = true) :
    Calls Try.prog 18 #[.agg #[.slice A n cap, .int .i64 dir, .bool ex], .int .i64 v] w (SplitF ⟨cs, dir, ex⟩ v w) := by
  obtain ⟨q, hq, hq1, hq2, m0, hm1, hm2⟩ := maxmin_eq v
  have HOK : Hid (∀ c ∈ cs, okC c = true) := (sanL_iff.1 hs).2.2
  have HFIN : Hid (splitG ⟨cs, dir, ex⟩ v = finS ⟨cs, dir, ex⟩ q (cs.foldl (stepS q) ([], []))) := by
    show _ = _
    unfold splitG
    rw [if_pos hs, hq]
    rfl
  have HQ : Hid (max 1 (min (q : Int) 4096) = (q : Int)) := by show _ = _; omega
  have hcap : n ≤ cap := by
    obtain ⟨A', c', e, hc⟩ := hx.len
    injection e with e1 e2 e3
    omega
  have HX := Lib.hid hx
  have HL := Lib.hid hn
  have HLL := Lib.hid hl
  have HSN := Lib.hid hs
  clear hx hn hs hq
  unfold SplitF
  rw [HFIN.out]
  clear HFIN
  generalize hFIN : cs.foldl (stepS q) ([], []) = FIN
  have HFI := Lib.hid hFIN
  clear hFIN
  obtain ⟨i3, hi3, hz3, hs3, hb3⟩ := row_parts
  have HI3 := Lib.hid hi3
  have HZ3 := Lib.hid hz3
  have HS3 := Lib.hid hs3
  have HB3 := Lib.hid hb3
  clear hi3 hz3 hs3 hb3
  go_enter Try.func18, Try.ntmps18
  go_wp2_with fail
  go_step3
  go_upto_region 3 with (go_at_call 16; (with_reducible refine (saneL_c A n cap cs dir ex _ (HX.out.below (by (repeat (first | (with_reducible exact Below.refl _ _) | (with_reducible assumption) | (with_reducible refine Below.grow ?_ ?_ _ _) | (with_reducible refine Below.drewN' ?_ _) | (with_reducible refine Below.drew ?_) | (with_reducible refine Below.alloc ?_ ?_ _) | (with_reducible refine Below.setCell ?_ ?_ _) | omega | (focus (simp; done)) | (focus (simp; omega)))))) HL.out HLL.out).mono ?_); rw [HSN.out]; rintro e w1 ⟨rfl, X1, d1, rfl⟩)
  generalize hw0 : (w.alloc _).grow X1 d1 = w0
  have hbw0 : Below w.heap.size w w0 := by rw [← hw0]; (repeat (first | (with_reducible exact Below.refl _ _) | (with_reducible assumption) | (with_reducible refine Below.grow ?_ ?_ _ _) | (with_reducible refine Below.drewN' ?_ _) | (with_reducible refine Below.drew ?_) | (with_reducible refine Below.alloc ?_ ?_ _) | (with_reducible refine Below.setCell ?_ ?_ _) | omega | (focus (simp; done)) | (focus (simp; omega))))
  have hB1 : Blk w0 w.heap.size 40 #[.slice A n cap, .int .i64 dir, .bool ex] := by rw [← hw0]; exact (Blk.new _ _ _).grow _ _
  clear hw0
  go_cut [1] from 14 to 16 (fun v wc => v = .int .i64 (q : Int) ∧ wc = w0)
  case first =>
    go_wp2_with fail
    · go_meet
      case rel => exact ⟨by rw [if_neg (by omega)] at hm2; rw [hm2], rfl⟩
    · go_meet
      case rel => exact ⟨by rw [if_pos (by omega)] at hm2; rw [← hm2], rfl⟩
  obtain ⟨rfl, hwc⟩ := hcut
  rw [hwc]
  clear hm1 hm2 hwc wc
  have HB1 := Lib.hid hB1
  have HBW0 := Lib.hid hbw0
  clear hB1 hbw0
  obtain ⟨r0, r1, r2, rf, rl⟩ := HB1.out.facts3
  go_wp2_with fail
  go_step3
  go_wp2_with fail
  clear r0 r1 r2 rf rl
  go_loopw [5, 6] (fun l lf wz => ∃ R done A1 n1 cp1 rest, lf = .slice A1 n1 cp1 ∧ n1 = rest.length ∧ n1 ≤ cp1 ∧ R.length + n1 ≤ n ∧ Below w0.heap.size w0 wz ∧ RowsX wz w0.heap.size l R ∧ RdX encC w0 (.slice A1 n1 cp1) rest ∧ Hid (rest.foldl (stepS q) (done, []) = FIN) ∧ Hid (R.map Rw.sh = done.map (rowS ⟨cs, dir, ex⟩ q true)) ∧ Hid (∀ c ∈ rest, okC c = true)) (fun _ lf _ => sliceLen lf)
  case atStart => exact ⟨[], [], A, n, cap, cs, rfl, HL.out, hcap, by simp, Below.refl _ _, RowsX.nil _ _, HX.out.below HBW0.out, HFI.out, rfl, HOK.out⟩
  case round =>
    obtain ⟨R, done, A1, n1, cp1, rest, rfl, hn1, hcp1, hRn, hb, hR, hrd, HFO, HSH, HOK1⟩ := hrel
    have HN1 := Lib.hid hn1
    have HB := Lib.hid hb
    have HR := Lib.hid hR
    have HRD := Lib.hid hrd
    have hwrs := hb.size
    obtain ⟨wo, rfl⟩ : ∃ wo, wo = wr := ⟨_, rfl⟩
    obtain ⟨vl, rfl⟩ : ∃ vl, vl = u5 := ⟨_, rfl⟩
    clear hn1 hb hR hrd
    go_upto_region 7 with (go_at_call 36; (with_reducible refine (new_c (q : Int) q 0 0 0 _ HQ.out).mono ?_); rintro e w2 ⟨b, rfl, hb0, hb2, ho⟩)
    have hbx2 : Below w0.heap.size w0 w2 := HB.out.trans (hb2.mono HB.out.size)
    have hR2 := HR.out.below hb2
    have hB12 := HB1.out.below hbx2 HB1.out.lt
    generalize hw3 : w2.alloc _ = w3
    have HW3 : Hid (w3 = w2.alloc (.cells #[.slice (some ⟨b, 0, none⟩) q q, .bool false, .int .i64 0, .bool false] 48)) := hw3.symm
    have hbx3 : Below w0.heap.size w0 w3 := by rw [← hw3]; exact hbx2.alloc hbx2.size _
    have hBx := hB12.below (B := w2.heap.size) (w' := w3) (by rw [← hw3]; exact (Below.refl _ _).alloc (Nat.le_refl _) _) hB12.lt
    have hBr : Blk w3 w2.heap.size 48 #[.slice (some ⟨b, 0, none⟩) q q, .bool false, .int .i64 0, .bool false] := by rw [← hw3]; exact Blk.new _ _ _
    have ho3 := (ho.alloc (.cells #[.slice (some ⟨b, 0, none⟩) q q, .bool false, .int .i64 0, .bool false] 48))
    rw [hw3] at ho3
    clear hw3
    obtain ⟨r0, r1, r2, rf, rl⟩ := hBx.facts3
    obtain ⟨z0, z1, z2, z3, zf, zl⟩ := hBr.facts4
    have hne : w.heap.size ≠ w2.heap.size := by have := hB12.lt; omega
    go_region
    generalize hw4 : (World.setCell (World.setCell w3 _ _) _ _).drew = w4
    have hblt : b < w2.heap.size := ho.lt
    have hg34 : w3.grownBy w4 (some w2.heap.size) := by rw [← hw4]; (repeat (first | (with_reducible exact World.grownBy.refl _ _) | (with_reducible assumption) | (with_reducible refine gb_grow ?_ _ _) | (with_reducible refine gb_drewN ?_ _) | (with_reducible refine gb_drew ?_) | (with_reducible refine gb_alloc ?_ _) | (with_reducible refine gb_setCell ?_ ?_ _) | (focus (left; rfl)) | (focus (right; simp; done)) | (focus (right; simp; omega)) | (focus (right; omega))))
    have hBr4 : Blk w4 w2.heap.size 48 #[.slice (some ⟨b, 0, none⟩) q q, .bool false, .int .i64 dir, .bool ex] := by rw [← hw4]; exact (hBr.set_ 2 (.int .i64 dir)).set_ 3 (.bool ex)
    have hb4 : Below wo.heap.size wo w4 := below_gb ((hb2.trans (by rw [show w3 = w2.alloc (.cells #[.slice (some ⟨b, 0, none⟩) q q, .bool false, .int .i64 0, .bool false] 48) from HW3.out]; exact ((Below.refl _ _).alloc hb2.size _)))) hg34 (by have := hb2.size; omega) (by have := hb2.size; omega)
    have ho4 : Own w4 b q (padF []) := (ho3.gb hg34 (by intro e; injection e; omega)).congr fun i hi => rfl
    have HBr4 := Lib.hid hBr4
    have HB4 := Lib.hid hb4
    have hw24 : w2.heap.size < w4.heap.size := hBr4.lt
    clear hw4 hg34 hBr hBr4 r0 r1 r2 rf rl z0 z1 z2 z3 zf zl hBx hbx3 ho3 hbx2 hR2 hB12 hb4 HW3
    go_wp2_with fail
    go_loopw [5, 6, 8, 30] (fun l lf s i wz => ∃ (k : Nat) (now : List Cl), l = vl ∧ lf = .slice A1 n1 cp1 ∧ k ≤ n1 ∧ i = .int .i64 k ∧ s = .int .i64 now.length ∧ now.length ≤ q ∧ (now.length = 0 ∨ 1 ≤ k) ∧ Own wz b q (padF now) ∧ w4.grownBy wz (some b) ∧ Hid ((rest.drop k).foldl (stepS q) (done, now) = FIN)) (fun _ _ _ i _ => n1 - (intOf i).toNat)
    case atStart => exact ⟨0, [], rfl, rfl, Nat.zero_le _, rfl, rfl, Nat.zero_le _, .inl rfl, ho4, World.grownBy.refl _ _, HFO.out⟩
    case round =>
      obtain ⟨k, now, rfl, rfl, hk, rfl, rfl, hnq, hnk, hoz, hgz, HF⟩ := hrel
      have hbz : Below wo.heap.size wo wr := below_gb HB4.out hgz hb0 HB4.out.size
      have hBrz := HBr4.out.gb hgz (by intro e; injection e; omega)
      obtain ⟨z0, z1, z2, z3, zf, zl⟩ := hBrz.facts4
      have hgs := hgz.size
      have HBZ := Lib.hid hbz
      have HBZ0 : Hid (Below w0.heap.size w0 wr) := HB.out.trans (hbz.mono HB.out.size)
      have HOZ := Lib.hid hoz
      have HBRZ := Lib.hid hBrz
      have HGZ := Lib.hid hgz
      clear hoz hgz hBrz hbz
      by_cases hlt : k < n1
      · have hltI : (k : Int) < n1 := by omega
        have hkl : k < rest.length := by rw [← HN1.out]; exact hlt
        obtain ⟨bc, oc, rfl, hbl, hat⟩ := rdC_at (HRD.out.below HBZ0.out) (List.getElem?_eq_getElem hkl)
        have HOKC : Hid (okC rest[k] = true) := HOK1.out _ (List.getElem_mem hkl)
        have HF1 : Hid ((rest.drop (k + 1)).foldl (stepS q) (stepS q (done, now) rest[k]) = FIN) := by
          show _ = _
          rw [← HF.out, List.drop_eq_getElem_cons hkl]
          rfl
        have HDR : Hid (rest.drop k = rest[k] :: rest.drop (k + 1)) := List.drop_eq_getElem_cons hkl
        generalize rest[k] = ce at *
        obtain ⟨c0, c1, c2, c3, c4, c5, c6⟩ := hat
        have hwl := whole_len HOKC.out
        have hw12 : 1 ≤ ce.w ∧ ce.w ≤ 2 := by have := (okC_iff.1 HOKC.out).1; omega
        obtain ⟨p, hp⟩ : ∃ p, now.length = p := ⟨_, rfl⟩
        rw [hp] at hnq hnk ⊢
        have HP := Lib.hid hp
        clear hp
        have hwrap : IntKind.i64.wrap ((p : Int) + ce.w) = (p : Int) + ce.w := by rw [IntWalk.i64_left]; exact IntWalk.wrap64_in _ (by omega)
        by_cases hgt : (q : Int) < ce.w
        · have hgb : decide ((q : Int) < ce.w) = true := by simpa using hgt
          have HGT := Lib.hid hgt
          clear hgt
          go_wp2_with fail
          go_roundw
          case rel => exact ⟨k + 1, now, rfl, rfl, by omega, by go_num, by rw [HP.out], by rw [HP.out]; exact hnq, .inr (by omega), HOZ.out.alloc _, gb_alloc HGZ.out _, by have := HF1.out; rw [stepS_skip HGT.out] at this; exact this⟩
          case measure => simp [intOf]; omega
        · have hgb : decide ((q : Int) < ce.w) = false := by simpa using hgt
          have HGT := Lib.hid hgt
          clear hgt
          by_cases hov : (q : Int) < (p : Int) + ce.w
          · have hob : decide ((q : Int) < (p : Int) + ce.w) = true := by simpa using hov
            have HOV := Lib.hid hov
            have hk1 : 1 ≤ k := by have := HGT.out; omega
            clear hov
            go_wp2_with fail
            generalize hw5 : World.alloc (World.setCell wr _ _) _ = w5
            have HB5 : Hid (Blk w5 w2.heap.size 48 #[.slice (some ⟨b, 0, none⟩) q q, .bool true, .int .i64 dir, .bool ex]) := by show Blk _ _ _ _; rw [← hw5]; exact (HBRZ.out.set_ 1 (.bool true)).alloc _
            have hb5 : Below wo.heap.size wo w5 := by rw [← hw5]; exact (HBZ.out.setCell (by have := hb2.size; omega) _).alloc (by simpa [World.setCell] using HBZ.out.size) _
            have HO5 : Hid (Own w5 b q (padF now)) := by show Own _ _ _ _; rw [← hw5]; exact (HOZ.out.far' (by show w2.heap.size ≠ b; omega) _).alloc _
            have HB0 : Hid (Below w0.heap.size w0 w5) := HB.out.trans (hb5.mono HB.out.size)
            have HRX : Hid (RowsX w5 w0.heap.size u5 R) := HR.out.below hb5
            have HNE : Hid (some w2.heap.size ≠ u5.ownBlock) := fun e => by have := (HR.out.1.lt e.symm).2; have := hb2.size; omega
            have HNB : Hid (some b ≠ u5.ownBlock) := fun e => by have := (HR.out.1.lt e.symm).2; omega
            have HM63 : Hid (R.length + 1 ≤ maxLen) := by show _ ≤ _; unfold maxLen; omega
            have HM47 : Hid ((R.length + 1) * 48 ≤ 140737488355328) := by show _ ≤ _; omega
            have HSZ : Hid (w0.heap.size ≤ w5.heap.size) := HB0.out.size
            have HW5 : Hid (b < w5.heap.size ∧ w0.heap.size ≤ b) := ⟨HO5.out.lt, by omega⟩
            obtain ⟨A2, -, hrun, hcut⟩ := slice1 (E := encC) (P := Try.prog) 38 59 Try.underlying38 (by kernel_rfl) (some ⟨bc, oc, none⟩) n1 cp1 k (by omega) hcp1
            have HCUT := Lib.hid hcut
            obtain ⟨y0, y1, y2, y3, yf, yl⟩ := HB5.out.facts4
            clear hw5 z0 z1 z2 z3 zf zl c0 c1 c2 c3 c4 c5 c6 hcut hb5
            refine hr_start (S := (fun w' => w'.cell? ⟨w2.heap.size, 0, none⟩ = some (.slice (some ⟨b, 0, none⟩) q q) ∧ w'.cell? ⟨w2.heap.size, 1, none⟩ = some (.bool true) ∧ w'.cell? ⟨w2.heap.size, 2, none⟩ = some (.int .i64 dir) ∧ w'.cell? ⟨w2.heap.size, 3, none⟩ = some (.bool ex))) (by kernel_rfl) rfl ?_ (fun hHeld => ?_)
            · ((try dsimp only); go_simp)
            refine hr_take (i := 0) rfl rfl (by kernel_rfl) (by kernel_rfl) (by kernel_rfl) (by kernel_rfl) (fun _ _ _ h => h) (v := ?_) ?_ (by assumption) ?_
            rotate_left
            focus (intro wS hSw; (try dsimp only at hSw); go_simp; (try with_reducible rfl))
            simp only [List.set_cons_zero, List.set_cons_succ]
            refine hr_take (i := 1) rfl rfl (by kernel_rfl) (by kernel_rfl) (by kernel_rfl) (by kernel_rfl) (fun _ _ _ h => h) (v := ?_) ?_ (by assumption) ?_
            rotate_left
            focus (intro wS hSw; (try dsimp only at hSw); go_simp; (try with_reducible rfl))
            simp only [List.set_cons_zero, List.set_cons_succ]
            refine hr_take (i := 4) rfl rfl (by kernel_rfl) (by kernel_rfl) (by kernel_rfl) (by kernel_rfl) (fun _ _ _ h => h) (v := ?_) ?_ (by assumption) ?_
            rotate_left
            focus (intro wS hSw; (try dsimp only at hSw); go_simp; (try with_reducible rfl))
            simp only [List.set_cons_zero, List.set_cons_succ]
            refine hr_take (i := 5) rfl rfl (by kernel_rfl) (by kernel_rfl) (by kernel_rfl) (by kernel_rfl) (fun _ _ _ h => h) (v := ?_) ?_ (by assumption) ?_
            rotate_left
            focus (intro wS hSw; (try dsimp only at hSw); go_simp; (try with_reducible rfl))
            simp only [List.set_cons_zero, List.set_cons_succ]
            refine hr_take (i := 6) rfl rfl (by kernel_rfl) (by kernel_rfl) (by kernel_rfl) (by kernel_rfl) (fun _ _ _ h => h) (v := ?_) ?_ (by assumption) ?_
            rotate_left
            focus (intro wS hSw; (try dsimp only at hSw); go_simp; (try with_reducible rfl))
            simp only [List.set_cons_zero, List.set_cons_succ]
            refine hr_op (i := 2) rfl rfl (by kernel_rfl) (by kernel_rfl) (fun K hK => ?_)
            go_simp
            (try go_wp2_with fail)
            refine hK.out _ _ ?_ (fun hHeld => ?_)
            · ((try dsimp only); go_simp)
            clear hK K
            simp only [List.set_cons_zero, List.set_cons_succ]
            refine hr_op (i := 3) rfl rfl (by kernel_rfl) (by kernel_rfl) (fun K hK => ?_)
            (refine wp_append_X encR (.tmp 46) (.tmp 48) _ rfl w0.heap.size 48 48 i3 _ rfl HI3.out HZ3.out HS3.out HB3.out rfl _ _ R [(⟨some ⟨b, 0, none⟩, q, q, padF now, true, dir, ex⟩ : Rw)] (by rfl) (by rfl) (OwnX.drew (HRX.out.1.alloc _)) (rdX_one_drew (E := encR) _ _ (⟨some ⟨b, 0, none⟩, q, q, padF now, true, dir, ex⟩ : Rw) _ _ rfl rfl) (by rw [List.length_singleton]; exact HM63.out) (by rw [List.length_singleton]; exact HM47.out) (Nat.le_trans HSZ.out (by simp)) ?_; intro v6 w6 hv6 hgb6 hor6; obtain ⟨y0, y1, y2, y3, yf, yl⟩ := (Blk.gb (blk_alloc_drew HB5.out _) hgb6 HNE.out).facts4)
            refine hK.out _ _ ?_ (fun hHeld => ?_)
            · ((try dsimp only); go_simp)
            clear hK K
            simp only [List.set_cons_zero, List.set_cons_succ]
            refine hr_take (i := 7) rfl rfl (by kernel_rfl) (by kernel_rfl) (by kernel_rfl) (by kernel_rfl) (fun _ _ _ h => h) (v := ?_) ?_ (by assumption) ?_
            rotate_left
            focus (intro wS hSw; (try dsimp only at hSw); go_simp; (try with_reducible rfl))
            simp only [List.set_cons_zero, List.set_cons_succ]
            refine hr_take (i := 8) rfl rfl (by kernel_rfl) (by kernel_rfl) (by kernel_rfl) (by kernel_rfl) (fun _ _ _ h => h) (v := ?_) ?_ (by assumption) ?_
            rotate_left
            focus (intro wS hSw; (try dsimp only at hSw); go_simp; (try with_reducible rfl))
            simp only [List.set_cons_zero, List.set_cons_succ]
            refine hr_done (by kernel_rfl) ?_
            go_wp2_with fail
            go_roundw
            case rel =>
              have hbl6 : Below w0.heap.size w0 w6 := below_ownx (by have := HB0.out; have := HB0.out.size; (repeat (first | (with_reducible exact Below.refl _ _) | (with_reducible assumption) | (with_reducible refine Below.grow ?_ ?_ _ _) | (with_reducible refine Below.drewN' ?_ _) | (with_reducible refine Below.drew ?_) | (with_reducible refine Below.alloc ?_ ?_ _) | (with_reducible refine Below.setCell ?_ ?_ _) | omega | (focus (simp; done)) | (focus (simp; omega))))) hgb6 (fun g hg => (HR.out.1.lt hg).1) (Nat.le_trans HSZ.out (by simp))
              refine ⟨R ++ [(⟨some ⟨b, 0, none⟩, q, q, padF now, true, dir, ex⟩ : Rw)], done ++ [now], A2, n1 - k, cp1 - k, rest.drop k, rfl, by rw [List.length_drop, ← HN1.out], by omega, by rw [List.length_append, List.length_singleton]; omega, hbl6, RowsX.app (rowsX_alloc_drew HRX.out _) (fun r hr => ?_) hv6 hgb6 hor6, HCUT.out w0 rest HRD.out, ?_, ?_, fun c hc => HOK1.out c (List.mem_of_mem_drop hc)⟩
              · obtain rfl := List.mem_singleton.1 hr
                exact ⟨⟨own_drew (HO5.out.alloc _) |>.rd, Nat.le_refl q, by show q ≤ 5000; omega⟩, b, 0, rfl, HW5.out.2, Nat.lt_of_lt_of_le HW5.out.1 (by simp), HNB.out⟩
              · show _ = _
                rw [HDR.out, List.foldl_cons, ← HF1.out, stepS_new (s := (done, now)) (by have := HGT.out; omega) (by rw [HP.out]; exact HOV.out), stepS_put (s := (done ++ [now], [])) (by have := HGT.out; omega) (by have := HGT.out; simp only [List.length_nil]; omega)]
                rfl
              · show _ = _
                rw [List.map_append, HSH.out, List.map_append]
                rfl
            case measure => simp [sliceLen]; omega
          · have hob : decide ((q : Int) < (p : Int) + ce.w) = false := by simpa using hov
            have HOV := Lib.hid hov
            have hpq : p < q := by omega
            have hpw : p + (wholeL ce).length ≤ q := by omega
            obtain ⟨g, hg⟩ : ∃ g, wr.heap.size = g := ⟨_, rfl⟩
            go_wp2_with fail
            generalize hw5 : wr.alloc _ = w5
            have HB5 : Hid (Blk w5 w2.heap.size 48 #[.slice (some ⟨b, 0, none⟩) q q, .bool false, .int .i64 dir, .bool ex]) := by show Blk _ _ _ _; rw [← hw5]; exact HBRZ.out.alloc _
            have HBC : Hid (Blk w5 g 59 ce.cells.toArray) := by show Blk _ _ _ _; rw [← hw5, ← hg]; exact Blk.new _ _ _
            have HO5 : Hid (Own w5 b q (padF now)) := by show Own _ _ _ _; rw [← hw5]; exact HOZ.out.alloc _
            have HG5 : Hid (w4.grownBy w5 (some b)) := by show World.grownBy _ _ _; rw [← hw5]; exact gb_alloc HGZ.out _
            have HNE2 : Hid (some w2.heap.size ≠ some b) := fun e => by injection e; omega
            have HNE3 : Hid (some g ≠ some b) := fun e => by injection e; omega
            have hrun : ∀ w, (Instr.slice 38 (.slice (some ⟨b, 0, none⟩) q q) (some (.int .i64 (p : Int))) none none).run Try.prog w = .ok (.slice (some ⟨b, p * 7, none⟩) (q - p) (q - p)) w := fun w => by
              have h := slice1_at (E := encC) (P := Try.prog) 38 59 Try.underlying38 (by kernel_rfl) b 0 q q p hpq (Nat.le_refl q) w
              rw [Nat.zero_add] at h
              exact h
            obtain ⟨y0, y1, y2, y3, yf, yl⟩ := HB5.out.facts4
            obtain ⟨e0, e1, e2, e3, e4, e5, e6, ef, el⟩ := HBC.out.facts7
            clear hw5 z0 z1 z2 z3 zf zl c0 c1 c2 c3 c4 c5 c6 hov hg
            refine hr_start (S := (fun w' => w'.cell? ⟨w2.heap.size, 0, none⟩ = some (.slice (some ⟨b, 0, none⟩) q q) ∧ w'.cell? ⟨g, 0, none⟩ = some (.int .i64 ce.r) ∧ w'.cell? ⟨g, 1, none⟩ = some (.int .i64 ce.m0) ∧ w'.cell? ⟨g, 2, none⟩ = some (.int .i64 ce.m1) ∧ w'.cell? ⟨g, 3, none⟩ = some (.int .i64 ce.w) ∧ w'.cell? ⟨g, 4, none⟩ = some (.int .i64 ce.fg) ∧ w'.cell? ⟨g, 5, none⟩ = some (.int .i64 ce.bg) ∧ w'.cell? ⟨g, 6, none⟩ = some (.int .i64 ce.fl))) (by kernel_rfl) rfl ?_ (fun hHeld => ?_)
            · ((try dsimp only); go_simp)
            refine hr_take (i := 0) rfl rfl (by kernel_rfl) (by kernel_rfl) (by kernel_rfl) (by kernel_rfl) (fun _ _ _ h => h) (v := ?_) ?_ (by assumption) ?_
            rotate_left
            focus (intro wS hSw; (try dsimp only at hSw); go_simp; (try with_reducible rfl))
            simp only [List.set_cons_zero, List.set_cons_succ]
            refine hr_take (i := 1) rfl rfl (by kernel_rfl) (by kernel_rfl) (by kernel_rfl) (by kernel_rfl) (fun _ _ _ h => h) (v := ?_) ?_ (by assumption) ?_
            rotate_left
            focus (intro wS hSw; (try dsimp only at hSw); go_simp; (try with_reducible rfl))
            simp only [List.set_cons_zero, List.set_cons_succ]
            refine hr_take (i := 2) rfl rfl (by kernel_rfl) (by kernel_rfl) (by kernel_rfl) (by kernel_rfl) (fun _ _ _ h => h) (v := ?_) ?_ (by assumption) ?_
            rotate_left
            focus (intro wS hSw; (try dsimp only at hSw); go_simp; (try with_reducible rfl))
            simp only [List.set_cons_zero, List.set_cons_succ]
            refine hr_take (i := 3) rfl rfl (by kernel_rfl) (by kernel_rfl) (by kernel_rfl) (by kernel_rfl) (fun _ _ _ h => h) (v := ?_) ?_ (by assumption) ?_
            rotate_left
            focus (intro wS hSw; (try dsimp only at hSw); go_simp; (try with_reducible rfl))
            simp only [List.set_cons_zero, List.set_cons_succ]
            refine hr_take (i := 4) rfl rfl (by kernel_rfl) (by kernel_rfl) (by kernel_rfl) (by kernel_rfl) (fun _ _ _ h => h) (v := ?_) ?_ (by assumption) ?_
            rotate_left
            focus (intro wS hSw; (try dsimp only at hSw); go_simp; (try with_reducible rfl))
            simp only [List.set_cons_zero, List.set_cons_succ]
            refine hr_take (i := 5) rfl rfl (by kernel_rfl) (by kernel_rfl) (by kernel_rfl) (by kernel_rfl) (fun _ _ _ h => h) (v := ?_) ?_ (by assumption) ?_
            rotate_left
            focus (intro wS hSw; (try dsimp only at hSw); go_simp; (try with_reducible rfl))
            simp only [List.set_cons_zero, List.set_cons_succ]
            refine hr_op (i := 6) rfl rfl (by kernel_rfl) (by kernel_rfl) (fun K hK => ?_)
            go_simp
            (go_at_call 34; (with_reducible refine (whole_c2 ce _ HOKC.out).mono ?_); rintro e w7 ⟨b5, o5, n5, rfl, hn5, h51, h52, hb7, hl7, hc7⟩; have hwr5 : IntKind.i64.wrap ((p : Int) + (n5 : Int)) = (p : Int) + (n5 : Int) := (by rw [IntWalk.i64_left]; exact IntWalk.wrap64_in _ (by omega)); have HN5 := Lib.hid hn5; have HC7 := Lib.hid hc7; have HB7 := Lib.hid hb7; have hfit5 : p * 7 + n5 * 7 ≤ q * 7 := (by rw [hn5]; omega); have hmin5 : n5 ≤ q - p := (by omega); obtain ⟨X7, d7, rfl⟩ := Below.toGrow hb7; clear hb7 hc7 hn5)
            (try go_wp2_with fail)
            refine hK.out _ _ ?_ (fun hHeld => ?_)
            · ((try dsimp only); go_simp)
            clear hK K
            simp only [List.set_cons_zero, List.set_cons_succ]
            refine hr_op (i := 7) rfl rfl (by kernel_rfl) (by kernel_rfl) (fun K hK => ?_)
            (refine wp_copy_rows (.tmp 57) (.tmp 59) _ _ rfl 59 7 Try.underlying38 cellSize b (p * 7) (q * 7) 59 (valF (padF now)) _ _ _ _ n5 ⟨b5, o5, none⟩ (valF (wF ce)) (by rfl) (by rfl) (show Own _ _ _ _ from (Own.grow (own_drew HO5.out) X7 d7)) (by show min _ _ = _; omega) (fun j hj => Rd.cellsOf HC7.out j hj) hfit5 (fun j _ => val_one _ _) ?_; intro w6 hrow6 hg6 hz6; obtain ⟨y0, y1, y2, y3, yf, yl⟩ := (Blk.gb (Blk.grow (show Blk w5.drew _ _ _ from HB5.out) X7 d7) hg6 HNE2.out).facts4; obtain ⟨e0, e1, e2, e3, e4, e5, e6, ef, el⟩ := (Blk.gb (Blk.grow (show Blk w5.drew _ _ _ from HBC.out) X7 d7) hg6 HNE3.out).facts7)
            refine hK.out _ _ ?_ (fun hHeld => ?_)
            · ((try dsimp only); go_simp)
            clear hK K
            simp only [List.set_cons_zero, List.set_cons_succ]
            refine hr_take (i := 8) rfl rfl (by kernel_rfl) (by kernel_rfl) (by kernel_rfl) (by kernel_rfl) (fun _ _ _ h => h) (v := ?_) ?_ (by assumption) ?_
            rotate_left
            focus (intro wS hSw; (try dsimp only at hSw); go_simp; (try with_reducible rfl))
            simp only [List.set_cons_zero, List.set_cons_succ]
            refine hr_take (i := 9) rfl rfl (by kernel_rfl) (by kernel_rfl) (by kernel_rfl) (by kernel_rfl) (fun _ _ _ h => h) (v := ?_) ?_ (by assumption) ?_
            rotate_left
            focus (intro wS hSw; (try dsimp only at hSw); go_simp; (try with_reducible rfl))
            simp only [List.set_cons_zero, List.set_cons_succ]
            refine hr_done (by kernel_rfl) ?_
            go_wp2_with fail
            go_roundw
            case rel =>
              have hlen : ((now ++ wholeL ce).length : Int) = (p : Int) + n5 := by rw [List.length_append, HP.out, ← HN5.out]; omega
              refine ⟨k + 1, now ++ wholeL ce, rfl, rfl, by omega, by go_num, by rw [hlen], by rw [List.length_append, HP.out, ← HN5.out]; omega, .inr (by omega), ?_, ?_, ?_⟩
              · have h := hrow6
                rw [← HP.out, HN5.out] at h
                exact World.rowIs.congr h fun i _ => pad_whole i
              · exact gb_trans (by have := HG5.out; (repeat (first | (with_reducible exact World.grownBy.refl _ _) | (with_reducible assumption) | (with_reducible refine gb_grow ?_ _ _) | (with_reducible refine gb_drewN ?_ _) | (with_reducible refine gb_drew ?_) | (with_reducible refine gb_alloc ?_ _) | (with_reducible refine gb_setCell ?_ ?_ _) | (focus (left; rfl)) | (focus (right; simp; done)) | (focus (right; simp; omega)) | (focus (right; omega))))) hg6
              · show _ = _
                have := HF1.out
                rw [stepS_put (s := (done, now)) (by have := HGT.out; omega) (by rw [HP.out]; have := HOV.out; omega)] at this
                exact this
            case measure => simp [intOf]; omega
      · obtain rfl : n1 = k := by omega
        have hD : rest.drop n1 = [] := List.drop_eq_nil_of_le (by rw [← HN1.out]; exact Nat.le_refl _)
        have HFE : Hid ((done, now) = FIN) := by
          show _ = _
          rw [← HF.out, hD]
          rfl
        have HRX : Hid (RowsX wr w0.heap.size u5 R) := HR.out.below HBZ.out
        have HNB : Hid (some b ≠ u5.ownBlock) := fun e => by have := (HR.out.1.lt e.symm).2; omega
        have HSZ : Hid (w0.heap.size ≤ wr.heap.size) := HBZ0.out.size
        have HM63 : Hid (R.length + 1 ≤ maxLen) := by show _ ≤ _; unfold maxLen; omega
        have HM47 : Hid ((R.length + 1) * 48 ≤ 140737488355328) := by show _ ≤ _; omega
        clear hD
        have HGZ0 : Hid (Below w0.heap.size w0 wr) := HBZ0.out
        go_wp2_with (at_builtin; go_loud (refine wpList_append_X encR rfl _ _ _ rfl w0.heap.size 48 48 i3 _ rfl HI3.out HZ3.out HS3.out HB3.out rfl _ _ R [(⟨some ⟨b, 0, none⟩, q, q, padF now, false, dir, ex⟩ : Rw)] rfl rfl (HRX.out.1.alloc _) (rdX_one (E := encR) _ _ (⟨some ⟨b, 0, none⟩, q, q, padF now, false, dir, ex⟩ : Rw) _ _ rfl rfl) (by rw [List.length_singleton]; exact HM63.out) (by rw [List.length_singleton]; exact HM47.out) (Nat.le_trans HSZ.out (by simp)) ?_; intro v6 w6 hv6 hgb6 hor6))
        replace hgb6 : World.grownBy _ w6 u5.ownBlock := hgb6
        replace hor6 : v6.ownBlock = u5.ownBlock ∨ v6.ownBlock = _ := hor6
        have hbl6 : Below w0.heap.size w0 w6 := below_ownx (by have := HBZ0.out; have := HBZ0.out.size; (repeat (first | (with_reducible exact Below.refl _ _) | (with_reducible assumption) | (with_reducible refine Below.grow ?_ ?_ _ _) | (with_reducible refine Below.drewN' ?_ _) | (with_reducible refine Below.drew ?_) | (with_reducible refine Below.alloc ?_ ?_ _) | (with_reducible refine Below.setCell ?_ ?_ _) | omega | (focus (simp; done)) | (focus (simp; omega))))) hgb6 (fun g hg => (HR.out.1.lt hg).1) (Nat.le_trans HSZ.out (by simp))
        rw [Exit.noGoto_ret]
        go_ret
        refine ⟨v6, R ++ [(⟨some ⟨b, 0, none⟩, q, q, padF now, false, dir, ex⟩ : Rw)], rfl, HBW0.out.trans (hbl6.mono HBW0.out.size), RowsX.mono (RowsX.app (rowsX_alloc HRX.out _) (fun r hr => ?_) hv6 hgb6 hor6) HBW0.out.size, ?_⟩
        · obtain rfl := List.mem_singleton.1 hr
          exact ⟨⟨(HOZ.out.alloc _).rd, Nat.le_refl q, by show q ≤ 5000; omega⟩, b, 0, rfl, by omega, Nat.lt_of_lt_of_le HOZ.out.lt (by simp), HNB.out⟩
        · rw [List.map_append, HSH.out, ← HFE.out]
          rfl
theorem split_c (A : Option Addr) (n cap : Nat) (cs : List Cl) (dir : Int) (ex : Bool) (v : Int) (w : World) (hx : RdX encC w (.slice A n cap) cs) (hn : n = cs.length) (hl : n ≤ 10000000) :
    Calls Try.prog 18 #[.agg #[.slice A n cap, .int .i64 dir, .bool ex], .int .i64 v] w (SplitF ⟨cs, dir, ex⟩ v w) := by
  cases hs : sanL ⟨cs, dir, ex⟩
  · exact split_no A n cap cs dir ex v w hx hn hl hs
  · exact split_yes A n cap cs dir ex v w hx hn hl hs
end Go.Proofs.Ytlgnchhhadnjbaa.Row
