/- lapwingref11.full. -/
import Derived.Test.YtlgnchhhadnjbaaRflV
import Derived.Test.YtlgnchhhadnjbaaRflN
namespace Go.Proofs.Ytlgnchhhadnjbaa.Row
open Go.RowKit
theorem padF_inL {l : List Cl} {i : Nat} {c : Cl} (h : l[i]? = some c) : padF l i = c := by unfold padF; rw [h]; rfl
theorem padF_outL {l : List Cl} {i : Nat} (h : l.length ≤ i) : padF l i = blank 0 0 0 := by unfold padF; rw [List.getElem?_eq_none h]; rfl
/-- what a call of full gives -/
def FullF (q : Nat) (l : List Cl) (b : Bool) (dir : Int) (ex : Bool) (w : World) (e : Ending) (w' : World) : Prop :=
  ∃ r : Rw, e = .returned (.agg #[.slice r.A r.n r.cap, .bool r.wb, .int .i64 r.dir, .bool r.ex]) ∧ Below w.heap.size w w' ∧ FrR w' w.heap.size none r ∧ r.sh = ⟨listF q (padF l), b, dir, ex⟩
set_option maxRecDepth 100000 in
set_option maxHeartbeats 4000000 in
theorem full_c (A1 : Option Addr) (n1 cap1 : Nat) (dir : Int) (ex : Bool) (A : Option Addr) (n cap : Nat) (l : List Cl) (q : Nat) (b : Bool) (w : World) (hx : RdX encC w (.slice A n cap) l) (hn : n = l.length) (hq : l.length ≤ q) (hq1 : 1 ≤ q) (hq2 : q ≤ 4096) :
    Calls Try.prog 37 #[.agg #[.slice A1 n1 cap1, .int .i64 dir, .bool ex], .slice A n cap, .int .i64 q, .bool b] w (FullF q l b dir ex w) := by
  obtain ⟨i3, hi3, hz3, hs3, hb3⟩ := cell_parts
  have HI3 := Lib.hid hi3
  have HZ3 := Lib.hid hz3
  have HS3 := Lib.hid hs3
  have HB3 := Lib.hid hb3
  have HX := Lib.hid hx
  have HL := Lib.hid hn
  clear hi3 hz3 hs3 hb3 hx hn
  go_enter Try.func37, Try.ntmps37
  go_upto_region 1 with fail
  generalize hw0 : (w.alloc _).alloc _ = w0
  have hbw : Below w.heap.size w w0 := by rw [← hw0]; (repeat (first | (with_reducible exact Below.refl _ _) | (with_reducible assumption) | (with_reducible refine Below.grow ?_ ?_ _ _) | (with_reducible refine Below.drewN' ?_ _) | (with_reducible refine Below.drew ?_) | (with_reducible refine Below.alloc ?_ ?_ _) | (with_reducible refine Below.setCell ?_ ?_ _) | omega | (focus (simp; done)) | (focus (simp; omega))))
  have hB1 : Blk w0 w.heap.size 42 #[.slice A1 n1 cap1, .int .i64 dir, .bool ex] := by rw [← hw0]; exact (Blk.new _ _ _).alloc _
  have hB2 : Blk w0 (w.heap.size + 1) 48 #[.slice none 0 0, .bool false, .int .i64 0, .bool false] := by rw [← hw0]; exact Blk.new_at (by simp)
  have HBW := Lib.hid hbw
  have HB1 := Lib.hid hB1
  have HB2 := Lib.hid hB2
  have hws0 := hbw.size
  have hsz0 := hB2.lt
  clear hw0 hB1 hB2 hbw
  have HXS : Hid (RdX encC (w0.alloc (.cells #[] 59)) (.slice A n cap) l) := (HX.out.below HBW.out).below ((Below.refl _ _).alloc (Nat.le_refl _) _)
  go_upto_region 2 with (at_builtin; go_loud (refine wpList_append_X encC rfl _ _ _ rfl w0.heap.size 59 56 i3 _ rfl HI3.out HZ3.out HS3.out HB3.out rfl _ _ [] l rfl rfl (ownX_new _ _ _ _ rfl (Nat.le_refl _)) HXS.out (by unfold maxLen; rw [List.length_nil]; omega) (by rw [List.length_nil]; omega) (by simp) ?_; intro v1 w2 hv hgb hor))
  rw [List.nil_append] at hv
  have hb2 : Below w0.heap.size w0 w2 := below_ownx ((Below.refl w0.heap.size w0).alloc (Nat.le_refl _) (.cells #[] 59)) hgb (fun g hg => by have hg : some w0.heap.size = some g := hg; injection hg with hg; omega) (by simp)
  clear hgb hor
  go_loopw [9] (fun v wz => ∃ j : Nat, l.length + j ≤ q ∧ Hid (OwnX encC wz w0.heap.size 59 v (l ++ List.replicate j (blank 0 0 0))) ∧ Below w0.heap.size w0 wz) (fun v _ => q - sliceLen v)
  case atStart => exact ⟨0, by omega, by show OwnX _ _ _ _ _ _; rw [List.replicate_zero, List.append_nil]; exact hv, hb2⟩
  case round =>
    obtain ⟨j, hj, HV, hbz⟩ := hrel
    have hbzs := hbz.size
    obtain ⟨A9, c9, hv9, hc9⟩ := HV.out.rd.len
    obtain ⟨m, hm⟩ : ∃ m, (l ++ List.replicate j (blank 0 0 0)).length = m := ⟨_, rfl⟩
    have hmj : m = l.length + j := by rw [← hm, List.length_append, List.length_replicate]
    rw [hm] at hv9 hc9
    obtain ⟨r0, r1, r2, rf, rl⟩ := (HB1.out.below hbz HB1.out.lt).facts3
    obtain ⟨z0, z1, z2, z3, zf, zl⟩ := (HB2.out.below hbz HB2.out.lt).facts4
    have HMJ := Lib.hid hmj
    by_cases hlt : m < q
    · have hltI : (m : Int) < q := by omega
      have HM63 : Hid ((l ++ List.replicate j (blank 0 0 0)).length + [blank 0 0 0].length ≤ maxLen) := by show _ ≤ _; rw [hm, List.length_singleton]; unfold maxLen; omega
      have HM47 : Hid (((l ++ List.replicate j (blank 0 0 0)).length + [blank 0 0 0].length) * 56 ≤ 140737488355328) := by show _ ≤ _; rw [hm, List.length_singleton]; omega
      have HSZ : Hid (w0.heap.size ≤ wr.heap.size) := hbzs
      have HBZ := Lib.hid hbz
      obtain ⟨v9, hvv⟩ : ∃ v9, v9 = u9 := ⟨_, rfl⟩
      have HVL : Hid (sliceLen u9 = m) := by rw [hv9]; rfl
      subst hv9
      have HV9 : Hid (OwnX encC wr w0.heap.size 59 (.slice A9 m c9) (l ++ List.replicate j (blank 0 0 0))) := HV.out
      clear hm hmj hvv HV
      go_wp2_with (first
        | (go_at_call 29; refine (blank8_c _ _ _ _).mono ?_; rintro e w1 ⟨rfl, X1, d1, rfl⟩)
        | (at_builtin; go_loud (refine wpList_append_X encC rfl _ _ _ rfl w0.heap.size 59 56 i3 _ rfl HI3.out HZ3.out HS3.out HB3.out rfl _ _ (l ++ List.replicate j (blank 0 0 0)) [blank 0 0 0] rfl rfl ((HV9.out.below ((Below.refl wr.heap.size wr).grow (Nat.le_refl _) X1 d1) (Nat.le_refl _)).alloc _) (rdX_one (E := encC) _ _ (blank 0 0 0) _ _ rfl (by simp)) HM63.out HM47.out (Nat.le_trans HSZ.out (by simp; omega)) ?_; intro v4 w4 hv4 hgb4 hor4)))
      replace hgb4 : World.grownBy _ w4 (Value.slice A9 m c9).ownBlock := hgb4
      have hb4 : Below w0.heap.size w0 w4 := below_ownx (by have := HBZ.out; have := HBZ.out.size; (repeat (first | (with_reducible exact Below.refl _ _) | (with_reducible assumption) | (with_reducible refine Below.grow ?_ ?_ _ _) | (with_reducible refine Below.drewN' ?_ _) | (with_reducible refine Below.drew ?_) | (with_reducible refine Below.alloc ?_ ?_ _) | (with_reducible refine Below.setCell ?_ ?_ _) | omega | (focus (simp; done)) | (focus (simp; omega))))) hgb4 (fun g hg => (HV9.out.lt hg).1) (Nat.le_trans HSZ.out (by simp; omega))
      have hlen4 : sliceLen v4 = m + 1 := by
        obtain ⟨A5, c5, e5, -⟩ := hv4.rd.len
        rw [e5]
        show (l ++ List.replicate j (blank 0 0 0) ++ [blank 0 0 0]).length = m + 1
        have := HMJ.out
        simp
        omega
      have HLEN := Lib.hid hlen4
      clear hlen4
      go_roundw
      case rel => exact ⟨j + 1, by have := HMJ.out; omega, by show OwnX _ _ _ _ _ _; rw [List.replicate_succ', ← List.append_assoc]; exact hv4, hb4⟩
      case measure => (have := HLEN.out; simp [sliceLen] at *; omega)
    · have hmq : m = q := by omega
      have hpad : l ++ List.replicate j (blank 0 0 0) = listF q (padF l) := by
        apply List.ext_getElem?
        intro i
        by_cases hi : i < q
        · rw [listF_get hi]
          by_cases h2 : i < l.length
          · rw [List.getElem?_append_left h2, padF_inL (List.getElem?_eq_getElem h2), List.getElem?_eq_getElem h2]
          · rw [List.getElem?_append_right (by omega), padF_outL (by omega), List.getElem?_replicate, if_pos (by omega)]
        · rw [List.getElem?_eq_none (by rw [List.length_append, List.length_replicate]; omega), List.getElem?_eq_none (by rw [listF_len]; omega)]
      have hvo := HV.out
      rw [hpad] at hvo
      obtain ⟨g, cg, eg, hg1, hg2, hg3⟩ := ownX_slice hvo (by rw [listF_len]; omega)
      rw [listF_len] at eg hg3
      have HVO := Lib.hid hvo
      subst eg
      have HG : Hid (w0.heap.size ≤ g ∧ q ≤ cg) := ⟨hg1, hg3⟩
      have HBZ := Lib.hid hbz
      clear hv9 hc9 hm hmj HMJ hpad hvo HV hg1 hg2 hg3 hmq hlt
      go_wp2_with fail
      generalize hwf : World.setCell (World.setCell (World.setCell (World.setCell wr _ _) _ _) _ _) _ _ = wf
      have hz : Blk wf (w.heap.size + 1) 48 #[.slice (some ⟨g, 0, none⟩) q cg, .bool b, .int .i64 dir, .bool ex] := by rw [← hwf]; exact ((((HB2.out.below HBZ.out HB2.out.lt).set_ 0 _).set_ 1 _).set_ 2 _).set_ 3 _
      have hbf : Below w.heap.size w wf := by
        have h1 := HBW.out.trans (HBZ.out.mono HBW.out.size)
        have h2 := h1.size
        rw [← hwf]
        (repeat (first | (with_reducible exact Below.refl _ _) | (with_reducible assumption) | (with_reducible refine Below.grow ?_ ?_ _ _) | (with_reducible refine Below.drewN' ?_ _) | (with_reducible refine Below.drew ?_) | (with_reducible refine Below.alloc ?_ ?_ _) | (with_reducible refine Below.setCell ?_ ?_ _) | omega | (focus (simp; done)) | (focus (simp; omega))))
      have hgg := HG.out
      have hvf : OwnX encC wf w0.heap.size 59 (.slice (some ⟨g, 0, none⟩) q cg) (listF q (padF l)) := HVO.out.of (fun g' hg' => by
        injection hg' with hg'
        subst hg'
        rw [← hwf, Below.heap_setCell _ _ _ _ (by show g ≠ w.heap.size + 1; omega), Below.heap_setCell _ _ _ _ (by show g ≠ w.heap.size + 1; omega), Below.heap_setCell _ _ _ _ (by show g ≠ w.heap.size + 1; omega), Below.heap_setCell _ _ _ _ (by show g ≠ w.heap.size + 1; omega)])
      clear hwf
      obtain ⟨x0, x1, x2, x3, xf, xl⟩ := hz.facts4
      have hlt := hvf.lt (g := g) rfl
      refine bodyPost_ret (v := _) (by simp [results, Try.results37, go_sem, *]; try exact rfl) rfl ⟨⟨some ⟨g, 0, none⟩, q, cg, padF l, b, dir, ex⟩, rfl, hbf, ⟨⟨rd_ofX hvf.rd (by rw [listF_len]) (fun i hi => listF_get hi), hgg.2, by show q ≤ 5000; omega⟩, g, 0, rfl, by omega, hlt.2, by simp⟩, rfl⟩
end Go.Proofs.Ytlgnchhhadnjbaa.Row

/- lapwingref11.Split. -/
namespace Go.Proofs.Ytlgnchhhadnjbaa.Row
open Go.RowKit
/-- where the rows done and the cells now lie -/
def SplW (w0 wz : World) (x : Ls) (q : Nat) (v5 v6 : Value) (R : List Rw) (done : List (List Cl)) (now : List Cl) : Prop :=
  ∃ wB : World, Below w0.heap.size w0 wB ∧ RowsX wB w0.heap.size v5 R ∧ Below wB.heap.size wB wz ∧ OwnX encC wz wB.heap.size 59 v6 now ∧ R.map Rw.sh = done.map (rowS x q true)
theorem SplW.grown {w0 wz wy : World} {x : Ls} {q : Nat} {v5 v6 : Value} {R : List Rw} {done : List (List Cl)} {now : List Cl} (h : SplW w0 wz x q v5 v6 R done now) (hb : Below wz.heap.size wz wy) : SplW w0 wy x q v5 v6 R done now := by
  obtain ⟨wB, h1, h2, h3, h4, h5⟩ := h
  exact ⟨wB, h1, h2, h3.trans (hb.mono h3.size), h4.below hb (Nat.le_refl _), h5⟩
theorem SplW.below {w0 wz : World} {x : Ls} {q : Nat} {v5 v6 : Value} {R : List Rw} {done : List (List Cl)} {now : List Cl} (h : SplW w0 wz x q v5 v6 R done now) : Below w0.heap.size w0 wz := by
  obtain ⟨wB, h1, h2, h3, h4, h5⟩ := h
  exact h1.trans (h3.mono h1.size)
/-- a cell more -/
theorem SplW.more {w0 wz wy w6 : World} {x : Ls} {q : Nat} {v5 v6 v' : Value} {R : List Rw} {done : List (List Cl)} {now : List Cl} {c : Cl} (h : SplW w0 wz x q v5 v6 R done now) (hb : Below wz.heap.size wz wy)
    (ho : ∀ B, OwnX encC wy B 59 v6 now → B ≤ wy.heap.size → OwnX encC w6 B 59 v' (now ++ [c])) (hg : wy.grownBy w6 v6.ownBlock) : SplW w0 w6 x q v5 v' R done (now ++ [c]) := by
  obtain ⟨wB, h1, h2, h3, h4, h5⟩ := h.grown hb
  exact ⟨wB, h1, h2, below_ownx h3 hg (fun g hg => (h4.lt hg).1) h3.size, ho _ h4 h3.size, h5⟩
set_option maxRecDepth 100000 in
set_option maxHeartbeats 4000000 in
theorem split11_no (A : Option Addr) (n cap : Nat) (cs : List Cl) (dir : Int) (ex : Bool) (v : Int) (w : World) (hx : RdX encC w (.slice A n cap) cs) (hn : n = cs.length) (hl : n ≤ 10000000) (hs : sanL ⟨cs, dir, ex⟩ = false) :
    Calls Try.prog 19 #[.agg #[.slice A n cap, .int .i64 dir, .bool ex], .int .i64 v] w (SplitF ⟨cs, dir, ex⟩ v w) := by
  have HX := Lib.hid hx
  have HL := Lib.hid hn
  have HLL := Lib.hid hl
  have HSN := Lib.hid hs
  clear hx hn hl hs
  go_enter Try.func19, Try.ntmps19
  go_wp2_with (go_at_call 17; (with_reducible refine (saneL11_c A n cap cs dir ex _ (HX.out.below (by (repeat (first | (with_reducible exact Below.refl _ _) | (with_reducible assumption) | (with_reducible refine Below.grow ?_ ?_ _ _) | (with_reducible refine Below.drewN' ?_ _) | (with_reducible refine Below.drew ?_) | (with_reducible refine Below.alloc ?_ ?_ _) | (with_reducible refine Below.setCell ?_ ?_ _) | omega | (focus (simp; done)) | (focus (simp; omega)))))) HL.out HLL.out).mono ?_); rw [HSN.out]; rintro e w1 ⟨rfl, X1, d1, rfl⟩)
  go_ret
  exact ⟨_, [], rfl, by (repeat (first | (with_reducible exact Below.refl _ _) | (with_reducible assumption) | (with_reducible refine Below.grow ?_ ?_ _ _) | (with_reducible refine Below.drewN' ?_ _) | (with_reducible refine Below.drew ?_) | (with_reducible refine Below.alloc ?_ ?_ _) | (with_reducible refine Below.setCell ?_ ?_ _) | omega | (focus (simp; done)) | (focus (simp; omega)))), RowsX.nil _ _, by unfold splitG; rw [if_neg (by rw [HSN.out]; simp)]; rfl⟩
theorem below_more2 {w v u : World} (h : Below w.heap.size w v) (k : Below v.heap.size v u) : Below w.heap.size w u := h.trans (k.mono h.size)

set_option maxRecDepth 100000 in
set_option maxHeartbeats 4000000 in
theorem split11_yes (A : Option Addr) (n cap : Nat) (cs : List Cl) (dir : Int) (ex : Bool) (v : Int) (w : World) (hx : RdX encC w (.slice A n cap) cs) (hn : n = cs.length) (hl : n ≤ 10000000) (hs : sanL ⟨cs, dir, ex⟩ = true) :
    Calls Try.prog 19 #[.agg #[.slice A n cap, .int .i64 dir, .bool ex], .int .i64 v] w (SplitF ⟨cs, dir, ex⟩ v w) := by
  obtain ⟨q, hq, hq1, hq2, m0, hm1, hm2⟩ := maxmin_eq v
  have HOK : Hid (∀ c ∈ cs, okC c = true) := (sanL_iff.1 hs).2.2
  have HFIN : Hid (splitG ⟨cs, dir, ex⟩ v = finS ⟨cs, dir, ex⟩ q (cs.foldl (stepS q) ([], []))) := by
    show _ = _
    unfold splitG
    rw [if_pos hs, hq]
    rfl
  have HX := Lib.hid hx
  have HL := Lib.hid hn
  have HLL := Lib.hid hl
  have HSN := Lib.hid hs
  clear hx hn hs hq
  unfold SplitF
  rw [HFIN.out]
  clear HFIN
  generalize hFIN : cs.foldl (stepS q) ([], []) = FIN
  have HFI := Lib.hid hFIN
  clear hFIN
  obtain ⟨i3, hi3, hz3, hs3, hb3⟩ := cell_parts
  have HI3 := Lib.hid hi3
  have HZ3 := Lib.hid hz3
  have HS3 := Lib.hid hs3
  have HB3 := Lib.hid hb3
  clear hi3 hz3 hs3 hb3
  obtain ⟨i4, hi4, hz4, hs4, hb4⟩ := row_parts
  have HI4 := Lib.hid hi4
  have HZ4 := Lib.hid hz4
  have HS4 := Lib.hid hs4
  have HB4 := Lib.hid hb4
  clear hi4 hz4 hs4 hb4
  go_enter Try.func19, Try.ntmps19
  go_upto_region 3 with (go_at_call 17; (with_reducible refine (saneL11_c A n cap cs dir ex _ (HX.out.below (by (repeat (first | (with_reducible exact Below.refl _ _) | (with_reducible assumption) | (with_reducible refine Below.grow ?_ ?_ _ _) | (with_reducible refine Below.drewN' ?_ _) | (with_reducible refine Below.drew ?_) | (with_reducible refine Below.alloc ?_ ?_ _) | (with_reducible refine Below.setCell ?_ ?_ _) | omega | (focus (simp; done)) | (focus (simp; omega)))))) HL.out HLL.out).mono ?_); rw [HSN.out]; rintro e w1 ⟨rfl, X1, d1, rfl⟩)
  generalize hw0 : (w.alloc _).grow X1 d1 = w0
  have hbw0 : Below w.heap.size w w0 := by rw [← hw0]; (repeat (first | (with_reducible exact Below.refl _ _) | (with_reducible assumption) | (with_reducible refine Below.grow ?_ ?_ _ _) | (with_reducible refine Below.drewN' ?_ _) | (with_reducible refine Below.drew ?_) | (with_reducible refine Below.alloc ?_ ?_ _) | (with_reducible refine Below.setCell ?_ ?_ _) | omega | (focus (simp; done)) | (focus (simp; omega))))
  have hB1 : Blk w0 w.heap.size 42 #[.slice A n cap, .int .i64 dir, .bool ex] := by rw [← hw0]; exact (Blk.new _ _ _).grow _ _
  clear hw0
  go_cut [1] from 12 to 14 (fun v wc => v = .int .i64 (q : Int) ∧ wc = w0)
  case first =>
    go_wp2_with fail
    · go_meet
      case rel => exact ⟨by rw [if_neg (by omega)] at hm2; rw [hm2], rfl⟩
    · go_meet
      case rel => exact ⟨by rw [if_pos (by omega)] at hm2; rw [← hm2], rfl⟩
  obtain ⟨rfl, hwc⟩ := hcut
  rw [hwc]
  clear hm1 hm2 hwc wc
  have HB1 := Lib.hid hB1
  have HBW0 := Lib.hid hbw0
  clear hB1 hbw0
  go_wp2_with fail
  go_loopw [5, 6, 7] (fun l s i wz => ∃ (k : Nat) (R : List Rw) (done : List (List Cl)) (now : List Cl), k ≤ n ∧ i = .int .i64 k ∧ Hid (SplW w0 wz ⟨cs, dir, ex⟩ q l s R done now) ∧ R.length ≤ k ∧ now.length ≤ q ∧ Hid ((cs.drop k).foldl (stepS q) (done, now) = FIN)) (fun _ _ i _ => n - (intOf i).toNat)
  case atStart => exact ⟨0, [], [], [], Nat.zero_le _, rfl, ⟨w0, Below.refl _ _, RowsX.nil _ _, Below.refl _ _, OwnX.nil _ _ _, rfl⟩, Nat.zero_le _, Nat.zero_le _, HFI.out⟩
  case round =>
    obtain ⟨k, R, done, now, hk, rfl, HSW, hRk, hnq, HF⟩ := hrel
    have hbz := HSW.out.below
    have hbzs := hbz.size
    obtain ⟨r0, r1, r2, rf, rl⟩ := (HB1.out.below hbz HB1.out.lt).facts3
    have hbwz : Below w.heap.size w wr := HBW0.out.trans (hbz.mono HBW0.out.size)
    obtain ⟨wB, hwB1, hwB2, hwB3, hwB4, hwB5⟩ := HSW.out
    obtain ⟨A6, c6, hv6, hc6⟩ := hwB4.rd.len
    obtain ⟨m6, hm6⟩ : ∃ m6, now.length = m6 := ⟨_, rfl⟩
    rw [hm6] at hv6 hc6 hnq
    subst hv6
    have HM6 : Hid (m6 = now.length) := hm6.symm
    have HNQ : Hid (now.length ≤ q) := by show _ ≤ _; rw [hm6]; exact hnq
    by_cases hlt : k < n
    · have hltI : (k : Int) < n := by omega
      have hkl : k < cs.length := by rw [← HL.out]; exact hlt
      obtain ⟨bc, oc, hA, hbl, hat⟩ := rdC_at (HX.out.below hbwz) (List.getElem?_eq_getElem hkl)
      have HOKC : Hid (okC cs[k] = true) := HOK.out _ (List.getElem_mem hkl)
      have HF1 : Hid ((cs.drop (k + 1)).foldl (stepS q) (stepS q (done, now) cs[k]) = FIN) := by
        show _ = _
        rw [← HF.out, List.drop_eq_getElem_cons hkl]
        rfl
      generalize cs[k] = ce at *
      obtain ⟨c0, c1, c2, c3, c4, c5, c6'⟩ := hat
      rw [hA] at r0
      clear hA
      have hwl := whole_len HOKC.out
      have hw12 : ce.w = 1 ∨ ce.w = 2 := (okC_iff.1 HOKC.out).1
      have hwrap : IntKind.i64.wrap ((m6 : Int) + ce.w) = (m6 : Int) + ce.w := by rw [IntWalk.i64_left]; exact IntWalk.wrap64_in _ (by omega)
      obtain ⟨g, hg⟩ : ∃ g, wr.heap.size = g := ⟨_, rfl⟩
      by_cases hgt : (q : Int) < ce.w
      · have hgb : decide ((q : Int) < ce.w) = true := by simpa using hgt
        have HGT := Lib.hid hgt
        clear hgt hg
        go_wp2_with fail
        go_roundw
        case rel => exact ⟨k + 1, R, done, now, by omega, by go_num, HSW.out.grown ((Below.refl _ _).alloc (Nat.le_refl _) _), by omega, HNQ.out, by have := HF1.out; rw [stepS_skip HGT.out] at this; exact this⟩
        case measure => simp [intOf]; omega
      · have hgb : decide ((q : Int) < ce.w) = false := by simpa using hgt
        have HGT := Lib.hid hgt
        clear hgt
        go_upto_if 37 with fail
        generalize hw5 : wr.alloc _ = w5
        have HSW5 : Hid (SplW w0 w5 ⟨cs, dir, ex⟩ q u5 (.slice A6 m6 c6) R done now) := by show SplW _ _ _ _ _ _ _ _ _; rw [← hw5]; exact HSW.out.grown ((Below.refl _ _).alloc (Nat.le_refl _) _)
        have HBC : Hid (Blk w5 g 59 ce.cells.toArray) := by show Blk _ _ _ _; rw [← hw5, ← hg]; exact Blk.new _ _ _
        have HNL : Hid (∀ j, u5.ownBlock = some j → j = g → False) := fun j hj e => by have := (hwB2.1.lt hj).2; have := hwB3.size; omega
        have HNG : Hid (some g ≠ (Value.slice A6 m6 c6).ownBlock) := fun e => by have := (hwB4.lt e.symm).2; omega
        have HB15 : Hid (Blk w5 w.heap.size 42 #[.slice A n cap, .int .i64 dir, .bool ex]) := HB1.out.below HSW5.out.below HB1.out.lt
        clear hw5 hwB1 hwB2 hwB3 hwB4 hwB5 hm6 r0 r1 r2 rf rl c0 c1 c2 c3 c4 c5 c6'
        go_cut [5, 6, 37] from 38 to 44 (fun l s _ wc => ∃ (R2 : List Rw) (done2 : List (List Cl)) (now2 : List Cl), Hid (SplW w0 wc ⟨cs, dir, ex⟩ q l s R2 done2 now2) ∧ R2.length ≤ k + 1 ∧ Hid (stepS q (done, now) ce = (done2, now2 ++ wholeL ce)) ∧ Hid (now2.length + (wholeL ce).length ≤ q) ∧ Hid (Blk wc g 59 ce.cells.toArray) ∧ Hid (some g ≠ s.ownBlock))
        case first =>
          by_cases hov : (q : Int) < (m6 : Int) + ce.w
          · have hob : decide ((q : Int) < (m6 : Int) + ce.w) = true := by simpa using hov
            have HOV := Lib.hid hov
            obtain ⟨wB, hwB1, hwB2, hwB3, hwB4, hwB5⟩ := HSW5.out
            have HRB := Lib.hid hwB2
            have HBB := Lib.hid hwB3
            have HNW := Lib.hid hwB4
            have HMP := Lib.hid hwB5
            have HRX0 : Hid (w0.heap.size ≤ w5.heap.size) := HSW5.out.below.size
            have HR63 : Hid (R.length + 1 ≤ maxLen) := by show _ ≤ _; unfold maxLen; omega
            have HR47 : Hid ((R.length + 1) * 48 ≤ 140737488355328) := by show _ ≤ _; omega
            have HLT5 := Lib.hid (fun g hg => hwB2.1.lt (g := g) hg)
            have HWB := Lib.hid hwB3.size
            have HW0B := Lib.hid hwB1
            obtain ⟨y0, y1, y2, yf, yl⟩ := HB15.out.facts3
            clear hwB1 hwB2 hwB3 hwB4 hwB5
            go_wp2_with (first | (go_at_call 37; go_loud ((with_reducible refine (full_c A n cap dir ex A6 m6 c6 now q true _ HNW.out.rd HM6.out HNQ.out hq1 hq2).mono ?_); rintro e w7 ⟨r7, rfl, hb7, hf7, hs7⟩; have HB7 := Lib.hid hb7; have HF7 := Lib.hid hf7; have HS7 := Lib.hid hs7; have HRX := Lib.hid (HRB.out.below (below_more2 HBB.out hb7)); clear hb7 hf7 hs7)) | (at_builtin; go_loud (refine wpList_append_X encR rfl _ _ _ rfl w0.heap.size 48 48 i4 _ rfl HI4.out HZ4.out HS4.out HB4.out rfl _ _ R [r7] rfl rfl (HRX.out.1.alloc _) (rdX_one (E := encR) _ _ r7 _ _ rfl (by simp)) (by rw [List.length_singleton]; exact HR63.out) (by rw [List.length_singleton]; exact HR47.out) (Nat.le_trans HRX0.out (by have := HB7.out.size; simp; omega)) ?_; intro v8 w8 hv8 hgb8 hor8)))
            replace hgb8 : World.grownBy _ w8 u5.ownBlock := hgb8
            replace hor8 : v8.ownBlock = u5.ownBlock ∨ v8.ownBlock = _ := hor8
            go_meet
            case rel =>
              have h57 := HB7.out.size
              have hb07 : Below w0.heap.size w0 w7 := HSW5.out.below.trans (HB7.out.mono HRX0.out)
              have hb8 : Below w0.heap.size w0 w8 := below_ownx (hb07.alloc hb07.size _) hgb8 (fun g hg => (HLT5.out g hg).1) (Nat.le_trans hb07.size (by simp))
              refine ⟨R ++ [r7], done ++ [now], [], ⟨w8, hb8, RowsX.app (rowsX_alloc HRX.out _) (fun r hr => ?_) hv8 hgb8 hor8, Below.refl _ _, OwnX.nil _ _ _, ?_⟩, by rw [List.length_append, List.length_singleton]; omega, ?_, ?_, ?_, fun e => by cases e⟩
              · obtain rfl := List.mem_singleton.1 hr
                exact frR_up (HF7.out.below ((Below.refl _ _).alloc (Nat.le_refl _) _)) HRX0.out (fun g hg => by have := (HLT5.out g hg).2; have := HWB.out; omega)
              · rw [List.map_append, HMP.out, List.map_append, List.map_singleton, HS7.out]
                rfl
              · show _ = _
                rw [stepS_new (s := (done, now)) (by have := HGT.out; omega) (by rw [← HM6.out]; exact HOV.out)]
                rfl
              · show _ ≤ _
                have := HGT.out
                simp only [List.length_nil]
                omega
              · show Blk _ _ _ _
                have hgl := HBC.out.lt
                refine ((HBC.out.below HB7.out hgl).alloc _).gb hgb8 (fun e => ?_)
                exact HNL.out g e.symm rfl
          · have hob : decide ((q : Int) < (m6 : Int) + ce.w) = false := by simpa using hov
            have HOV := Lib.hid hov
            go_wp2_with fail
            go_meet
            case rel => exact ⟨R, done, now, HSW5.out, by omega, stepS_put (s := (done, now)) (by have := HGT.out; omega) (by rw [← HM6.out]; have := HOV.out; omega), by show _ ≤ _; rw [← HM6.out]; have := HOV.out; omega, HBC.out, HNG.out⟩
        obtain ⟨R2, done2, now2, HSW2, hRk2, HST, HNL2, HBC2, HNG2⟩ := hcut
        have hbc := HSW2.out.below
        obtain ⟨wB, hwB1, hwB2, hwB3, hwB4, hwB5⟩ := HSW2.out
        have hnl2 := HNL2.out
        have hw3 := whole_len2 HOKC.out
        have HM63 : Hid (now2.length + [ce].length ≤ maxLen) := by show _ ≤ _; rw [List.length_singleton]; unfold maxLen; omega
        have HM47 : Hid ((now2.length + [ce].length) * 56 ≤ 140737488355328) := by show _ ≤ _; rw [List.length_singleton]; omega
        have HW4 := Lib.hid hwB4
        have HSB := Lib.hid hwB3.size
        have HW1 := Lib.hid hwB1
        have HW2 := Lib.hid hwB2
        have HW3 := Lib.hid hwB3
        have HW5 := Lib.hid hwB5
        obtain ⟨e0, e1, e2, e3, e4, e5, e6, ef, el⟩ := HBC2.out.facts7
        clear hwB1 hwB2 hwB3 hwB4 hwB5
        go_upto_region 15 with (at_builtin; go_loud (refine wpList_append_X encC rfl _ _ _ rfl wB.heap.size 59 56 i3 _ rfl HI3.out HZ3.out HS3.out HB3.out rfl _ _ now2 [ce] rfl rfl (HW4.out.alloc _) (rdX_one (E := encC) _ _ ce _ _ rfl rfl) HM63.out HM47.out (Nat.le_trans HSB.out (by simp)) ?_; intro v9 w9 hv9 hgb9 hor9))
        replace hgb9 : World.grownBy _ w9 u6.ownBlock := hgb9
        replace hor9 : v9.ownBlock = u6.ownBlock ∨ v9.ownBlock = _ := hor9
        have HB9 : Hid (Below wB.heap.size wB w9) := below_ownx (HW3.out.alloc HW3.out.size _) hgb9 (fun g hg => (HW4.out.lt hg).1) (Nat.le_trans HSB.out (by simp))
        have HV9 := Lib.hid hv9
        have HBC9 : Hid (Blk w9 g 59 ce.cells.toArray) := (HBC2.out.alloc _).gb hgb9 HNG2.out
        have HNG9 : Hid (some g ≠ v9.ownBlock) := fun e => by
          rcases hor9 with h | h
          · rw [h] at e; exact HNG2.out e
          · rw [h] at e
            injection e with e
            have := HBC2.out.lt
            simp at e
            omega
        have HST2 : Hid ((cs.drop (k + 1)).foldl (stepS q) (done2, now2 ++ wholeL ce) = FIN) := by have := HF1.out; rw [HST.out] at this; exact this
        clear e0 e1 e2 e3 e4 e5 e6 ef el hgb9 hor9 hv9
        obtain ⟨e0, e1, e2, e3, e4, e5, e6, ef, el⟩ := HBC9.out.facts7
        have hb9s := HB9.out.size
        rcases hw12 with h1 | h2
        · have hwb : (ce.w == 2) = false := by rw [h1]; rfl
          have HWL : Hid (wholeL ce = [ce]) := by show _ = _; unfold wholeL; rw [if_neg (by omega)]
          clear h1
          go_wp2_with fail
          go_roundw
          case rel =>
            refine ⟨k + 1, R2, done2, now2 ++ [ce], by omega, by go_num, ⟨wB, HW1.out, HW2.out, HB9.out, HV9.out, HW5.out⟩, by omega, ?_, ?_⟩
            · rw [List.length_append, List.length_singleton]
              omega
            · show _ = _
              rw [← HWL.out]
              exact HST2.out
          case measure => simp [intOf]; omega
        · have hwb : (ce.w == 2) = true := by rw [h2]; rfl
          have HWL : Hid (wholeL ce = [ce] ++ [halfOf ce]) := by show _ = _; unfold wholeL; rw [if_pos h2]; rfl
          have hl2 : (wholeL ce).length = 2 := by rw [HWL.out]; rfl
          have HM63' : Hid ((now2 ++ [ce]).length + [halfOf ce].length ≤ maxLen) := by show _ ≤ _; rw [List.length_append, List.length_singleton, List.length_singleton]; unfold maxLen; omega
          have HM47' : Hid (((now2 ++ [ce]).length + [halfOf ce].length) * 56 ≤ 140737488355328) := by show _ ≤ _; rw [List.length_append, List.length_singleton, List.length_singleton]; omega
          clear h2
          go_wp2_with (at_builtin; go_loud (refine wpList_append_X encC rfl _ _ _ rfl wB.heap.size 59 56 i3 _ rfl HI3.out HZ3.out HS3.out HB3.out rfl _ _ (now2 ++ [ce]) [halfOf ce] rfl rfl (HV9.out.alloc _) (rdX_one (E := encC) _ _ (halfOf ce) _ _ rfl rfl) HM63'.out HM47'.out (Nat.le_trans HB9.out.size (by simp)) ?_; intro v10 w10 hv10 hgb10 hor10))
          replace hgb10 : World.grownBy _ w10 v9.ownBlock := hgb10
          have HB10 : Hid (Below wB.heap.size wB w10) := below_ownx (HB9.out.alloc HB9.out.size _) hgb10 (fun g hg => (HV9.out.lt hg).1) (Nat.le_trans HB9.out.size (by simp))
          go_roundw
          case rel =>
            refine ⟨k + 1, R2, done2, now2 ++ [ce] ++ [halfOf ce], by omega, by go_num, ⟨wB, HW1.out, HW2.out, HB10.out, hv10, HW5.out⟩, by omega, ?_, ?_⟩
            · rw [List.length_append, List.length_append, List.length_singleton, List.length_singleton]
              omega
            · show _ = _
              rw [List.append_assoc, ← HWL.out]
              exact HST2.out
          case measure => simp [intOf]; omega
    · obtain rfl : n = k := by omega
      have HFE : Hid ((done, now) = FIN) := by
        show _ = _
        rw [← HF.out, List.drop_eq_nil_of_le (by rw [← HL.out]; exact Nat.le_refl _)]
        rfl
      have HRB := Lib.hid hwB2
      have HBB := Lib.hid hwB3
      have HNW := Lib.hid hwB4
      have HMP := Lib.hid hwB5
      have HRX0 : Hid (w0.heap.size ≤ wr.heap.size) := hbzs
      have HR63 : Hid (R.length + 1 ≤ maxLen) := by show _ ≤ _; unfold maxLen; omega
      have HR47 : Hid ((R.length + 1) * 48 ≤ 140737488355328) := by show _ ≤ _; omega
      have HLT5 := Lib.hid (fun g hg => hwB2.1.lt (g := g) hg)
      have HWB := Lib.hid hwB3.size
      have HBZ0 := Lib.hid hbz
      clear hwB1 hwB2 hwB3 hwB4 hwB5 hm6
      go_wp2_with (first | (go_at_call 37; go_loud ((with_reducible refine (full_c A n cap dir ex A6 m6 c6 now q false _ HNW.out.rd HM6.out HNQ.out hq1 hq2).mono ?_); rintro e w7 ⟨r7, rfl, hb7, hf7, hs7⟩; have HB7 := Lib.hid hb7; have HF7 := Lib.hid hf7; have HS7 := Lib.hid hs7; have HRX := Lib.hid (HRB.out.below (below_more2 HBB.out hb7)); clear hb7 hf7 hs7)) | (at_builtin; go_loud (refine wpList_append_X encR rfl _ _ _ rfl w0.heap.size 48 48 i4 _ rfl HI4.out HZ4.out HS4.out HB4.out rfl _ _ R [r7] rfl rfl (HRX.out.1.alloc _) (rdX_one (E := encR) _ _ r7 _ _ rfl (by simp)) (by rw [List.length_singleton]; exact HR63.out) (by rw [List.length_singleton]; exact HR47.out) (Nat.le_trans HRX0.out (by have := HB7.out.size; simp; omega)) ?_; intro v8 w8 hv8 hgb8 hor8)))
      replace hgb8 : World.grownBy _ w8 u5.ownBlock := hgb8
      replace hor8 : v8.ownBlock = u5.ownBlock ∨ v8.ownBlock = _ := hor8
      have hb07 : Below w0.heap.size w0 w7 := HBZ0.out.trans (HB7.out.mono HRX0.out)
      have hb8 : Below w0.heap.size w0 w8 := below_ownx (hb07.alloc hb07.size _) hgb8 (fun g hg => (HLT5.out g hg).1) (Nat.le_trans hb07.size (by simp))
      go_ret
      refine ⟨v8, R ++ [r7], rfl, HBW0.out.trans (hb8.mono HBW0.out.size), RowsX.mono (RowsX.app (rowsX_alloc HRX.out _) (fun r hr => ?_) hv8 hgb8 hor8) HBW0.out.size, ?_⟩
      · obtain rfl := List.mem_singleton.1 hr
        exact frR_up (HF7.out.below ((Below.refl _ _).alloc (Nat.le_refl _) _)) HRX0.out (fun g hg => by have := (HLT5.out g hg).2; have := HWB.out; omega)
      · rw [List.map_append, HMP.out, ← HFE.out, List.map_singleton, HS7.out]
        rfl
theorem split11_c (A : Option Addr) (n cap : Nat) (cs : List Cl) (dir : Int) (ex : Bool) (v : Int) (w : World) (hx : RdX encC w (.slice A n cap) cs) (hn : n = cs.length) (hl : n ≤ 10000000) :
    Calls Try.prog 19 #[.agg #[.slice A n cap, .int .i64 dir, .bool ex], .int .i64 v] w (SplitF ⟨cs, dir, ex⟩ v w) := by
  cases hs : sanL ⟨cs, dir, ex⟩
  · exact split11_no A n cap cs dir ex v w hx hn hl hs
  · exact split11_yes A n cap cs dir ex v w hx hn hl hs
end Go.Proofs.Ytlgnchhhadnjbaa.Row

/- lapwingref11.Spread. -/
namespace Go.Proofs.Ytlgnchhhadnjbaa.Row
open Go.RowKit
set_option maxRecDepth 100000 in
set_option maxHeartbeats 4000000 in
theorem spread11_c (x : Value) (L : List Ln) (v : Int) (w : World) (hx : RdL w x L) (hl : L.length ≤ 100000) (ht : tot L ≤ 10000000) :
    Calls Try.prog 15 #[x, .int .i64 v] w (SpreadF (L.map Ln.ls) v w) := by
  obtain ⟨A, cap, rfl, hc⟩ := hx.1.len
  have HT := Lib.hid ht
  have HX := Lib.hid hx
  clear ht
  obtain ⟨n, hn⟩ : ∃ n, L.length = n := ⟨_, rfl⟩
  rw [hn] at hl hc ⊢
  have HN := Lib.hid hn
  replace hx : Hid (RdL w (.slice A n cap) L) := by show RdL _ _ _; rw [← hn]; exact hx
  clear HX hn
  obtain ⟨i3, hi3, hz3, hs3, hb3⟩ := row_parts
  have HI3 := Lib.hid hi3
  have HZ3 := Lib.hid hz3
  have HS3 := Lib.hid hs3
  have HB3 := Lib.hid hb3
  clear hi3 hz3 hs3 hb3
  go_enter Try.func15, Try.ntmps15
  go_wp2_with fail
  go_loopw [5, 6] (fun l i wz => ∃ (k : Nat) (R : List Rw), k ≤ n ∧ i = .int .i64 k ∧ Hid (RowsX wz w.heap.size l R) ∧ Below w.heap.size w wz ∧ Hid (R.map Rw.sh = spreadS ((L.take k).map Ln.ls) v)) (fun _ i _ => n - (intOf i).toNat)
  case atStart => exact ⟨0, [], Nat.zero_le _, rfl, RowsX.nil _ _, Below.refl _ _, rfl⟩
  case round =>
    obtain ⟨k, R, hk, rfl, HR, hbw, HSH⟩ := hrel
    have hws := hbw.size
    by_cases hlt : k < n
    · have hkl : k < L.length := by rw [HN.out]; exact hlt
      obtain ⟨b, o, rfl, hbl, hat, hok⟩ := (hx.out.below hbw).at_ hkl
      have HTK := Lib.hid (take_next hkl)
      have HTT : Hid (R.length + (L[k].cs.length + 1) ≤ 10000000) := by
        show _ ≤ _
        have h1 := tot_take L (k + 1)
        rw [take_next hkl, tot_app] at h1
        have h2 := spread_len v (L.take k)
        rw [← HSH.out, List.length_map] at h2
        have h3 := HT.out
        have h4 : tot [L[k]] = L[k].cs.length + 1 := by simp [tot]
        omega
      generalize L[k] = le at *
      have HOK := Lib.hid hok
      obtain ⟨p0, p1, p2⟩ := hat
      have hltI : (k : Int) < n := by omega
      clear hok
      go_wp2_with (first | (go_at_call 19; go_loud ((with_reducible refine (split11_c le.A le.cs.length le.cap le.cs le.dir le.ex v _ (HOK.out.rdB (by (repeat (first | (with_reducible exact Below.refl _ _) | (with_reducible assumption) | (with_reducible refine Below.grow ?_ ?_ _ _) | (with_reducible refine Below.drewN' ?_ _) | (with_reducible refine Below.drew ?_) | (with_reducible refine Below.alloc ?_ ?_ _) | (with_reducible refine Below.setCell ?_ ?_ _) | omega | (focus (simp; done)) | (focus (simp; omega)))))) rfl HOK.out.len).mono ?_); rintro e w2 ⟨u2, R2, rfl, hb2, hr2, hs2⟩; have HB2 := Lib.hid hb2; have HR2 := Lib.hid hr2; have HS2 := Lib.hid hs2; have HL2 : Hid (R2.length ≤ le.cs.length + 1) := (by show _ ≤ _; rw [← List.length_map (f := Rw.sh), hs2]; exact split_len le.ls v); have HM63 : Hid (R.length + R2.length ≤ maxLen) := (by have h1 := HL2.out; have h2 := HTT.out; show _ ≤ _; unfold maxLen; omega); have HM47 : Hid ((R.length + R2.length) * 48 ≤ 140737488355328) := (by have h1 := HL2.out; have h2 := HTT.out; show _ ≤ _; omega); have HSZ : Hid (w.heap.size ≤ w2.heap.size) := (by have h1 := hb2.size; have h2 := hbw.size; show _ ≤ _; omega); have HX2 : Hid (OwnX encR w2 w.heap.size 48 u5 R) := (HR.out.1.below (B := wr.heap.size) hb2 (Nat.le_refl _)); clear hb2 hr2 hs2)) | (at_builtin; go_loud (refine wpList_append_X encR rfl _ _ _ rfl w.heap.size 48 48 i3 _ rfl HI3.out HZ3.out HS3.out HB3.out rfl _ _ R R2 rfl rfl HX2.out HR2.out.1.rd HM63.out HM47.out HSZ.out ?_; intro v6 w6 hv6 hgb6 hor6)))
      replace hgb6 : World.grownBy _ w6 u5.ownBlock := hgb6
      replace hor6 : v6.ownBlock = u5.ownBlock ∨ v6.ownBlock = _ := hor6
      have hbw2 : Below w.heap.size w w2 := hbw.trans (HB2.out.mono hbw.size)
      have hbw6 : Below w.heap.size w w6 := below_ownx hbw2 hgb6 (fun g hg => (HR.out.1.lt hg).1) hbw2.size
      have hR2 : RowsX w2 w.heap.size u5 R := HR.out.below HB2.out
      go_roundw
      case rel =>
        refine ⟨k + 1, R ++ R2, by omega, by go_num, RowsX.app hR2 (fun r hr => frR_up (HR2.out.2 r hr) (by omega) (fun g hg => by have := (HR.out.1.lt hg).2; omega)) hv6 hgb6 hor6, hbw6, ?_⟩
        show _ = _
        rw [List.map_append, HSH.out, HS2.out, HTK.out, List.map_append]
        unfold spreadS
        rw [List.flatMap_append]
        simp [Ln.ls]
      case measure => simp [intOf]; omega
    · obtain rfl : n = k := by omega
      go_wp2_with fail
      go_ret
      refine ⟨_, R, rfl, hbw, HR.out, ?_⟩
      rw [HSH.out, List.take_of_length_le (by rw [HN.out]; exact Nat.le_refl _)]
end Go.Proofs.Ytlgnchhhadnjbaa.Row
