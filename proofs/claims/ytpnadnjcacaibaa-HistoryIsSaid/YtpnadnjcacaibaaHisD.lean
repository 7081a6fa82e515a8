/- The document's Window. -/
import Derived.Test.YtpnadnjcacaibaaHisB
import Derived.Test.YtpnadnjcacaibaaLstO
namespace Go.Proofs.Ytpnadnjcacaibaa.Row
open Go.RowKit

def WinF (L G : List Rw) (q : Nat) (w : World) (e : Ending) (w' : World) : Prop := ∃ v, e = .returned v ∧ Below w.heap.size w w' ∧ RdR w' v (winL L G q)
set_option maxRecDepth 100000 in
set_option maxHeartbeats 2000000 in
theorem window10_yes (x y : Value) (c k : Int) (L G : List Rw) (q : Nat) (w : World) (hx : RdR w x L) (hy : RdR w y G) (hl : L.length ≤ 5000) (hm : G.length ≤ 5000) (hs : hsaneB L c = true) (hg : gsaneB G = true) (hq : (q : Int) = max 0 (min k L.length)) :
    Calls Try.prog 44 #[.agg #[x, .int .i64 c], .agg #[y], .int .i64 k] w (WinF L G q w) := by
  obtain ⟨A, cap, rfl, hc⟩ := hx.1.len
  obtain ⟨A2, cap2, rfl, hc2⟩ := hy.1.len
  obtain ⟨i3, hi3, hz3, hs3, hb3⟩ := row_parts
  have HI3 := Lib.hid hi3
  have HZ3 := Lib.hid hz3
  have HS3 := Lib.hid hs3
  have HB3 := Lib.hid hb3
  have HLL := Lib.hid hl
  have HLG := Lib.hid hm
  have HX := Lib.hid hx
  have HY := Lib.hid hy
  have HWL : Hid (winL L G q = ((L ++ G).drop (L.length - q)).take G.length) := rfl
  generalize hn : L.length = n at hl hc hx HX hq HWL ⊢
  generalize hn2 : G.length = h at hm hc2 hy HY HWL ⊢
  have HN := Lib.hid hn
  have HN2 := Lib.hid hn2
  have hqn : q ≤ n := by omega
  have HQ := Lib.hid hq.symm
  obtain ⟨lo, hlo⟩ : ∃ lo, lo = n - q := ⟨_, rfl⟩
  have HLO := Lib.hid hlo
  obtain ⟨tz, hto⟩ : ∃ tz, tz = n + h - q := ⟨_, rfl⟩
  have HTO := Lib.hid hto
  obtain ⟨m1, hm1⟩ : ∃ m : Int, (if (n : Int) < k then (n : Int) else k) = m := ⟨_, rfl⟩
  have hq0 : (if 0 < m1 then m1 else 0) = (q : Int) := by rw [← hm1, hq]; (repeat' split) <;> omega
  clear hn hn2 hi3 hz3 hs3 hb3 hx hy hq hlo hto
  go_enter Try.func44, Try.ntmps44
  go_wp2_with fail
  generalize hw0 : (w.alloc _).alloc _ = w0
  have hbw : Below w.heap.size w w0 := by rw [← hw0]; (repeat (first | (with_reducible exact Below.refl _ _) | (with_reducible assumption) | (with_reducible refine Below.grow ?_ ?_ _ _) | (with_reducible refine Below.drewN' ?_ _) | (with_reducible refine Below.drew ?_) | (with_reducible refine Below.alloc ?_ ?_ _) | (with_reducible refine Below.setCell ?_ ?_ _) | omega | (focus (simp; done)) | (focus (simp; omega))))
  have hB1 : Blk w0 w.heap.size 38 #[.slice A n cap, .int .i64 c] := by rw [← hw0]; exact (Blk.new _ _ _).alloc _
  have hB2 : Blk w0 (w.heap.size + 1) 59 #[.slice A2 h cap2] := by rw [← hw0]; exact Blk.new_at (by simp)
  clear hw0
  have HBW := Lib.hid hbw
  have HB1 := Lib.hid hB1
  have HB2 := Lib.hid hB2
  obtain ⟨r0, r1, rf, rl⟩ := hB1.facts2
  have q0 := hB2.cell 0
  have ql := hB2.lt
  simp only [List.getElem?_toArray, List.getElem?_cons_zero] at q0
  clear hB1 hB2
  refine (sane10_c (.slice A n cap) c L _ (HX.out.below hbw) HLL.out).mono ?_
  rintro e w1 ⟨rfl, hg1⟩
  have hb := hg1.below
  clear hg1 r0 r1 rf rl q0 ql hbw
  have hB2 := HB2.out.below hb HB2.out.lt
  have q0 := hB2.cell 0
  have ql := hB2.lt
  simp only [List.getElem?_toArray, List.getElem?_cons_zero] at q0
  go_wp2_with fail
  refine (gsane9_c (.slice A2 h cap2) G _ (HY.out.below (HBW.out.trans (hb.mono HBW.out.size))) HLG.out).mono ?_
  rintro e w1b ⟨rfl, hg1⟩
  replace hb := hb.trans (hg1.below.mono hb.size)
  clear hg1 q0 ql hB2
  have HSZ := Lib.hid hb.size
  have HX1 := Lib.hid (HX.out.below (HBW.out.trans (hb.mono HBW.out.size)))
  have hB1 := HB1.out.below hb HB1.out.lt
  obtain ⟨r0, r1, rf, rl⟩ := hB1.facts2
  clear hB1
  have HSB := Lib.hid hb
  have hbe := hb.alloc hb.size (.cells #[] 24)
  have HBE := Lib.hid hbe
  have HSZE := Lib.hid hbe.size
  have HOE := Lib.hid (ownX_lits (E := encR) w1b w0.heap.size 24 w1b.heap.size 0 [] #[] rfl rfl (Nat.zero_le _) rfl hb.size)
  have HXE := Lib.hid (HX1.out.below ((Below.refl _ _).alloc (Nat.le_refl _) (.cells #[] 24)))
  clear hbe
  go_upto_region 6 with (first | (at_builtin; refine wpList_append_X encR rfl _ _ _ rfl w0.heap.size 24 48 i3 _ rfl HI3.out HZ3.out HS3.out HB3.out rfl _ _ [] L rfl rfl HOE.out HXE.out.1 (by unfold maxLen; simp only [List.length_nil]; rw [HN.out]; omega) (by simp only [List.length_nil]; rw [HN.out]; omega) HSZE.out ?_; intro v1 w2 hv hgb hor; rw [List.nil_append] at hv; have hb2 := below_ownx HBE.out hgb (fun g hg => (HOE.out.lt hg).1) HSZE.out; clear hgb hor r0 r1 rf rl; have HV := Lib.hid hv; have HSZ2 := Lib.hid hb2.size; have HSB2 := Lib.hid hb2; have HY2 := Lib.hid (HY.out.below (HBW.out.trans (hb2.mono HBW.out.size))); have hB2 := HB2.out.below hb2 HB2.out.lt; have q0 := hB2.cell 0; have ql := hB2.lt; simp only [List.getElem?_toArray, List.getElem?_cons_zero] at q0; clear hv hb2 hB2 HSB) | (at_builtin; refine wpList_append_X encR rfl _ _ _ rfl w0.heap.size 24 48 i3 _ rfl HI3.out HZ3.out HS3.out HB3.out rfl _ _ L G rfl rfl HV.out HY2.out.1 (by unfold maxLen; rw [HN.out, HN2.out]; omega) (by rw [HN.out, HN2.out]; omega) HSZ2.out ?_; intro v2 w3 hv hgb hor; have hb3 := below_ownx HSB2.out hgb (fun g hg => (HV.out.lt hg).1) HSZ2.out; clear hgb hor q0 ql; have HV2 := Lib.hid hv; have HSB3 := Lib.hid hb3; have hB1 := HB1.out.below hb3 HB1.out.lt; obtain ⟨r0, r1, rf, rl⟩ := hB1.facts2; obtain ⟨A5, c5, rfl, hc5⟩ := hv.rd.len; clear hv hb3 hB1 HV; rw [List.length_append, HN.out, HN2.out] at hc5 HV2 ⊢))
  have hlo := HLO.out
  have hto := HTO.out
  have hsub1 : (n : Int) + (h : Int) - (q : Int) = (tz : Int) := by omega
  have hsub2 : (tz : Int) - (h : Int) = (lo : Int) := by omega
  obtain ⟨A6, -, hrun, hcut⟩ := slice2 (E := encR) (P := Try.prog) 36 24 Try.underlying36 (by kernel_rfl) A5 (n + h) c5 lo tz (by omega) (by omega) hc5
  have HC := Lib.hid hcut
  clear hq0
  have hq0 := HB2.out.below HSB3.out HB2.out.lt
  have q0 := hq0.cell 0
  have ql := hq0.lt
  simp only [List.getElem?_toArray, List.getElem?_cons_zero] at q0
  have HT : Hid (tz - lo = h) := by show _ = _; omega
  have l1 : lo ≤ tz := by omega
  have l2 : (lo : Int) ≤ tz := by omega
  clear hcut hlo hto hq0
  go_wp2_with fail
  go_ret
  have hbf := HBW.out.trans (HSB3.out.mono HBW.out.size)
  refine ⟨_, rfl, hbf, ?_, fun r hr => ?_⟩
  · have h := HC.out _ _ HV2.out.rd
    rw [HT.out] at h ⊢
    rw [HWL.out, ← HLO.out]
    exact h
  · rw [HWL.out] at hr
    rcases List.mem_append.1 (List.mem_of_mem_drop (List.mem_of_mem_take hr)) with h | h
    · exact (HX.out.below hbf).2 r h
    · exact (HY.out.below hbf).2 r h
end Go.Proofs.Ytpnadnjcacaibaa.Row
