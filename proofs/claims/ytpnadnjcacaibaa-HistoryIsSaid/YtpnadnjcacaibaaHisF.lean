/- The document's Push. -/
import Derived.Test.YtpnadnjcacaibaaHisB
import Derived.Test.YtpnadnjcacaibaaLstO
namespace Go.Proofs.Ytpnadnjcacaibaa.Row
open Go.RowKit
attribute [local go_sem] Nat.add_pos_iff_pos_or_pos lt_add_r2 le_add_r2
theorem slice_tail {α : Type} {E : Enc α} {P : Program} (t e : TypeId) (hu : P.underlying t = some (.slice e)) (hsz : (P.info? e).map (·.size) = some E.size) (b o N c : Nat) (h2 : 1 ≤ N) (_ : N ≤ c) :
    ∃ A, (∀ w, (Instr.slice t (.slice (some ⟨b, o, none⟩) N c) (some (.int .i64 1)) none none).run P w = .ok (.slice A (N - 1) (c - 1)) w) ∧ A = if c = 1 then some ⟨b, o, none⟩ else some ⟨b, o + E.size, none⟩ := by
  refine ⟨_, fun w => ?_, rfl⟩
  obtain ⟨i, hi', hs⟩ := Option.map_eq_some_iff.1 hsz
  have l2 : (0 : Int) ≤ (1 : Int) ∧ (1 : Int) ≤ (N : Int) := by omega
  simp [Instr.slice, run_underlying hu, Instr.sliceBounds, Instr.sliceBound, asIntOf, l2, sizeOf, typeInfo, hi', hs, addr_add]
theorem push_zero {L : List Rw} {c : Nat} (h : L.length ≤ c) : pushL L c [] = L := by
  unfold pushL
  rw [List.filter_nil, List.append_nil, show L.length - c = 0 by omega, List.drop_zero]
theorem push_next (L : List Rw) (c : Nat) (M : List Rw) (j : Nat) (hj : j < M.length) : pushL L c (M.take (j + 1)) = if saneRw M[j] = true then (if c < (pushL L c (M.take j)).length + 1 then (pushL L c (M.take j) ++ [M[j]]).drop 1 else pushL L c (M.take j) ++ [M[j]]) else pushL L c (M.take j) := by
  have h := pushL_lots L c (M.take (j + 1)) j
  have h1 : (M.take (j + 1)).take j = M.take j := by rw [List.take_take]; congr 1; omega
  have h2 : (M.take (j + 1)).drop j = [M[j]] := by
    rw [List.take_succ_eq_append_getElem hj, List.drop_append_of_le_length (by rw [List.length_take]; omega), List.drop_of_length_le (by rw [List.length_take]; omega)]
    rfl
  rw [h1, h2] at h
  rw [← h]
  have hl := pushL_len L c (M.take j)
  generalize pushL L c (M.take j) = R at hl
  unfold pushL
  by_cases hs : saneRw M[j] = true
  · rw [if_pos hs, List.filter_cons, if_pos hs, List.filter_nil, List.length_append, List.length_singleton]
    by_cases hc : c < R.length + 1
    · rw [if_pos hc]
      congr 1
      omega
    · rw [if_neg hc, show R.length + 1 - c = 0 by omega, List.drop_zero]
  · rw [if_neg hs, List.filter_cons, if_neg hs, List.filter_nil, List.append_nil, show R.length - c = 0 by omega, List.drop_zero]
def Push10F (c : Int) (L M : List Rw) (w : World) (e : Ending) (w' : World) : Prop := ∃ v, e = .returned (.agg #[v, .int .i64 c]) ∧ Below w.heap.size w w' ∧ RdR w' v (pushL L c.toNat M)
set_option maxRecDepth 100000 in
set_option maxHeartbeats 4000000 in
theorem push10_yes (x y : Value) (c : Int) (L M : List Rw) (w : World) (hx : RdR w x L) (hy : RdR w y M) (hl : L.length ≤ 5000) (hm : M.length ≤ 5000) (hs : hsaneB L c = true) :
    Calls Try.prog 43 #[.agg #[x, .int .i64 c], y] w (Push10F c L M w) := by
  obtain ⟨A, cap, rfl, hc⟩ := hx.1.len
  obtain ⟨A2, cap2, rfl, hc2⟩ := hy.1.len
  obtain ⟨i3, hi3, hz3, hs3, hb3⟩ := row_parts
  have HI3 := Lib.hid hi3
  have HZ3 := Lib.hid hz3
  have HS3 := Lib.hid hs3
  have HB3 := Lib.hid hb3
  have HLL := Lib.hid hl
  have HX := Lib.hid hx
  have HY := Lib.hid hy
  have HS := Lib.hid hs
  obtain ⟨c0, c1, c2, -⟩ := hsane_iff.1 hs
  obtain ⟨cn, hcn⟩ : ∃ cn : Nat, cn = c.toNat := ⟨_, rfl⟩
  have hcI : c = (cn : Int) := by omega
  have HCN := Lib.hid hcn
  have HPZ := Lib.hid (push_zero (L := L) (c := cn) (by omega))
  have hlc : L.length ≤ cn := by omega
  generalize hn : L.length = n at hl hc hx HX hlc ⊢
  generalize hn2 : M.length = m at hm hc2 hy HY ⊢
  have HN := Lib.hid hn
  have HN2 := Lib.hid hn2
  have hcn2 : cn ≤ 200 := by omega
  clear hn hn2 hi3 hz3 hs3 hb3 hs hx hy hcn
  subst hcI
  clear c0 c1 c2
  go_enter Try.func43, Try.ntmps43
  go_upto_region 1 with fail
  generalize hw0 : (w.alloc _).alloc _ = w0
  have hbw : Below w.heap.size w w0 := by rw [← hw0]; (repeat (first | (with_reducible exact Below.refl _ _) | (with_reducible assumption) | (with_reducible refine Below.grow ?_ ?_ _ _) | (with_reducible refine Below.drewN' ?_ _) | (with_reducible refine Below.drew ?_) | (with_reducible refine Below.alloc ?_ ?_ _) | (with_reducible refine Below.setCell ?_ ?_ _) | omega | (focus (simp; done)) | (focus (simp; omega))))
  have hB1 : Blk w0 w.heap.size 38 #[.slice A n cap, .int .i64 cn] := by rw [← hw0]; exact (Blk.new _ _ _).alloc _
  have hB2 : Blk w0 (w.heap.size + 1) 38 #[.slice none 0 0, .int .i64 0] := by rw [← hw0]; exact Blk.new_at (by simp)
  clear hw0
  obtain ⟨r0, r1, rf, rl⟩ := hB1.facts2
  go_upto_region 3 with (go_at_call 46; refine (sane10_c (.slice A n cap) cn L _ (HX.out.below hbw) HLL.out).mono ?_; rw [HS.out]; rintro e w1 ⟨rfl, hg1⟩)
  have hb := hg1.below
  have hbe := hb.alloc hb.size (.cells #[] 24)
  have HBE := Lib.hid hbe
  have HSZE := Lib.hid hbe.size
  have HOE := Lib.hid (ownX_lits (E := encR) w1 w0.heap.size 24 w1.heap.size 0 [] #[] rfl rfl (Nat.zero_le _) rfl hb.size)
  have HXE := Lib.hid (HX.out.below (hbw.trans (hbe.mono hbw.size)))
  clear r0 r1 rf rl hg1
  obtain ⟨r0, r1, rf, rl⟩ := (hB1.below hb hB1.lt).facts2
  go_upto_region 5 with (at_builtin; refine wpList_append_X encR rfl _ _ _ rfl w0.heap.size 24 48 i3 _ rfl HI3.out HZ3.out HS3.out HB3.out rfl _ _ [] L rfl rfl HOE.out HXE.out.1 (by unfold maxLen; simp only [List.length_nil]; rw [HN.out]; omega) (by simp only [List.length_nil]; rw [HN.out]; omega) HSZE.out ?_; intro v1 w2 hv hgb hor; rw [List.nil_append] at hv)
  have hb2 := below_ownx HBE.out hgb (fun g hg => (HOE.out.lt hg).1) HSZE.out
  have hO : OwnO encR w2 w0.heap.size v1 L := ownO_of hv (Nat.le_refl _) (by
    rcases hor with h | h
    · rw [h]
      exact fun e => by have e' : (some w1.heap.size : Option Nat) = none := e; cases e'
    · rw [h]
      exact fun e => by cases e)
  clear hgb hor hv hb hbe r0 r1 rf rl
  have HBW := Lib.hid hbw
  have HB1 := Lib.hid hB1
  have HB2 := Lib.hid hB2
  clear hB1 hB2
  go_wp2_with fail
  go_loopw [5, 6] (fun v i wz => ∃ (j : Nat) (R : List Rw), j ≤ m ∧ i = .int .i64 j ∧ Below w0.heap.size w0 wz ∧ OwnO encR wz w0.heap.size v R ∧ Hid (R = pushL L cn (M.take j)) ∧ R.length ≤ cn) (fun _ i _ => m - (intOf i).toNat)
  case atStart => exact ⟨0, L, Nat.zero_le _, rfl, hb2, hO, HPZ.out.symm, by rw [HN.out]; exact hlc⟩
  case round =>
    obtain ⟨j, R, hj, rfl, hb, hO, HR, hRl⟩ := hrel
    have hbz := HBW.out.trans (hb.mono HBW.out.size)
    have hbs := hb.size
    have HBk := Lib.hid (HB1.out.below hb HB1.out.lt)
    by_cases hlt : j < m
    · have hjM : j < M.length := by rw [HN2.out]; exact hlt
      have hltI : (j : Int) < m := by omega
      obtain ⟨b, o, rfl, hbl, hat, hok⟩ := (HY.out.below hbz).at_ hjM
      have HNX := Lib.hid (push_next L cn M j hjM)
      rw [← HR.out] at HNX
      have hMj := List.getElem?_eq_getElem hjM
      generalize M[j] = r at hat hok HNX hMj
      have HRE := Lib.hid hMj
      obtain ⟨p0, p1, p2, p3⟩ := hat
      clear hMj
      have HOK := Lib.hid hok
      obtain ⟨r0, r1, rf, rl⟩ := HBk.out.facts2
      clear hok
      cases hsr : saneRw r
      · have HNX2 := HNX.out
        rw [hsr, if_neg (by decide)] at HNX2
        have HSR := Lib.hid hsr
        have HNX3 := Lib.hid HNX2
        obtain ⟨bo, oo, co, rfl, -⟩ := id hO
        have HOO := Lib.hid hO
        have hge : ¬ cn < R.length := by omega
        have hgeI : ¬ (cn : Int) < R.length := by omega
        clear HNX HNX2 hsr hO
        go_wp2_with (go_at_call 28; (with_reducible refine (saner8_c r _ (HOK.out.below (by (repeat (first | (with_reducible exact Below.refl _ _) | (with_reducible assumption) | (with_reducible refine Below.grow ?_ ?_ _ _) | (with_reducible refine Below.drewN' ?_ _) | (with_reducible refine Below.drew ?_) | (with_reducible refine Below.alloc ?_ ?_ _) | (with_reducible refine Below.setCell ?_ ?_ _) | omega | (focus (simp; done)) | (focus (simp; omega))))))).mono ?_); rw [HSR.out]; rintro e w2 ⟨rfl, X2, d2, rfl⟩)
        go_roundw
        case rel => exact ⟨j + 1, R, by omega, by go_num, by (repeat (first | (with_reducible exact Below.refl _ _) | (with_reducible assumption) | (with_reducible refine Below.grow ?_ ?_ _ _) | (with_reducible refine Below.drewN' ?_ _) | (with_reducible refine Below.drew ?_) | (with_reducible refine Below.alloc ?_ ?_ _) | (with_reducible refine Below.setCell ?_ ?_ _) | omega | (focus (simp; done)) | (focus (simp; omega)))), HOO.out.below (by (repeat (first | (with_reducible exact Below.refl _ _) | (with_reducible assumption) | (with_reducible refine Below.grow ?_ ?_ _ _) | (with_reducible refine Below.drewN' ?_ _) | (with_reducible refine Below.drew ?_) | (with_reducible refine Below.alloc ?_ ?_ _) | (with_reducible refine Below.setCell ?_ ?_ _) | omega | (focus (simp; done)) | (focus (simp; omega))))), HNX3.out.symm, hRl⟩
        case measure => simp [intOf]; omega
      · have HNX2 := HNX.out
        rw [hsr, if_pos rfl] at HNX2
        have HSR := Lib.hid hsr
        obtain ⟨R2, hR2⟩ : ∃ R2, R2 = R ++ [r] := ⟨_, rfl⟩
        rw [← hR2] at HNX2
        have hl2 : R2.length = R.length + 1 := by rw [hR2, List.length_append, List.length_singleton]
        have HLL2 := Lib.hid hl2
        have HR2 := Lib.hid hR2
        have HNX3 := Lib.hid HNX2
        have HOO := Lib.hid hO
        have HLA : Hid (R.length + 1 ≤ maxLen) := by show _ ≤ _; unfold maxLen; omega
        have HLB : Hid ((R.length + 1) * 48 ≤ 140737488355328) := by show _ ≤ _; omega
        clear HNX HNX2 hsr hO hR2 hl2
        go_upto_region 8 with (go_at_call 28; (with_reducible refine (saner8_c r _ (HOK.out.below (by (repeat (first | (with_reducible exact Below.refl _ _) | (with_reducible assumption) | (with_reducible refine Below.grow ?_ ?_ _ _) | (with_reducible refine Below.drewN' ?_ _) | (with_reducible refine Below.drew ?_) | (with_reducible refine Below.alloc ?_ ?_ _) | (with_reducible refine Below.setCell ?_ ?_ _) | omega | (focus (simp; done)) | (focus (simp; omega))))))).mono ?_); rw [HSR.out]; rintro e w2 ⟨rfl, X2, d2, rfl⟩)
        have hb5 : Below w0.heap.size w0 (wr.grow X2 d2) := by (repeat (first | (with_reducible exact Below.refl _ _) | (with_reducible assumption) | (with_reducible refine Below.grow ?_ ?_ _ _) | (with_reducible refine Below.drewN' ?_ _) | (with_reducible refine Below.drew ?_) | (with_reducible refine Below.alloc ?_ ?_ _) | (with_reducible refine Below.setCell ?_ ?_ _) | omega | (focus (simp; done)) | (focus (simp; omega))))
        have hb6 : Below w.heap.size w (wr.grow X2 d2) := HBW.out.trans (hb5.mono HBW.out.size)
        have HO5 := Lib.hid (HOO.out.below (w' := wr.grow X2 d2) (by (repeat (first | (with_reducible exact Below.refl _ _) | (with_reducible assumption) | (with_reducible refine Below.grow ?_ ?_ _ _) | (with_reducible refine Below.drewN' ?_ _) | (with_reducible refine Below.drew ?_) | (with_reducible refine Below.alloc ?_ ?_ _) | (with_reducible refine Below.setCell ?_ ?_ _) | omega | (focus (simp; done)) | (focus (simp; omega))))))
        have hs5 := hb5.size
        have HLC : Hid (∀ o, w0.heap.size ≤ ((wr.grow X2 d2).alloc o).heap.size) := fun o => by rw [World.size_alloc]; omega
        have HBA : Hid (∀ o, Below w0.heap.size w0 ((wr.grow X2 d2).alloc o)) := fun o => hb5.alloc hb5.size o
        have HOA : Hid (∀ o, OwnO encR ((wr.grow X2 d2).alloc o) w0.heap.size u5 R) := fun o => HO5.out.below ((Below.refl _ _).alloc (Nat.le_refl _) o)
        go_upto_region 9 with (at_builtin; refine wpList_append_O encR rfl _ _ _ rfl w0.heap.size 24 48 i3 _ rfl HI3.out HZ3.out HS3.out HB3.out rfl _ _ R r rfl rfl (HOA.out _) (rdX_one (E := encR) _ _ r _ _ rfl (by simp)) HLA.out HLB.out (HLC.out _) ?_; intro v1 w3 hv1 hg1 hs1)
        rw [← HR2.out] at hv1
        have hb3 := (HBA.out _).trans hg1
        obtain ⟨b3, o3, c3, rfl, hc3, -⟩ := id hv1
        clear r0 r1 rf rl p0 p1 p2 p3 hg1
        obtain ⟨r0, r1, rf, rl⟩ := (HB1.out.below hb3 HB1.out.lt).facts2
        have HV1 := Lib.hid hv1
        clear hv1
        by_cases hcc : cn < R2.length
        · have hccI : (cn : Int) < R2.length := by omega
          obtain ⟨A3, hrun, hA3⟩ := slice_tail (E := encR) (P := Try.prog) 36 24 Try.underlying36 (by kernel_rfl) b3 o3 R2.length c3 (by omega) hc3
          obtain ⟨x0, T, hT⟩ : ∃ x0 T, R2 = x0 :: T := by
            cases R2 with
            | nil => exact absurd hcc (by simp)
            | cons a l => exact ⟨a, l, rfl⟩
          have HT := Lib.hid hT
          have HA3 := Lib.hid hA3
          have hTl : T.length ≤ cn := by have := HLL2.out; rw [hT, List.length_cons] at this; omega
          have h1n : 1 ≤ R2.length := by omega
          have h1I : (1 : Int) ≤ R2.length := by omega
          clear hT hA3
          go_wp2_with fail
          go_roundw
          case rel => exact ⟨j + 1, T, by omega, by go_num, hb3, (by have h := HV1.out; rw [HT.out] at h; have h2 := OwnO.tail h A3 HA3.out; first | exact h2 | (rw [HT.out]; exact h2)), (by have h := HNX3.out; rw [if_pos (by have := HLL2.out; omega), HT.out] at h; exact h.symm), hTl⟩
          case measure => simp [intOf]; omega
        · have hccI : ¬ (cn : Int) < R2.length := by omega
          go_wp2_with fail
          go_roundw
          case rel => exact ⟨j + 1, R2, by omega, by go_num, hb3, HV1.out, (by have h := HNX3.out; rw [if_neg (by have := HLL2.out; omega)] at h; exact h.symm), by omega⟩
          case measure => simp [intOf]; omega
    · obtain rfl : j = m := by omega
      obtain ⟨bo, oo, co, rfl, -⟩ := id hO
      obtain ⟨r0, r1, rf, rl⟩ := HBk.out.facts2
      obtain ⟨z0, z1, zf, zl⟩ := (HB2.out.below hb HB2.out.lt).facts2
      have hR := HR.out
      rw [← HN2.out, List.take_length, HCN.out] at hR
      have HRF := Lib.hid hR
      have HO := Lib.hid hO
      clear hR hO HR
      go_wp2_with fail
      refine bodyPost_ret (v := .agg #[.slice (some ⟨bo, oo, none⟩) R.length co, .int .i64 cn]) (by simp [results, Try.results43, go_sem, *]) rfl ?_
      have hbf := Below.setCell (Below.setCell hbz (p := ⟨w.heap.size + 1, 0, none⟩) (Nat.le_succ _) (.slice (some ⟨bo, oo, none⟩) R.length co)) (p := ⟨w.heap.size + 1, 1, none⟩) (Nat.le_succ _) (.int .i64 cn)
      have hne : ∀ b o n c, (Value.slice (some ⟨bo, oo, none⟩) R.length co) = .slice (some ⟨b, o, none⟩) n c → b ≠ w.heap.size + 1 := fun b o n c e => by
        injection e with e _ _
        injection e with e
        injection e with e _
        obtain ⟨b', o', c', e', _, h1, _⟩ := HO.out
        injection e' with e1 _ _
        injection e1 with e1
        injection e1 with e1 _
        have := HB2.out.lt
        omega
      exact ⟨_, rfl, hbf, by rw [← HRF.out]; exact (HO.out.rd.setNe hne).setNe hne, fun r hr => by
        rcases pushL_mem hr with h | h
        · exact (HX.out.below hbf).2 r h
        · exact (HY.out.below hbf).2 r h.1⟩
end Go.Proofs.Ytpnadnjcacaibaa.Row
