/- Walks of history.At, lapwinglaw10.line, awake. -/
import Derived.Test.YtpnadnjcacaibaaHistC
namespace Go.Proofs.Ytpnadnjcacaibaa.Row
open Go.RowKit
theorem lt_add_r2 (a b x : Nat) (h : a < b) : (a < b + x) = True := by simp; omega
theorem le_add_r2 (a b x : Nat) (h : a ≤ b) : (a ≤ b + x) = True := by simp; omega
attribute [local go_sem] Nat.add_pos_iff_pos_or_pos lt_add_r2 le_add_r2
set_option maxRecDepth 100000 in
set_option maxHeartbeats 2000000 in
theorem at_yes (x : Value) (c : Int) (L : List Rw) (k : Nat) (r : Rw) (w : World) (hx : RdR w x L) (hl : L.length ≤ 5000) (hs : hsaneB L c = true) (hk : k < L.length) (hr : L[L.length - 1 - k]? = some r) :
    Calls Try.prog 36 #[.agg #[x, .int .i64 c], .int .i64 k] w fun e w' => e = .returned (.tuple #[.agg #[.slice r.A r.n r.cap, .bool r.wb, .int .i64 r.dir, .bool r.ex], .bool true]) ∧ Grew w w' := by
  obtain ⟨A, cap, rfl, hc⟩ := hx.1.len
  have HLL := Lib.hid hl
  have HX := Lib.hid hx
  have hil : L.length - 1 - k < L.length := by omega
  have HR : Hid (∀ h, L[L.length - 1 - k]'h = r) := fun h => Option.some.inj ((List.getElem?_eq_getElem h).symm.trans hr)
  have HIL := Lib.hid hil
  clear hr hx hil
  generalize hn : L.length = n at hl hc hk HX ⊢
  have h1 : ¬ n ≤ k := by omega
  have HN := Lib.hid hn
  clear hn
  go_enter Try.func36, Try.ntmps36
  go_wp2_with fail
  generalize hw0 : (w.alloc _).alloc _ = w0
  have hbw : Below w.heap.size w w0 := by rw [← hw0]; (repeat (first | (with_reducible exact Below.refl _ _) | (with_reducible assumption) | (with_reducible refine Below.grow ?_ ?_ _ _) | (with_reducible refine Below.drewN' ?_ _) | (with_reducible refine Below.drew ?_) | (with_reducible refine Below.alloc ?_ ?_ _) | (with_reducible refine Below.setCell ?_ ?_ _) | omega | (focus (simp; done)) | (focus (simp; omega))))
  have hB1 : Blk w0 w.heap.size 41 #[.slice A n cap, .int .i64 c] := by rw [← hw0]; exact (Blk.new _ _ _).alloc _
  have hB2 : Blk w0 (w.heap.size + 1) 24 #[.slice none 0 0, .bool false, .int .i64 0, .bool false] := by rw [← hw0]; exact Blk.new_at (by simp)
  clear hw0
  refine (hsane_c (.slice A n cap) c L _ (HX.out.below hbw) HLL.out).mono ?_
  rintro e w1 ⟨rfl, hg⟩
  replace hg := hg.below
  replace hbw := hbw.trans (hg.mono hbw.size)
  have hB1' := hB1.below hg hB1.lt
  have hB2' := hB2.below hg hB2.lt
  obtain ⟨r0, r1, rf, rl⟩ := hB1'.facts2; obtain ⟨z0, z1, z2, z3, zf, zl⟩ := hB2'.facts4
  clear hB1 hB2 hB1' hB2' hg
  obtain ⟨b, o, rfl, hb, hat, hok⟩ := (HX.out.below hbw).at_ HIL.out
  rw [HR.out _, HN.out] at hat
  obtain ⟨p0, p1, p2, p3⟩ := hat
  clear hok
  go_wp2_with fail
  (refine bodyPost_ret (v := _) (by simp [results, Try.results36, go_sem, *]; try exact rfl) rfl ⟨?_, (Below.toGrow (by repeat (first | (with_reducible exact Below.refl _ _) | (with_reducible assumption) | (with_reducible refine Below.grow ?_ ?_ _ _) | (with_reducible refine Below.drewN' ?_ _) | (with_reducible refine Below.drew ?_) | (with_reducible refine Below.alloc ?_ ?_ _) | (with_reducible refine Below.setCell ?_ ?_ _) | omega | (focus (simp; done)) | (focus (simp; omega)))))⟩; exact rfl)
set_option maxRecDepth 100000 in
set_option maxHeartbeats 2000000 in
theorem at_no (x : Value) (c k : Int) (L : List Rw) (w : World) (hx : RdR w x L) (hl : L.length ≤ 5000) (h : ¬ (hsaneB L c = true ∧ 0 ≤ k ∧ k < L.length)) :
    Calls Try.prog 36 #[.agg #[x, .int .i64 c], .int .i64 k] w fun e w' => e = .returned (.tuple #[.agg #[.slice none 0 0, .bool false, .int .i64 0, .bool false], .bool false]) ∧ Grew w w' := by
  obtain ⟨A, cap, rfl, hc⟩ := hx.1.len
  have HLL := Lib.hid hl
  cases hs : hsaneB L c
  · clear h
    generalize hn : L.length = n at hl hc hx ⊢
    clear hn
    go_enter Try.func36, Try.ntmps36
    go_wp2_with (first | (go_at_call 21; refine (hsane_c (.slice A n cap) c L _ (hx.below (by (repeat (first | (with_reducible exact Below.refl _ _) | (with_reducible assumption) | (with_reducible refine Below.grow ?_ ?_ _ _) | (with_reducible refine Below.drewN' ?_ _) | (with_reducible refine Below.drew ?_) | (with_reducible refine Below.alloc ?_ ?_ _) | (with_reducible refine Below.setCell ?_ ?_ _) | omega | (focus (simp; done)) | (focus (simp; omega)))))) HLL.out).mono ?_; rintro e w1 ⟨rfl, X1, d1, rfl⟩))
    (refine bodyPost_ret (v := _) (by (simp [results, Try.results36, go_sem]; exact rfl)) rfl ⟨?_, (Below.toGrow (by repeat (first | (with_reducible exact Below.refl _ _) | (with_reducible assumption) | (with_reducible refine Below.grow ?_ ?_ _ _) | (with_reducible refine Below.drewN' ?_ _) | (with_reducible refine Below.drew ?_) | (with_reducible refine Below.alloc ?_ ?_ _) | (with_reducible refine Below.setCell ?_ ?_ _) | omega | (focus (simp; done)) | (focus (simp; omega)))))⟩; exact rfl)
  · have h1 : k < 0 ∨ (L.length : Int) ≤ k := by
      by_cases h0 : 0 ≤ k
      · right
        have : ¬ k < L.length := fun h2 => h ⟨hs, h0, h2⟩
        omega
      · left; omega
    clear h
    generalize hn : L.length = n at hl hc hx h1 ⊢
    clear hn
    by_cases h0 : k < 0
    · clear h1
      go_enter Try.func36, Try.ntmps36
      go_wp2_with (first | (go_at_call 21; refine (hsane_c (.slice A n cap) c L _ (hx.below (by (repeat (first | (with_reducible exact Below.refl _ _) | (with_reducible assumption) | (with_reducible refine Below.grow ?_ ?_ _ _) | (with_reducible refine Below.drewN' ?_ _) | (with_reducible refine Below.drew ?_) | (with_reducible refine Below.alloc ?_ ?_ _) | (with_reducible refine Below.setCell ?_ ?_ _) | omega | (focus (simp; done)) | (focus (simp; omega)))))) HLL.out).mono ?_; rintro e w1 ⟨rfl, X1, d1, rfl⟩))
      (refine bodyPost_ret (v := _) (by (simp [results, Try.results36, go_sem]; exact rfl)) rfl ⟨?_, (Below.toGrow (by repeat (first | (with_reducible exact Below.refl _ _) | (with_reducible assumption) | (with_reducible refine Below.grow ?_ ?_ _ _) | (with_reducible refine Below.drewN' ?_ _) | (with_reducible refine Below.drew ?_) | (with_reducible refine Below.alloc ?_ ?_ _) | (with_reducible refine Below.setCell ?_ ?_ _) | omega | (focus (simp; done)) | (focus (simp; omega)))))⟩; exact rfl)
    · have h2 : (n : Int) ≤ k := h1.resolve_left h0
      clear h1
      go_enter Try.func36, Try.ntmps36
      go_wp2_with (first | (go_at_call 21; refine (hsane_c (.slice A n cap) c L _ (hx.below (by (repeat (first | (with_reducible exact Below.refl _ _) | (with_reducible assumption) | (with_reducible refine Below.grow ?_ ?_ _ _) | (with_reducible refine Below.drewN' ?_ _) | (with_reducible refine Below.drew ?_) | (with_reducible refine Below.alloc ?_ ?_ _) | (with_reducible refine Below.setCell ?_ ?_ _) | omega | (focus (simp; done)) | (focus (simp; omega)))))) HLL.out).mono ?_; rintro e w1 ⟨rfl, X1, d1, rfl⟩))
      (refine bodyPost_ret (v := _) (by (simp [results, Try.results36, go_sem]; exact rfl)) rfl ⟨?_, (Below.toGrow (by repeat (first | (with_reducible exact Below.refl _ _) | (with_reducible assumption) | (with_reducible refine Below.grow ?_ ?_ _ _) | (with_reducible refine Below.drewN' ?_ _) | (with_reducible refine Below.drew ?_) | (with_reducible refine Below.alloc ?_ ?_ _) | (with_reducible refine Below.setCell ?_ ?_ _) | omega | (focus (simp; done)) | (focus (simp; omega)))))⟩; exact rfl)

def lineCl (x : Int) : Nat → Cl := fun _ => ⟨x, 0, 0, 1, 0, 0, 0⟩
set_option maxRecDepth 100000 in
set_option maxHeartbeats 2000000 in
theorem line_c (x : Int) (w : World) : Calls Try.prog 60 #[.int .i64 x] w fun e w' => ∃ b, e = .returned (.agg #[.slice (some ⟨b, 0, none⟩) 1 1, .bool false, .int .i64 0, .bool false]) ∧ Below w.heap.size w w' ∧ Rd w' (some ⟨b, 0, none⟩) 1 (lineCl x) := by
  go_enter Try.func60, Try.ntmps60
  go_wp2
  refine bodyPost_ret (v := _) (by simp [results, Try.results60, go_sem]) rfl ⟨w.heap.size + 1, rfl, by (repeat (first | (with_reducible exact Below.refl _ _) | (with_reducible assumption) | (with_reducible refine Below.grow ?_ ?_ _ _) | (with_reducible refine Below.drewN' ?_ _) | (with_reducible refine Below.drew ?_) | (with_reducible refine Below.alloc ?_ ?_ _) | (with_reducible refine Below.setCell ?_ ?_ _) | omega | (focus (simp; done)) | (focus (simp; omega)))), fun _ => ⟨w.heap.size + 1, 0, rfl, by simp, fun i hi => ?_⟩⟩
  obtain rfl : i = 0 := by omega
  refine ⟨?_, ?_, ?_, ?_, ?_, ?_, ?_⟩ <;> simp [go_sem, lineCl]

def lineRw (A : Option Addr) (x : Int) : Rw := ⟨A, 1, 1, lineCl x, false, 0, false⟩
theorem line_sane (A : Option Addr) (x : Int) (h0 : 1 ≤ x) (h1 : x ≤ 1114111) : saneRw (lineRw A x) = true := by
  show saneB 1 (lineCl x) 0 = true
  rw [sane_iff]
  refine ⟨by omega, by omega, by omega, by omega, fun i hi => ?_⟩
  obtain rfl : i = 0 := by omega
  rw [fits_iff, lost_not]
  simp [lineCl]
  refine ⟨by omega, by omega, ?_⟩
  decide
theorem pushL_sane {c : Nat} {M : List Rw} (h : ∀ r ∈ M, saneRw r = true) (L : List Rw) : pushL L c M = (L ++ M).drop ((L ++ M).length - c) := by
  unfold pushL
  rw [List.filter_eq_self.2 h]
set_option maxRecDepth 100000 in
set_option maxHeartbeats 2000000 in
theorem awake10_c (w : World) : Calls Try.prog 19 #[] w fun e w' => e = .returned (.bool true) ∧ Grew w w' := by
  go_enter Try.func19, Try.ntmps19
  go_wp2_with fail
  refine (hnew_c 2 _).mono ?_
  rintro e w1 ⟨rfl, hg⟩
  have hb1 := hg.below
  clear hg
  rw [show max 0 (min (2 : Int) 200) = 2 by omega]
  go_wp2_with fail
  refine (line_c 65 _).mono ?_
  rintro e w2 ⟨b1, rfl, hg, hr1⟩
  have hb2 := hb1.trans (hg.mono hb1.size)
  clear hb1 hg
  go_wp2_with fail
  refine (line_c 66 _).mono ?_
  rintro e w3 ⟨b2, rfl, hg, hr2⟩
  have hb3 := hb2.trans (hg.mono hb2.size)
  replace hr1 := hr1.below hg
  clear hb2 hg
  go_wp2_with fail
  refine (line_c 67 _).mono ?_
  rintro e w4 ⟨b3, rfl, hg, hr3⟩
  have hb4 := hb3.trans (hg.mono hb3.size)
  replace hr1 := hr1.below hg
  replace hr2 := hr2.below hg
  clear hb3 hg
  go_wp2_with fail
  generalize hw5 : w4.alloc _ = w5
  have hg : Below w4.heap.size w4 w5 := by rw [← hw5]; (repeat (first | (with_reducible exact Below.refl _ _) | (with_reducible assumption) | (with_reducible refine Below.grow ?_ ?_ _ _) | (with_reducible refine Below.drewN' ?_ _) | (with_reducible refine Below.drew ?_) | (with_reducible refine Below.alloc ?_ ?_ _) | (with_reducible refine Below.setCell ?_ ?_ _) | omega | (focus (simp; done)) | (focus (simp; omega))))
  have hx : RdX encR w5 (.slice (some ⟨w4.heap.size, 0, none⟩) 3 3) [lineRw (some ⟨b1, 0, none⟩) 65, lineRw (some ⟨b2, 0, none⟩) 66, lineRw (some ⟨b3, 0, none⟩) 67] := by
    rw [← hw5]
    exact (ownX_lits (E := encR) w4 0 _ _ 3 [lineRw (some ⟨b1, 0, none⟩) 65, lineRw (some ⟨b2, 0, none⟩) 66, lineRw (some ⟨b3, 0, none⟩) 67] _ rfl rfl (by decide) rfl (Nat.zero_le _)).rd
  clear hw5
  have hrd : RdR w5 (.slice (some ⟨w4.heap.size, 0, none⟩) 3 3) [lineRw (some ⟨b1, 0, none⟩) 65, lineRw (some ⟨b2, 0, none⟩) 66, lineRw (some ⟨b3, 0, none⟩) 67] :=
    ⟨hx, fun r hr => by
      simp only [List.mem_cons, List.not_mem_nil, or_false] at hr
      rcases hr with rfl | rfl | rfl
      · exact ⟨hr1.below hg, Nat.le_refl _, show (1 : Nat) ≤ 5000 by decide⟩
      · exact ⟨hr2.below hg, Nat.le_refl _, show (1 : Nat) ≤ 5000 by decide⟩
      · exact ⟨hr3.below hg, Nat.le_refl _, show (1 : Nat) ≤ 5000 by decide⟩⟩
  have hb5 := hb4.trans (hg.mono hb4.size)
  have hs1 := line_sane (some ⟨b1, 0, none⟩) 65 (by decide) (by decide)
  have hs2 := line_sane (some ⟨b2, 0, none⟩) 66 (by decide) (by decide)
  have hs3 := line_sane (some ⟨b3, 0, none⟩) 67 (by decide) (by decide)
  have hal : ∀ r ∈ [lineRw (some ⟨b1, 0, none⟩) 65, lineRw (some ⟨b2, 0, none⟩) 66, lineRw (some ⟨b3, 0, none⟩) 67], saneRw r = true := fun r hr => by
    simp only [List.mem_cons, List.not_mem_nil, or_false] at hr
    rcases hr with rfl | rfl | rfl
    · exact hs1
    · exact hs2
    · exact hs3
  have HPL : Hid (pushL [] (Int.toNat 2) [lineRw (some ⟨b1, 0, none⟩) 65, lineRw (some ⟨b2, 0, none⟩) 66, lineRw (some ⟨b3, 0, none⟩) 67] = [lineRw (some ⟨b2, 0, none⟩) 66, lineRw (some ⟨b3, 0, none⟩) 67]) := by
    show _ = _
    rw [pushL_sane hal]
    rfl
  clear hal hx hr1 hr2 hr3 hb4 hg
  refine (push_c (.slice none 0 0) (.slice (some ⟨w4.heap.size, 0, none⟩) 3 3) 2 [] _ _ (RdR.nil _ _ _) hrd (by decide) (by simp) (hsane_iff.2 ⟨by decide, by decide, by decide, fun r hr => by cases hr⟩)).mono ?_
  rintro e w6 ⟨v, rfl, hg, hv, -⟩
  rw [HPL.out] at hv
  have hb6 := hb5.trans (hg.mono hb5.size)
  clear HPL hrd hb5 hg
  obtain ⟨A, c, rfl, hc⟩ := hv.1.len
  have HSN : Hid (hsaneB [lineRw (some ⟨b2, 0, none⟩) 66, lineRw (some ⟨b3, 0, none⟩) 67] 2 = true) := hsane_iff.2 ⟨by decide, by decide, by simp, fun r hr => by
    simp only [List.mem_cons, List.not_mem_nil, or_false] at hr
    rcases hr with rfl | rfl
    · exact hs2
    · exact hs3⟩
  have HCE : Hid (cellsL [lineRw (some ⟨b2, 0, none⟩) 66, lineRw (some ⟨b3, 0, none⟩) 67] = 2) := rfl
  clear hs1 hs2 hs3
  go_wp2_with fail
  generalize hw7 : w6.alloc _ = w7
  have hg : Below w6.heap.size w6 w7 := by rw [← hw7]; (repeat (first | (with_reducible exact Below.refl _ _) | (with_reducible assumption) | (with_reducible refine Below.grow ?_ ?_ _ _) | (with_reducible refine Below.drewN' ?_ _) | (with_reducible refine Below.drew ?_) | (with_reducible refine Below.alloc ?_ ?_ _) | (with_reducible refine Below.setCell ?_ ?_ _) | omega | (focus (simp; done)) | (focus (simp; omega))))
  have hB1 : Blk w7 w6.heap.size 41 #[.slice A 2 c, .int .i64 2] := by rw [← hw7]; exact Blk.new _ _ _
  clear hw7
  replace hv := hv.below hg
  have hbw := hb6.trans (hg.mono hb6.size)
  have hL : [lineRw (some ⟨b2, 0, none⟩) 66, lineRw (some ⟨b3, 0, none⟩) 67].length = 2 := rfl
  have HMEM : Hid (lineRw (some ⟨b2, 0, none⟩) 66 ∈ [lineRw (some ⟨b2, 0, none⟩) 66, lineRw (some ⟨b3, 0, none⟩) 67]) := List.mem_cons_self
  have HRB : Hid ([lineRw (some ⟨b2, 0, none⟩) 66, lineRw (some ⟨b3, 0, none⟩) 67][2 - 1 - 1]? = some (lineRw (some ⟨b2, 0, none⟩) 66)) := rfl
  generalize [lineRw (some ⟨b2, 0, none⟩) 66, lineRw (some ⟨b3, 0, none⟩) 67] = M at *
  have HLE : Hid (M.length ≤ 5000) := by show _ ≤ _; omega
  rw [hL] at hv
  refine (at_yes (.slice A 2 c) 2 M 1 _ _ hv HLE.out HSN.out (by omega) (by rw [hL]; exact HRB.out)).mono ?_
  rintro e w8 ⟨rfl, hg⟩
  replace hg := hg.below
  replace hv := hv.below hg
  have hokr := hv.2 _ HMEM.out
  simp only [lineRw]
  obtain ⟨bq, oq, eq1, hbq, hcq⟩ := hokr.1 (show (0 : Nat) < 1 by decide)
  obtain ⟨k0, -, -, -, -, -, -⟩ := hcq 0 (show (0 : Nat) < 1 by decide)
  injection eq1 with eq1
  injection eq1 with eq1 eq2
  subst eq1 eq2
  replace hB1 := hB1.below hg hB1.lt
  replace hbw := hbw.trans (hg.mono hbw.size)
  have hbq' : Below w8.heap.size w8 (w8.alloc (.cells #[.slice (some ⟨b2, 0, none⟩) 1 1, .bool false, .int .i64 0, .bool false] 24)) := by (repeat (first | (with_reducible exact Below.refl _ _) | (with_reducible assumption) | (with_reducible refine Below.grow ?_ ?_ _ _) | (with_reducible refine Below.drewN' ?_ _) | (with_reducible refine Below.drew ?_) | (with_reducible refine Below.alloc ?_ ?_ _) | (with_reducible refine Below.setCell ?_ ?_ _) | omega | (focus (simp; done)) | (focus (simp; omega))))
  clear hg hokr hcq HRB HMEM
  obtain ⟨r0, r1, rf, rl⟩ := hB1.facts2
  have HBX := Lib.hid hB1
  clear hB1
  have k0' : w8.cell? ⟨b2, 0, none⟩ = some (.int .i64 66) := k0
  clear k0
  go_wp2_with fail
  generalize hw9 : w8.alloc _ = w9
  have hg : Below w8.heap.size w8 w9 := by rw [← hw9]; (repeat (first | (with_reducible exact Below.refl _ _) | (with_reducible assumption) | (with_reducible refine Below.grow ?_ ?_ _ _) | (with_reducible refine Below.drewN' ?_ _) | (with_reducible refine Below.drew ?_) | (with_reducible refine Below.alloc ?_ ?_ _) | (with_reducible refine Below.setCell ?_ ?_ _) | omega | (focus (simp; done)) | (focus (simp; omega))))
  have hB1 := HBX.out.below hg HBX.out.lt
  clear hw9
  replace hv := hv.below hg
  replace hbw := hbw.trans (hg.mono hbw.size)
  refine (hsane_c (.slice A 2 c) 2 M _ hv HLE.out).mono ?_
  rintro e w10 ⟨rfl, hg⟩
  replace hg := hg.below
  replace hv := hv.below hg
  have hbw1 := hbw.trans (hg.mono hbw.size)
  have hsn := HSN.out
  have hB1' := hB1.below hg hB1.lt
  clear r0 r1 rf rl
  obtain ⟨r0, r1, rf, rl⟩ := hB1'.facts2
  go_wp2_with fail
  refine (hcells_c (.slice A 2 c) 2 M _ hv HLE.out HSN.out).mono ?_
  rintro e w11 ⟨rfl, hg⟩
  rw [HCE.out]
  go_wp2_with fail
  go_ret
  exact ⟨rfl, Below.toGrow (hbw1.trans (hg.below.mono hbw1.size))⟩
end Go.Proofs.Ytpnadnjcacaibaa.Row
