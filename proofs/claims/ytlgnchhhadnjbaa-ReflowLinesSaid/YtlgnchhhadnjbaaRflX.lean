/- lapwinglaw11.text and awake. -/
import Derived.Test.YtlgnchhhadnjbaaRflR
namespace Go.Proofs.Ytlgnchhhadnjbaa.Row
open Go.RowKit
def fT (k : Nat) : Cl := ⟨97 + k, 0, 0, 1, 0, 0, 0⟩
theorem idxT (k : Nat) (hk : k < 10) (w : World) : (Instr.index 9 (.string { data := #[97, 98, 99, 100, 101, 102, 103, 104, 105, 106] }) (.int .i64 (k : Int))).run Try.prog w = .ok (.int .u8 (97 + (k : Int))) w := by
  match k, hk with
  | 0, _ => rfl
  | 1, _ => rfl
  | 2, _ => rfl
  | 3, _ => rfl
  | 4, _ => rfl
  | 5, _ => rfl
  | 6, _ => rfl
  | 7, _ => rfl
  | 8, _ => rfl
  | 9, _ => rfl
def TextF (w : World) (e : Ending) (w' : World) : Prop := ∃ A c, e = .returned (.agg #[.slice A 10 c, .bool false, .int .i64 0, .bool false]) ∧ Below w.heap.size w w' ∧ RdX encC w' (.slice A 10 c) (listF 10 fT)
theorem listF_succ (n : Nat) (f : Nat → Cl) : listF (n + 1) f = listF n f ++ [f n] := by unfold listF; rw [List.range_succ, List.map_append]; rfl
set_option maxRecDepth 100000 in
set_option maxHeartbeats 4000000 in
theorem text_c (w : World) : Calls Try.prog 30 #[(.string { data := #[97, 98, 99, 100, 101, 102, 103, 104, 105, 106] })] w (TextF w) := by
  obtain ⟨i3, hi3, hz3, hs3, hb3⟩ := cell_parts
  have HI3 := Lib.hid hi3
  have HZ3 := Lib.hid hz3
  have HS3 := Lib.hid hs3
  have HB3 := Lib.hid hb3
  clear hi3 hz3 hs3 hb3
  go_enter Try.func30, Try.ntmps30
  go_wp2_with fail
  generalize hw0 : (w.alloc _).alloc _ = w0
  have hbw : Below w.heap.size w w0 := by rw [← hw0]; (repeat (first | (with_reducible exact Below.refl _ _) | (with_reducible assumption) | (with_reducible refine Below.grow ?_ ?_ _ _) | (with_reducible refine Below.drewN' ?_ _) | (with_reducible refine Below.drew ?_) | (with_reducible refine Below.alloc ?_ ?_ _) | (with_reducible refine Below.setCell ?_ ?_ _) | omega | (focus (simp; done)) | (focus (simp; omega))))
  have hB2 : Blk w0 w.heap.size 48 #[.slice none 0 0, .bool false, .int .i64 0, .bool false] := by rw [← hw0]; exact (Blk.new _ _ _).alloc _
  obtain ⟨g3, hg3⟩ : ∃ g3, w.heap.size + 1 = g3 := ⟨_, rfl⟩
  have hB3 : Blk w0 g3 48 #[.slice none 0 0, .bool false, .int .i64 0, .bool false] := by rw [← hw0]; exact Blk.new_at (by rw [← hg3]; simp)
  rw [hg3]
  have HG3 : Hid (w.heap.size ≤ g3) := by show _ ≤ _; omega
  have HGW : Hid (g3 < w0.heap.size) := hB3.lt
  have HW0 : Hid (w.heap.size ≤ w0.heap.size) := hbw.size
  have hne : g3 ≠ w.heap.size := by omega
  have HB2 := Lib.hid hB2
  have HBW0 := Lib.hid hbw
  clear hw0 hg3
  go_loopw [4] (fun i wz => ∃ (k : Nat) (sv : Value), k ≤ 10 ∧ i = .int .i64 k ∧ Hid (OwnX encC wz w0.heap.size 59 sv (listF k fT)) ∧ Hid (Blk wz g3 48 #[sv, .bool false, .int .i64 0, .bool false]) ∧ Below w.heap.size w wz ∧ w0.heap.size ≤ wz.heap.size ∧ Hid (Blk wz w.heap.size 48 #[.slice none 0 0, .bool false, .int .i64 0, .bool false])) (fun i _ => 10 - (intOf i).toNat)
  case atStart => exact ⟨0, .slice none 0 0, by omega, rfl, OwnX.nil _ _ _, hB3, hbw, Nat.le_refl _, hB2⟩
  case round =>
    obtain ⟨k, sv, hk, rfl, HV, HB3z, hbz, hsz, HB2z⟩ := hrel
    have hbzs := hbz.size
    obtain ⟨y0, y1, y2, y3, yf, yl⟩ := HB3z.out.facts4
    by_cases hlt : k < 10
    · have hltI : (k : Int) < 10 := by omega
      have hix := idxT k hlt
      have hcv : IntKind.i64.wrap (97 + (k : Int)) = 97 + (k : Int) := by rw [IntWalk.i64_left]; exact IntWalk.wrap64_in _ (by omega)
      have HNE : Hid (some g3 ≠ sv.ownBlock) := HV.out.ne_ HB3z.out (by decide)
      have HNE2 : Hid (some w.heap.size ≠ sv.ownBlock) := HV.out.ne_ HB2z.out (by decide)
      have HN23 : Hid (w.heap.size ≠ g3) := fun e => hne e.symm
      have HSZ : Hid (w0.heap.size ≤ wr.heap.size) := hsz
      have HBW := Lib.hid hbz
      have HM63 : Hid ((listF k fT).length + [fT k].length ≤ maxLen) := by show _ ≤ _; rw [listF_len, List.length_singleton]; unfold maxLen; omega
      have HM47 : Hid (((listF k fT).length + [fT k].length) * 56 ≤ 140737488355328) := by show _ ≤ _; rw [listF_len, List.length_singleton]; omega
      go_upto_region 5 with fail
      refine hr_start (S := (fun _ => True)) (by kernel_rfl) rfl ?_ (fun hHeld => ?_)
      · ((try dsimp only); skip)
      refine hr_take (i := 0) rfl rfl (by kernel_rfl) (by kernel_rfl) (by kernel_rfl) (by kernel_rfl) (fun _ _ _ h => h) (v := ?_) ?_ (by assumption) ?_
      rotate_left
      focus (intro wS hSw; (try dsimp only at hSw); go_simp; (try with_reducible rfl))
      simp only [List.set_cons_zero, List.set_cons_succ]
      refine hr_take (i := 2) rfl rfl (by kernel_rfl) (by kernel_rfl) (by kernel_rfl) (by kernel_rfl) (fun _ _ _ h => h) (v := ?_) ?_ (by assumption) ?_
      rotate_left
      focus (intro wS hSw; (try dsimp only at hSw); go_simp; (try with_reducible rfl))
      simp only [List.set_cons_zero, List.set_cons_succ]
      refine hr_take (i := 3) rfl rfl (by kernel_rfl) (by kernel_rfl) (by kernel_rfl) (by kernel_rfl) (fun _ _ _ h => h) (v := ?_) ?_ (by assumption) ?_
      rotate_left
      focus (intro wS hSw; (try dsimp only at hSw); go_simp; (try with_reducible rfl))
      simp only [List.set_cons_zero, List.set_cons_succ]
      refine hr_take (i := 4) rfl rfl (by kernel_rfl) (by kernel_rfl) (by kernel_rfl) (by kernel_rfl) (fun _ _ _ h => h) (v := ?_) ?_ (by assumption) ?_
      rotate_left
      focus (intro wS hSw; (try dsimp only at hSw); go_simp; (try with_reducible rfl))
      simp only [List.set_cons_zero, List.set_cons_succ]
      refine hr_take (i := 5) rfl rfl (by kernel_rfl) (by kernel_rfl) (by kernel_rfl) (by kernel_rfl) (fun _ _ _ h => h) (v := ?_) ?_ (by assumption) ?_
      rotate_left
      focus (intro wS hSw; (try dsimp only at hSw); go_simp; (try with_reducible rfl))
      simp only [List.set_cons_zero, List.set_cons_succ]
      refine hr_take (i := 6) rfl rfl (by kernel_rfl) (by kernel_rfl) (by kernel_rfl) (by kernel_rfl) (fun _ _ _ h => h) (v := ?_) ?_ (by assumption) ?_
      rotate_left
      focus (intro wS hSw; (try dsimp only at hSw); go_simp; (try with_reducible rfl))
      simp only [List.set_cons_zero, List.set_cons_succ]
      refine hr_two (i := 1) (j := 7) rfl rfl rfl rfl (by kernel_rfl) (by kernel_rfl) (by kernel_rfl) (fun K hK => ?_) (fun K hK => ?_)
      · go_simp
        (try go_wp2_with fail)
        refine hK.out sv _ ?_ (fun hHeld => ?_)
        · ((try dsimp only); skip)
        clear hK K
        simp only [List.set_cons_zero, List.set_cons_succ]
        refine hr_op (i := 7) rfl rfl (by kernel_rfl) (by kernel_rfl) (fun K hK => ?_)
        go_simp
        (try go_wp2_with fail)
        refine hK.out _ _ ?_ (fun hHeld => ?_)
        · ((try dsimp only); skip)
        clear hK K
        simp only [List.set_cons_zero, List.set_cons_succ]
        refine hr_op (i := 8) rfl rfl (by kernel_rfl) (by kernel_rfl) (fun K hK => ?_)
        (refine wp_append_X encC (.tmp 13) (.tmp 19) _ rfl w0.heap.size 59 56 i3 _ rfl HI3.out HZ3.out HS3.out HB3.out rfl _ _ (listF k fT) [fT k] (by rfl) (by rfl) (OwnX.drew (HV.out.alloc _)) (rdX_one_drew (E := encC) _ _ (fT k) _ _ rfl rfl) HM63.out HM47.out (Nat.le_trans HSZ.out (by simp)) ?_; intro v8 w8 hv8 hgb8 hor8; replace hgb8 : World.grownBy _ w8 sv.ownBlock := hgb8; obtain ⟨gv, cvv, hv8e, -, -, -⟩ := ownX_slice hv8 (by simp); obtain ⟨n8, hn8⟩ : ∃ n8, n8 = (listF k fT ++ [fT k]).length := ⟨_, rfl⟩; rw [← hn8] at hv8e; subst hv8e; have HN8 := Lib.hid hn8; clear hn8; have hz8 := Blk.gb (blk_alloc_drew HB3z.out _) hgb8 HNE.out; have HB8 := Lib.hid hz8; obtain ⟨y0, y1, y2, y3, yf, yl⟩ := hz8.facts4)
        refine hK.out _ _ ?_ (fun hHeld => ?_)
        · ((try dsimp only); skip)
        clear hK K
        simp only [List.set_cons_zero, List.set_cons_succ]
        refine hr_take (i := 9) rfl rfl (by kernel_rfl) (by kernel_rfl) (by kernel_rfl) (by kernel_rfl) (fun _ _ _ h => h) (v := ?_) ?_ (by assumption) ?_
        rotate_left
        focus (intro wS hSw; (try dsimp only at hSw); go_simp; (try with_reducible rfl))
        simp only [List.set_cons_zero, List.set_cons_succ]
        refine hr_op0 (i := 10) rfl (by kernel_rfl) (by kernel_rfl) (fun K hK => ?_)
        go_simp
        (try go_wp2_with fail)
        refine hK.out _ ?_ (fun hHeld => ?_)
        · ((try dsimp only); skip)
        clear hK K
        refine hr_done (by kernel_rfl) ?_
        (go_wp2_with fail; go_roundw; (case rel => (refine ⟨k + 1, .slice (some ⟨gv, 0, none⟩) n8 cvv, by omega, by go_num, ?_, ?_, ?_, ?_, (Blk.gb (blk_alloc_drew HB2z.out _) hgb8 HNE2.out).of (Below.heap_setCell _ _ _ _ HN23.out)⟩; (focus (show OwnX _ _ _ _ _ _; rw [listF_succ]; exact hv8.of (fun g hg => Below.heap_setCell _ _ _ _ (by have := (hv8.lt hg).1; have := HGW.out; show g ≠ g3; omega)))); (focus (show Blk _ _ _ _; exact HB8.out.set_ 0 _)); (focus (exact (below_ownx (by have := HBW.out; have := HBW.out.size; (repeat (first | (with_reducible exact Below.refl _ _) | (with_reducible assumption) | (with_reducible refine Below.grow ?_ ?_ _ _) | (with_reducible refine Below.drewN' ?_ _) | (with_reducible refine Below.drew ?_) | (with_reducible refine Below.alloc ?_ ?_ _) | (with_reducible refine Below.setCell ?_ ?_ _) | omega | (focus (simp; done)) | (focus (simp; omega))))) hgb8 (fun g hg => Nat.le_trans HW0.out (HV.out.lt hg).1) (Nat.le_trans HBW.out.size (by simp))).setCell HG3.out _)); (focus (have h1 := hgb8.size; have h2 := HSZ.out; simp only [World.size_setCell]; simp at h1; omega)))); (case measure => (simp [intOf]; omega)))
      · go_simp
        (try go_wp2_with fail)
        refine hK.out _ _ ?_ (fun hHeld => ?_)
        · ((try dsimp only); skip)
        clear hK K
        simp only [List.set_cons_zero, List.set_cons_succ]
        refine hr_op (i := 1) rfl rfl (by kernel_rfl) (by kernel_rfl) (fun K hK => ?_)
        go_simp
        (try go_wp2_with fail)
        refine hK.out sv _ ?_ (fun hHeld => ?_)
        · ((try dsimp only); skip)
        clear hK K
        simp only [List.set_cons_zero, List.set_cons_succ]
        refine hr_op (i := 8) rfl rfl (by kernel_rfl) (by kernel_rfl) (fun K hK => ?_)
        (refine wp_append_X encC (.tmp 13) (.tmp 19) _ rfl w0.heap.size 59 56 i3 _ rfl HI3.out HZ3.out HS3.out HB3.out rfl _ _ (listF k fT) [fT k] (by rfl) (by rfl) (OwnX.drew (HV.out.alloc _)) (rdX_one_drew (E := encC) _ _ (fT k) _ _ rfl rfl) HM63.out HM47.out (Nat.le_trans HSZ.out (by simp)) ?_; intro v8 w8 hv8 hgb8 hor8; replace hgb8 : World.grownBy _ w8 sv.ownBlock := hgb8; obtain ⟨gv, cvv, hv8e, -, -, -⟩ := ownX_slice hv8 (by simp); obtain ⟨n8, hn8⟩ : ∃ n8, n8 = (listF k fT ++ [fT k]).length := ⟨_, rfl⟩; rw [← hn8] at hv8e; subst hv8e; have HN8 := Lib.hid hn8; clear hn8; have hz8 := Blk.gb (blk_alloc_drew HB3z.out _) hgb8 HNE.out; have HB8 := Lib.hid hz8; obtain ⟨y0, y1, y2, y3, yf, yl⟩ := hz8.facts4)
        refine hK.out _ _ ?_ (fun hHeld => ?_)
        · ((try dsimp only); skip)
        clear hK K
        simp only [List.set_cons_zero, List.set_cons_succ]
        refine hr_take (i := 9) rfl rfl (by kernel_rfl) (by kernel_rfl) (by kernel_rfl) (by kernel_rfl) (fun _ _ _ h => h) (v := ?_) ?_ (by assumption) ?_
        rotate_left
        focus (intro wS hSw; (try dsimp only at hSw); go_simp; (try with_reducible rfl))
        simp only [List.set_cons_zero, List.set_cons_succ]
        refine hr_op0 (i := 10) rfl (by kernel_rfl) (by kernel_rfl) (fun K hK => ?_)
        go_simp
        (try go_wp2_with fail)
        refine hK.out _ ?_ (fun hHeld => ?_)
        · ((try dsimp only); skip)
        clear hK K
        refine hr_done (by kernel_rfl) ?_
        (go_wp2_with fail; go_roundw; (case rel => (refine ⟨k + 1, .slice (some ⟨gv, 0, none⟩) n8 cvv, by omega, by go_num, ?_, ?_, ?_, ?_, (Blk.gb (blk_alloc_drew HB2z.out _) hgb8 HNE2.out).of (Below.heap_setCell _ _ _ _ HN23.out)⟩; (focus (show OwnX _ _ _ _ _ _; rw [listF_succ]; exact hv8.of (fun g hg => Below.heap_setCell _ _ _ _ (by have := (hv8.lt hg).1; have := HGW.out; show g ≠ g3; omega)))); (focus (show Blk _ _ _ _; exact HB8.out.set_ 0 _)); (focus (exact (below_ownx (by have := HBW.out; have := HBW.out.size; (repeat (first | (with_reducible exact Below.refl _ _) | (with_reducible assumption) | (with_reducible refine Below.grow ?_ ?_ _ _) | (with_reducible refine Below.drewN' ?_ _) | (with_reducible refine Below.drew ?_) | (with_reducible refine Below.alloc ?_ ?_ _) | (with_reducible refine Below.setCell ?_ ?_ _) | omega | (focus (simp; done)) | (focus (simp; omega))))) hgb8 (fun g hg => Nat.le_trans HW0.out (HV.out.lt hg).1) (Nat.le_trans HBW.out.size (by simp))).setCell HG3.out _)); (focus (have h1 := hgb8.size; have h2 := HSZ.out; simp only [World.size_setCell]; simp at h1; omega)))); (case measure => (simp [intOf]; omega)))
    · obtain rfl : k = 10 := by omega
      obtain ⟨A, c, hsv, -⟩ := HV.out.rd.len
      rw [listF_len] at hsv
      subst hsv
      have HRD := Lib.hid HV.out.rd
      obtain ⟨z0, z1, z2, z3, zf, zl⟩ := HB2z.out.facts4
      go_wp2_with fail
      generalize hwf : World.setCell (World.setCell (World.setCell (World.setCell wr _ _) _ _) _ _) _ _ = wf
      have hz : Blk wf w.heap.size 48 #[.slice A 10 c, .bool false, .int .i64 0, .bool false] := by rw [← hwf]; exact (((HB2z.out.set_ 0 _).set_ 1 _).set_ 2 _).set_ 3 _
      have hbf : Below w.heap.size w wf := by rw [← hwf]; (repeat (first | (with_reducible exact Below.refl _ _) | (with_reducible assumption) | (with_reducible refine Below.grow ?_ ?_ _ _) | (with_reducible refine Below.drewN' ?_ _) | (with_reducible refine Below.drew ?_) | (with_reducible refine Below.alloc ?_ ?_ _) | (with_reducible refine Below.setCell ?_ ?_ _) | omega | (focus (simp; done)) | (focus (simp; omega))))
      have hrd : RdX encC wf (.slice A 10 c) (listF 10 fT) := by
        have h := HRD.out
        have hne2 : ∀ A' n' c', Value.slice A 10 c = .slice A' n' c' → ∀ b o, A' = some ⟨b, o, none⟩ → b ≠ w.heap.size := fun A' n' c' e b o e2 => by
          injection e with e _ _
          subst e2
          have := HV.out.lt (g := b) (by rw [e]; rfl)
          have h1 := HGW.out
          have h2 := HG3.out
          omega
        rw [← hwf]
        exact rdX_set (rdX_set (rdX_set (rdX_set h hne2) hne2) hne2) hne2
      clear hwf z0 z1 z2 z3 zf zl
      obtain ⟨y0, y1, y2, y3, yf, yl⟩ := hz.facts4
      refine bodyPost_ret (v := _) (by simp [results, Try.results30, go_sem, *]; try exact rfl) rfl ⟨A, c, rfl, hbf, hrd⟩
/-- the example's row -/
def rT (A : Option Addr) (c : Nat) : Rw := ⟨A, 10, c, fT, false, 0, false⟩
theorem areT (A : Option Addr) (c : Nat) : areB [rT A c] = true := areB_iff.2 fun r hr => by
  obtain rfl := List.mem_singleton.1 hr
  show saneB 10 fT 0 = true
  decide
theorem joinT (A : Option Addr) (c : Nat) : joinR [rT A c] = [⟨listF 10 fT, 0, false⟩] := rfl
theorem spreadT : spreadS [⟨listF 10 fT, 0, false⟩] 4 = [⟨(listF 10 fT).take 4, true, 0, false⟩, ⟨((listF 10 fT).drop 4).take 4, true, 0, false⟩, ⟨(listF 10 fT).drop 8 ++ [blank 0 0 0, blank 0 0 0], false, 0, false⟩] := by decide
theorem whereT : whereR [⟨listF 10 fT, 0, false⟩] 4 0 5 = (1, 1) := by decide
set_option maxRecDepth 100000 in
set_option maxHeartbeats 4000000 in
theorem awake11_c (w : World) : Calls Try.prog 8 #[] w fun e w' => e = .returned (.bool true) ∧ Grew w w' := by
  have key := fun (A : Option Addr) (c : Nat) (x : Value) (wz : World) (hx : RdR wz x [rT A c]) => reflow_yes x [rT A c] 4 0 5 (rT A c) wz hx (by simp) (areT A c) (by show sumN [rT A c] 1 ≤ _; unfold sumN; simp [rT]) rfl (by show 5 < 10; omega)
  simp only [show ((0 : Nat) : Int) = 0 from rfl, show ((5 : Nat) : Int) = 5 from rfl] at key
  go_enter Try.func8, Try.ntmps8
  go_wp2_with (go_at_call 30; (with_reducible refine (text_c _).mono ?_); rintro e w1 ⟨A, c, rfl, hb1, hr1⟩; have HB1 := Lib.hid hb1; have HR1 := Lib.hid hr1; clear hb1 hr1)
  have hrd : RdR (w1.alloc (.cells #[.slice A 10 c, .bool false, .int .i64 0, .bool false] 48)) (.slice (some ⟨w1.heap.size, 0, none⟩) 1 1) [rT A c] := by
    refine ⟨rdX_one (E := encR) _ _ (rT A c) _ _ rfl rfl, fun r hr => ?_⟩
    obtain rfl := List.mem_singleton.1 hr
    have h := HR1.out.below ((Below.refl _ _).alloc (Nat.le_refl _) (.cells #[.slice A 10 c, .bool false, .int .i64 0, .bool false] 48))
    obtain ⟨A', c', e, hc⟩ := h.len
    injection e with e1 e2 e3
    rw [listF_len] at hc
    exact ⟨rd_ofX h (by rw [listF_len]; rfl) (fun i hi => listF_get hi), by show 10 ≤ c; omega, by show 10 ≤ 5000; omega⟩
  refine (key A c _ _ hrd).mono ?_
  rintro e w2 ⟨u, R, he, hb2, hr2, hs2⟩
  have hwh : whereR (joinR [rT A c]) 4 (findN [rT A c] 0).1 ((findN [rT A c] 0).2 + 5) = (1, 1) := whereT
  rw [hwh] at he
  subst he
  rw [joinT, spreadT] at hs2
  have hbw2 : Below w.heap.size w w2 := by
    have h1 := HB1.out
    have h2 := h1.size
    exact (h1.alloc h2 _).trans (hb2.mono (by simp; omega))
  have HBW2 := Lib.hid hbw2
  clear hb2 hwh hrd key hbw2
  obtain ⟨r0, r1, r2, rfl⟩ : ∃ r0 r1 r2, R = [r0, r1, r2] := by
    have hl : R.length = 3 := by have := congrArg List.length hs2; simpa using this
    clear hs2 hr2
    match R, hl with
    | [r0, r1, r2], _ => exact ⟨r0, r1, r2, rfl⟩
  simp only [List.map_cons, List.map_nil, List.cons.injEq, and_true] at hs2
  obtain ⟨h0, h1, h2⟩ := hs2
  obtain ⟨A3, c3, e3, hc3⟩ := hr2.1.len
  have e3' : u = .slice A3 3 c3 := e3
  subst e3'
  obtain ⟨b, o, rfl, hbl, ⟨p0, p1, p2, p3⟩, -⟩ := hr2.at_ (k := 0) (by simp)
  obtain ⟨b', o', e4, -, ⟨q0, q1, q2, q3⟩, hok⟩ := hr2.at_ (k := 1) (by simp)
  injection e4 with e4
  injection e4 with e4 e5
  subst e4 e5
  obtain ⟨b', o', e4, -, ⟨s0, s1, s2, s3⟩, -⟩ := hr2.at_ (k := 2) (by simp)
  injection e4 with e4
  injection e4 with e4 e5
  subst e4 e5
  have hw0 : r0.wb = true := congrArg Sh.wb h0
  have hw1 : r1.wb = true := congrArg Sh.wb h1
  have hw2 : r2.wb = false := congrArg Sh.wb h2
  have hn1 : r1.n = 4 := by
    have := congrArg (fun s => s.cs.length) h1
    rw [← listF_len r1.n r1.f]
    exact this
  have hf1 : r1.f 1 = fT 5 := by
    have := congrArg (fun s => s.cs[1]?) h1
    have h := listF_get (n := r1.n) (f := r1.f) (i := 1) (by omega)
    have h3 : (listF r1.n r1.f)[1]? = some (fT 5) := this
    rw [h] at h3
    injection h3
  obtain ⟨b1, o1, hA1, hb1, hc1⟩ := hok.1 (by show 0 < r1.n; omega)
  have hca := (hc1 1 (by show 1 < r1.n; omega)).1
  have hA1' : r1.A = some ⟨b1, o1, none⟩ := hA1
  have hca' : w2.cell? ⟨b1, o1 + 7, none⟩ = some (.int .i64 102) := by
    have e : ([r0, r1, r2][1]).f 1 = fT 5 := hf1
    rw [e] at hca
    exact hca
  have hp1 : w2.cell? ⟨b, o + 1, none⟩ = some (.bool true) := by rw [← hw0]; simpa using p1
  have hq0 : w2.cell? ⟨b, o + 4, none⟩ = some (.slice (some ⟨b1, o1, none⟩) 4 r1.cap) := by
    have h : w2.cell? ⟨b, o + 4, none⟩ = some (.slice r1.A r1.n r1.cap) := q0
    rw [hA1', hn1] at h
    exact h
  have hq1 : w2.cell? ⟨b, o + 4 + 1, none⟩ = some (.bool true) := by rw [← hw1]; exact q1
  have hs1 : w2.cell? ⟨b, o + 8 + 1, none⟩ = some (.bool false) := by rw [← hw2]; exact s1
  have hc3' : 3 ≤ c3 := hc3
  clear p0 p1 p2 p3 q0 q1 q2 q3 s0 s1 s2 s3 h0 h1 h2 hr2 hok hc1 hca hc3 e3 hw0 hw1 hw2 hf1 hA1 hA1' hn1
  go_wp2_with fail
  go_ret
  exact ⟨rfl, HBW2.out.toGrow⟩
end Go.Proofs.Ytlgnchhhadnjbaa.Row
