/- lapwinglaw11.ours, theirs, clean; lapwingref11.Few. -/
import Derived.Test.YtlgnchhhadnjbaaRflX
namespace Go.Proofs.Ytlgnchhhadnjbaa.Row
open Go.RowKit
theorem line11Info : (Try.prog.info? 42).map (fun i => (i.zero, i.size, i.bytes)) = some (some (.agg #[.slice none 0 0, .int .i64 0, .bool false]), 3, 40) := by kernel_rfl
theorem line11_parts : ∃ i, Try.prog.info? 42 = some i ∧ i.zero = some (.agg #[.slice none 0 0, .int .i64 0, .bool false]) ∧ i.size = 3 ∧ i.bytes = 40 := by
  obtain ⟨i, hi, hzz⟩ := Option.map_eq_some_iff.1 line11Info
  simp only [Prod.mk.injEq] at hzz
  exact ⟨i, hi, hzz⟩
/-- lines that come in -/
def RdL0 (w : World) (x : Value) (L : List Ln) : Prop := RdX encL w x L ∧ ∀ l ∈ L, RdX encC w (.slice l.A l.cs.length l.cap) l.cs ∧ l.cs.length ≤ maxLen
theorem RdL0.below {w w' : World} {x : Value} {L : List Ln} (h : RdL0 w x L) (hb : Below w.heap.size w w') : RdL0 w' x L := ⟨h.1.below hb, fun l hl => ⟨(h.2 l hl).1.below hb, (h.2 l hl).2⟩⟩
def few11B (L : List Ln) : Bool := decide (L.length ≤ 40 ∧ ∀ l ∈ L, l.cs.length ≤ 200)
theorem few11_iff {L : List Ln} : few11B L = true ↔ L.length ≤ 40 ∧ ∀ l ∈ L, l.cs.length ≤ 200 := by unfold few11B; rw [decide_eq_true_eq]
theorem RdL0.few {w : World} {x : Value} {L : List Ln} (h : RdL0 w x L) (hf : few11B L = true) : RdL w x L := ⟨h.1, fun l hl => ⟨(h.2 l hl).1, by have := (few11_iff.1 hf).2 l hl; omega⟩⟩
theorem atL {w : World} {A : Option Addr} {n c k : Nat} {L : List Ln} (h : RdX encL w (.slice A n c) L) (hk : k < L.length) :
    ∃ b o, A = some ⟨b, o, none⟩ ∧ b < w.heap.size ∧ w.cell? ⟨b, o + k * 3, none⟩ = some (.slice L[k].A L[k].cs.length L[k].cap) ∧ w.cell? ⟨b, o + k * 3 + 1, none⟩ = some (.int .i64 L[k].dir) ∧ w.cell? ⟨b, o + k * 3 + 2, none⟩ = some (.bool L[k].ex) := by
  obtain ⟨b, o, e, hb, hat⟩ := h.at_ (List.getElem?_eq_getElem hk)
  exact ⟨b, o, e, hb, hat 0 _ rfl, hat 1 _ rfl, hat 2 _ rfl⟩
set_option maxRecDepth 100000 in
set_option maxHeartbeats 4000000 in
theorem few11_c (x : Value) (L : List Ln) (w : World) (hx : RdL0 w x L) (hl : L.length ≤ maxLen) : Calls Try.prog 9 #[x] w fun e w' => e = .returned (.bool (few11B L)) ∧ w = w' := by
  obtain ⟨A, c, rfl, hc⟩ := hx.1.len
  have HI := Lib.hid (@few11_iff L)
  have HN : Hid (¬ few11B L = true → few11B L = false) := fun h => by simpa using h
  generalize few11B L = S at *
  unfold maxLen at hl
  generalize hn : L.length = n at hl hc hx ⊢
  have HL := Lib.hid hn
  clear hn
  by_cases h40 : n ≤ 40
  · have hb : decide (40 < n) = false := by simp; omega
    have hb2 : decide ((40 : Int) < n) = false := by simp; omega
    have HN40 := Lib.hid h40
    go_enter Try.func9, Try.ntmps9
    go_wp2_with fail
    clear hb hb2
    go_loopw [3] (fun i wz => ∃ k : Nat, k ≤ n ∧ i = .int .i64 k ∧ Hid (∀ j (h : j < L.length), j < k → L[j].cs.length ≤ 200) ∧ w = wz) (fun i _ => n - (intOf i).toNat)
    case atStart => exact ⟨0, Nat.zero_le _, rfl, fun j _ hj => absurd hj (by omega), rfl⟩
    case round =>
      obtain ⟨k, hk, rfl, HALL, rfl⟩ := hrel
      by_cases hlt : k < n
      · have hkl : k < L.length := by rw [HL.out]; exact hlt
        obtain ⟨b, o, rfl, hbl, p0, p1, p2⟩ := atL hx.1 hkl
        have hltI : (k : Int) < n := by omega
        have HE : Hid (L[k].cs.length ≤ 200 → ∀ j (h : j < L.length), j < k + 1 → L[j].cs.length ≤ 200) := fun hs j h hj => by
          by_cases e : j = k
          · subst e; exact hs
          · exact HALL.out j h (by omega)
        have HM : Hid (L[k] ∈ L) := List.getElem_mem hkl
        generalize L[k] = le at *
        generalize hq : le.cs.length = q at p0 HE
        by_cases h2 : q ≤ 200
        · have hb : decide (200 < q) = false := by simp; omega
          have hb2 : decide ((200 : Int) < q) = false := by simp; omega
          have H2 := Lib.hid h2
          clear h2 hq
          go_wp2_with fail
          go_roundw
          case rel => exact ⟨k + 1, by omega, by go_num, HE.out H2.out, by first | rfl | trivial⟩
          case measure => simp [intOf]; omega
        · have hb : decide (200 < q) = true := by simp; omega
          have hb2 : decide ((200 : Int) < q) = true := by simp; omega
          have H2 : Hid (¬ le.cs.length ≤ 200) := by show ¬ _; rw [hq]; exact h2
          clear h2 hq
          go_wp2_with fail
          go_ret
          exact ⟨ebool (HN.out fun h => H2.out ((HI.out.1 h).2 le HM.out)).symm, rfl⟩
      · obtain rfl : n = k := by omega
        go_wp2_with fail
        go_ret
        refine ⟨ebool (HI.out.2 ⟨by rw [HL.out]; exact HN40.out, fun r hr => ?_⟩).symm, rfl⟩
        obtain ⟨j, hj, rfl⟩ := List.getElem_of_mem hr
        exact HALL.out j hj (by rw [← HL.out]; exact hj)
  · have hb : decide (40 < n) = true := by simp; omega
    have hb2 : decide ((40 : Int) < n) = true := by simp; omega
    have HN40 := Lib.hid h40
    clear h40
    go_enter Try.func9, Try.ntmps9
    go_wp2_with fail
    go_ret
    exact ⟨ebool (HN.out fun h => HN40.out (by rw [← HL.out]; exact (HI.out.1 h).1)).symm, rfl⟩
theorem gb_alloc_drew {w w' : World} {o : Obj} {row : Option Nat} (h : (w.alloc o).drew.grownBy w' row) : w.grownBy w' row :=
  ⟨h.os, h.tape, h.output, Nat.le_trans (by simp) h.size, fun i hi hne => (h.block i (by simp; omega) hne).trans (Below.heap_alloc w o i hi)⟩
set_option maxRecDepth 100000 in
set_option maxHeartbeats 4000000 in
theorem ours_c (x : Value) (L : List Ln) (w : World) (hx : RdL w x L) (hl : L.length ≤ 100000) : Calls Try.prog 10 #[x] w fun e w' => ∃ u, e = .returned u ∧ Below w.heap.size w w' ∧ RdL w' u L := by
  obtain ⟨A, cap, rfl, hc⟩ := hx.1.len
  obtain ⟨n, hn⟩ : ∃ n, L.length = n := ⟨_, rfl⟩
  have hx0 := hx
  clear hx
  rw [hn] at hl hc hx0 ⊢
  have HX : Hid (RdL w (.slice A n cap) L) := hx0
  have HN := Lib.hid hn
  obtain ⟨i3, hi3, hz3, hs3, hb3⟩ := line_parts
  have HI3 := Lib.hid hi3
  have HZ3 := Lib.hid hz3
  have HS3 := Lib.hid hs3
  have HB3 := Lib.hid hb3
  clear hi3 hz3 hs3 hb3 hx0 hn
  go_enter Try.func10, Try.ntmps10
  go_wp2_with fail
  go_loopw [3, 4] (fun v i wz => ∃ k : Nat, k ≤ n ∧ i = .int .i64 k ∧ Hid (OwnX encL wz w.heap.size 40 v (L.take k)) ∧ Below w.heap.size w wz) (fun _ i _ => n - (intOf i).toNat)
  case atStart => exact ⟨0, Nat.zero_le _, rfl, OwnX.nil _ _ _, Below.refl _ _⟩
  case round =>
    obtain ⟨k, hk, rfl, HV, hbw⟩ := hrel
    have hws := hbw.size
    by_cases hlt : k < n
    · have hltI : (k : Int) < n := by omega
      have hkl : k < L.length := by rw [HN.out]; exact hlt
      obtain ⟨b, o, rfl, hbl, p0, p1, p2⟩ := atL (HX.out.1.below hbw) hkl
      have HTK := Lib.hid (take_next hkl)
      have HP : Hid (∀ w6, Below w.heap.size wr w6 → w6.cell? ⟨b, o + k * 3, none⟩ = some (.slice L[k].A L[k].cs.length L[k].cap) ∧ w6.cell? ⟨b, o + k * 3 + 1, none⟩ = some (.int .i64 L[k].dir) ∧ w6.cell? ⟨b, o + k * 3 + 2, none⟩ = some (.bool L[k].ex)) := fun w6 hb => by
        obtain ⟨b9, o9, e9, -, h9⟩ := atL (HX.out.1.below (hbw.trans hb)) hkl
        injection e9 with e9
        injection e9 with e9 e8
        subst e9 e8
        exact h9
      have HM63 : Hid ((L.take k).length + [L[k]].length ≤ maxLen) := by show _ ≤ _; rw [List.length_take, List.length_singleton]; unfold maxLen; omega
      have HM47 : Hid (((L.take k).length + [L[k]].length) * 40 ≤ 140737488355328) := by show _ ≤ _; rw [List.length_take, List.length_singleton]; omega
      generalize L[k] = le at *
      go_upto_region 5 with fail
      refine hr_start (S := (fun w' => w'.cell? ⟨b, o + k * 3, none⟩ = some (.slice le.A le.cs.length le.cap) ∧ w'.cell? ⟨b, o + k * 3 + 1, none⟩ = some (.int .i64 le.dir) ∧ w'.cell? ⟨b, o + k * 3 + 2, none⟩ = some (.bool le.ex))) (by kernel_rfl) rfl ?_ (fun hHeld => ?_)
      · ((try dsimp only); go_simp)
      refine hr_take (i := 0) rfl rfl (by kernel_rfl) (by kernel_rfl) (by kernel_rfl) (by kernel_rfl) (fun _ _ _ h => h) (v := ?_) ?_ (by assumption) ?_
      rotate_left
      focus (intro wS hSw; (try dsimp only at hSw); go_simp; (try with_reducible rfl))
      simp only [List.set_cons_zero, List.set_cons_succ]
      refine hr_take (i := 1) rfl rfl (by kernel_rfl) (by kernel_rfl) (by kernel_rfl) (by kernel_rfl) (fun _ _ _ h => h) (v := ?_) ?_ (by assumption) ?_
      rotate_left
      focus (intro wS hSw; (try dsimp only at hSw); go_simp; (try with_reducible rfl))
      simp only [List.set_cons_zero, List.set_cons_succ]
      refine hr_take (i := 2) rfl rfl (by kernel_rfl) (by kernel_rfl) (by kernel_rfl) (by kernel_rfl) (fun _ _ _ h => h) (v := ?_) ?_ (by assumption) ?_
      rotate_left
      focus (intro wS hSw; (try dsimp only at hSw); go_simp; (try with_reducible rfl))
      simp only [List.set_cons_zero, List.set_cons_succ]
      refine hr_take (i := 3) rfl rfl (by kernel_rfl) (by kernel_rfl) (by kernel_rfl) (by kernel_rfl) (fun _ _ _ h => h) (v := ?_) ?_ (by assumption) ?_
      rotate_left
      focus (intro wS hSw; (try dsimp only at hSw); go_simp; (try with_reducible rfl))
      simp only [List.set_cons_zero, List.set_cons_succ]
      refine hr_take (i := 4) rfl rfl (by kernel_rfl) (by kernel_rfl) (by kernel_rfl) (by kernel_rfl) (fun _ _ _ h => h) (v := ?_) ?_ (by assumption) ?_
      rotate_left
      focus (intro wS hSw; (try dsimp only at hSw); go_simp; (try with_reducible rfl))
      simp only [List.set_cons_zero, List.set_cons_succ]
      refine hr_take (i := 5) rfl rfl (by kernel_rfl) (by kernel_rfl) (by kernel_rfl) (by kernel_rfl) (fun _ _ _ h => h) (v := ?_) ?_ (by assumption) ?_
      rotate_left
      focus (intro wS hSw; (try dsimp only at hSw); go_simp; (try with_reducible rfl))
      simp only [List.set_cons_zero, List.set_cons_succ]
      refine hr_take (i := 6) rfl rfl (by kernel_rfl) (by kernel_rfl) (by kernel_rfl) (by kernel_rfl) (fun _ _ _ h => h) (v := ?_) ?_ (by assumption) ?_
      rotate_left
      focus (intro wS hSw; (try dsimp only at hSw); go_simp; (try with_reducible rfl))
      simp only [List.set_cons_zero, List.set_cons_succ]
      refine hr_take (i := 7) rfl rfl (by kernel_rfl) (by kernel_rfl) (by kernel_rfl) (by kernel_rfl) (fun _ _ _ h => h) (v := ?_) ?_ (by assumption) ?_
      rotate_left
      focus (intro wS hSw; (try dsimp only at hSw); go_simp; (try with_reducible rfl))
      simp only [List.set_cons_zero, List.set_cons_succ]
      refine hr_take (i := 8) rfl rfl (by kernel_rfl) (by kernel_rfl) (by kernel_rfl) (by kernel_rfl) (fun _ _ _ h => h) (v := ?_) ?_ (by assumption) ?_
      rotate_left
      focus (intro wS hSw; (try dsimp only at hSw); go_simp; (try with_reducible rfl))
      simp only [List.set_cons_zero, List.set_cons_succ]
      refine hr_take (i := 9) rfl rfl (by kernel_rfl) (by kernel_rfl) (by kernel_rfl) (by kernel_rfl) (fun _ _ _ h => h) (v := ?_) ?_ (by assumption) ?_
      rotate_left
      focus (intro wS hSw; (try dsimp only at hSw); go_simp; (try with_reducible rfl))
      simp only [List.set_cons_zero, List.set_cons_succ]
      refine hr_take (i := 10) rfl rfl (by kernel_rfl) (by kernel_rfl) (by kernel_rfl) (by kernel_rfl) (fun _ _ _ h => h) (v := ?_) ?_ (by assumption) ?_
      rotate_left
      focus (intro wS hSw; (try dsimp only at hSw); go_simp; (try with_reducible rfl))
      simp only [List.set_cons_zero, List.set_cons_succ]
      refine hr_take (i := 11) rfl rfl (by kernel_rfl) (by kernel_rfl) (by kernel_rfl) (by kernel_rfl) (fun _ _ _ h => h) (v := ?_) ?_ (by assumption) ?_
      rotate_left
      focus (intro wS hSw; (try dsimp only at hSw); go_simp; (try with_reducible rfl))
      simp only [List.set_cons_zero, List.set_cons_succ]
      refine hr_take (i := 12) rfl rfl (by kernel_rfl) (by kernel_rfl) (by kernel_rfl) (by kernel_rfl) (fun _ _ _ h => h) (v := ?_) ?_ (by assumption) ?_
      rotate_left
      focus (intro wS hSw; (try dsimp only at hSw); go_simp; (try with_reducible rfl))
      simp only [List.set_cons_zero, List.set_cons_succ]
      refine hr_take (i := 13) rfl rfl (by kernel_rfl) (by kernel_rfl) (by kernel_rfl) (by kernel_rfl) (fun _ _ _ h => h) (v := ?_) ?_ (by assumption) ?_
      rotate_left
      focus (intro wS hSw; (try dsimp only at hSw); go_simp; (try with_reducible rfl))
      simp only [List.set_cons_zero, List.set_cons_succ]
      refine hr_take (i := 14) rfl rfl (by kernel_rfl) (by kernel_rfl) (by kernel_rfl) (by kernel_rfl) (fun _ _ _ h => h) (v := ?_) ?_ (by assumption) ?_
      rotate_left
      focus (intro wS hSw; (try dsimp only at hSw); go_simp; (try with_reducible rfl))
      simp only [List.set_cons_zero, List.set_cons_succ]
      refine hr_take (i := 15) rfl rfl (by kernel_rfl) (by kernel_rfl) (by kernel_rfl) (by kernel_rfl) (fun _ _ _ h => h) (v := ?_) ?_ (by assumption) ?_
      rotate_left
      focus (intro wS hSw; (try dsimp only at hSw); go_simp; (try with_reducible rfl))
      simp only [List.set_cons_zero, List.set_cons_succ]
      refine hr_take (i := 16) rfl rfl (by kernel_rfl) (by kernel_rfl) (by kernel_rfl) (by kernel_rfl) (fun _ _ _ h => h) (v := ?_) ?_ (by assumption) ?_
      rotate_left
      focus (intro wS hSw; (try dsimp only at hSw); go_simp; (try with_reducible rfl))
      simp only [List.set_cons_zero, List.set_cons_succ]
      refine hr_op (i := 17) rfl rfl (by kernel_rfl) (by kernel_rfl) (fun K hK => ?_)
      go_simp
      (try go_wp2_with fail)
      refine hK.out _ _ ?_ (fun hHeld => ?_)
      · ((try dsimp only); go_simp)
      clear hK K
      simp only [List.set_cons_zero, List.set_cons_succ]
      refine hr_op (i := 18) rfl rfl (by kernel_rfl) (by kernel_rfl) (fun K hK => ?_)
      (refine wp_append_X encL (.tmp 11) (.tmp 28) _ rfl w.heap.size 40 40 i3 _ rfl HI3.out HZ3.out HS3.out HB3.out rfl _ _ (L.take k) [le] (by rfl) (by rfl) (OwnX.drew (HV.out.alloc _)) (rdX_one_drew (E := encL) _ _ le _ _ rfl rfl) HM63.out HM47.out (Nat.le_trans hws (by simp)) ?_; intro v6 w6 hv6 hgb6 hor6; replace hgb6 : World.grownBy _ w6 u3.ownBlock := hgb6; obtain ⟨p0, p1, p2⟩ := HP.out w6 (gb_to_below (gb_alloc_drew hgb6) (fun g hg => (HV.out.lt hg).1) hws))
      refine hK.out _ _ ?_ (fun hHeld => ?_)
      · ((try dsimp only); go_simp)
      clear hK K
      simp only [List.set_cons_zero, List.set_cons_succ]
      refine hr_take (i := 19) rfl rfl (by kernel_rfl) (by kernel_rfl) (by kernel_rfl) (by kernel_rfl) (fun _ _ _ h => h) (v := ?_) ?_ (by assumption) ?_
      rotate_left
      focus (intro wS hSw; (try dsimp only at hSw); go_simp; (try with_reducible rfl))
      simp only [List.set_cons_zero, List.set_cons_succ]
      refine hr_done (by kernel_rfl) ?_
      go_wp2_with fail
      go_roundw
      case rel => exact ⟨k + 1, by omega, by go_num, by show OwnX _ _ _ _ _ _; rw [HTK.out]; exact hv6, hbw.trans (gb_to_below (gb_alloc_drew hgb6) (fun g hg => (HV.out.lt hg).1) hws)⟩
      case measure => simp [intOf]; omega
    · obtain rfl : n = k := by omega
      have HLT : Hid (L.take n = L) := List.take_of_length_le (by rw [HN.out]; exact Nat.le_refl _)
      go_wp2_with fail
      go_ret
      exact ⟨_, rfl, hbw, by have h := HV.out.rd; rw [HLT.out] at h; exact h, fun l hl => (HX.out.below hbw).2 l hl⟩
set_option maxRecDepth 100000 in
set_option maxHeartbeats 4000000 in
theorem theirs_c (x : Value) (L : List Ln) (w : World) (hx : RdL w x L) (hl : L.length ≤ 100000) : Calls Try.prog 25 #[x] w fun e w' => ∃ u, e = .returned u ∧ Below w.heap.size w w' ∧ RdL w' u L := by
  obtain ⟨A, cap, rfl, hc⟩ := hx.1.len
  obtain ⟨n, hn⟩ : ∃ n, L.length = n := ⟨_, rfl⟩
  have hx0 := hx
  clear hx
  rw [hn] at hl hc hx0 ⊢
  have HX : Hid (RdL w (.slice A n cap) L) := hx0
  have HN := Lib.hid hn
  obtain ⟨i3, hi3, hz3, hs3, hb3⟩ := line11_parts
  have HI3 := Lib.hid hi3
  have HZ3 := Lib.hid hz3
  have HS3 := Lib.hid hs3
  have HB3 := Lib.hid hb3
  clear hi3 hz3 hs3 hb3 hx0 hn
  go_enter Try.func25, Try.ntmps25
  go_wp2_with fail
  go_loopw [3, 4] (fun v i wz => ∃ k : Nat, k ≤ n ∧ i = .int .i64 k ∧ Hid (OwnX encL wz w.heap.size 42 v (L.take k)) ∧ Below w.heap.size w wz) (fun _ i _ => n - (intOf i).toNat)
  case atStart => exact ⟨0, Nat.zero_le _, rfl, OwnX.nil _ _ _, Below.refl _ _⟩
  case round =>
    obtain ⟨k, hk, rfl, HV, hbw⟩ := hrel
    have hws := hbw.size
    by_cases hlt : k < n
    · have hltI : (k : Int) < n := by omega
      have hkl : k < L.length := by rw [HN.out]; exact hlt
      obtain ⟨b, o, rfl, hbl, p0, p1, p2⟩ := atL (HX.out.1.below hbw) hkl
      have HTK := Lib.hid (take_next hkl)
      have HP : Hid (∀ w6, Below w.heap.size wr w6 → w6.cell? ⟨b, o + k * 3, none⟩ = some (.slice L[k].A L[k].cs.length L[k].cap) ∧ w6.cell? ⟨b, o + k * 3 + 1, none⟩ = some (.int .i64 L[k].dir) ∧ w6.cell? ⟨b, o + k * 3 + 2, none⟩ = some (.bool L[k].ex)) := fun w6 hb => by
        obtain ⟨b9, o9, e9, -, h9⟩ := atL (HX.out.1.below (hbw.trans hb)) hkl
        injection e9 with e9
        injection e9 with e9 e8
        subst e9 e8
        exact h9
      have HM63 : Hid ((L.take k).length + [L[k]].length ≤ maxLen) := by show _ ≤ _; rw [List.length_take, List.length_singleton]; unfold maxLen; omega
      have HM47 : Hid (((L.take k).length + [L[k]].length) * 40 ≤ 140737488355328) := by show _ ≤ _; rw [List.length_take, List.length_singleton]; omega
      generalize L[k] = le at *
      go_upto_region 5 with fail
      refine hr_start (S := (fun w' => w'.cell? ⟨b, o + k * 3, none⟩ = some (.slice le.A le.cs.length le.cap) ∧ w'.cell? ⟨b, o + k * 3 + 1, none⟩ = some (.int .i64 le.dir) ∧ w'.cell? ⟨b, o + k * 3 + 2, none⟩ = some (.bool le.ex))) (by kernel_rfl) rfl ?_ (fun hHeld => ?_)
      · ((try dsimp only); go_simp)
      refine hr_take (i := 0) rfl rfl (by kernel_rfl) (by kernel_rfl) (by kernel_rfl) (by kernel_rfl) (fun _ _ _ h => h) (v := ?_) ?_ (by assumption) ?_
      rotate_left
      focus (intro wS hSw; (try dsimp only at hSw); go_simp; (try with_reducible rfl))
      simp only [List.set_cons_zero, List.set_cons_succ]
      refine hr_take (i := 1) rfl rfl (by kernel_rfl) (by kernel_rfl) (by kernel_rfl) (by kernel_rfl) (fun _ _ _ h => h) (v := ?_) ?_ (by assumption) ?_
      rotate_left
      focus (intro wS hSw; (try dsimp only at hSw); go_simp; (try with_reducible rfl))
      simp only [List.set_cons_zero, List.set_cons_succ]
      refine hr_take (i := 2) rfl rfl (by kernel_rfl) (by kernel_rfl) (by kernel_rfl) (by kernel_rfl) (fun _ _ _ h => h) (v := ?_) ?_ (by assumption) ?_
      rotate_left
      focus (intro wS hSw; (try dsimp only at hSw); go_simp; (try with_reducible rfl))
      simp only [List.set_cons_zero, List.set_cons_succ]
      refine hr_take (i := 3) rfl rfl (by kernel_rfl) (by kernel_rfl) (by kernel_rfl) (by kernel_rfl) (fun _ _ _ h => h) (v := ?_) ?_ (by assumption) ?_
      rotate_left
      focus (intro wS hSw; (try dsimp only at hSw); go_simp; (try with_reducible rfl))
      simp only [List.set_cons_zero, List.set_cons_succ]
      refine hr_take (i := 4) rfl rfl (by kernel_rfl) (by kernel_rfl) (by kernel_rfl) (by kernel_rfl) (fun _ _ _ h => h) (v := ?_) ?_ (by assumption) ?_
      rotate_left
      focus (intro wS hSw; (try dsimp only at hSw); go_simp; (try with_reducible rfl))
      simp only [List.set_cons_zero, List.set_cons_succ]
      refine hr_take (i := 5) rfl rfl (by kernel_rfl) (by kernel_rfl) (by kernel_rfl) (by kernel_rfl) (fun _ _ _ h => h) (v := ?_) ?_ (by assumption) ?_
      rotate_left
      focus (intro wS hSw; (try dsimp only at hSw); go_simp; (try with_reducible rfl))
      simp only [List.set_cons_zero, List.set_cons_succ]
      refine hr_take (i := 6) rfl rfl (by kernel_rfl) (by kernel_rfl) (by kernel_rfl) (by kernel_rfl) (fun _ _ _ h => h) (v := ?_) ?_ (by assumption) ?_
      rotate_left
      focus (intro wS hSw; (try dsimp only at hSw); go_simp; (try with_reducible rfl))
      simp only [List.set_cons_zero, List.set_cons_succ]
      refine hr_take (i := 7) rfl rfl (by kernel_rfl) (by kernel_rfl) (by kernel_rfl) (by kernel_rfl) (fun _ _ _ h => h) (v := ?_) ?_ (by assumption) ?_
      rotate_left
      focus (intro wS hSw; (try dsimp only at hSw); go_simp; (try with_reducible rfl))
      simp only [List.set_cons_zero, List.set_cons_succ]
      refine hr_take (i := 8) rfl rfl (by kernel_rfl) (by kernel_rfl) (by kernel_rfl) (by kernel_rfl) (fun _ _ _ h => h) (v := ?_) ?_ (by assumption) ?_
      rotate_left
      focus (intro wS hSw; (try dsimp only at hSw); go_simp; (try with_reducible rfl))
      simp only [List.set_cons_zero, List.set_cons_succ]
      refine hr_take (i := 9) rfl rfl (by kernel_rfl) (by kernel_rfl) (by kernel_rfl) (by kernel_rfl) (fun _ _ _ h => h) (v := ?_) ?_ (by assumption) ?_
      rotate_left
      focus (intro wS hSw; (try dsimp only at hSw); go_simp; (try with_reducible rfl))
      simp only [List.set_cons_zero, List.set_cons_succ]
      refine hr_take (i := 10) rfl rfl (by kernel_rfl) (by kernel_rfl) (by kernel_rfl) (by kernel_rfl) (fun _ _ _ h => h) (v := ?_) ?_ (by assumption) ?_
      rotate_left
      focus (intro wS hSw; (try dsimp only at hSw); go_simp; (try with_reducible rfl))
      simp only [List.set_cons_zero, List.set_cons_succ]
      refine hr_take (i := 11) rfl rfl (by kernel_rfl) (by kernel_rfl) (by kernel_rfl) (by kernel_rfl) (fun _ _ _ h => h) (v := ?_) ?_ (by assumption) ?_
      rotate_left
      focus (intro wS hSw; (try dsimp only at hSw); go_simp; (try with_reducible rfl))
      simp only [List.set_cons_zero, List.set_cons_succ]
      refine hr_take (i := 12) rfl rfl (by kernel_rfl) (by kernel_rfl) (by kernel_rfl) (by kernel_rfl) (fun _ _ _ h => h) (v := ?_) ?_ (by assumption) ?_
      rotate_left
      focus (intro wS hSw; (try dsimp only at hSw); go_simp; (try with_reducible rfl))
      simp only [List.set_cons_zero, List.set_cons_succ]
      refine hr_take (i := 13) rfl rfl (by kernel_rfl) (by kernel_rfl) (by kernel_rfl) (by kernel_rfl) (fun _ _ _ h => h) (v := ?_) ?_ (by assumption) ?_
      rotate_left
      focus (intro wS hSw; (try dsimp only at hSw); go_simp; (try with_reducible rfl))
      simp only [List.set_cons_zero, List.set_cons_succ]
      refine hr_take (i := 14) rfl rfl (by kernel_rfl) (by kernel_rfl) (by kernel_rfl) (by kernel_rfl) (fun _ _ _ h => h) (v := ?_) ?_ (by assumption) ?_
      rotate_left
      focus (intro wS hSw; (try dsimp only at hSw); go_simp; (try with_reducible rfl))
      simp only [List.set_cons_zero, List.set_cons_succ]
      refine hr_take (i := 15) rfl rfl (by kernel_rfl) (by kernel_rfl) (by kernel_rfl) (by kernel_rfl) (fun _ _ _ h => h) (v := ?_) ?_ (by assumption) ?_
      rotate_left
      focus (intro wS hSw; (try dsimp only at hSw); go_simp; (try with_reducible rfl))
      simp only [List.set_cons_zero, List.set_cons_succ]
      refine hr_take (i := 16) rfl rfl (by kernel_rfl) (by kernel_rfl) (by kernel_rfl) (by kernel_rfl) (fun _ _ _ h => h) (v := ?_) ?_ (by assumption) ?_
      rotate_left
      focus (intro wS hSw; (try dsimp only at hSw); go_simp; (try with_reducible rfl))
      simp only [List.set_cons_zero, List.set_cons_succ]
      refine hr_op (i := 17) rfl rfl (by kernel_rfl) (by kernel_rfl) (fun K hK => ?_)
      go_simp
      (try go_wp2_with fail)
      refine hK.out _ _ ?_ (fun hHeld => ?_)
      · ((try dsimp only); go_simp)
      clear hK K
      simp only [List.set_cons_zero, List.set_cons_succ]
      refine hr_op (i := 18) rfl rfl (by kernel_rfl) (by kernel_rfl) (fun K hK => ?_)
      (refine wp_append_X encL (.tmp 11) (.tmp 28) _ rfl w.heap.size 42 40 i3 _ rfl HI3.out HZ3.out HS3.out HB3.out rfl _ _ (L.take k) [le] (by rfl) (by rfl) (OwnX.drew (HV.out.alloc _)) (rdX_one_drew (E := encL) _ _ le _ _ rfl rfl) HM63.out HM47.out (Nat.le_trans hws (by simp)) ?_; intro v6 w6 hv6 hgb6 hor6; replace hgb6 : World.grownBy _ w6 u3.ownBlock := hgb6; obtain ⟨p0, p1, p2⟩ := HP.out w6 (gb_to_below (gb_alloc_drew hgb6) (fun g hg => (HV.out.lt hg).1) hws))
      refine hK.out _ _ ?_ (fun hHeld => ?_)
      · ((try dsimp only); go_simp)
      clear hK K
      simp only [List.set_cons_zero, List.set_cons_succ]
      refine hr_take (i := 19) rfl rfl (by kernel_rfl) (by kernel_rfl) (by kernel_rfl) (by kernel_rfl) (fun _ _ _ h => h) (v := ?_) ?_ (by assumption) ?_
      rotate_left
      focus (intro wS hSw; (try dsimp only at hSw); go_simp; (try with_reducible rfl))
      simp only [List.set_cons_zero, List.set_cons_succ]
      refine hr_done (by kernel_rfl) ?_
      go_wp2_with fail
      go_roundw
      case rel => exact ⟨k + 1, by omega, by go_num, by show OwnX _ _ _ _ _ _; rw [HTK.out]; exact hv6, hbw.trans (gb_to_below (gb_alloc_drew hgb6) (fun g hg => (HV.out.lt hg).1) hws)⟩
      case measure => simp [intOf]; omega
    · obtain rfl : n = k := by omega
      have HLT : Hid (L.take n = L) := List.take_of_length_le (by rw [HN.out]; exact Nat.le_refl _)
      go_wp2_with fail
      go_ret
      exact ⟨_, rfl, hbw, by have h := HV.out.rd; rw [HLT.out] at h; exact h, fun l hl => (HX.out.below hbw).2 l hl⟩
end Go.Proofs.Ytlgnchhhadnjbaa.Row
