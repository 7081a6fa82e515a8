/- lapwinglaw11.clean; lapwingref11.Same where lines are the same. -/
import Derived.Test.YtlgnchhhadnjbaaRflO
namespace Go.Proofs.Ytlgnchhhadnjbaa.Row
open Go.RowKit
def cleanB (L : List Ln) : Bool := decide (∀ l ∈ L, sanL l.ls = true ∧ ∀ c ∈ l.cs, c ≠ blank 0 0 0)
theorem clean_iff {L : List Ln} : cleanB L = true ↔ ∀ l ∈ L, sanL l.ls = true ∧ ∀ c ∈ l.cs, c ≠ blank 0 0 0 := by unfold cleanB; rw [decide_eq_true_eq]
set_option maxRecDepth 100000 in
set_option maxHeartbeats 4000000 in
theorem clean_c (x : Value) (L : List Ln) (w : World) (hx : RdL w x L) (hl : L.length ≤ 100000) : Calls Try.prog 20 #[x] w fun e w' => e = .returned (.bool (cleanB L)) ∧ Grew w w' := by
  obtain ⟨A, c, rfl, hc⟩ := hx.1.len
  have HI := Lib.hid (@clean_iff L)
  have HN : Hid (¬ cleanB L = true → cleanB L = false) := fun h => by simpa using h
  generalize cleanB L = S at *
  generalize hn : L.length = n at hl hc hx ⊢
  have HL := Lib.hid hn
  clear hn
  go_enter Try.func20, Try.ntmps20
  go_wp2_with fail
  go_loopw [3] (fun i wz => ∃ k : Nat, k ≤ n ∧ i = .int .i64 k ∧ Hid (∀ j (h : j < L.length), j < k → sanL L[j].ls = true ∧ ∀ c ∈ L[j].cs, c ≠ blank 0 0 0) ∧ Below w.heap.size w wz) (fun i _ => n - (intOf i).toNat)
  case atStart => exact ⟨0, Nat.zero_le _, rfl, fun j _ hj => absurd hj (by omega), Below.refl _ _⟩
  case round =>
    obtain ⟨k, hk, rfl, HALL, hbw⟩ := hrel
    have hws := hbw.size
    by_cases hlt : k < n
    · have hkl : k < L.length := by rw [HL.out]; exact hlt
      obtain ⟨b, o, rfl, hbl, p0, p1, p2⟩ := atL (hx.1.below hbw) hkl
      have hltI : (k : Int) < n := by omega
      have HP : Hid (∀ w6, Below w.heap.size w w6 → w6.cell? ⟨b, o + k * 3, none⟩ = some (.slice L[k].A L[k].cs.length L[k].cap)) := fun w6 hb => by
        obtain ⟨b9, o9, e9, -, h9, -⟩ := atL (hx.1.below hb) hkl
        injection e9 with e9
        injection e9 with e9 e8
        subst e9 e8
        exact h9
      have hb0 : b < w.heap.size := by
        obtain ⟨b9, o9, e9, h9, -⟩ := atL hx.1 hkl
        injection e9 with e9
        injection e9 with e9 e8
        subst e9
        exact h9
      have HOK : Hid (L[k].ok wr) := (hx.2 _ (List.getElem_mem hkl)).below hbw
      have HOK0 : Hid (L[k].ok w) := hx.2 _ (List.getElem_mem hkl)
      have HM : Hid (L[k] ∈ L) := List.getElem_mem hkl
      have HE : Hid ((sanL L[k].ls = true ∧ ∀ c ∈ L[k].cs, c ≠ blank 0 0 0) → ∀ j (h : j < L.length), j < k + 1 → sanL L[j].ls = true ∧ ∀ c ∈ L[j].cs, c ≠ blank 0 0 0) := fun hs j h hj => by
        by_cases e : j = k
        · subst e; exact hs
        · exact HALL.out j h (by omega)
      generalize L[k] = le at *
      obtain ⟨q, hq⟩ : ∃ q, le.cs.length = q := ⟨_, rfl⟩
      rw [hq] at p0 HP
      have HQ := Lib.hid hq
      have HQ7 : Hid (q ≤ 10000000) := by show _ ≤ _; rw [← hq]; exact HOK.out.len
      clear hq
      cases hsl : sanL ⟨le.cs, le.dir, le.ex⟩
      · have HSL := Lib.hid hsl
        clear hsl
        go_wp2_with (go_at_call 17; (with_reducible refine (saneL11_c le.A q le.cap le.cs le.dir le.ex _ (by rw [← HQ.out]; exact HOK.out.rdB (by (repeat (first | (with_reducible exact Below.refl _ _) | (with_reducible assumption) | (with_reducible refine Below.grow ?_ ?_ _ _) | (with_reducible refine Below.drewN' ?_ _) | (with_reducible refine Below.drew ?_) | (with_reducible refine Below.alloc ?_ ?_ _) | (with_reducible refine Below.setCell ?_ ?_ _) | omega | (focus (simp; done)) | (focus (simp; omega)))))) HQ.out.symm HQ7.out).mono ?_); rw [HSL.out]; rintro e w2 ⟨rfl, X2, d2, rfl⟩)
        go_ret
        refine ⟨ebool (HN.out fun h => ?_).symm, (Below.toGrow (by repeat (first | (with_reducible exact Below.refl _ _) | (with_reducible assumption) | (with_reducible refine Below.grow ?_ ?_ _ _) | (with_reducible refine Below.drewN' ?_ _) | (with_reducible refine Below.drew ?_) | (with_reducible refine Below.alloc ?_ ?_ _) | (with_reducible refine Below.setCell ?_ ?_ _) | omega | (focus (simp; done)) | (focus (simp; omega)))))⟩
        have h2 : sanL ⟨le.cs, le.dir, le.ex⟩ = true := (HI.out.1 h le HM.out).1
        rw [HSL.out] at h2
        cases h2
      · have HSL := Lib.hid hsl
        have hq7 := HQ7.out
        have HBW := Lib.hid hbw
        obtain ⟨wo, rfl⟩ : ∃ wo, wo = wr := ⟨_, rfl⟩
        clear hsl
        go_upto_region 6 with (go_at_call 17; (with_reducible refine (saneL11_c le.A q le.cap le.cs le.dir le.ex _ (by rw [← HQ.out]; exact HOK.out.rdB (by (repeat (first | (with_reducible exact Below.refl _ _) | (with_reducible assumption) | (with_reducible refine Below.grow ?_ ?_ _ _) | (with_reducible refine Below.drewN' ?_ _) | (with_reducible refine Below.drew ?_) | (with_reducible refine Below.alloc ?_ ?_ _) | (with_reducible refine Below.setCell ?_ ?_ _) | omega | (focus (simp; done)) | (focus (simp; omega)))))) HQ.out.symm HQ7.out).mono ?_); rw [HSL.out]; rintro e w2 ⟨rfl, X2, d2, rfl⟩)
        clear p0 p1 p2
        go_wp2_with fail
        go_loopw [4] (fun i wz => ∃ j : Nat, j ≤ q ∧ i = .int .i64 j ∧ Hid (∀ c ∈ le.cs.take j, c ≠ blank 0 0 0) ∧ Below w.heap.size w wz) (fun i _ => q - (intOf i).toNat)
        case atStart => exact ⟨0, Nat.zero_le _, rfl, (fun c hc => by cases hc), by have := HBW.out; have := HBW.out.size; (repeat (first | (with_reducible exact Below.refl _ _) | (with_reducible assumption) | (with_reducible refine Below.grow ?_ ?_ _ _) | (with_reducible refine Below.drewN' ?_ _) | (with_reducible refine Below.drew ?_) | (with_reducible refine Below.alloc ?_ ?_ _) | (with_reducible refine Below.setCell ?_ ?_ _) | omega | (focus (simp; done)) | (focus (simp; omega))))⟩
        case round =>
          obtain ⟨j, hj, rfl, HC, hbz⟩ := hrel
          have hbzs := hbz.size
          have p0 := HP.out _ hbz
          have hblz : b < wr.heap.size := by omega
          by_cases hjq : j < q
          · have hjI : (j : Int) < q := by omega
            obtain ⟨ce, hce⟩ : ∃ ce, le.cs[j]? = some ce := ⟨_, List.getElem?_eq_getElem (by rw [HQ.out]; exact hjq)⟩
            have HTJ : Hid (le.cs.take (j + 1) = le.cs.take j ++ [ce]) := by show _ = _; rw [List.take_add_one, hce]; rfl
            have HCM : Hid (ce ∈ le.cs) := List.mem_of_getElem? hce
            obtain ⟨bc, oc, hA, hbcl, hat2⟩ := rdC_at ((HOK0.out.below hbz).rd) hce
            rw [hA] at p0
            obtain ⟨c0, c1, c2, c3, c4, c5, c6⟩ := hat2
            have he : ∀ w, (binOp .eql 59 (.agg #[.int .i64 ce.r, .int .i64 ce.m0, .int .i64 ce.m1, .int .i64 ce.w, .int .i64 ce.fg, .int .i64 ce.bg, .int .i64 ce.fl]) (.agg #[.int .i64 0, .int .i64 0, .int .i64 0, .int .i64 1, .int .i64 0, .int .i64 0, .int .i64 0])).run Try.prog w = .ok (.bool (decide (ce = blank 0 0 0))) w := eql_cell ce (blank 0 0 0)
            obtain ⟨tb, htb⟩ : ∃ tb, decide (ce = blank 0 0 0) = tb := ⟨_, rfl⟩
            rw [htb] at he
            have HTB := Lib.hid htb
            clear htb hA hce
            cases tb
            · go_upto_region 9 with fail
              refine hr_start (S := (fun w' => w'.cell? ⟨b, o + k * 3, none⟩ = some (.slice (some ⟨bc, oc, none⟩) q le.cap) ∧ w'.cell? ⟨bc, oc + j * 7, none⟩ = some (.int .i64 ce.r) ∧ w'.cell? ⟨bc, oc + j * 7 + 1, none⟩ = some (.int .i64 ce.m0) ∧ w'.cell? ⟨bc, oc + j * 7 + 2, none⟩ = some (.int .i64 ce.m1) ∧ w'.cell? ⟨bc, oc + j * 7 + 3, none⟩ = some (.int .i64 ce.w) ∧ w'.cell? ⟨bc, oc + j * 7 + 4, none⟩ = some (.int .i64 ce.fg) ∧ w'.cell? ⟨bc, oc + j * 7 + 5, none⟩ = some (.int .i64 ce.bg) ∧ w'.cell? ⟨bc, oc + j * 7 + 6, none⟩ = some (.int .i64 ce.fl))) (by kernel_rfl) rfl ?_ (fun hHeld => ?_)
              · ((try dsimp only); go_simp)
              refine hr_take (i := 0) rfl rfl (by kernel_rfl) (by kernel_rfl) (by kernel_rfl) (by kernel_rfl) (fun _ _ _ h => h) (v := ?_) ?_ (by assumption) ?_
              rotate_left
              focus (intro wS hSw; (try dsimp only at hSw); go_simp; (try with_reducible rfl))
              simp only [List.set_cons_zero, List.set_cons_succ]
              refine hr_take (i := 1) rfl rfl (by kernel_rfl) (by kernel_rfl) (by kernel_rfl) (by kernel_rfl) (fun _ _ _ h => h) (v := ?_) ?_ (by assumption) ?_
              rotate_left
              focus (intro wS hSw; (try dsimp only at hSw); go_simp; (try with_reducible rfl))
              simp only [List.set_cons_zero, List.set_cons_succ]
              refine hr_take (i := 2) rfl rfl (by kernel_rfl) (by kernel_rfl) (by kernel_rfl) (by kernel_rfl) (fun _ _ _ h => h) (v := ?_) ?_ (by assumption) ?_
              rotate_left
              focus (intro wS hSw; (try dsimp only at hSw); go_simp; (try with_reducible rfl))
              simp only [List.set_cons_zero, List.set_cons_succ]
              refine hr_take (i := 3) rfl rfl (by kernel_rfl) (by kernel_rfl) (by kernel_rfl) (by kernel_rfl) (fun _ _ _ h => h) (v := ?_) ?_ (by assumption) ?_
              rotate_left
              focus (intro wS hSw; (try dsimp only at hSw); go_simp; (try with_reducible rfl))
              simp only [List.set_cons_zero, List.set_cons_succ]
              refine hr_take (i := 4) rfl rfl (by kernel_rfl) (by kernel_rfl) (by kernel_rfl) (by kernel_rfl) (fun _ _ _ h => h) (v := ?_) ?_ (by assumption) ?_
              rotate_left
              focus (intro wS hSw; (try dsimp only at hSw); go_simp; (try with_reducible rfl))
              simp only [List.set_cons_zero, List.set_cons_succ]
              refine hr_take (i := 5) rfl rfl (by kernel_rfl) (by kernel_rfl) (by kernel_rfl) (by kernel_rfl) (fun _ _ _ h => h) (v := ?_) ?_ (by assumption) ?_
              rotate_left
              focus (intro wS hSw; (try dsimp only at hSw); go_simp; (try with_reducible rfl))
              simp only [List.set_cons_zero, List.set_cons_succ]
              refine hr_take (i := 6) rfl rfl (by kernel_rfl) (by kernel_rfl) (by kernel_rfl) (by kernel_rfl) (fun _ _ _ h => h) (v := ?_) ?_ (by assumption) ?_
              rotate_left
              focus (intro wS hSw; (try dsimp only at hSw); go_simp; (try with_reducible rfl))
              simp only [List.set_cons_zero, List.set_cons_succ]
              refine hr_take (i := 7) rfl rfl (by kernel_rfl) (by kernel_rfl) (by kernel_rfl) (by kernel_rfl) (fun _ _ _ h => h) (v := ?_) ?_ (by assumption) ?_
              rotate_left
              focus (intro wS hSw; (try dsimp only at hSw); go_simp; (try with_reducible rfl))
              simp only [List.set_cons_zero, List.set_cons_succ]
              refine hr_take (i := 8) rfl rfl (by kernel_rfl) (by kernel_rfl) (by kernel_rfl) (by kernel_rfl) (fun _ _ _ h => h) (v := ?_) ?_ (by assumption) ?_
              rotate_left
              focus (intro wS hSw; (try dsimp only at hSw); go_simp; (try with_reducible rfl))
              simp only [List.set_cons_zero, List.set_cons_succ]
              refine hr_op (i := 9) rfl rfl (by kernel_rfl) (by kernel_rfl) (fun K hK => ?_)
              go_simp
              ((with_reducible refine (blank8_c 0 0 0 _).mono ?_); rintro e w5 ⟨rfl, X5, d5, rfl⟩)
              (try go_wp2_with fail)
              refine hK.out _ _ ?_ (fun hHeld => ?_)
              · ((try dsimp only); go_simp)
              clear hK K
              simp only [List.set_cons_zero, List.set_cons_succ]
              refine hr_take (i := 10) rfl rfl (by kernel_rfl) (by kernel_rfl) (by kernel_rfl) (by kernel_rfl) (fun _ _ _ h => h) (v := ?_) ?_ (by assumption) ?_
              rotate_left
              focus (intro wS hSw; (try dsimp only at hSw); go_simp; (try with_reducible rfl))
              simp only [List.set_cons_zero, List.set_cons_succ]
              refine hr_done (by kernel_rfl) ?_
              go_wp2_with fail
              go_roundw
              case rel =>
                refine ⟨j + 1, by omega, by go_num, fun c hc => ?_, by (repeat (first | (with_reducible exact Below.refl _ _) | (with_reducible assumption) | (with_reducible refine Below.grow ?_ ?_ _ _) | (with_reducible refine Below.drewN' ?_ _) | (with_reducible refine Below.drew ?_) | (with_reducible refine Below.alloc ?_ ?_ _) | (with_reducible refine Below.setCell ?_ ?_ _) | omega | (focus (simp; done)) | (focus (simp; omega))))⟩
                rw [HTJ.out] at hc
                rcases List.mem_append.1 hc with h | h
                · exact HC.out c h
                · obtain rfl := List.mem_singleton.1 h
                  exact of_decide_eq_false HTB.out
              case measure => simp [intOf]; omega
            · go_upto_region 9 with fail
              refine hr_start (S := (fun w' => w'.cell? ⟨b, o + k * 3, none⟩ = some (.slice (some ⟨bc, oc, none⟩) q le.cap) ∧ w'.cell? ⟨bc, oc + j * 7, none⟩ = some (.int .i64 ce.r) ∧ w'.cell? ⟨bc, oc + j * 7 + 1, none⟩ = some (.int .i64 ce.m0) ∧ w'.cell? ⟨bc, oc + j * 7 + 2, none⟩ = some (.int .i64 ce.m1) ∧ w'.cell? ⟨bc, oc + j * 7 + 3, none⟩ = some (.int .i64 ce.w) ∧ w'.cell? ⟨bc, oc + j * 7 + 4, none⟩ = some (.int .i64 ce.fg) ∧ w'.cell? ⟨bc, oc + j * 7 + 5, none⟩ = some (.int .i64 ce.bg) ∧ w'.cell? ⟨bc, oc + j * 7 + 6, none⟩ = some (.int .i64 ce.fl))) (by kernel_rfl) rfl ?_ (fun hHeld => ?_)
              · ((try dsimp only); go_simp)
              refine hr_take (i := 0) rfl rfl (by kernel_rfl) (by kernel_rfl) (by kernel_rfl) (by kernel_rfl) (fun _ _ _ h => h) (v := ?_) ?_ (by assumption) ?_
              rotate_left
              focus (intro wS hSw; (try dsimp only at hSw); go_simp; (try with_reducible rfl))
              simp only [List.set_cons_zero, List.set_cons_succ]
              refine hr_take (i := 1) rfl rfl (by kernel_rfl) (by kernel_rfl) (by kernel_rfl) (by kernel_rfl) (fun _ _ _ h => h) (v := ?_) ?_ (by assumption) ?_
              rotate_left
              focus (intro wS hSw; (try dsimp only at hSw); go_simp; (try with_reducible rfl))
              simp only [List.set_cons_zero, List.set_cons_succ]
              refine hr_take (i := 2) rfl rfl (by kernel_rfl) (by kernel_rfl) (by kernel_rfl) (by kernel_rfl) (fun _ _ _ h => h) (v := ?_) ?_ (by assumption) ?_
              rotate_left
              focus (intro wS hSw; (try dsimp only at hSw); go_simp; (try with_reducible rfl))
              simp only [List.set_cons_zero, List.set_cons_succ]
              refine hr_take (i := 3) rfl rfl (by kernel_rfl) (by kernel_rfl) (by kernel_rfl) (by kernel_rfl) (fun _ _ _ h => h) (v := ?_) ?_ (by assumption) ?_
              rotate_left
              focus (intro wS hSw; (try dsimp only at hSw); go_simp; (try with_reducible rfl))
              simp only [List.set_cons_zero, List.set_cons_succ]
              refine hr_take (i := 4) rfl rfl (by kernel_rfl) (by kernel_rfl) (by kernel_rfl) (by kernel_rfl) (fun _ _ _ h => h) (v := ?_) ?_ (by assumption) ?_
              rotate_left
              focus (intro wS hSw; (try dsimp only at hSw); go_simp; (try with_reducible rfl))
              simp only [List.set_cons_zero, List.set_cons_succ]
              refine hr_take (i := 5) rfl rfl (by kernel_rfl) (by kernel_rfl) (by kernel_rfl) (by kernel_rfl) (fun _ _ _ h => h) (v := ?_) ?_ (by assumption) ?_
              rotate_left
              focus (intro wS hSw; (try dsimp only at hSw); go_simp; (try with_reducible rfl))
              simp only [List.set_cons_zero, List.set_cons_succ]
              refine hr_take (i := 6) rfl rfl (by kernel_rfl) (by kernel_rfl) (by kernel_rfl) (by kernel_rfl) (fun _ _ _ h => h) (v := ?_) ?_ (by assumption) ?_
              rotate_left
              focus (intro wS hSw; (try dsimp only at hSw); go_simp; (try with_reducible rfl))
              simp only [List.set_cons_zero, List.set_cons_succ]
              refine hr_take (i := 7) rfl rfl (by kernel_rfl) (by kernel_rfl) (by kernel_rfl) (by kernel_rfl) (fun _ _ _ h => h) (v := ?_) ?_ (by assumption) ?_
              rotate_left
              focus (intro wS hSw; (try dsimp only at hSw); go_simp; (try with_reducible rfl))
              simp only [List.set_cons_zero, List.set_cons_succ]
              refine hr_take (i := 8) rfl rfl (by kernel_rfl) (by kernel_rfl) (by kernel_rfl) (by kernel_rfl) (fun _ _ _ h => h) (v := ?_) ?_ (by assumption) ?_
              rotate_left
              focus (intro wS hSw; (try dsimp only at hSw); go_simp; (try with_reducible rfl))
              simp only [List.set_cons_zero, List.set_cons_succ]
              refine hr_op (i := 9) rfl rfl (by kernel_rfl) (by kernel_rfl) (fun K hK => ?_)
              go_simp
              ((with_reducible refine (blank8_c 0 0 0 _).mono ?_); rintro e w5 ⟨rfl, X5, d5, rfl⟩)
              (try go_wp2_with fail)
              refine hK.out _ _ ?_ (fun hHeld => ?_)
              · ((try dsimp only); go_simp)
              clear hK K
              simp only [List.set_cons_zero, List.set_cons_succ]
              refine hr_take (i := 10) rfl rfl (by kernel_rfl) (by kernel_rfl) (by kernel_rfl) (by kernel_rfl) (fun _ _ _ h => h) (v := ?_) ?_ (by assumption) ?_
              rotate_left
              focus (intro wS hSw; (try dsimp only at hSw); go_simp; (try with_reducible rfl))
              simp only [List.set_cons_zero, List.set_cons_succ]
              refine hr_done (by kernel_rfl) ?_
              go_wp2_with fail
              go_ret
              exact ⟨ebool (HN.out fun h => (HI.out.1 h le HM.out).2 ce HCM.out (of_decide_eq_true HTB.out)).symm, (Below.toGrow (by repeat (first | (with_reducible exact Below.refl _ _) | (with_reducible assumption) | (with_reducible refine Below.grow ?_ ?_ _ _) | (with_reducible refine Below.drewN' ?_ _) | (with_reducible refine Below.drew ?_) | (with_reducible refine Below.alloc ?_ ?_ _) | (with_reducible refine Below.setCell ?_ ?_ _) | omega | (focus (simp; done)) | (focus (simp; omega)))))⟩
          · obtain rfl : q = j := by omega
            have HLL : Hid (le.cs.take q = le.cs) := List.take_of_length_le (by rw [HQ.out]; exact Nat.le_refl _)
            go_wp2_with fail
            go_roundw
            case rel => exact ⟨k + 1, by omega, by go_num, HE.out ⟨HSL.out, fun c hc => HC.out c (by rw [HLL.out]; exact hc)⟩, hbz⟩
            case measure => simp [intOf]; omega
    · obtain rfl : n = k := by omega
      go_wp2_with fail
      go_ret
      refine ⟨ebool (HI.out.2 fun r hr => ?_).symm, Below.toGrow hbw⟩
      obtain ⟨j, hj, rfl⟩ := List.getElem_of_mem hr
      exact HALL.out j hj (by rw [← HL.out]; exact hj)
theorem rdX_fn {w : World} {A : Option Addr} {n c : Nat} {L : List Cl} (h : RdX encC w (.slice A n c) L) (hn : n = L.length) : Rd w A n (padF L) := rd_ofX h hn (fun i hi => by
  unfold padF
  rw [List.getElem?_eq_getElem (by omega)]
  rfl)
set_option maxRecDepth 100000 in
set_option maxHeartbeats 4000000 in
theorem same11_yes (x y : Value) (L M : List Ln) (w : World) (hx : RdL w x L) (hy : RdL w y M) (hl : L.length ≤ 100000) (h : L.map Ln.ls = M.map Ln.ls) : Calls Try.prog 24 #[x, y] w fun e w' => e = .returned (.bool true) ∧ Grew w w' := by
  obtain ⟨A, c, rfl, hc⟩ := hx.1.len
  obtain ⟨A', c', rfl, hc'⟩ := hy.1.len
  have hlen : M.length = L.length := by have := congrArg List.length h; simpa using this.symm
  have HK : Hid (∀ (k : Nat) (h1 : k < L.length) (h2 : k < M.length), L[k].ls = M[k].ls) := fun k h1 h2 => by
    have := congrArg (·[k]?) h
    simp only [List.getElem?_map, List.getElem?_eq_getElem h1, List.getElem?_eq_getElem h2, Option.map_some] at this
    injection this
  rw [hlen] at hy hc' ⊢
  generalize hn : L.length = n at hl hc hx hc' hy hlen ⊢
  have HL := Lib.hid hn
  have HML := Lib.hid hlen
  clear hn hlen h
  go_enter Try.func24, Try.ntmps24
  go_wp2_with fail
  go_loopw [5] (fun i wz => ∃ k : Nat, k ≤ n ∧ i = .int .i64 k ∧ Below w.heap.size w wz) (fun i _ => n - (intOf i).toNat)
  case atStart => exact ⟨0, Nat.zero_le _, rfl, Below.refl _ _⟩
  case round =>
    obtain ⟨k, hk, rfl, hbw⟩ := hrel
    have hws := hbw.size
    by_cases hlt : k < n
    · have hkl : k < L.length := by rw [HL.out]; exact hlt
      have hkm : k < M.length := by rw [HML.out]; exact hlt
      obtain ⟨b1, o1, rfl, hb1, p0, p1, p2⟩ := atL (hx.1.below hbw) hkl
      obtain ⟨b2, o2, rfl, hb2, q0, q1, q2⟩ := atL (hy.1.below hbw) hkm
      have hltI : (k : Int) < n := by omega
      have hls := HK.out k hkl hkm
      have hok1 := (hx.2 _ (List.getElem_mem hkl)).below hbw
      have hok2 := (hy.2 _ (List.getElem_mem hkm)).below hbw
      generalize L[k] = le at *
      generalize M[k] = me at *
      have hcs : me.cs = le.cs := (congrArg Ls.cs hls).symm
      have hdir : me.dir = le.dir := (congrArg Ls.dir hls).symm
      have hex : me.ex = le.ex := (congrArg Ls.ex hls).symm
      rw [hcs] at q0
      rw [hdir] at q1
      rw [hex] at q2
      obtain ⟨fl, hfl⟩ : ∃ fl, padF le.cs = fl := ⟨_, rfl⟩
      have hr1 := rdX_fn hok1.rd rfl
      have hr2 := hok2.rd
      rw [hcs] at hr2
      replace hr2 := rdX_fn hr2 rfl
      rw [hfl] at hr1 hr2
      obtain ⟨q, hq⟩ : ∃ q, le.cs.length = q := ⟨_, rfl⟩
      have hq7 : q ≤ 10000000 := by rw [← hq]; exact hok1.len
      rw [hq] at p0 q0 hr1 hr2
      have HR1 := Lib.hid hr1
      have HR2 := Lib.hid hr2
      have HQ6 : Hid (q ≤ 9223372036854775806) := by show _ ≤ _; omega
      have HEQ : Hid (sameB q fl q fl = true) := by show _ = _; unfold sameB; simp
      have hbd : (le.dir != le.dir) = false := by simp
      have hbe : (le.ex != le.ex) = false := by simp
      clear hls hok1 hok2 hcs hdir hex hfl hq hr1 hr2
      go_upto_region 6 with fail
      refine hr_start (S := (fun w' => (w'.cell? ⟨b1, o1 + k * 3, none⟩ = some (.slice le.A q le.cap) ∧ w'.cell? ⟨b1, o1 + k * 3 + 1, none⟩ = some (.int .i64 le.dir) ∧ w'.cell? ⟨b1, o1 + k * 3 + 2, none⟩ = some (.bool le.ex)) ∧ w'.cell? ⟨b2, o2 + k * 3, none⟩ = some (.slice me.A q me.cap) ∧ w'.cell? ⟨b2, o2 + k * 3 + 1, none⟩ = some (.int .i64 le.dir) ∧ w'.cell? ⟨b2, o2 + k * 3 + 2, none⟩ = some (.bool le.ex))) (by kernel_rfl) rfl ?_ (fun hHeld => ?_)
      · ((try dsimp only); go_simp)
      refine hr_take (i := 0) rfl rfl (by kernel_rfl) (by kernel_rfl) (by kernel_rfl) (by kernel_rfl) (fun _ _ _ h => h) (v := ?_) ?_ (by assumption) ?_
      rotate_left
      focus (intro wS hSw; (try dsimp only at hSw); go_simp; (try with_reducible rfl))
      simp only [List.set_cons_zero, List.set_cons_succ]
      refine hr_take (i := 1) rfl rfl (by kernel_rfl) (by kernel_rfl) (by kernel_rfl) (by kernel_rfl) (fun _ _ _ h => h) (v := ?_) ?_ (by assumption) ?_
      rotate_left
      focus (intro wS hSw; (try dsimp only at hSw); go_simp; (try with_reducible rfl))
      simp only [List.set_cons_zero, List.set_cons_succ]
      refine hr_take (i := 2) rfl rfl (by kernel_rfl) (by kernel_rfl) (by kernel_rfl) (by kernel_rfl) (fun _ _ _ h => h) (v := ?_) ?_ (by assumption) ?_
      rotate_left
      focus (intro wS hSw; (try dsimp only at hSw); go_simp; (try with_reducible rfl))
      simp only [List.set_cons_zero, List.set_cons_succ]
      refine hr_take (i := 3) rfl rfl (by kernel_rfl) (by kernel_rfl) (by kernel_rfl) (by kernel_rfl) (fun _ _ _ h => h) (v := ?_) ?_ (by assumption) ?_
      rotate_left
      focus (intro wS hSw; (try dsimp only at hSw); go_simp; (try with_reducible rfl))
      simp only [List.set_cons_zero, List.set_cons_succ]
      refine hr_take (i := 4) rfl rfl (by kernel_rfl) (by kernel_rfl) (by kernel_rfl) (by kernel_rfl) (fun _ _ _ h => h) (v := ?_) ?_ (by assumption) ?_
      rotate_left
      focus (intro wS hSw; (try dsimp only at hSw); go_simp; (try with_reducible rfl))
      simp only [List.set_cons_zero, List.set_cons_succ]
      refine hr_take (i := 5) rfl rfl (by kernel_rfl) (by kernel_rfl) (by kernel_rfl) (by kernel_rfl) (fun _ _ _ h => h) (v := ?_) ?_ (by assumption) ?_
      rotate_left
      focus (intro wS hSw; (try dsimp only at hSw); go_simp; (try with_reducible rfl))
      simp only [List.set_cons_zero, List.set_cons_succ]
      refine hr_take (i := 6) rfl rfl (by kernel_rfl) (by kernel_rfl) (by kernel_rfl) (by kernel_rfl) (fun _ _ _ h => h) (v := ?_) ?_ (by assumption) ?_
      rotate_left
      focus (intro wS hSw; (try dsimp only at hSw); go_simp; (try with_reducible rfl))
      simp only [List.set_cons_zero, List.set_cons_succ]
      refine hr_take (i := 7) rfl rfl (by kernel_rfl) (by kernel_rfl) (by kernel_rfl) (by kernel_rfl) (fun _ _ _ h => h) (v := ?_) ?_ (by assumption) ?_
      rotate_left
      focus (intro wS hSw; (try dsimp only at hSw); go_simp; (try with_reducible rfl))
      simp only [List.set_cons_zero, List.set_cons_succ]
      refine hr_take (i := 8) rfl rfl (by kernel_rfl) (by kernel_rfl) (by kernel_rfl) (by kernel_rfl) (fun _ _ _ h => h) (v := ?_) ?_ (by assumption) ?_
      rotate_left
      focus (intro wS hSw; (try dsimp only at hSw); go_simp; (try with_reducible rfl))
      simp only [List.set_cons_zero, List.set_cons_succ]
      refine hr_take (i := 9) rfl rfl (by kernel_rfl) (by kernel_rfl) (by kernel_rfl) (by kernel_rfl) (fun _ _ _ h => h) (v := ?_) ?_ (by assumption) ?_
      rotate_left
      focus (intro wS hSw; (try dsimp only at hSw); go_simp; (try with_reducible rfl))
      simp only [List.set_cons_zero, List.set_cons_succ]
      refine hr_op (i := 10) rfl rfl (by kernel_rfl) (by kernel_rfl) (fun K hK => ?_)
      go_simp
      ((with_reducible refine (eqCells_c le.A q le.cap fl me.A q me.cap fl _ (HR1.out.below (by (repeat (first | (with_reducible exact Below.refl _ _) | (with_reducible assumption) | (with_reducible refine Below.grow ?_ ?_ _ _) | (with_reducible refine Below.drewN' ?_ _) | (with_reducible refine Below.drew ?_) | (with_reducible refine Below.alloc ?_ ?_ _) | (with_reducible refine Below.setCell ?_ ?_ _) | omega | (focus (simp; done)) | (focus (simp; omega)))))) (HR2.out.below (by (repeat (first | (with_reducible exact Below.refl _ _) | (with_reducible assumption) | (with_reducible refine Below.grow ?_ ?_ _ _) | (with_reducible refine Below.drewN' ?_ _) | (with_reducible refine Below.drew ?_) | (with_reducible refine Below.alloc ?_ ?_ _) | (with_reducible refine Below.setCell ?_ ?_ _) | omega | (focus (simp; done)) | (focus (simp; omega)))))) HQ6.out HQ6.out).mono ?_); rw [HEQ.out]; rintro e w5 ⟨rfl, d5, rfl⟩)
      (try go_wp2_with fail)
      refine hK.out _ _ ?_ (fun hHeld => ?_)
      · ((try dsimp only); go_simp)
      clear hK K
      simp only [List.set_cons_zero, List.set_cons_succ]
      refine hr_take (i := 11) rfl rfl (by kernel_rfl) (by kernel_rfl) (by kernel_rfl) (by kernel_rfl) (fun _ _ _ h => h) (v := ?_) ?_ (by assumption) ?_
      rotate_left
      focus (intro wS hSw; (try dsimp only at hSw); go_simp; (try with_reducible rfl))
      simp only [List.set_cons_zero, List.set_cons_succ]
      refine hr_take (i := 12) rfl rfl (by kernel_rfl) (by kernel_rfl) (by kernel_rfl) (by kernel_rfl) (fun _ _ _ h => h) (v := ?_) ?_ (by assumption) ?_
      rotate_left
      focus (intro wS hSw; (try dsimp only at hSw); go_simp; (try with_reducible rfl))
      simp only [List.set_cons_zero, List.set_cons_succ]
      refine hr_take (i := 13) rfl rfl (by kernel_rfl) (by kernel_rfl) (by kernel_rfl) (by kernel_rfl) (fun _ _ _ h => h) (v := ?_) ?_ (by assumption) ?_
      rotate_left
      focus (intro wS hSw; (try dsimp only at hSw); go_simp; (try with_reducible rfl))
      simp only [List.set_cons_zero, List.set_cons_succ]
      refine hr_take (i := 14) rfl rfl (by kernel_rfl) (by kernel_rfl) (by kernel_rfl) (by kernel_rfl) (fun _ _ _ h => h) (v := ?_) ?_ (by assumption) ?_
      rotate_left
      focus (intro wS hSw; (try dsimp only at hSw); go_simp; (try with_reducible rfl))
      simp only [List.set_cons_zero, List.set_cons_succ]
      refine hr_take (i := 15) rfl rfl (by kernel_rfl) (by kernel_rfl) (by kernel_rfl) (by kernel_rfl) (fun _ _ _ h => h) (v := ?_) ?_ (by assumption) ?_
      rotate_left
      focus (intro wS hSw; (try dsimp only at hSw); go_simp; (try with_reducible rfl))
      simp only [List.set_cons_zero, List.set_cons_succ]
      refine hr_take (i := 16) rfl rfl (by kernel_rfl) (by kernel_rfl) (by kernel_rfl) (by kernel_rfl) (fun _ _ _ h => h) (v := ?_) ?_ (by assumption) ?_
      rotate_left
      focus (intro wS hSw; (try dsimp only at hSw); go_simp; (try with_reducible rfl))
      simp only [List.set_cons_zero, List.set_cons_succ]
      refine hr_take (i := 17) rfl rfl (by kernel_rfl) (by kernel_rfl) (by kernel_rfl) (by kernel_rfl) (fun _ _ _ h => h) (v := ?_) ?_ (by assumption) ?_
      rotate_left
      focus (intro wS hSw; (try dsimp only at hSw); go_simp; (try with_reducible rfl))
      simp only [List.set_cons_zero, List.set_cons_succ]
      refine hr_take (i := 18) rfl rfl (by kernel_rfl) (by kernel_rfl) (by kernel_rfl) (by kernel_rfl) (fun _ _ _ h => h) (v := ?_) ?_ (by assumption) ?_
      rotate_left
      focus (intro wS hSw; (try dsimp only at hSw); go_simp; (try with_reducible rfl))
      simp only [List.set_cons_zero, List.set_cons_succ]
      refine hr_take (i := 19) rfl rfl (by kernel_rfl) (by kernel_rfl) (by kernel_rfl) (by kernel_rfl) (fun _ _ _ h => h) (v := ?_) ?_ (by assumption) ?_
      rotate_left
      focus (intro wS hSw; (try dsimp only at hSw); go_simp; (try with_reducible rfl))
      simp only [List.set_cons_zero, List.set_cons_succ]
      refine hr_take (i := 20) rfl rfl (by kernel_rfl) (by kernel_rfl) (by kernel_rfl) (by kernel_rfl) (fun _ _ _ h => h) (v := ?_) ?_ (by assumption) ?_
      rotate_left
      focus (intro wS hSw; (try dsimp only at hSw); go_simp; (try with_reducible rfl))
      simp only [List.set_cons_zero, List.set_cons_succ]
      refine hr_take (i := 21) rfl rfl (by kernel_rfl) (by kernel_rfl) (by kernel_rfl) (by kernel_rfl) (fun _ _ _ h => h) (v := ?_) ?_ (by assumption) ?_
      rotate_left
      focus (intro wS hSw; (try dsimp only at hSw); go_simp; (try with_reducible rfl))
      simp only [List.set_cons_zero, List.set_cons_succ]
      refine hr_take (i := 22) rfl rfl (by kernel_rfl) (by kernel_rfl) (by kernel_rfl) (by kernel_rfl) (fun _ _ _ h => h) (v := ?_) ?_ (by assumption) ?_
      rotate_left
      focus (intro wS hSw; (try dsimp only at hSw); go_simp; (try with_reducible rfl))
      simp only [List.set_cons_zero, List.set_cons_succ]
      refine hr_take (i := 23) rfl rfl (by kernel_rfl) (by kernel_rfl) (by kernel_rfl) (by kernel_rfl) (fun _ _ _ h => h) (v := ?_) ?_ (by assumption) ?_
      rotate_left
      focus (intro wS hSw; (try dsimp only at hSw); go_simp; (try with_reducible rfl))
      simp only [List.set_cons_zero, List.set_cons_succ]
      refine hr_take (i := 24) rfl rfl (by kernel_rfl) (by kernel_rfl) (by kernel_rfl) (by kernel_rfl) (fun _ _ _ h => h) (v := ?_) ?_ (by assumption) ?_
      rotate_left
      focus (intro wS hSw; (try dsimp only at hSw); go_simp; (try with_reducible rfl))
      simp only [List.set_cons_zero, List.set_cons_succ]
      refine hr_take (i := 25) rfl rfl (by kernel_rfl) (by kernel_rfl) (by kernel_rfl) (by kernel_rfl) (fun _ _ _ h => h) (v := ?_) ?_ (by assumption) ?_
      rotate_left
      focus (intro wS hSw; (try dsimp only at hSw); go_simp; (try with_reducible rfl))
      simp only [List.set_cons_zero, List.set_cons_succ]
      refine hr_take (i := 26) rfl rfl (by kernel_rfl) (by kernel_rfl) (by kernel_rfl) (by kernel_rfl) (fun _ _ _ h => h) (v := ?_) ?_ (by assumption) ?_
      rotate_left
      focus (intro wS hSw; (try dsimp only at hSw); go_simp; (try with_reducible rfl))
      simp only [List.set_cons_zero, List.set_cons_succ]
      refine hr_take (i := 27) rfl rfl (by kernel_rfl) (by kernel_rfl) (by kernel_rfl) (by kernel_rfl) (fun _ _ _ h => h) (v := ?_) ?_ (by assumption) ?_
      rotate_left
      focus (intro wS hSw; (try dsimp only at hSw); go_simp; (try with_reducible rfl))
      simp only [List.set_cons_zero, List.set_cons_succ]
      refine hr_take (i := 28) rfl rfl (by kernel_rfl) (by kernel_rfl) (by kernel_rfl) (by kernel_rfl) (fun _ _ _ h => h) (v := ?_) ?_ (by assumption) ?_
      rotate_left
      focus (intro wS hSw; (try dsimp only at hSw); go_simp; (try with_reducible rfl))
      simp only [List.set_cons_zero, List.set_cons_succ]
      refine hr_take (i := 29) rfl rfl (by kernel_rfl) (by kernel_rfl) (by kernel_rfl) (by kernel_rfl) (fun _ _ _ h => h) (v := ?_) ?_ (by assumption) ?_
      rotate_left
      focus (intro wS hSw; (try dsimp only at hSw); go_simp; (try with_reducible rfl))
      simp only [List.set_cons_zero, List.set_cons_succ]
      refine hr_take (i := 30) rfl rfl (by kernel_rfl) (by kernel_rfl) (by kernel_rfl) (by kernel_rfl) (fun _ _ _ h => h) (v := ?_) ?_ (by assumption) ?_
      rotate_left
      focus (intro wS hSw; (try dsimp only at hSw); go_simp; (try with_reducible rfl))
      simp only [List.set_cons_zero, List.set_cons_succ]
      refine hr_take (i := 31) rfl rfl (by kernel_rfl) (by kernel_rfl) (by kernel_rfl) (by kernel_rfl) (fun _ _ _ h => h) (v := ?_) ?_ (by assumption) ?_
      rotate_left
      focus (intro wS hSw; (try dsimp only at hSw); go_simp; (try with_reducible rfl))
      simp only [List.set_cons_zero, List.set_cons_succ]
      refine hr_take (i := 32) rfl rfl (by kernel_rfl) (by kernel_rfl) (by kernel_rfl) (by kernel_rfl) (fun _ _ _ h => h) (v := ?_) ?_ (by assumption) ?_
      rotate_left
      focus (intro wS hSw; (try dsimp only at hSw); go_simp; (try with_reducible rfl))
      simp only [List.set_cons_zero, List.set_cons_succ]
      refine hr_take (i := 33) rfl rfl (by kernel_rfl) (by kernel_rfl) (by kernel_rfl) (by kernel_rfl) (fun _ _ _ h => h) (v := ?_) ?_ (by assumption) ?_
      rotate_left
      focus (intro wS hSw; (try dsimp only at hSw); go_simp; (try with_reducible rfl))
      simp only [List.set_cons_zero, List.set_cons_succ]
      refine hr_take (i := 34) rfl rfl (by kernel_rfl) (by kernel_rfl) (by kernel_rfl) (by kernel_rfl) (fun _ _ _ h => h) (v := ?_) ?_ (by assumption) ?_
      rotate_left
      focus (intro wS hSw; (try dsimp only at hSw); go_simp; (try with_reducible rfl))
      simp only [List.set_cons_zero, List.set_cons_succ]
      refine hr_take (i := 35) rfl rfl (by kernel_rfl) (by kernel_rfl) (by kernel_rfl) (by kernel_rfl) (fun _ _ _ h => h) (v := ?_) ?_ (by assumption) ?_
      rotate_left
      focus (intro wS hSw; (try dsimp only at hSw); go_simp; (try with_reducible rfl))
      simp only [List.set_cons_zero, List.set_cons_succ]
      refine hr_take (i := 36) rfl rfl (by kernel_rfl) (by kernel_rfl) (by kernel_rfl) (by kernel_rfl) (fun _ _ _ h => h) (v := ?_) ?_ (by assumption) ?_
      rotate_left
      focus (intro wS hSw; (try dsimp only at hSw); go_simp; (try with_reducible rfl))
      simp only [List.set_cons_zero, List.set_cons_succ]
      refine hr_take (i := 37) rfl rfl (by kernel_rfl) (by kernel_rfl) (by kernel_rfl) (by kernel_rfl) (fun _ _ _ h => h) (v := ?_) ?_ (by assumption) ?_
      rotate_left
      focus (intro wS hSw; (try dsimp only at hSw); go_simp; (try with_reducible rfl))
      simp only [List.set_cons_zero, List.set_cons_succ]
      refine hr_done (by kernel_rfl) ?_
      go_wp2_with fail
      go_roundw
      case rel => exact ⟨k + 1, by omega, by go_num, by (repeat (first | (with_reducible exact Below.refl _ _) | (with_reducible assumption) | (with_reducible refine Below.grow ?_ ?_ _ _) | (with_reducible refine Below.drewN' ?_ _) | (with_reducible refine Below.drew ?_) | (with_reducible refine Below.alloc ?_ ?_ _) | (with_reducible refine Below.setCell ?_ ?_ _) | omega | (focus (simp; done)) | (focus (simp; omega))))⟩
      case measure => simp [intOf]; omega
    · obtain rfl : n = k := by omega
      go_wp2_with fail
      go_ret
      exact ⟨rfl, Below.toGrow hbw⟩
end Go.Proofs.Ytlgnchhhadnjbaa.Row
