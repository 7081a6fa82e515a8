/- screen.New. -/
import Derived.Test.YtlchffkabpfjpaaGreatScrL
namespace Go.Proofs.YtlchffkabpfjpaaGreat.Scr
open Go.RowKit Go.Proofs.YtlchffkabpfjpaaGreat.Row
attribute [local go_sem ↓] scr_load_pre scr_store_pre
attribute [local go_sem] scr_cell scr_frozen
/-- a load by what the box is known to hold -/
theorem exec_ld {T : TypeId} {v : Value} {g : Nat} {w : World} {ρ : Operand → Value} {o : Oper} {x : Operand} (hl : (loadVar T ⟨g, 0, none⟩).run Tryz.prog w = .ok v w) (ho : o.op = .load T x) (hx : ρ x = .pointer (some ⟨g, 0, none⟩)) : (execOp ρ o).run Tryz.prog w = .ok (.value v) w := by
  obtain ⟨e, op, t', p, a, gd⟩ := o
  dsimp only at ho
  subst ho
  have : (Instr.loadAt T (.pointer (some ⟨g, 0, none⟩))).run Tryz.prog w = .ok v w := hl
  unfold execOp
  dsimp only
  rw [hx, Sem.run_bind, this]
  rfl
def NPost (w : World) (m : Md) (e : Ending) (w' : World) : Prop := ∃ S : Sn, e = .returned (.agg #[.slice S.s.gA S.s.gn S.s.gc, .int .i64 S.s.x, .int .i64 S.s.y, .bool S.s.wr, .bool S.s.og, .int .i64 S.s.fg, .int .i64 S.s.bg, .int .i64 S.s.fl, .int .u8 S.s.g0, .int .u8 S.s.g1, .int .u8 S.s.g2, .int .u8 S.s.g3, .int .i64 S.s.gl, .int .i64 S.s.gr, .int .i64 S.s.on, .int .i64 S.s.H, .int .i64 S.s.W, .int .i64 S.s.T, .int .i64 S.s.B, .slice S.s.tA S.s.tn S.s.tc, .int .i64 S.s.tw, .slice S.s.kA S.s.kn S.s.kc, .int .i64 S.s.kp, .int .i64 S.s.dir, .bool S.s.ex]) ∧ Below w.heap.size w w' ∧ S.rd w' ∧ S.md = m ∧ S.ft (fun b => w.heap.size ≤ b)
theorem new_ft {w3 : World} {g3 n n0 : Nat} {F : Nat → Rw} {x : Value} {zs : List Int} {w : World} (hf : Ft (since (fun _ => False) n0) (.slice (some ⟨g3, 0, none⟩) n n) (listG n F)) (hx : ∀ b o m c, x = .slice (some ⟨b, o, none⟩) m c → w3.heap.size + 2 ≤ b) (h1 : w.heap.size < n0) (h3 : n0 ≤ w3.heap.size) :
    Ft (fun b => w.heap.size < b) (.slice (some ⟨g3, 0, none⟩) n n) (listG n F) ∧ FtI (fun b => w.heap.size < b) x zs ∧ Ft (fun b => w.heap.size < b) (.slice none 0 0) [] :=
  ⟨hf.mono fun b hb => hb.elim (fun h => h.elim) (fun h => by omega), fun _ b o m c e => by have := hx b o m c e; omega, fun h => absurd h (by simp), fun r hr => by cases hr⟩
theorem new_md {n q k : Nat} {B : Nat → Nat} {g : Nat} {A : Option Addr} {m c : Nat} {kp v : Int} (_hq : max 1 (min v 4096) = (q : Int)) (h1 : (q : Int) ≤ 8 + 8 * (k : Int)) (h2 : k = 0 ∨ 8 * (k : Int) < q) :
    Sn.md ⟨⟨some ⟨g, 0, none⟩, n, n, 0, 0, false, false, 0, 0, 0, 66, 66, 66, 66, 0, 2, 0, n, q, 0, n, A, m, c, q, none, 0, 0, kp, 0, false⟩, fun i => newRw (B i) q 0 0 0, Tab.eights 8 k, []⟩ = newMd n q kp := by
  obtain rfl : k = (q - 1) / 8 := by omega
  rfl
theorem IsScr.below {w w' : World} {g : Nat} (h : IsScr w g) (hb : Below w.heap.size w w') : IsScr w' g := by
  obtain ⟨cs, h1, h2⟩ := h
  exact ⟨cs, h1.below hb h1.lt, h2⟩
set_option maxRecDepth 100000 in
set_option maxHeartbeats 4000000 in
theorem New_c (h v kept : Int) (n q : Nat) (w : World) (hn : max 1 (min h 1000) = (n : Int)) (hq : max 1 (min v 4096) = (q : Int)) :
    Calls Tryz.prog 11 #[.int .i64 h, .int .i64 v, .int .i64 kept] w (NPost w (newMd n q (max 0 (min kept 200)))) := by
  have HN := Lib.hid hn
  have HQ := Lib.hid hq
  have HB1 := Lib.hid (show Cur.btw h 1 1000 = (n : Int) by unfold Cur.btw; omega)
  have HB2 := Lib.hid (show Cur.btw v 1 4096 = (q : Int) by unfold Cur.btw; omega)
  clear hn hq
  go_enter Tryz.func11, Tryz.ntmps11
  go_upto_region 2 with (go_at_call 30; (with_reducible refine (Cur.new_c h v _).mono ?_); rw [HB1.out, HB2.out]; rintro e w1 ⟨rfl, hg⟩; replace hg := hg.below)
  generalize hW2 : (w1.alloc _).alloc _ = W2
  have hbW : Below w.heap.size w W2 := by
    have h0 : Below w.heap.size w w1 := ((Below.refl _ _).alloc (Nat.le_refl _) _).trans (hg.mono (by simp))
    have hs := h0.size
    rw [← hW2]
    exact (h0.alloc hs _).alloc (by rw [World.size_alloc]; omega) _
  have hz1 : w.heap.size < w1.heap.size := by
    have h := hg.size
    rw [World.size_alloc] at h
    omega
  have hBc : Blk W2 w1.heap.size 49 #[.int .i64 0, .int .i64 0, .bool false, .bool false, .int .i64 0, .int .i64 0, .int .i64 0, .int .u8 66, .int .u8 66, .int .u8 66, .int .u8 66, .int .i64 0, .int .i64 2, .int .i64 0] := by rw [← hW2]; exact (Blk.new _ _ _).alloc _
  have hBr : Blk W2 (w1.heap.size + 1) 50 #[.int .i64 n, .int .i64 q, .int .i64 0, .int .i64 n] := by rw [← hW2]; exact Blk.new_at (by simp)
  have hIs : IsScr W2 w.heap.size := by
    have h0 : IsScr (w.alloc (.cells #[.slice dummy.gA dummy.gn dummy.gc, .int .i64 dummy.x, .int .i64 dummy.y, .bool dummy.wr, .bool dummy.og, .int .i64 dummy.fg, .int .i64 dummy.bg, .int .i64 dummy.fl, .int .u8 dummy.g0, .int .u8 dummy.g1, .int .u8 dummy.g2, .int .u8 dummy.g3, .int .i64 dummy.gl, .int .i64 dummy.gr, .int .i64 dummy.on, .int .i64 dummy.H, .int .i64 dummy.W, .int .i64 dummy.T, .int .i64 dummy.B, .slice dummy.tA dummy.tn dummy.tc, .int .i64 dummy.tw, .slice dummy.kA dummy.kn dummy.kc, .int .i64 dummy.kp, .int .i64 dummy.dir, .bool dummy.ex] 54)) w.heap.size := ⟨_, Blk.new _ _ _, rfl⟩
    have h1 := h0.below hg
    rw [← hW2]
    exact (h1.below ((Below.refl _ _).alloc (Nat.le_refl _) _)).below ((Below.refl _ _).alloc (Nat.le_refl _) _)
  have hzW : w1.heap.size ≤ W2.heap.size := by rw [← hW2]; simp; omega
  clear hW2 hg
  generalize hhc : w1.heap.size = hc at *
  have hcr : hc + 1 ≠ w.heap.size := by omega
  generalize hhr : hc + 1 = hr at *
  clear hhc hhr
  replace hbW : Below w.heap.size w W2.drew := Below.drew hbW
  have hzW : w.heap.size < W2.drew.heap.size := hIs.lt
  refine hr_start (S := (fun w' => Blk w' hc 49 #[.int .i64 0, .int .i64 0, .bool false, .bool false, .int .i64 0, .int .i64 0, .int .i64 0, .int .u8 66, .int .u8 66, .int .u8 66, .int .u8 66, .int .i64 0, .int .i64 2, .int .i64 0] ∧ Blk w' hr 50 #[.int .i64 n, .int .i64 q, .int .i64 0, .int .i64 n] ∧ IsScr w' w.heap.size)) (by kernel_rfl) rfl ?_ (fun hHeld => ?_)
  · ((try dsimp only); (first | exact ⟨hBc, hBr, hIs⟩ | exact ⟨hHeld.1.below hg hHeld.1.lt, hHeld.2.1.below hg hHeld.2.1.lt, hHeld.2.2.below hg⟩ | exact ⟨(setRow_other _ _ _ _ (by omega)).trans hHeld.1, (setRow_other _ _ _ _ (by omega)).trans hHeld.2.1, hfin.isScr⟩))
  refine hr_t 0 (v := ?_) ?_ ?_
  rotate_left
  focus (intro wS hSw; skip; go_simp; (try with_reducible rfl))
  simp only [st0, st1]
  refine hr_t 1 (v := ?_) ?_ ?_
  rotate_left
  focus (intro wS hSw; skip; go_simp; (try with_reducible rfl))
  simp only [st0, st1]
  refine hr_t 2 (v := ?_) ?_ ?_
  rotate_left
  focus (intro wS hSw; skip; go_simp; (try with_reducible rfl))
  simp only [st0, st1]
  refine hr_t 4 ((fun w' hSw => exec_ld (run_loadVar_row w' _ _ _ _ (0, 0) _ hSw.1 Tryz.underlying49 rfl (by kernel_rfl)) rfl rfl)) ?_
  simp only [st0, st1]
  refine hr_t 5 ((fun w' hSw => exec_ld (run_loadVar_row w' _ _ _ _ (0, 0) _ hSw.2.1 Tryz.underlying50 rfl (by kernel_rfl)) rfl rfl)) ?_
  simp only [st0, st1]
  refine hr_t 6 (v := ?_) ?_ ?_
  rotate_left
  focus (intro wS hSw; skip; go_simp; (try with_reducible rfl))
  simp only [st0, st1]
  refine hr_t 8 (v := ?_) ?_ ?_
  rotate_left
  focus (intro wS hSw; skip; go_simp; (try with_reducible rfl))
  simp only [st0, st1]
  refine hr_o 3 (fun K hK => ?_)
  (try go_simp)
  ((with_reducible refine (gnew_f h v n q 0 0 0 _ HN.out HQ.out).mono ?_); rintro e w3 ⟨g3, B3, rfl, hg, hr3, hf3⟩; have hz3 := hg.size; replace hbW := hbW.trans (hg.mono hbW.size))
  (try go_wp2_with fail)
  refine hK.out _ _ ?_ (fun hHeld => ?_)
  · ((try dsimp only); (first | exact ⟨hBc, hBr, hIs⟩ | exact ⟨hHeld.1.below hg hHeld.1.lt, hHeld.2.1.below hg hHeld.2.1.lt, hHeld.2.2.below hg⟩ | exact ⟨(setRow_other _ _ _ _ (by omega)).trans hHeld.1, (setRow_other _ _ _ _ (by omega)).trans hHeld.2.1, hfin.isScr⟩))
  clear hK K
  simp only [st0, st1]
  refine hr_o 7 (fun K hK => ?_)
  (try go_simp)
  ((with_reducible refine (Tab.new_o v q _ HQ.out).mono ?_); rintro e w4 ⟨x4, k4, rfl, hg, hx4, hk1, hk2, hf4⟩; obtain ⟨A4, c4, rfl, -⟩ := id hx4; have hz4 := hg.size; replace hr3 := hr3.below hg; replace hbW := hbW.trans (hg.mono hbW.size))
  (try go_wp2_with fail)
  refine hK.out _ _ ?_ (fun hHeld => ?_)
  · ((try dsimp only); (first | exact ⟨hBc, hBr, hIs⟩ | exact ⟨hHeld.1.below hg hHeld.1.lt, hHeld.2.1.below hg hHeld.2.1.lt, hHeld.2.2.below hg⟩ | exact ⟨(setRow_other _ _ _ _ (by omega)).trans hHeld.1, (setRow_other _ _ _ _ (by omega)).trans hHeld.2.1, hfin.isScr⟩))
  clear hK K
  simp only [st0, st1]
  refine hr_o 9 (fun K hK => ?_)
  (try go_simp)
  ((with_reducible refine (hnew_c kept _).mono ?_); rintro e w5 ⟨rfl, hg⟩; replace hg := hg.below; replace hr3 := hr3.below hg; replace hx4 := hx4.below hg; replace hbW := hbW.trans (hg.mono hbW.size))
  (try go_wp2_with fail)
  refine hK.out _ _ ?_ (fun hHeld => ?_)
  · ((try dsimp only); (first | exact ⟨hBc, hBr, hIs⟩ | exact ⟨hHeld.1.below hg hHeld.1.lt, hHeld.2.1.below hg hHeld.2.1.lt, hHeld.2.2.below hg⟩ | exact ⟨(setRow_other _ _ _ _ (by omega)).trans hHeld.1, (setRow_other _ _ _ _ (by omega)).trans hHeld.2.1, hfin.isScr⟩))
  clear hK K
  simp only [st0, st1]
  refine hr_t 10 (v := ?_) ?_ ?_
  rotate_left
  focus (intro wS hSw; skip; go_simp; (try with_reducible rfl))
  simp only [st0, st1]
  refine hr_op0 (i := 11) rfl (by kernel_rfl) (by kernel_rfl) (fun K hK => ?_)
  (refine wp_scr_store (⟨some ⟨g3, 0, none⟩, n, n, 0, 0, false, false, 0, 0, 0, 66, 66, 66, 66, 0, 2, 0, n, q, 0, n, A4, (Tab.eights 8 k4).length, c4, q, none, 0, 0, max 0 (min kept 200), 0, false⟩ : Sc) hHeld.2.2 rfl rfl rfl rfl ?_; have hfin : SBlk (w5.setRow w.heap.size #[.slice (⟨some ⟨g3, 0, none⟩, n, n, 0, 0, false, false, 0, 0, 0, 66, 66, 66, 66, 0, 2, 0, n, q, 0, n, A4, (Tab.eights 8 k4).length, c4, q, none, 0, 0, max 0 (min kept 200), 0, false⟩ : Sc).gA (⟨some ⟨g3, 0, none⟩, n, n, 0, 0, false, false, 0, 0, 0, 66, 66, 66, 66, 0, 2, 0, n, q, 0, n, A4, (Tab.eights 8 k4).length, c4, q, none, 0, 0, max 0 (min kept 200), 0, false⟩ : Sc).gn (⟨some ⟨g3, 0, none⟩, n, n, 0, 0, false, false, 0, 0, 0, 66, 66, 66, 66, 0, 2, 0, n, q, 0, n, A4, (Tab.eights 8 k4).length, c4, q, none, 0, 0, max 0 (min kept 200), 0, false⟩ : Sc).gc, .int .i64 (⟨some ⟨g3, 0, none⟩, n, n, 0, 0, false, false, 0, 0, 0, 66, 66, 66, 66, 0, 2, 0, n, q, 0, n, A4, (Tab.eights 8 k4).length, c4, q, none, 0, 0, max 0 (min kept 200), 0, false⟩ : Sc).x, .int .i64 (⟨some ⟨g3, 0, none⟩, n, n, 0, 0, false, false, 0, 0, 0, 66, 66, 66, 66, 0, 2, 0, n, q, 0, n, A4, (Tab.eights 8 k4).length, c4, q, none, 0, 0, max 0 (min kept 200), 0, false⟩ : Sc).y, .bool (⟨some ⟨g3, 0, none⟩, n, n, 0, 0, false, false, 0, 0, 0, 66, 66, 66, 66, 0, 2, 0, n, q, 0, n, A4, (Tab.eights 8 k4).length, c4, q, none, 0, 0, max 0 (min kept 200), 0, false⟩ : Sc).wr, .bool (⟨some ⟨g3, 0, none⟩, n, n, 0, 0, false, false, 0, 0, 0, 66, 66, 66, 66, 0, 2, 0, n, q, 0, n, A4, (Tab.eights 8 k4).length, c4, q, none, 0, 0, max 0 (min kept 200), 0, false⟩ : Sc).og, .int .i64 (⟨some ⟨g3, 0, none⟩, n, n, 0, 0, false, false, 0, 0, 0, 66, 66, 66, 66, 0, 2, 0, n, q, 0, n, A4, (Tab.eights 8 k4).length, c4, q, none, 0, 0, max 0 (min kept 200), 0, false⟩ : Sc).fg, .int .i64 (⟨some ⟨g3, 0, none⟩, n, n, 0, 0, false, false, 0, 0, 0, 66, 66, 66, 66, 0, 2, 0, n, q, 0, n, A4, (Tab.eights 8 k4).length, c4, q, none, 0, 0, max 0 (min kept 200), 0, false⟩ : Sc).bg, .int .i64 (⟨some ⟨g3, 0, none⟩, n, n, 0, 0, false, false, 0, 0, 0, 66, 66, 66, 66, 0, 2, 0, n, q, 0, n, A4, (Tab.eights 8 k4).length, c4, q, none, 0, 0, max 0 (min kept 200), 0, false⟩ : Sc).fl, .int .u8 (⟨some ⟨g3, 0, none⟩, n, n, 0, 0, false, false, 0, 0, 0, 66, 66, 66, 66, 0, 2, 0, n, q, 0, n, A4, (Tab.eights 8 k4).length, c4, q, none, 0, 0, max 0 (min kept 200), 0, false⟩ : Sc).g0, .int .u8 (⟨some ⟨g3, 0, none⟩, n, n, 0, 0, false, false, 0, 0, 0, 66, 66, 66, 66, 0, 2, 0, n, q, 0, n, A4, (Tab.eights 8 k4).length, c4, q, none, 0, 0, max 0 (min kept 200), 0, false⟩ : Sc).g1, .int .u8 (⟨some ⟨g3, 0, none⟩, n, n, 0, 0, false, false, 0, 0, 0, 66, 66, 66, 66, 0, 2, 0, n, q, 0, n, A4, (Tab.eights 8 k4).length, c4, q, none, 0, 0, max 0 (min kept 200), 0, false⟩ : Sc).g2, .int .u8 (⟨some ⟨g3, 0, none⟩, n, n, 0, 0, false, false, 0, 0, 0, 66, 66, 66, 66, 0, 2, 0, n, q, 0, n, A4, (Tab.eights 8 k4).length, c4, q, none, 0, 0, max 0 (min kept 200), 0, false⟩ : Sc).g3, .int .i64 (⟨some ⟨g3, 0, none⟩, n, n, 0, 0, false, false, 0, 0, 0, 66, 66, 66, 66, 0, 2, 0, n, q, 0, n, A4, (Tab.eights 8 k4).length, c4, q, none, 0, 0, max 0 (min kept 200), 0, false⟩ : Sc).gl, .int .i64 (⟨some ⟨g3, 0, none⟩, n, n, 0, 0, false, false, 0, 0, 0, 66, 66, 66, 66, 0, 2, 0, n, q, 0, n, A4, (Tab.eights 8 k4).length, c4, q, none, 0, 0, max 0 (min kept 200), 0, false⟩ : Sc).gr, .int .i64 (⟨some ⟨g3, 0, none⟩, n, n, 0, 0, false, false, 0, 0, 0, 66, 66, 66, 66, 0, 2, 0, n, q, 0, n, A4, (Tab.eights 8 k4).length, c4, q, none, 0, 0, max 0 (min kept 200), 0, false⟩ : Sc).on, .int .i64 (⟨some ⟨g3, 0, none⟩, n, n, 0, 0, false, false, 0, 0, 0, 66, 66, 66, 66, 0, 2, 0, n, q, 0, n, A4, (Tab.eights 8 k4).length, c4, q, none, 0, 0, max 0 (min kept 200), 0, false⟩ : Sc).H, .int .i64 (⟨some ⟨g3, 0, none⟩, n, n, 0, 0, false, false, 0, 0, 0, 66, 66, 66, 66, 0, 2, 0, n, q, 0, n, A4, (Tab.eights 8 k4).length, c4, q, none, 0, 0, max 0 (min kept 200), 0, false⟩ : Sc).W, .int .i64 (⟨some ⟨g3, 0, none⟩, n, n, 0, 0, false, false, 0, 0, 0, 66, 66, 66, 66, 0, 2, 0, n, q, 0, n, A4, (Tab.eights 8 k4).length, c4, q, none, 0, 0, max 0 (min kept 200), 0, false⟩ : Sc).T, .int .i64 (⟨some ⟨g3, 0, none⟩, n, n, 0, 0, false, false, 0, 0, 0, 66, 66, 66, 66, 0, 2, 0, n, q, 0, n, A4, (Tab.eights 8 k4).length, c4, q, none, 0, 0, max 0 (min kept 200), 0, false⟩ : Sc).B, .slice (⟨some ⟨g3, 0, none⟩, n, n, 0, 0, false, false, 0, 0, 0, 66, 66, 66, 66, 0, 2, 0, n, q, 0, n, A4, (Tab.eights 8 k4).length, c4, q, none, 0, 0, max 0 (min kept 200), 0, false⟩ : Sc).tA (⟨some ⟨g3, 0, none⟩, n, n, 0, 0, false, false, 0, 0, 0, 66, 66, 66, 66, 0, 2, 0, n, q, 0, n, A4, (Tab.eights 8 k4).length, c4, q, none, 0, 0, max 0 (min kept 200), 0, false⟩ : Sc).tn (⟨some ⟨g3, 0, none⟩, n, n, 0, 0, false, false, 0, 0, 0, 66, 66, 66, 66, 0, 2, 0, n, q, 0, n, A4, (Tab.eights 8 k4).length, c4, q, none, 0, 0, max 0 (min kept 200), 0, false⟩ : Sc).tc, .int .i64 (⟨some ⟨g3, 0, none⟩, n, n, 0, 0, false, false, 0, 0, 0, 66, 66, 66, 66, 0, 2, 0, n, q, 0, n, A4, (Tab.eights 8 k4).length, c4, q, none, 0, 0, max 0 (min kept 200), 0, false⟩ : Sc).tw, .slice (⟨some ⟨g3, 0, none⟩, n, n, 0, 0, false, false, 0, 0, 0, 66, 66, 66, 66, 0, 2, 0, n, q, 0, n, A4, (Tab.eights 8 k4).length, c4, q, none, 0, 0, max 0 (min kept 200), 0, false⟩ : Sc).kA (⟨some ⟨g3, 0, none⟩, n, n, 0, 0, false, false, 0, 0, 0, 66, 66, 66, 66, 0, 2, 0, n, q, 0, n, A4, (Tab.eights 8 k4).length, c4, q, none, 0, 0, max 0 (min kept 200), 0, false⟩ : Sc).kn (⟨some ⟨g3, 0, none⟩, n, n, 0, 0, false, false, 0, 0, 0, 66, 66, 66, 66, 0, 2, 0, n, q, 0, n, A4, (Tab.eights 8 k4).length, c4, q, none, 0, 0, max 0 (min kept 200), 0, false⟩ : Sc).kc, .int .i64 (⟨some ⟨g3, 0, none⟩, n, n, 0, 0, false, false, 0, 0, 0, 66, 66, 66, 66, 0, 2, 0, n, q, 0, n, A4, (Tab.eights 8 k4).length, c4, q, none, 0, 0, max 0 (min kept 200), 0, false⟩ : Sc).kp, .int .i64 (⟨some ⟨g3, 0, none⟩, n, n, 0, 0, false, false, 0, 0, 0, 66, 66, 66, 66, 0, 2, 0, n, q, 0, n, A4, (Tab.eights 8 k4).length, c4, q, none, 0, 0, max 0 (min kept 200), 0, false⟩ : Sc).dir, .bool (⟨some ⟨g3, 0, none⟩, n, n, 0, 0, false, false, 0, 0, 0, 66, 66, 66, 66, 0, 2, 0, n, q, 0, n, A4, (Tab.eights 8 k4).length, c4, q, none, 0, 0, max 0 (min kept 200), 0, false⟩ : Sc).ex]) w.heap.size (⟨some ⟨g3, 0, none⟩, n, n, 0, 0, false, false, 0, 0, 0, 66, 66, 66, 66, 0, 2, 0, n, q, 0, n, A4, (Tab.eights 8 k4).length, c4, q, none, 0, 0, max 0 (min kept 200), 0, false⟩ : Sc) := by (obtain ⟨cs, k1, _⟩ := hHeld.2.2; exact setRow_heap _ _ _ _ _ _ k1))
  refine hK.out _ ?_ (fun hHeld => ?_)
  · ((try dsimp only); (first | exact ⟨hBc, hBr, hIs⟩ | exact ⟨hHeld.1.below hg hHeld.1.lt, hHeld.2.1.below hg hHeld.2.1.lt, hHeld.2.2.below hg⟩ | exact ⟨(setRow_other _ _ _ _ (by omega)).trans hHeld.1, (setRow_other _ _ _ _ (by omega)).trans hHeld.2.1, hfin.isScr⟩))
  clear hK K
  refine hr_done (by kernel_rfl) ?_
  (go_wp2_with fail; have hft : Sn.ft ⟨(⟨some ⟨g3, 0, none⟩, n, n, 0, 0, false, false, 0, 0, 0, 66, 66, 66, 66, 0, 2, 0, n, q, 0, n, A4, (Tab.eights 8 k4).length, c4, q, none, 0, 0, max 0 (min kept 200), 0, false⟩ : Sc), fun i => newRw (B3 i) q 0 0 0, Tab.eights 8 k4, []⟩ (fun b => w.heap.size < b) := new_ft hf3 hf4 hzW hz3; have hrd : Sn.rd ⟨(⟨some ⟨g3, 0, none⟩, n, n, 0, 0, false, false, 0, 0, 0, 66, 66, 66, 66, 0, 2, 0, n, q, 0, n, A4, (Tab.eights 8 k4).length, c4, q, none, 0, 0, max 0 (min kept 200), 0, false⟩ : Sc), fun i => newRw (B3 i) q 0 0 0, Tab.eights 8 k4, []⟩ w5 := ⟨hr3, hx4, RdR.nil _ _ _⟩; exact bodyPost_ret (results_scr rfl rfl hfin) rfl ⟨_, rfl, below_row hbW (Nat.le_refl _) _, hrd.keep hft (Keeps.row _ _ (Nat.lt_irrefl _)), new_md HQ.out hk1 hk2, hft.mono fun b hb => Nat.le_of_lt hb⟩)
end Go.Proofs.YtlchffkabpfjpaaGreat.Scr
