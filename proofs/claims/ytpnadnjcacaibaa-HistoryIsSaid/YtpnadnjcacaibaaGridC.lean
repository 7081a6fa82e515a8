/- Walks of grid.lay, usable, moves. -/
import Derived.Test.YtpnadnjcacaibaaGridB
import Derived.Test.YtpnadnjcacaibaaRowN
namespace Go.Proofs.Ytpnadnjcacaibaa.Row
open Go.RowKit
/-- a new row of q cells that are blank by a pen -/
def newRw (b q : Nat) (fg bg fl : Int) : Rw := ⟨some ⟨b, 0, none⟩, q, q, fun _ => blank fg bg fl, false, 0, false⟩
def layG (F : Nat → Rw) (k m : Nat) (B : Nat → Nat) (q : Nat) (fg bg fl : Int) (i : Nat) : Rw := if k ≤ i ∧ i < k + m then newRw (B (i - k)) q fg bg fl else F i
theorem Rd.gb {w w' : World} {b o n g : Nat} {f : Nat → Cl} (h : Rd w (some ⟨b, o, none⟩) n f) (hg : w.grownBy w' (some g)) (hne : b ≠ g) : Rd w' (some ⟨b, o, none⟩) n f := fun hn => by
  obtain ⟨b', o', e, hb, hc⟩ := h hn
  injection e with e
  injection e with e1 e2
  subst e1 e2
  refine ⟨b, o, rfl, Nat.lt_of_lt_of_le hb hg.size, fun i hi => ?_⟩
  have hcell : ∀ j, w'.cell? ⟨b, j, none⟩ = w.cell? ⟨b, j, none⟩ := fun j => by
    unfold World.cell?
    rw [hg.block b hb (by intro e; injection e with e; exact hne e)]
  obtain ⟨h0, h1, h2, h3, h4, h5, h6⟩ := hc i hi
  exact ⟨(hcell _).trans h0, (hcell _).trans h1, (hcell _).trans h2, (hcell _).trans h3, (hcell _).trans h4, (hcell _).trans h5, (hcell _).trans h6⟩

set_option maxRecDepth 100000 in
set_option maxHeartbeats 2000000 in
theorem layg_c (g k m cap n o : Nat) (F : Nat → Rw) (v : Int) (q : Nat) (fg bg fl : Int) (w : World) (ho : OwnG w g n F) (hk : o = k * 4) (hkm : k + m ≤ n) (hn : n ≤ 5000) (hv : max 1 (min v 4096) = (q : Int)) :
    Calls Try.prog 72 #[.slice (some ⟨g, o, none⟩) m cap, .int .i64 v, .agg #[.int .i64 fg, .int .i64 bg, .int .i64 fl]] w fun e w' => e = .returned (.tuple #[]) ∧ w.grownBy w' (some g) ∧
      ∃ B : Nat → Nat, OwnG w' g n (layG F k m B q fg bg fl) ∧ ∀ t, t < m → w.heap.size ≤ B t ∧ Rd w' (some ⟨B t, 0, none⟩) q (fun _ => blank fg bg fl) := by
  have hgw := ho.lt
  have HK := Lib.hid hk
  have HV := Lib.hid hv
  clear hk hv
  go_enter Try.func72, Try.ntmps72
  go_wp2_with fail
  go_loopw [9] (fun i wz => ∃ j : Nat, j ≤ m ∧ i = .int .i64 j ∧ w.grownBy wz (some g) ∧ (∃ B : Nat → Nat, OwnG wz g n (layG F k j B q fg bg fl) ∧ ∀ t, t < j → w.heap.size ≤ B t ∧ Rd wz (some ⟨B t, 0, none⟩) q (fun _ => blank fg bg fl)) ∧ Blk wz w.heap.size 27 #[.int .i64 fg, .int .i64 bg, .int .i64 fl]) (fun i _ => m - (intOf i).toNat)
  case atStart => exact ⟨0, Nat.zero_le _, rfl, by (repeat (first | (with_reducible exact World.grownBy.refl _ _) | (with_reducible assumption) | (with_reducible refine gb_grow ?_ _ _) | (with_reducible refine gb_drewN ?_ _) | (with_reducible refine gb_drew ?_) | (with_reducible refine gb_alloc ?_ _) | (with_reducible refine gb_setCell ?_ ?_ _) | (focus (left; rfl)) | (focus (right; simp; done)) | (focus (right; simp; omega)) | (focus (right; omega)))), ⟨fun _ => 0, (OwnG.below ho ((Below.refl w.heap.size w).alloc (Nat.le_refl _) _) hgw).congr fun i _ => by unfold layG; rw [if_neg (by omega)], fun t ht => absurd ht (by omega)⟩, Blk.new _ _ _⟩
  case round =>
    obtain ⟨j, hj, rfl, hg, ⟨B, hoz, hB⟩, hBp⟩ := hrel
    have HB := Lib.hid hB
    have hgz := hoz.lt
    clear hB
    by_cases hlt : j < m
    · obtain ⟨r0, r1, r2, rf, rl⟩ := hBp.facts3
      have hjI : (j : Int) < m := by omega
      go_wp2_with fail
      refine (new_c v q fg bg fl _ HV.out).mono ?_
      rintro e w1 ⟨b, rfl, hbb, hg1, hob⟩
      have hoz1 := hoz.below hg1 hgz
      obtain ⟨c0, c1, c2, c3⟩ := hoz1.at_ (i := k + j) (by omega)
      rw [show (k + j) * 4 = o + j * 4 by have := HK.out; omega] at c0 c1 c2 c3
      have hfz := hoz1.frozen
      have hBp1 := hBp.below hg1 hBp.lt
      have hgg : w.grownBy w1 (some g) := gb_trans hg (gb_below hg1 _)
      have hgz1 := hoz1.lt
      clear r0 r1 r2 rf rl
      go_wp2_with fail
      have HST := Lib.hid (fun w2 (hw : w2 = ((((w1.setCell ⟨g, o + j * 4, none⟩ (.slice (some ⟨b, 0, none⟩) q q)).setCell ⟨g, o + j * 4 + 1, none⟩ (.bool false)).setCell ⟨g, o + j * 4 + 2, none⟩ (.int .i64 0)).setCell ⟨g, o + j * 4 + 3, none⟩ (.bool false))) => (show OwnG w2 g n (updG (layG F k j B q fg bg fl) (k + j) (newRw b q fg bg fl)) by rw [hw]; exact hoz1.store (k + j) (by omega) (newRw b q fg bg fl) (p := o + j * 4) (by have := HK.out; omega)))
      generalize hw2 : World.setCell _ _ _ = w2
      have hg2 : w1.grownBy w2 (some g) := by rw [← hw2]; (repeat (first | (with_reducible exact World.grownBy.refl _ _) | (with_reducible assumption) | (with_reducible refine gb_grow ?_ _ _) | (with_reducible refine gb_drewN ?_ _) | (with_reducible refine gb_drew ?_) | (with_reducible refine gb_alloc ?_ _) | (with_reducible refine gb_setCell ?_ ?_ _) | (focus (left; rfl)) | (focus (right; simp; done)) | (focus (right; simp; omega)) | (focus (right; omega))))
      have ho2 := HST.out w2 hw2.symm
      clear hw2 HST
      go_roundw
      case rel => exact ⟨j + 1, by omega, by go_num, gb_trans hgg hg2, ⟨fun t => if t = j then b else B t, ho2.congr fun i _ => by
          unfold updG layG
          by_cases h1 : i = k + j
          · subst h1
            dsimp only
            rw [if_pos rfl, if_pos ⟨by omega, by omega⟩, if_pos (by omega)]
          · rw [if_neg h1]
            by_cases h2 : k ≤ i ∧ i < k + j
            · dsimp only
              rw [if_pos h2, if_pos ⟨by omega, by omega⟩, if_neg (by omega)]
            · rw [if_neg h2, if_neg (by omega)], fun t ht => by
          by_cases h1 : t = j
          · subst h1
            dsimp only
            rw [if_pos rfl]
            have := hg.size
            exact ⟨by omega, (hob.rd).gb hg2 (by omega)⟩
          · dsimp only
            rw [if_neg h1]
            obtain ⟨hb1, hb2⟩ := HB.out t (by omega)
            exact ⟨hb1, (hb2.below hg1).gb hg2 (by omega)⟩⟩, hBp1.gb hg2 (by intro e; injection e; omega)⟩
      case measure => simp [intOf]; omega
    · obtain rfl : m = j := by omega
      go_wp2
      go_end0
      exact ⟨rfl, hg, B, hoz, HB.out⟩
theorem layg0_c (A : Option Addr) (cap : Nat) (v : Int) (fg bg fl : Int) (w : World) :
    Calls Try.prog 72 #[.slice A 0 cap, .int .i64 v, .agg #[.int .i64 fg, .int .i64 bg, .int .i64 fl]] w fun e w' => e = .returned (.tuple #[]) ∧ Grew w w' := by
  go_enter Try.func72, Try.ntmps72
  go_wp2
  refine wp_loop_rounds 1 ?_
  rw [rounds_succ]
  go_wp2
  go_end0
  exact ⟨rfl, (Below.toGrow (by repeat (first | (with_reducible exact Below.refl _ _) | (with_reducible assumption) | (with_reducible refine Below.grow ?_ ?_ _ _) | (with_reducible refine Below.drewN' ?_ _) | (with_reducible refine Below.drew ?_) | (with_reducible refine Below.alloc ?_ ?_ _) | (with_reducible refine Below.setCell ?_ ?_ _) | omega | (focus (simp; done)) | (focus (simp; omega)))))⟩
theorem sane_new (fg bg fl : Int) : saneB 1 (fun _ => blank fg bg fl) 0 = penB fg bg fl := by
  cases hp : penB fg bg fl
  · cases h : saneB 1 (fun _ => blank fg bg fl) 0
    · rfl
    · have := fits_pen (fits_of_sane h (i := 0) (by omega))
      rw [show (blank fg bg fl).fg = fg from rfl, show (blank fg bg fl).bg = bg from rfl, show (blank fg bg fl).fl = fl from rfl, hp] at this
      exact this.symm
  · rw [sane_iff]
    refine ⟨by omega, by omega, by omega, by omega, fun i hi => ⟨fits_blank hp, ?_⟩⟩
    rw [lost_not]
    simp [blank]
set_option maxRecDepth 100000 in
set_option maxHeartbeats 2000000 in
theorem usable_c (x : Value) (L : List Rw) (fg bg fl : Int) (w : World) (hx : RdR w x L) (hl : L.length ≤ 5000) :
    Calls Try.prog 74 #[.agg #[x], .agg #[.int .i64 fg, .int .i64 bg, .int .i64 fl]] w fun e w' => e = .returned (.bool (gsaneB L && penB fg bg fl)) ∧ Grew w w' := by
  obtain ⟨A, cap, rfl, hc⟩ := hx.1.len
  have HLL := Lib.hid hl
  generalize L.length = n at hl hc hx ⊢
  have HX := Lib.hid hx
  clear hx
  go_enter Try.func74, Try.ntmps74
  go_wp2_with fail
  generalize hw0 : (w.alloc _).alloc _ = w0
  have hbw : Below w.heap.size w w0 := by rw [← hw0]; (repeat (first | (with_reducible exact Below.refl _ _) | (with_reducible assumption) | (with_reducible refine Below.grow ?_ ?_ _ _) | (with_reducible refine Below.drewN' ?_ _) | (with_reducible refine Below.drew ?_) | (with_reducible refine Below.alloc ?_ ?_ _) | (with_reducible refine Below.setCell ?_ ?_ _) | omega | (focus (simp; done)) | (focus (simp; omega))))
  have hB2 : Blk w0 (w.heap.size + 1) 27 #[.int .i64 fg, .int .i64 bg, .int .i64 fl] := by rw [← hw0]; exact Blk.new_at (by simp)
  clear hw0
  refine (gsane_c (.slice A n cap) L _ (HX.out.below hbw) HLL.out).mono ?_
  rintro e w1 ⟨rfl, hg⟩
  replace hg := hg.below
  replace hbw := hbw.trans (hg.mono hbw.size)
  have hB2' := hB2.below hg hB2.lt
  obtain ⟨r0, r1, r2, rf, rl⟩ := hB2'.facts3
  cases hs : gsaneB L
  · go_wp2_with fail
    go_ret
    exact ⟨ebool (by simp [hs]), Below.toGrow hbw⟩
  · go_wp2_with fail
    refine (new_c 1 1 fg bg fl _ (by omega)).mono ?_
    rintro e w2 ⟨b, rfl, hbb, hg2, hob⟩
    have hbw2 := hbw.trans (hg2.mono hbw.size)
    go_wp2_with fail
    refine (sane_c (some ⟨b, 0, none⟩) 1 1 (fun _ => blank fg bg fl) false 0 false _ hob.rd (by omega)).mono ?_
    rintro e w3 ⟨rfl, hg3⟩
    have hbw3 := hbw2.trans (hg3.below.mono hbw2.size)
    rw [sane_new]
    go_wp2_with fail
    go_ret
    exact ⟨ebool (by simp [hs]), Below.toGrow hbw3⟩
def movesB (L : List Rw) (t b fg bg fl : Int) : Bool := (gsaneB L && penB fg bg fl) && (decide (0 ≤ t) && (decide (t < b) && decide (b ≤ (L.length : Int))))
set_option maxRecDepth 100000 in
set_option maxHeartbeats 2000000 in
theorem movesg_c (x : Value) (L : List Rw) (t b fg bg fl : Int) (w : World) (hx : RdR w x L) (hl : L.length ≤ 5000) :
    Calls Try.prog 70 #[.agg #[x], .int .i64 t, .int .i64 b, .agg #[.int .i64 fg, .int .i64 bg, .int .i64 fl]] w fun e w' => e = .returned (.bool (movesB L t b fg bg fl)) ∧ Grew w w' := by
  obtain ⟨A, cap, rfl, hc⟩ := hx.1.len
  have HLL := Lib.hid hl
  have HP : Hid (movesB L t b fg bg fl = ((gsaneB L && penB fg bg fl) && (decide (0 ≤ t) && (decide (t < b) && decide (b ≤ (L.length : Int)))))) := rfl
  generalize movesB L t b fg bg fl = S at *
  generalize L.length = n at hl hc hx HP ⊢
  have HX := Lib.hid hx
  clear hx
  go_enter Try.func70, Try.ntmps70
  go_wp2_with fail
  generalize hw0 : (w.alloc _).alloc _ = w0
  have hbw : Below w.heap.size w w0 := by rw [← hw0]; (repeat (first | (with_reducible exact Below.refl _ _) | (with_reducible assumption) | (with_reducible refine Below.grow ?_ ?_ _ _) | (with_reducible refine Below.drewN' ?_ _) | (with_reducible refine Below.drew ?_) | (with_reducible refine Below.alloc ?_ ?_ _) | (with_reducible refine Below.setCell ?_ ?_ _) | omega | (focus (simp; done)) | (focus (simp; omega))))
  have hB1 : Blk w0 w.heap.size 60 #[.slice A n cap] := by rw [← hw0]; exact (Blk.new _ _ _).alloc _
  clear hw0
  refine (usable_c (.slice A n cap) L fg bg fl _ (HX.out.below hbw) HLL.out).mono ?_
  rintro e w1 ⟨rfl, hg⟩
  replace hg := hg.below
  replace hbw := hbw.trans (hg.mono hbw.size)
  have hB1' := hB1.below hg hB1.lt
  have q0 := hB1'.cell 0
  have ql := hB1'.lt
  simp only [List.getElem?_toArray, List.getElem?_cons_zero] at q0
  generalize (gsaneB L && penB fg bg fl) = U at *
  cases U
  · go_wp2_with fail
    go_ret
    exact ⟨ebool (by rw [HP.out]; rfl), Below.toGrow hbw⟩
  · go_wp2_with fail
    all_goals (go_ret; refine ⟨ebool ?_, Below.toGrow hbw⟩; rw [HP.out]; clear HP; grind)
end Go.Proofs.Ytpnadnjcacaibaa.Row
