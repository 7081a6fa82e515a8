/- Walks of lapwingref08.Mend, Sane. -/
import Derived.Test.YtlgnchhhadnjbaaRefA
import Derived.Test.YtlgnchhhadnjbaaRowE
import Derived.Test.YtlgnchhhadnjbaaRowL1
import Derived.Test.YtlgnchhhadnjbaaLists
import Derived.Test.YtlgnchhhadnjbaaHand
import Derived.Deep.CutRange
namespace Go.Proofs.Ytlgnchhhadnjbaa.Row
open Go.RowKit
/-- a cell as an element of a list -/
def Cl.cells (c : Cl) : List Value := [.int .i64 c.r, .int .i64 c.m0, .int .i64 c.m1, .int .i64 c.w, .int .i64 c.fg, .int .i64 c.bg, .int .i64 c.fl]
def encC : Enc Cl := ⟨7, Cl.cells, fun _ => rfl, by decide, fun a u hu => by
  simp [Cl.cells] at hu
  rcases hu with rfl | rfl | rfl | rfl | rfl | rfl | rfl <;> rfl⟩
theorem cellAt_ofX {w : World} {b o : Nat} {c : Cl} (h : AtX encC w b o c) : CellAt w b o c := ⟨h 0 _ rfl, h 1 _ rfl, h 2 _ rfl, h 3 _ rfl, h 4 _ rfl, h 5 _ rfl, h 6 _ rfl⟩
theorem cellAt_toX {w : World} {b o : Nat} {c : Cl} (h : CellAt w b o c) : AtX encC w b o c := by
  obtain ⟨h0, h1, h2, h3, h4, h5, h6⟩ := h
  intro i u hi
  match i, hi with
  | 0, hi => obtain rfl := Option.some.inj hi; exact h0
  | 1, hi => obtain rfl := Option.some.inj hi; exact h1
  | 2, hi => obtain rfl := Option.some.inj hi; exact h2
  | 3, hi => obtain rfl := Option.some.inj hi; exact h3
  | 4, hi => obtain rfl := Option.some.inj hi; exact h4
  | 5, hi => obtain rfl := Option.some.inj hi; exact h5
  | 6, hi => obtain rfl := Option.some.inj hi; exact h6
/-- n cells by a function, as a list -/
def listF (n : Nat) (f : Nat → Cl) : List Cl := (List.range n).map f
theorem listF_len (n : Nat) (f : Nat → Cl) : (listF n f).length = n := by simp [listF]
theorem listF_get {n : Nat} {f : Nat → Cl} {i : Nat} (hi : i < n) : (listF n f)[i]? = some (f i) := by simp [listF, List.getElem?_range hi]
theorem rd_toX {w : World} {A : Option Addr} {n c : Nat} {f : Nat → Cl} (h : Rd w A n f) (hc : n ≤ c) : RdX encC w (.slice A n c) (listF n f) := by
  refine ⟨A, c, by rw [listF_len], by rw [listF_len]; exact hc, fun hn => ?_⟩
  rw [listF_len] at hn
  obtain ⟨b, o, rfl, hb, hat⟩ := h hn
  refine ⟨b, o, rfl, hb, fun j a ha => ?_⟩
  have hj : j < n := by have := (List.getElem?_eq_some_iff.1 ha).1; rwa [listF_len] at this
  rw [listF_get hj] at ha
  obtain rfl := Option.some.inj ha
  exact cellAt_toX (hat j hj)
theorem rd_ofX {w : World} {A : Option Addr} {n c : Nat} {L : List Cl} {f : Nat → Cl} (h : RdX encC w (.slice A n c) L) (hn : n = L.length) (hf : ∀ i, i < n → L[i]? = some (f i)) : Rd w A n f := fun h0 => by
  subst hn
  obtain ⟨b, o, rfl, hb, _⟩ := h.at_ (hf 0 h0)
  exact ⟨b, o, rfl, hb, fun i hi => cellAt_ofX (h.at' (hf i hi))⟩
theorem cell_parts : ∃ i, Try.prog.info? 59 = some i ∧ i.zero = some (.agg #[.int .i64 0, .int .i64 0, .int .i64 0, .int .i64 0, .int .i64 0, .int .i64 0, .int .i64 0]) ∧ i.size = 7 ∧ i.bytes = 56 := by
  have h : (Try.prog.info? 59).map (fun i => (i.zero, i.size, i.bytes)) = some (some (.agg #[.int .i64 0, .int .i64 0, .int .i64 0, .int .i64 0, .int .i64 0, .int .i64 0, .int .i64 0]), 7, 56) := by kernel_rfl
  obtain ⟨i, hi, hzz⟩ := Option.map_eq_some_iff.1 h
  simp only [Prod.mk.injEq] at hzz
  exact ⟨i, hi, hzz⟩

/-- block b begins with n cells that read as f, and all of it is known -/
def OwnS (w : World) (b n : Nat) (f : Nat → Cl) : Prop := ∃ (N : Nat) (tail : Nat → Value), n * 7 ≤ N ∧ w.rowIs b 59 N (fun j => if j < n * 7 then valF f j else tail j)
section
variable {w w' : World} {b n : Nat} {f g : Nat → Cl}
theorem OwnS.lt (h : OwnS w b n f) : b < w.heap.size := by
  obtain ⟨N, tail, _, h⟩ := h
  exact World.rowIs.lt h
theorem OwnS.at_ (h : OwnS w b n f) {i : Nat} (hi : i < n) : CellAt w b (i * 7) (f i) := by
  obtain ⟨N, tail, hN, h⟩ := h
  exact cellAt_of fun j hj => (World.rowIs.cell h (by omega)).trans (by rw [if_pos (by omega), valF_at f i j hj])
theorem OwnS.frozen (h : OwnS w b n f) (i : Nat) : w.frozen? ⟨b, i, none⟩ = false := by
  obtain ⟨N, tail, _, h⟩ := h
  exact World.rowIs.frozen h i
theorem OwnS.rd (h : OwnS w b n f) : Rd w (some ⟨b, 0, none⟩) n f := fun _ => ⟨b, 0, rfl, h.lt, fun i hi => by rw [Nat.zero_add]; exact h.at_ hi⟩
theorem OwnS.congr (h : OwnS w b n f) (e : ∀ i, i < n → f i = g i) : OwnS w b n g := by
  obtain ⟨N, tail, hN, h⟩ := h
  refine ⟨N, tail, hN, World.rowIs.congr h fun i hi => ?_⟩
  by_cases hi' : i < n * 7
  · rw [if_pos hi', if_pos hi']
    unfold valF
    rw [e (i / 7) (by omega)]
  · rw [if_neg hi', if_neg hi']
theorem OwnS.gb {row : Option Nat} (h : OwnS w b n f) (hg : w.grownBy w' row) (hne : some b ≠ row) : OwnS w' b n f := by
  obtain ⟨N, tail, hN, h⟩ := h
  exact ⟨N, tail, hN, rowIs_gb h hg hne⟩
theorem OwnS.below {B : Nat} (h : OwnS w b n f) (hg : Below B w w') (hb : b < B) : OwnS w' b n f := by
  obtain ⟨N, tail, hN, h⟩ := h
  exact ⟨N, tail, hN, rowIs_below h hg hb⟩
theorem OwnS.grow (h : OwnS w b n f) (X : Array Obj) (d : Nat) : OwnS (w.grow X d) b n f := by
  obtain ⟨N, tail, hN, h⟩ := h
  exact ⟨N, tail, hN, rowIs_grow h X d⟩
theorem OwnS.store (h : OwnS w b n f) (k : Nat) (hk : k < n) (c : Cl) {p : Nat} (hp : p = k * 7) :
    OwnS (((((((w.setCell ⟨b, p, none⟩ (.int .i64 c.r)).setCell ⟨b, p + 1, none⟩ (.int .i64 c.m0)).setCell ⟨b, p + 2, none⟩ (.int .i64 c.m1)).setCell ⟨b, p + 3, none⟩ (.int .i64 c.w)).setCell ⟨b, p + 4, none⟩ (.int .i64 c.fg)).setCell ⟨b, p + 5, none⟩ (.int .i64 c.bg)).setCell ⟨b, p + 6, none⟩ (.int .i64 c.fl)) b n (upd f k c) := by
  subst hp
  obtain ⟨N, tail, hN, h⟩ := h
  refine ⟨N, tail, hN, World.rowIs.congr (((((((World.rowIs.set h _ _).set _ _).set _ _).set _ _).set _ _).set _ _).set _ _) fun i _ => ?_⟩
  by_cases hi : i < n * 7
  · rw [if_pos hi, if_pos hi]
    unfold valF upd
    by_cases hk : i / 7 = k
    · subst hk
      rw [if_pos rfl]
      have hj : i % 7 < 7 := Nat.mod_lt _ (by omega)
      generalize hm : i % 7 = j at hj
      have hi : i = i / 7 * 7 + j := by omega
      match j, hj with
      | 0, _ => rw [if_neg (by omega), if_neg (by omega), if_neg (by omega), if_neg (by omega), if_neg (by omega), if_neg (by omega), if_pos (by omega)]; rfl
      | 1, _ => rw [if_neg (by omega), if_neg (by omega), if_neg (by omega), if_neg (by omega), if_neg (by omega), if_pos (by omega)]; rfl
      | 2, _ => rw [if_neg (by omega), if_neg (by omega), if_neg (by omega), if_neg (by omega), if_pos (by omega)]; rfl
      | 3, _ => rw [if_neg (by omega), if_neg (by omega), if_neg (by omega), if_pos (by omega)]; rfl
      | 4, _ => rw [if_neg (by omega), if_neg (by omega), if_pos (by omega)]; rfl
      | 5, _ => rw [if_neg (by omega), if_pos (by omega)]; rfl
      | 6, _ => rw [if_pos (by omega)]; rfl
    · rw [if_neg hk, if_neg (by omega), if_neg (by omega), if_neg (by omega), if_neg (by omega), if_neg (by omega), if_neg (by omega), if_neg (by omega)]
  · rw [if_neg hi, if_neg hi, if_neg (by omega), if_neg (by omega), if_neg (by omega), if_neg (by omega), if_neg (by omega), if_neg (by omega), if_neg (by omega)]
end
theorem ownS_of {w : World} {base g n c : Nat} {f : Nat → Cl} (h : OwnX encC w base 59 (.slice (some ⟨g, 0, none⟩) n c) (listF n f)) : OwnS w g n f := by
  have h' := h
  unfold OwnX World.ownsRow at h'
  obtain ⟨_, ⟨e, _⟩ | ⟨g', cap, cur, e, _, hg, r1, _, r3, _⟩⟩ := h'
  · cases e
  · injection e with e1 _ e3
    injection e1 with e1
    injection e1 with e1
    subst e1
    rw [listF_len] at r1
    have hcs : cur.size = cap * 7 := r3
    refine ⟨cap * 7, fun j => cur.getD j undef, by omega, cur, hg, hcs, fun i hi => ?_⟩
    dsimp only
    by_cases hi' : i < n * 7
    · rw [if_pos hi']
      have hat := cellAt_ofX (h.rd.at' (listF_get (n := n) (f := f) (i := i / 7) (by omega)))
      have h1 := cellAt_val hat (i % 7) (Nat.mod_lt _ (by omega))
      have e : 0 + i / 7 * encC.size + i % 7 = i := by show 0 + i / 7 * 7 + i % 7 = i; omega
      rw [e] at h1
      unfold World.cell? at h1
      rw [hg] at h1
      exact h1
    · rw [if_neg hi']
      simp [Array.getD, show i < cur.size by omega]
set_option maxRecDepth 100000 in
set_option maxHeartbeats 4000000 in
theorem mend8_c (A : Option Addr) (n cap : Nat) (f : Nat → Cl) (wb : Bool) (dir : Int) (ex : Bool) (w : World) (hr : Rd w A n f) (h1 : 1 ≤ n) (hn : n ≤ 5000) (hcap : n ≤ cap) :
    Calls Try.prog 47 #[.agg #[.slice A n cap, .bool wb, .int .i64 dir, .bool ex]] w fun e w' => ∃ A' c', e = .returned (.agg #[.slice A' n c', .bool wb, .int .i64 dir, .bool ex]) ∧ Below w.heap.size w w' ∧ Rd w' A' n (mend n f) := by
  obtain ⟨i3, hi3, hz3, hs3, hb3⟩ := cell_parts
  have HI3 := Lib.hid hi3
  have HZ3 := Lib.hid hz3
  have HS3 := Lib.hid hs3
  have HB3 := Lib.hid hb3
  have HR := Lib.hid hr
  clear hi3 hz3 hs3 hb3 hr
  go_enter Try.func47, Try.ntmps47
  go_upto_region 1 with fail
  generalize hw0 : (w.alloc _).alloc _ = w0
  have hbw : Below w.heap.size w w0 := by rw [← hw0]; (repeat (first | (with_reducible exact Below.refl _ _) | (with_reducible assumption) | (with_reducible refine Below.grow ?_ ?_ _ _) | (with_reducible refine Below.drewN' ?_ _) | (with_reducible refine Below.drew ?_) | (with_reducible refine Below.alloc ?_ ?_ _) | (with_reducible refine Below.setCell ?_ ?_ _) | omega | (focus (simp; done)) | (focus (simp; omega))))
  have hB1 : Blk w0 w.heap.size 48 #[.slice A n cap, .bool wb, .int .i64 dir, .bool ex] := by rw [← hw0]; exact (Blk.new _ _ _).alloc _
  have hB2 : Blk w0 (w.heap.size + 1) 48 #[.slice none 0 0, .bool false, .int .i64 0, .bool false] := by rw [← hw0]; exact Blk.new_at (by simp)
  clear hw0
  have HBW := Lib.hid hbw
  have HB1 := Lib.hid hB1
  have HB2 := Lib.hid hB2
  have HXS := Lib.hid (rd_toX ((HR.out.below hbw).below ((Below.refl w0.heap.size w0).alloc (Nat.le_refl _) (.cells #[] 59))) hcap)
  obtain ⟨r0, r1, r2, r3, rf, rl⟩ := hB1.facts4
  clear hB1 hB2 hbw
  go_wp2_with (at_builtin; refine wpList_append_X encC rfl _ _ _ rfl w0.heap.size 59 56 i3 _ rfl HI3.out HZ3.out HS3.out HB3.out rfl _ _ [] (listF n f) rfl rfl (ownX_new _ _ _ _ rfl (Nat.le_refl _)) HXS.out (by unfold maxLen; rw [listF_len, List.length_nil]; omega) (by rw [listF_len, List.length_nil]; omega) (by simp) ?_; intro v1 w2 hv hgb hor)
  rw [List.nil_append] at hv
  have hb2 := below_ownx ((Below.refl w0.heap.size w0).alloc (Nat.le_refl _) (.cells #[] 59)) hgb (fun g hg => by have hg : some w0.heap.size = some g := hg; injection hg with hg; omega) (by simp)
  obtain ⟨g, c5, rfl⟩ : ∃ g c5, v1 = .slice (some ⟨g, 0, none⟩) n c5 := by
    have hv' := hv
    unfold OwnX World.ownsRow at hv'
    obtain ⟨_, ⟨e, h0⟩ | ⟨g', cap', cur, e, _⟩⟩ := hv'
    · rw [listF_len] at h0
      omega
    · rw [listF_len] at e
      exact ⟨g', cap', e⟩
  have hgl := (hv.lt (g := g) rfl).1
  have hos := ownS_of hv
  have hB1 := HB1.out.below hb2 HB1.out.lt
  have HC5 : Hid (n ≤ c5) := by
    obtain ⟨_, _, e, hc⟩ := hv.rd.len
    injection e with _ e1 e2
    rw [listF_len] at hc
    show _ ≤ _
    omega
  have hc5 := HC5.out
  clear hgb hor hv r0 r1 r2 r3 rf rl
  have hw0s : w.heap.size + 1 < w0.heap.size := HB2.out.lt
  go_loopw [4] (fun i wz => ∃ k : Nat, k ≤ n ∧ i = .int .i64 k ∧ OwnS wz g n (mix n f k) ∧ Below w0.heap.size w0 wz) (fun i _ => n - (intOf i).toNat)
  case atStart => exact ⟨0, Nat.zero_le _, rfl, hos.congr fun i _ => by unfold mix; rw [if_neg (by omega)], hb2⟩
  case round =>
    clear hos hb2 hB1
    obtain ⟨k, hk, rfl, hos, hb⟩ := hrel
    by_cases hlt : k < n
    · have hltI : (k : Int) < n := by omega
      obtain ⟨c0, c1, c2, c3, c4, c5', c6⟩ : CellAt wr g (k * 7) (f k) := by have := hos.at_ hlt; rwa [mix_at] at this
      have hfz := hos.frozen
      have hgz := hos.lt
      go_upto_region 5 with fail
      go_cut [57] from 15 to 57 (fun s wc => wc = wr ∧ s = .bool (lostB n f k))
      case first =>
        --<1
        have HL : Hid (lostB n f k = decide ((f k).w = 0 ∧ (k = 0 ∨ (mix n f k (k - 1)).w ≠ 2) ∨ (f k).w = 2 ∧ (k + 1 = n ∨ (mix n f k (k + 1)).w ≠ 0))) := by
          show _ = _
          rw [← lost_mix hlt]
          unfold lostB
          rw [mix_at]
        have d1 := fun h : k + 1 < n => (hos.at_ h).2.2.2.1
        have d2 := (hos.at_ (i := k - 1) (by omega)).2.2.2.1
        clear c0 c1 c2 c4 c5' c6 hos hb
        generalize lostB n f k = S at *
        generalize (f k).w = w0_ at *
        generalize (mix n f k (k + 1)).w = w1_ at *
        generalize (mix n f k (k - 1)).w = w2_ at *
        by_cases h1 : k = 0
        · subst h1
          by_cases h2 : n = 1
          · subst h2
            clear d1 d2
            go_wp2
            all_goals (go_meet; case rel => exact ⟨rfl, by rw [HL.out]; congr 1; grind⟩)
          · have d1 := d1 (by omega)
            have h2' : ¬ (n : Int) ≤ 1 := by omega
            clear d2
            go_wp2
            all_goals (go_meet; case rel => exact ⟨rfl, by rw [HL.out]; congr 1; grind⟩)
        · by_cases h2 : k + 1 = n
          · clear d1
            go_wp2
            all_goals (go_meet; case rel => exact ⟨rfl, by rw [HL.out]; congr 1; grind⟩)
          · have d1 := d1 (by omega)
            go_wp2
            all_goals (go_meet; case rel => exact ⟨rfl, by rw [HL.out]; congr 1; grind⟩)
        -->1
      case rest =>
        obtain ⟨rfl, rfl⟩ := hcut
        cases hl : lostB n f k
        · go_wp2_with fail
          go_roundw
          case rel => exact ⟨k + 1, by omega, by go_num, hos.congr fun i _ => by unfold mix mend; grind, hb⟩
          case measure => simp [intOf]; omega
        · go_wp2_with (first | (go_at_call 29; refine (blank8_c _ _ _ _).mono ?_; rintro e w1 ⟨rfl, X1, d1, rfl⟩))
          go_roundw
          case rel => exact ⟨k + 1, by omega, by go_num, ((hos.store k hlt (blank (f k).fg (f k).bg (f k).fl) rfl).grow _ _).congr fun i _ => by unfold mix mend upd Cl.bl; grind, by have hbs := hb.size; (repeat (first | (with_reducible exact Below.refl _ _) | (with_reducible assumption) | (with_reducible refine Below.grow ?_ ?_ _ _) | (with_reducible refine Below.drewN' ?_ _) | (with_reducible refine Below.drew ?_) | (with_reducible refine Below.alloc ?_ ?_ _) | (with_reducible refine Below.setCell ?_ ?_ _) | omega | (focus (simp; done)) | (focus (simp; omega))))⟩
          case measure => simp [intOf]; omega
    · obtain rfl : k = n := by omega
      have hB1 := HB1.out.below hb HB1.out.lt
      have hB2 := HB2.out.below hb HB2.out.lt
      obtain ⟨r0, r1, r2, r3, rf, rl⟩ := hB1.facts4; obtain ⟨z0, z1, z2, z3, zf, zl⟩ := hB2.facts4
      have hos' : OwnS wr g k (mend k f) := hos.congr fun i hi => by unfold mix; rw [if_pos hi]
      have HOS := Lib.hid hos'
      have HBZ := Lib.hid hB2
      have HBR := Lib.hid (HBW.out.trans (hb.mono HBW.out.size))
      clear hos hos' hb hB1 hB2
      go_wp2_with (first | (go_at_call 54; refine (with_c _ _ _ _ _ _ _ _ _ _).mono ?_; rintro e w1 ⟨rfl, X1, d1, rfl⟩))
      refine bodyPost_ret (v := _) (by simp [results, Try.results47, go_sem, *]; try exact rfl) rfl ⟨some ⟨g, 0, none⟩, c5, rfl, by (have hbr := HBR.out; (repeat (first | (with_reducible exact Below.refl _ _) | (with_reducible assumption) | (with_reducible refine Below.grow ?_ ?_ _ _) | (with_reducible refine Below.drewN' ?_ _) | (with_reducible refine Below.drew ?_) | (with_reducible refine Below.alloc ?_ ?_ _) | (with_reducible refine Below.setCell ?_ ?_ _) | omega | (focus (simp; done)) | (focus (simp; omega))))), (OwnS.gb (row := some (w.heap.size + 1)) HOS.out (by (repeat (first | (with_reducible exact World.grownBy.refl _ _) | (with_reducible assumption) | (with_reducible refine gb_grow ?_ _ _) | (with_reducible refine gb_drewN ?_ _) | (with_reducible refine gb_drew ?_) | (with_reducible refine gb_alloc ?_ _) | (with_reducible refine gb_setCell ?_ ?_ _) | (focus (left; rfl)) | (focus (right; simp; done)) | (focus (right; simp; omega)) | (focus (right; omega))))) (by intro e; injection e; omega)).rd⟩

/-- Sane by the document is Sane -/
theorem same_mend {n : Nat} {f : Nat → Cl} : sameB n (mend n f) n f = decide (∀ i, i < n → lostB n f i = false) := by
  unfold sameB
  congr 1
  rw [eq_iff_iff]
  constructor
  · rintro ⟨_, h⟩ i hi
    cases hl : lostB n f i
    · rfl
    · have h1 := h i hi
      have h2 := lost_iff.1 hl
      unfold mend at h1
      rw [if_pos hl] at h1
      have h3 : (f i).bl.w = (f i).w := by rw [h1]
      have h4 : (1 : Int) = (f i).w := h3
      omega
  · exact fun h => ⟨rfl, fun i hi => mend_none h hi⟩
end Go.Proofs.Ytlgnchhhadnjbaa.Row
