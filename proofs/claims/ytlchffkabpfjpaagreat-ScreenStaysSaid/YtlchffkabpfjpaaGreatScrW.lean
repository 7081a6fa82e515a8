/- A screen that is printed on may be (plain); lapwinglaw15.awake. -/
import Derived.Test.YtlchffkabpfjpaaGreatScrV
import Derived.Test.YtlchffkabpfjpaaGreatGG
namespace Go.Proofs.YtlchffkabpfjpaaGreat.Scr
open Go.RowKit Go.Proofs.YtlchffkabpfjpaaGreat.Row
attribute [local go_sem ↓] scr_load_pre scr_store_pre
attribute [local go_sem] scr_cell scr_frozen
theorem newMd_ok {n q : Nat} {kp : Int} (h1 : 1 ≤ n) (h2 : n ≤ 1000) (h3 : 1 ≤ q) (h4 : q ≤ 4096) (h5 : 0 ≤ kp) (h6 : kp ≤ 200) : (newMd n q kp).Ok := by
  refine ⟨Int.le_refl _, (show (0 : Int) ≤ 2 by decide), ?_, ?_, rfl, gsC_of q h1 h2 fun i _ => ⟨rfl, newC_sane h3 h4 (by decide)⟩, rfl, rfl, ?_⟩
  · show Cur.csaneB 0 0 false false 0 0 0 66 66 66 66 0 2 0 n q 0 n = true
    unfold Cur.csaneB Cur.regionB Cur.restB Cur.insideB
    have a1 : decide ((1 : Int) ≤ n) = true := decide_eq_true (by omega)
    have a2 : decide ((n : Int) ≤ 1000) = true := decide_eq_true (by omega)
    have a3 : decide ((1 : Int) ≤ q) = true := decide_eq_true (by omega)
    have a4 : decide ((q : Int) ≤ 4096) = true := decide_eq_true (by omega)
    have a5 : decide ((0 : Int) < n) = true := decide_eq_true (by omega)
    have a6 : decide ((0 : Int) < q) = true := decide_eq_true (by omega)
    have a7 : decide ((n : Int) ≤ n) = true := decide_eq_true (by omega)
    rw [a1, a2, a3, a4, a5, a6, a7]
    generalize ((0 : Int) == (q : Int) - 1) = b
    cases b <;> decide
  · refine Tab.tsane_iff.2 ⟨by show 1 ≤ (q : Int) ∧ (q : Int) ≤ 4096; omega, Tab.okL_iff.2 ⟨fun z hz => ?_, Tab.eights_sorted _ _⟩⟩
    obtain ⟨i, hi, rfl⟩ := Tab.mem_eights.1 hz
    show _ ∧ _ < (q : Int)
    omega
  · show hsC [] kp = true
    unfold hsC
    exact decide_eq_true ⟨h5, h6, by simp [h5], fun c hc => by cases hc⟩
theorem rowC_sane {m2 : Md} (hb : Md.Ok { m2 with x := 0, wr := false }) {R v : Int} (h1 : 1 ≤ R) (h2 : R ≤ 1114111) (hv : v = 1 ∨ v = 2) (ins : Bool) : (m2.rowC R v ins).sane = true ∧ ((m2.rowC R v ins).n : Int) = m2.W := by
  have hh : m2.here.sane = true ∧ (m2.here.n : Int) = m2.W := hb.here
  have hc : (if ins = true then insC m2.x.toNat (min v (m2.W - m2.x)).toNat m2.W.toNat 0 m2.bg 0 m2.here else m2.here).sane = true ∧ (if ins = true then insC m2.x.toNat (min v (m2.W - m2.x)).toNat m2.W.toNat 0 m2.bg 0 m2.here else m2.here).n = m2.here.n := by
    split
    · exact ⟨ins_sane hh.1 0 m2.bg 0, rfl⟩
    · exact ⟨hh.1, rfl⟩
  obtain ⟨k1, k2⟩ := putC_sane (beyond := decide (m2.W - 1 < m2.x + v)) (ex := m2.ex) (k := m2.x.toNat) (fits_letter h1 h2 hv hb.pen) hb.d0 hb.d2 _ hc.1 hc.2
  exact ⟨k1, by rw [← hh.2]; exact congrArg Nat.cast k2⟩
theorem put_ok {m2 : Md} (hb : Md.Ok { m2 with x := 0, wr := false }) {R v : Int} (h1 : 1 ≤ R) (h2 : R ≤ 1114111) (hv : v = 1 ∨ v = 2) (x0 : 0 ≤ m2.x) (xv : m2.x + v ≤ m2.W) (ins au : Bool) : (m2.put R v ins au).Ok := by
  obtain ⟨hc, hn⟩ := rowC_sane hb h1 h2 hv ins
  have h := hb.setR hc hn
  obtain ⟨f1, f2, w1, w2, t0, tb, bh, _, _, y0, y1, _, oy⟩ := hb.cf
  refine h.move (x := min (m2.x + v) (m2.W - 1)) (y := m2.y) (wr := decide (m2.W - 1 < m2.x + v) && au) ⟨f1, f2, w1, w2, t0, tb, bh, ?_, ?_, y0, y1, fun hw => ?_, oy⟩
  · show 0 ≤ min (m2.x + v) (m2.W - 1)
    have : 1 ≤ m2.W := w1
    omega
  · show min (m2.x + v) (m2.W - 1) < m2.W
    omega
  · simp only [Bool.and_eq_true, decide_eq_true_eq] at hw
    show min (m2.x + v) (m2.W - 1) = m2.W - 1
    omega
theorem Md.Ok.print {m : Md} (h : m.Ok) {R v : Int} (h1 : 1 ≤ R) (h2 : R ≤ 1114111) (hv : v = 1 ∨ v = 2) (hW : v ≤ m.W) (ins au : Bool) : (m.print R v ins au).Ok := by
  obtain ⟨k1, k2, k3⟩ := pre_bare h hv hW au
  exact put_ok k1 h1 h2 hv k2 (by rw [(pre_same m v au).W_]; exact k3) ins au
theorem prMd_ok {n q : Nat} {kp : Int} {a : Nat → Int} (h1 : 1 ≤ n) (h2 : n ≤ 1000) (h3 : 1 ≤ q) (h4 : q ≤ 4096) (h5 : 0 ≤ kp) (h6 : kp ≤ 200) (ha : ∀ i, 1 ≤ a i) (hb : ∀ i, i < 200 → a i ≤ 1114111) : ∀ k, k ≤ n ∧ k ≤ 200 → (prMd n q kp a k).Ok
  | 0, _ => pr_start n q kp a ▸ newMd_ok h1 h2 h3 h4 h5 h6
  | k + 1, hk => by
    have := prMd_ok h1 h2 h3 h4 h5 h6 ha hb k (by omega)
    rw [← pr_step n q kp a (by omega) k (Nat.lt_of_le_of_lt (Nat.div_le_self _ _) (by omega))]
    exact this.print (ha k) (hb k (by omega)) (.inl rfl) (by show (1 : Int) ≤ (q : Int); omega) false true
/-- a screen in a variable of the call's own (block g) -/
def PW (w : World) (g : Nat) (m : Md) (wz : World) : Prop := ∃ S : Sn, Below w.heap.size w wz ∧ SBlk wz g S.s ∧ S.rd wz ∧ S.ft (· ≠ g) ∧ S.md = m ∧ w.heap.size ≤ g
/-- a new screen is stored -/
theorem PW.start {w w1 : World} {S : Sn} {m : Md} (h1 : Below w.heap.size w w1) (h2 : S.rd w1) (h3 : S.md = m) : PW w w1.heap.size m ((w1.alloc (.cells #[.slice dummy.gA dummy.gn dummy.gc, .int .i64 dummy.x, .int .i64 dummy.y, .bool dummy.wr, .bool dummy.og, .int .i64 dummy.fg, .int .i64 dummy.bg, .int .i64 dummy.fl, .int .u8 dummy.g0, .int .u8 dummy.g1, .int .u8 dummy.g2, .int .u8 dummy.g3, .int .i64 dummy.gl, .int .i64 dummy.gr, .int .i64 dummy.on, .int .i64 dummy.H, .int .i64 dummy.W, .int .i64 dummy.T, .int .i64 dummy.B, .slice dummy.tA dummy.tn dummy.tc, .int .i64 dummy.tw, .slice dummy.kA dummy.kn dummy.kc, .int .i64 dummy.kp, .int .i64 dummy.dir, .bool dummy.ex] 54)).setRow w1.heap.size #[.slice S.s.gA S.s.gn S.s.gc, .int .i64 S.s.x, .int .i64 S.s.y, .bool S.s.wr, .bool S.s.og, .int .i64 S.s.fg, .int .i64 S.s.bg, .int .i64 S.s.fl, .int .u8 S.s.g0, .int .u8 S.s.g1, .int .u8 S.s.g2, .int .u8 S.s.g3, .int .i64 S.s.gl, .int .i64 S.s.gr, .int .i64 S.s.on, .int .i64 S.s.H, .int .i64 S.s.W, .int .i64 S.s.T, .int .i64 S.s.B, .slice S.s.tA S.s.tn S.s.tc, .int .i64 S.s.tw, .slice S.s.kA S.s.kn S.s.kc, .int .i64 S.s.kp, .int .i64 S.s.dir, .bool S.s.ex]) := by
  have hs := h1.size
  have hd : SBlk (w1.alloc (.cells #[.slice dummy.gA dummy.gn dummy.gc, .int .i64 dummy.x, .int .i64 dummy.y, .bool dummy.wr, .bool dummy.og, .int .i64 dummy.fg, .int .i64 dummy.bg, .int .i64 dummy.fl, .int .u8 dummy.g0, .int .u8 dummy.g1, .int .u8 dummy.g2, .int .u8 dummy.g3, .int .i64 dummy.gl, .int .i64 dummy.gr, .int .i64 dummy.on, .int .i64 dummy.H, .int .i64 dummy.W, .int .i64 dummy.T, .int .i64 dummy.B, .slice dummy.tA dummy.tn dummy.tc, .int .i64 dummy.tw, .slice dummy.kA dummy.kn dummy.kc, .int .i64 dummy.kp, .int .i64 dummy.dir, .bool dummy.ex] 54)) w1.heap.size dummy := Blk.new _ _ _
  have hf : S.ft (· ≠ w1.heap.size) := h2.ft.mono fun b hb => Nat.ne_of_lt hb
  exact ⟨S, below_row (h1.alloc hs _) hs _, hd.row, (h2.below ((Below.refl _ _).alloc (Nat.le_refl _) _)).keep hf (Keeps.row _ _ (fun h => h rfl)), hf, h3, hs⟩
/-- another screen that a callee made of it is stored -/
theorem PW.store {w wz w5 : World} {g : Nat} {S S' : Sn} (h1 : Below w.heap.size w wz) (h2 : SBlk wz g S.s) (h4 : S.ft (· ≠ g)) (h6 : w.heap.size ≤ g) (k1 : Below wz.heap.size wz w5) (k2 : S'.rd w5) (k3 : ∀ P : Nat → Prop, S.ft P → S'.ft (since P wz.heap.size)) :
    PW w g S'.md (w5.setRow g #[.slice S'.s.gA S'.s.gn S'.s.gc, .int .i64 S'.s.x, .int .i64 S'.s.y, .bool S'.s.wr, .bool S'.s.og, .int .i64 S'.s.fg, .int .i64 S'.s.bg, .int .i64 S'.s.fl, .int .u8 S'.s.g0, .int .u8 S'.s.g1, .int .u8 S'.s.g2, .int .u8 S'.s.g3, .int .i64 S'.s.gl, .int .i64 S'.s.gr, .int .i64 S'.s.on, .int .i64 S'.s.H, .int .i64 S'.s.W, .int .i64 S'.s.T, .int .i64 S'.s.B, .slice S'.s.tA S'.s.tn S'.s.tc, .int .i64 S'.s.tw, .slice S'.s.kA S'.s.kn S'.s.kc, .int .i64 S'.s.kp, .int .i64 S'.s.dir, .bool S'.s.ex]) ∧ SBlk w5 g S.s := by
  have hg := Blk.lt h2
  have hB := Blk.below h2 k1 hg
  have hf : S'.ft (· ≠ g) := (k3 _ h4).mono fun b hb => by rcases hb with hb | hb <;> omega
  exact ⟨⟨S', below_row (h1.trans (k1.mono h1.size)) h6 _, SBlk.row hB, k2.keep hf (Keeps.row _ _ (fun h => h rfl)), hf, rfl, h6⟩, hB⟩
/-- one more letter is printed on a screen in a variable -/
def PrPost (w wz : World) (g : Nat) (m : Md) (S : Sn) (e : Ending) (w5 : World) : Prop := ∃ S' : Sn, e = .returned (.agg #[.slice S'.s.gA S'.s.gn S'.s.gc, .int .i64 S'.s.x, .int .i64 S'.s.y, .bool S'.s.wr, .bool S'.s.og, .int .i64 S'.s.fg, .int .i64 S'.s.bg, .int .i64 S'.s.fl, .int .u8 S'.s.g0, .int .u8 S'.s.g1, .int .u8 S'.s.g2, .int .u8 S'.s.g3, .int .i64 S'.s.gl, .int .i64 S'.s.gr, .int .i64 S'.s.on, .int .i64 S'.s.H, .int .i64 S'.s.W, .int .i64 S'.s.T, .int .i64 S'.s.B, .slice S'.s.tA S'.s.tn S'.s.tc, .int .i64 S'.s.tw, .slice S'.s.kA S'.s.kn S'.s.kc, .int .i64 S'.s.kp, .int .i64 S'.s.dir, .bool S'.s.ex]) ∧ SBlk w5 g S.s ∧ PW w g m (w5.setRow g #[.slice S'.s.gA S'.s.gn S'.s.gc, .int .i64 S'.s.x, .int .i64 S'.s.y, .bool S'.s.wr, .bool S'.s.og, .int .i64 S'.s.fg, .int .i64 S'.s.bg, .int .i64 S'.s.fl, .int .u8 S'.s.g0, .int .u8 S'.s.g1, .int .u8 S'.s.g2, .int .u8 S'.s.g3, .int .i64 S'.s.gl, .int .i64 S'.s.gr, .int .i64 S'.s.on, .int .i64 S'.s.H, .int .i64 S'.s.W, .int .i64 S'.s.T, .int .i64 S'.s.B, .slice S'.s.tA S'.s.tn S'.s.tc, .int .i64 S'.s.tw, .slice S'.s.kA S'.s.kn S'.s.kc, .int .i64 S'.s.kp, .int .i64 S'.s.dir, .bool S'.s.ex]) ∧ Below wz.heap.size wz w5
theorem pw_print {w wz : World} {g n q k : Nat} {kp : Int} {a : Nat → Int} {S : Sn} (h1 : Below w.heap.size w wz) (h2 : SBlk wz g S.s) (h3 : S.rd wz) (h4 : S.ft (· ≠ g)) (h5 : S.md = prMd n q kp a k) (h6 : w.heap.size ≤ g) (hO : S.md.Ok) (hq : 1 ≤ q) (hk : k / q < n) (ha : 1 ≤ a k) (hb : a k ≤ 1114111) {R : Int} (hR : R = a k) :
    Calls Tryz.prog 12 #[.agg #[.slice S.s.gA S.s.gn S.s.gc, .int .i64 S.s.x, .int .i64 S.s.y, .bool S.s.wr, .bool S.s.og, .int .i64 S.s.fg, .int .i64 S.s.bg, .int .i64 S.s.fl, .int .u8 S.s.g0, .int .u8 S.s.g1, .int .u8 S.s.g2, .int .u8 S.s.g3, .int .i64 S.s.gl, .int .i64 S.s.gr, .int .i64 S.s.on, .int .i64 S.s.H, .int .i64 S.s.W, .int .i64 S.s.T, .int .i64 S.s.B, .slice S.s.tA S.s.tn S.s.tc, .int .i64 S.s.tw, .slice S.s.kA S.s.kn S.s.kc, .int .i64 S.s.kp, .int .i64 S.s.dir, .bool S.s.ex], .int .i64 R, .int .i64 1, .bool false, .bool true] wz (PrPost w wz g (prMd n q kp a (k + 1)) S) := by
  subst hR
  have hW : S.md.W = (q : Int) := by rw [h5]; rfl
  refine (Print_c S (a k) 1 false true wz hO h3 ha hb (.inl rfl) (by show 1 ≤ S.md.W; rw [hW]; omega)).mono ?_
  rintro e w5 ⟨S', rfl, k1, k2, k3, k4⟩
  obtain ⟨p1, p2⟩ := PW.store h1 h2 h4 h6 k1 k2 k4
  refine ⟨S', rfl, p2, ?_⟩
  rw [k3, h5, pr_step n q kp a (by omega) k hk] at p1
  exact ⟨p1, k1⟩
theorem rdR_row {w : World} {b o n c j : Nat} {F : Nat → Rw} (h : RdR w (.slice (some ⟨b, o, none⟩) n c) (listG n F)) (hj : j < n) : RowAt w b (o + j * 4) (F j) ∧ (F j).ok w ∧ b < w.heap.size := by
  have hl : j < (listG n F).length := by rw [listG_len]; exact hj
  obtain ⟨b', o', e, hb, hat, hok⟩ := h.at_ hl
  injection e with e
  injection e with e1 e2
  subst e1 e2
  rw [listG_at] at hat hok
  exact ⟨hat, hok, hb⟩
theorem rd_zero {w : World} {r : Rw} (h : r.ok w) {j : Nat} (hj : j < r.n) : ∃ b o, r.A = some ⟨b, o, none⟩ ∧ b < w.heap.size ∧ CellAt w b (o + j * 7) (r.f j) := by
  obtain ⟨b, o, e, hb, hc⟩ := h.1 (by omega)
  exact ⟨b, o, e, hb, hc j hj⟩
def awL (i : Nat) : Int := 65 + (i : Int)
set_option maxRecDepth 100000 in
set_option maxHeartbeats 4000000 in
theorem awake15_c (w : World) : Calls Tryz.prog 4 #[] w fun e w' => e = .returned (.bool true) ∧ Grew w w' := by
  go_enter Tryz.func4, Tryz.ntmps4
  go_wp2_with fail
  ((with_reducible refine (New_c 3 2 5 3 2 _ (by decide) (by decide)).mono ?_); rintro e w1 ⟨S, rfl, hg, hrd, hmd, -⟩)
  have hI : IsScr (w1.alloc (.cells #[.slice dummy.gA dummy.gn dummy.gc, .int .i64 dummy.x, .int .i64 dummy.y, .bool dummy.wr, .bool dummy.og, .int .i64 dummy.fg, .int .i64 dummy.bg, .int .i64 dummy.fl, .int .u8 dummy.g0, .int .u8 dummy.g1, .int .u8 dummy.g2, .int .u8 dummy.g3, .int .i64 dummy.gl, .int .i64 dummy.gr, .int .i64 dummy.on, .int .i64 dummy.H, .int .i64 dummy.W, .int .i64 dummy.T, .int .i64 dummy.B, .slice dummy.tA dummy.tn dummy.tc, .int .i64 dummy.tw, .slice dummy.kA dummy.kn dummy.kc, .int .i64 dummy.kp, .int .i64 dummy.dir, .bool dummy.ex] 54)) w1.heap.size := ⟨_, Blk.new _ _ _, rfl⟩
  go_upto_region 2 with (refine wpList_scr_store S.s hI rfl rfl rfl rfl rfl ?_)
  generalize hW2 : World.setRow _ _ _ = W2
  have hP : PW w w1.heap.size (prMd 3 2 5 awL 0) W2 := hW2 ▸ PW.start hg hrd (hmd.trans (pr_start 3 2 5 awL))
  clear hW2 hI hg hrd hmd
  generalize (.agg #[.slice S.s.gA S.s.gn S.s.gc, .int .i64 S.s.x, .int .i64 S.s.y, .bool S.s.wr, .bool S.s.og, .int .i64 S.s.fg, .int .i64 S.s.bg, .int .i64 S.s.fl, .int .u8 S.s.g0, .int .u8 S.s.g1, .int .u8 S.s.g2, .int .u8 S.s.g3, .int .i64 S.s.gl, .int .i64 S.s.gr, .int .i64 S.s.on, .int .i64 S.s.H, .int .i64 S.s.W, .int .i64 S.s.T, .int .i64 S.s.B, .slice S.s.tA S.s.tn S.s.tc, .int .i64 S.s.tw, .slice S.s.kA S.s.kn S.s.kc, .int .i64 S.s.kp, .int .i64 S.s.dir, .bool S.s.ex] : Value) = V0
  generalize w1.heap.size = g at *
  go_wp2_with fail
  go_loopw [2] (fun i wz => ∃ k : Nat, k ≤ 3 ∧ i = .int .i64 k ∧ PW w g (prMd 3 2 5 awL k) wz) (fun i _ => 3 - (intOf i).toNat)
  case atStart => exact ⟨0, by omega, rfl, hP⟩
  case round =>
    obtain ⟨k, hk, rfl, S1, h1, h2, h3, h4, hm, h6⟩ := hrel
    have HMD := Lib.hid hm
    by_cases hlt : k < 3
    · have hO : S1.md.Ok := hm ▸ prMd_ok (by omega) (by omega) (by omega) (by omega) (by omega) (by omega) (fun i => by unfold awL; omega) (fun i hi => by unfold awL; omega) k (by omega)
      have HO := Lib.hid hO
      have HS := Lib.hid h2
      have hkI : (k : Int) < 3 := by omega
      clear hO h2
      go_wp2_with (refine wpList_scr_load HS.out rfl rfl rfl ?_)
      (with_reducible refine (pw_print (n := 3) (q := 2) (kp := 5) (a := awL) (k := k) (R := 65 + (k : Int)) h1 HS.out h3 h4 hm h6 HO.out (by omega) (by omega) (by unfold awL; omega) (by unfold awL; omega) rfl).mono ?_)
      rintro e w5 ⟨S2, rfl, k1, hP2, -⟩
      go_wp2_with (refine wpList_scr_store S2.s k1.isScr (by rfl) (by rfl) (by rfl) (by rfl) (by rfl) ?_)
      go_roundw
      case rel => exact ⟨k + 1, by omega, by go_num, hP2⟩
      case measure => simp [intOf]; omega
    · obtain rfl : k = 3 := by omega
      have hO : S1.md.Ok := hm ▸ prMd_ok (by omega) (by omega) (by omega) (by omega) (by omega) (by omega) (fun i => by unfold awL; omega) (fun i hi => by unfold awL; omega) 3 (by omega)
      have HO := Lib.hid hO
      have HS := Lib.hid h2
      clear hO h2
      go_wp2_with (refine wpList_scr_load HS.out rfl rfl rfl ?_)
      (with_reducible refine (sane_ok S1 _ h3 HO.out).mono ?_)
      rintro e w6 ⟨rfl, hg6⟩
      have h2 := Blk.below HS.out hg6.below (Blk.lt HS.out)
      have hgn : S1.s.gn = 3 := congrArg Md.n hm
      have hx : S1.s.x = 1 := congrArg Md.x hm
      have hy : S1.s.y = 1 := congrArg Md.y hm
      have hG : ct ∘ S1.F = prRow 2 awL 3 := congrArg Md.G hm
      have hw0 : (S1.F 0).wb = true := congrArg Ct.wb (congrFun hG 0)
      have hn1 : (S1.F 1).n = 2 := congrArg Ct.n (congrFun hG 1)
      have hf1 : ((S1.F 1).f 0).r = 67 := congrArg Cl.r (congrFun (congrArg Ct.f (congrFun hG 1)) 0)
      obtain ⟨bg, og, eA⟩ : ∃ bg og, S1.s.gA = some ⟨bg, og, none⟩ := by
        obtain ⟨b, o, e, _⟩ := h3.1.at_ (show 0 < (listG S1.s.gn S1.F).length by rw [listG_len, hgn]; decide)
        exact ⟨b, o, e⟩
      have hrd := (h3.below hg6.below).1
      rw [eA, hgn] at hrd
      obtain ⟨⟨r0, r1, r2, r3⟩, -, -⟩ := rdR_row hrd (j := 0) (by decide)
      obtain ⟨⟨s0, s1, s2, s3⟩, hok, -⟩ := rdR_row hrd (j := 1) (by decide)
      obtain ⟨bc, oc, eC, -, ⟨c0, -⟩⟩ := rd_zero hok (j := 0) (by omega)
      rw [hw0] at r1
      rw [eC, hn1] at s0
      rw [hf1] at c0
      simp only [Nat.zero_mul, Nat.add_zero] at c0 r0 r1 r2 r3
      have hC := SBlk.cells h2
      rw [eA, hgn, hx, hy] at hC
      have hI := SBlk.isScr h2
      go_wp2_with fail
      refine bodyPost_ret (v := .bool true) (by simp [results, Tryz.results4, go_sem]) rfl ⟨rfl, Below.toGrow (h1.trans (hg6.below.mono h1.size))⟩
end Go.Proofs.YtlchffkabpfjpaaGreat.Scr
