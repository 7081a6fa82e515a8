/- screen.Print of a letter that may be. -/
import Derived.Test.YtlchffkabpfjpaaGreatScrT
namespace Go.Proofs.YtlchffkabpfjpaaGreat.Scr
open Go.RowKit Go.Proofs.YtlchffkabpfjpaaGreat.Row
attribute [local go_sem ↓] scr_load_pre scr_store_pre
attribute [local go_sem] scr_cell scr_frozen
/-- a screen that differs in its rows, its cursor's place and its history alone -/
def Md.Same (a b : Md) : Prop := b = { a with G := b.G, x := b.x, y := b.y, wr := b.wr, K := b.K }
theorem Md.Same.refl (a : Md) : a.Same a := rfl
theorem Md.Same.trans {a b c : Md} (h : a.Same b) (k : b.Same c) : a.Same c := by
  unfold Md.Same at *
  rw [k, h]
theorem up_same (m : Md) (q : Nat) : m.Same (m.up q) := rfl
theorem down_same (m : Md) : m.Same m.down := by
  unfold Md.down
  split
  · rfl
  · rfl
theorem setR_same (m : Md) (c : Ct) : m.Same (m.setR c) := rfl
theorem next_same (m : Md) : m.Same m.next := by
  have h := (setR_same m (wrapC true m.here)).trans (down_same _)
  unfold Md.next
  unfold Md.Same at *
  rw [h]
section
variable {a b : Md}
theorem Md.Same.W_ (h : a.Same b) : b.W = a.W := by rw [show b = { a with G := b.G, x := b.x, y := b.y, wr := b.wr, K := b.K } from h]
theorem Md.Same.H_ (h : a.Same b) : b.H = a.H := by rw [show b = { a with G := b.G, x := b.x, y := b.y, wr := b.wr, K := b.K } from h]
theorem Md.Same.T_ (h : a.Same b) : b.T = a.T := by rw [show b = { a with G := b.G, x := b.x, y := b.y, wr := b.wr, K := b.K } from h]
theorem Md.Same.B_ (h : a.Same b) : b.B = a.B := by rw [show b = { a with G := b.G, x := b.x, y := b.y, wr := b.wr, K := b.K } from h]
theorem Md.Same.fg_ (h : a.Same b) : b.fg = a.fg := by rw [show b = { a with G := b.G, x := b.x, y := b.y, wr := b.wr, K := b.K } from h]
theorem Md.Same.bg_ (h : a.Same b) : b.bg = a.bg := by rw [show b = { a with G := b.G, x := b.x, y := b.y, wr := b.wr, K := b.K } from h]
theorem Md.Same.fl_ (h : a.Same b) : b.fl = a.fl := by rw [show b = { a with G := b.G, x := b.x, y := b.y, wr := b.wr, K := b.K } from h]
theorem Md.Same.dir_ (h : a.Same b) : b.dir = a.dir := by rw [show b = { a with G := b.G, x := b.x, y := b.y, wr := b.wr, K := b.K } from h]
theorem Md.Same.ex_ (h : a.Same b) : b.ex = a.ex := by rw [show b = { a with G := b.G, x := b.x, y := b.y, wr := b.wr, K := b.K } from h]
end
/-- ahead of a letter: the row wraps, if it waits to; a wide letter wants two places -/
def Md.pre1 (m : Md) (au : Bool) : Md := if (m.wr && au) = true then m.next else m
def Md.pre (m : Md) (v : Int) (au : Bool) : Md := if v = 2 ∧ (m.pre1 au).x = m.W - 1 then (if au = true then (m.pre1 au).next else { m.pre1 au with x := (m.pre1 au).x - 1 }) else m.pre1 au
theorem pre1_same (m : Md) (au : Bool) : m.Same (m.pre1 au) := by
  unfold Md.pre1
  split
  · exact next_same m
  · exact .refl m
theorem pre_same (m : Md) (v : Int) (au : Bool) : m.Same (m.pre v au) := by
  have h := pre1_same m au
  unfold Md.pre
  split
  · split
    · exact h.trans (next_same _)
    · exact h.trans rfl
  · exact h
theorem Md.Ok.pre1 {m : Md} (h : m.Ok) (au : Bool) : (m.pre1 au).Ok := by
  unfold Md.pre1
  split
  · exact h.next
  · exact h
theorem pre_bare {m : Md} (h : m.Ok) {v : Int} (hv : v = 1 ∨ v = 2) (hW : v ≤ m.W) (au : Bool) : Md.Ok { m.pre v au with x := 0, wr := false } ∧ 0 ≤ (m.pre v au).x ∧ (m.pre v au).x + v ≤ m.W := by
  have h1 := h.pre1 au
  have hs := (pre1_same m au).W_
  have hf := h1.cf
  have x0 := hf.x0
  have x1 := hf.x1
  unfold Md.pre
  split
  · rename_i hc
    split
    · refine ⟨h1.next.bare, Int.le_refl _, ?_⟩
      show 0 + v ≤ m.W
      omega
    · exact ⟨h1.bare, by show 0 ≤ (m.pre1 au).x - 1; omega, by show (m.pre1 au).x - 1 + v ≤ m.W; omega⟩
  · rename_i hc
    refine ⟨h1.bare, x0, ?_⟩
    rw [hs] at x1
    rcases hv with rfl | rfl
    · omega
    · have : ¬ (m.pre1 au).x = m.W - 1 := fun e => hc ⟨rfl, e⟩
      omega
/-- a letter is printed -/
def Md.put (m2 : Md) (R v : Int) (ins au : Bool) : Md :=
  { m2.setR (putC m2.x.toNat ⟨R, 0, 0, v, m2.fg, m2.bg, m2.fl⟩ m2.dir m2.ex (decide (m2.W - 1 < m2.x + v)) (if ins = true then insC m2.x.toNat (min v (m2.W - m2.x)).toNat m2.W.toNat 0 m2.bg 0 m2.here else m2.here)) with
    x := min (m2.x + v) (m2.W - 1), wr := decide (m2.W - 1 < m2.x + v) && au }
def Md.print (m : Md) (R v : Int) (ins au : Bool) : Md := (m.pre v au).put R v ins au
/-- what Print's walk holds: the screen, the letter's boxes -/
def PMid (S : Sn) (R v : Int) (m : Md) (w wc : World) : Prop :=
  ∃ S1 : Sn, WS w.heap.size (w.heap.size + 3) 4 S w wc S1 ∧ S1.md = m ∧ Blk wc (w.heap.size + 1) 3 #[.int .i64 R] ∧ Blk wc (w.heap.size + 2) 3 #[.int .i64 v] ∧ w.heap.size + 4 ≤ wc.heap.size
theorem pmid_row {S S1 S2 : Sn} {R v : Int} {w wc : World} (h1 : WS w.heap.size (w.heap.size + 3) 4 S w wc S1) (h2 : Vt 4 S w wc S2) (h3 : Blk wc (w.heap.size + 1) 3 #[.int .i64 R]) (h4 : Blk wc (w.heap.size + 2) 3 #[.int .i64 v]) (h5 : w.heap.size + 4 ≤ wc.heap.size) :
    PMid S R v S2.md w (wc.setRow w.heap.size #[.slice S2.s.gA S2.s.gn S2.s.gc, .int .i64 S2.s.x, .int .i64 S2.s.y, .bool S2.s.wr, .bool S2.s.og, .int .i64 S2.s.fg, .int .i64 S2.s.bg, .int .i64 S2.s.fl, .int .u8 S2.s.g0, .int .u8 S2.s.g1, .int .u8 S2.s.g2, .int .u8 S2.s.g3, .int .i64 S2.s.gl, .int .i64 S2.s.gr, .int .i64 S2.s.on, .int .i64 S2.s.H, .int .i64 S2.s.W, .int .i64 S2.s.T, .int .i64 S2.s.B, .slice S2.s.tA S2.s.tn S2.s.tc, .int .i64 S2.s.tw, .slice S2.s.kA S2.s.kn S2.s.kc, .int .i64 S2.s.kp, .int .i64 S2.s.dir, .bool S2.s.ex]) :=
  ⟨S2, h1.row (by omega) h2, rfl, (setRow_other wc _ _ _ (by omega)).trans h3, (setRow_other wc _ _ _ (by omega)).trans h4, by simpa [World.setRow] using h5⟩
/-- behind 'at, beyond := ..': their boxes -/
def PCut (S S2 : Sn) (R v x : Int) (by_ : Bool) (w : World) (p b : Value) (wc : World) : Prop :=
  ∃ ha hb : Nat, p = .pointer (some ⟨ha, 0, none⟩) ∧ b = .pointer (some ⟨hb, 0, none⟩) ∧ WS w.heap.size (w.heap.size + 3) 4 S w wc S2 ∧ Blk wc (w.heap.size + 1) 3 #[.int .i64 R] ∧ Blk wc (w.heap.size + 2) 3 #[.int .i64 v] ∧ w.heap.size + 4 ≤ wc.heap.size ∧
    Blk wc ha 3 #[.int .i64 x] ∧ Blk wc hb 4 #[.bool by_] ∧ w.heap.size + 4 ≤ ha ∧ w.heap.size + 4 ≤ hb
theorem stepInfo : (Tryz.prog.info? 88).map (fun i => (i.zero, i.size, i.bytes)) = some (some .nilFunc, 1, 8) := by kernel_rfl
theorem step_parts : ∃ i, Tryz.prog.info? 88 = some i ∧ i.zero = some .nilFunc ∧ i.size = 1 ∧ i.bytes = 8 := by
  obtain ⟨i, hi, hzz⟩ := Option.map_eq_some_iff.1 stepInfo
  simp only [Prod.mk.injEq] at hzz
  exact ⟨i, hi, hzz⟩
/-- behind 'if insert { steps = append(..) }' -/
def SCut (x v W bg : Int) (ins : Bool) (w3 : World) (st : Value) (wd : World) : Prop :=
  ∃ fvs : List Fv, Below w3.heap.size w3 wd ∧ OwnX encF wd w3.heap.size 88 st fvs ∧ ((ins = false ∧ fvs = []) ∨ (ins = true ∧ ∃ b1 b2 b3 b4, fvs = [⟨70, #[.pointer (some ⟨b1, 0, none⟩), .pointer (some ⟨b2, 0, none⟩), .pointer (some ⟨b3, 0, none⟩), .pointer (some ⟨b4, 0, none⟩)]⟩] ∧
    Blk wd b1 3 #[.int .i64 x] ∧ Blk wd b2 3 #[.int .i64 v] ∧ Blk wd b3 3 #[.int .i64 W] ∧ Blk wd b4 26 #[.int .i64 0, .int .i64 bg, .int .i64 0]))
theorem pre1_yes {s : Sc} {F : Nat → Rw} {zs : List Int} {L : List Rw} {au : Bool} (h : (s.wr && au) = true) : (Sn.md ⟨s, F, zs, L⟩).pre1 au = (Sn.md ⟨s, F, zs, L⟩).next := if_pos h
theorem pre1_no {s : Sc} {F : Nat → Rw} {zs : List Int} {L : List Rw} {au : Bool} (h : (s.wr && au) = false) : (Sn.md ⟨s, F, zs, L⟩).pre1 au = Sn.md ⟨s, F, zs, L⟩ := if_neg (by show ¬ (s.wr && au) = true; rw [h]; decide)
theorem pre_no {m : Md} {v : Int} {au : Bool} (h : ¬ (v = 2 ∧ (m.pre1 au).x = m.W - 1)) : m.pre v au = m.pre1 au := if_neg h
theorem pre_next {m : Md} {v : Int} (h : v = 2 ∧ (m.pre1 true).x = m.W - 1) : m.pre v true = (m.pre1 true).next := by
  unfold Md.pre
  rw [if_pos h]
  rfl
theorem pre_back {m : Md} {v : Int} (h : v = 2 ∧ (m.pre1 false).x = m.W - 1) : m.pre v false = { m.pre1 false with x := (m.pre1 false).x - 1 } := by
  unfold Md.pre
  rw [if_pos h]
  rfl
def P0 (S : Sn) (R v : Int) (w wc : World) : Prop := WS w.heap.size (w.heap.size + 3) 4 S w wc S ∧ Blk wc (w.heap.size + 1) 3 #[.int .i64 R] ∧ Blk wc (w.heap.size + 2) 3 #[.int .i64 v] ∧ w.heap.size + 4 ≤ wc.heap.size
theorem p0_start {S : Sn} {R v : Int} {w : World} (hr : S.rd w) : P0 S R v w ((((w.alloc (.cells #[.slice S.s.gA S.s.gn S.s.gc, .int .i64 S.s.x, .int .i64 S.s.y, .bool S.s.wr, .bool S.s.og, .int .i64 S.s.fg, .int .i64 S.s.bg, .int .i64 S.s.fl, .int .u8 S.s.g0, .int .u8 S.s.g1, .int .u8 S.s.g2, .int .u8 S.s.g3, .int .i64 S.s.gl, .int .i64 S.s.gr, .int .i64 S.s.on, .int .i64 S.s.H, .int .i64 S.s.W, .int .i64 S.s.T, .int .i64 S.s.B, .slice S.s.tA S.s.tn S.s.tc, .int .i64 S.s.tw, .slice S.s.kA S.s.kn S.s.kc, .int .i64 S.s.kp, .int .i64 S.s.dir, .bool S.s.ex] 54)).alloc (.cells #[.int .i64 R] 3)).alloc (.cells #[.int .i64 v] 3)).alloc (.cells #[.slice dummy.gA dummy.gn dummy.gc, .int .i64 dummy.x, .int .i64 dummy.y, .bool dummy.wr, .bool dummy.og, .int .i64 dummy.fg, .int .i64 dummy.bg, .int .i64 dummy.fl, .int .u8 dummy.g0, .int .u8 dummy.g1, .int .u8 dummy.g2, .int .u8 dummy.g3, .int .i64 dummy.gl, .int .i64 dummy.gr, .int .i64 dummy.on, .int .i64 dummy.H, .int .i64 dummy.W, .int .i64 dummy.T, .int .i64 dummy.B, .slice dummy.tA dummy.tn dummy.tc, .int .i64 dummy.tw, .slice dummy.kA dummy.kn dummy.kc, .int .i64 dummy.kp, .int .i64 dummy.dir, .bool dummy.ex] 54)) := by
  have hb : Below w.heap.size w ((((w.alloc (.cells #[.slice S.s.gA S.s.gn S.s.gc, .int .i64 S.s.x, .int .i64 S.s.y, .bool S.s.wr, .bool S.s.og, .int .i64 S.s.fg, .int .i64 S.s.bg, .int .i64 S.s.fl, .int .u8 S.s.g0, .int .u8 S.s.g1, .int .u8 S.s.g2, .int .u8 S.s.g3, .int .i64 S.s.gl, .int .i64 S.s.gr, .int .i64 S.s.on, .int .i64 S.s.H, .int .i64 S.s.W, .int .i64 S.s.T, .int .i64 S.s.B, .slice S.s.tA S.s.tn S.s.tc, .int .i64 S.s.tw, .slice S.s.kA S.s.kn S.s.kc, .int .i64 S.s.kp, .int .i64 S.s.dir, .bool S.s.ex] 54)).alloc (.cells #[.int .i64 R] 3)).alloc (.cells #[.int .i64 v] 3)).alloc (.cells #[.slice dummy.gA dummy.gn dummy.gc, .int .i64 dummy.x, .int .i64 dummy.y, .bool dummy.wr, .bool dummy.og, .int .i64 dummy.fg, .int .i64 dummy.bg, .int .i64 dummy.fl, .int .u8 dummy.g0, .int .u8 dummy.g1, .int .u8 dummy.g2, .int .u8 dummy.g3, .int .i64 dummy.gl, .int .i64 dummy.gr, .int .i64 dummy.on, .int .i64 dummy.H, .int .i64 dummy.W, .int .i64 dummy.T, .int .i64 dummy.B, .slice dummy.tA dummy.tn dummy.tc, .int .i64 dummy.tw, .slice dummy.kA dummy.kn dummy.kc, .int .i64 dummy.kp, .int .i64 dummy.dir, .bool dummy.ex] 54)) := by exact bcAll
  exact ⟨⟨⟨hb, (((Blk.new _ _ _).alloc _).alloc _).alloc _, ⟨dummy, Blk.new_at (by simp)⟩, Nat.le_refl _, by omega, by omega⟩, Vt.start 4 hr hb⟩, ((Blk.new_at (by simp)).alloc _).alloc _, (Blk.new_at (by simp)).alloc _, by simp⟩
theorem P0.below {S : Sn} {R v : Int} {w wc wd : World} (h : P0 S R v w wc) (hb : Below wc.heap.size wc wd) : P0 S R v w wd := ⟨h.1.below hb, h.2.1.below hb h.2.1.lt, h.2.2.1.below hb h.2.2.1.lt, Nat.le_trans h.2.2.2 hb.size⟩
theorem fits_letter {R v fg bg fl : Int} (h1 : 1 ≤ R) (h2 : R ≤ 1114111) (hv : v = 1 ∨ v = 2) (hp : penB fg bg fl = true) : fitsB ⟨R, 0, 0, v, fg, bg, fl⟩ = true := by
  rw [fits_iff]
  refine ⟨by simp, by simp, by simp, by simp, by simp, by simp, by show 0 ≤ R; omega, h2, by simp, hp, ?_⟩
  rcases hv with rfl | rfl
  · exact .inr (.inl rfl)
  · exact .inr (.inr ⟨rfl, by show R ≠ 0; omega⟩)
/-- .. what is done to the row -/
def Md.rowC (m2 : Md) (R v : Int) (ins : Bool) : Ct := putC m2.x.toNat ⟨R, 0, 0, v, m2.fg, m2.bg, m2.fl⟩ m2.dir m2.ex (decide (m2.W - 1 < m2.x + v)) (if ins = true then insC m2.x.toNat (min v (m2.W - m2.x)).toNat m2.W.toNat 0 m2.bg 0 m2.here else m2.here)
theorem put_md {S2 S5 : Sn} {R v xm : Int} {ins au b : Bool} (h : S5.md = S2.md.setR (S2.md.rowC R v ins)) (hx : xm = min (S2.s.x + v) (S2.s.W - 1)) (hb : b = (decide (S2.s.W - 1 < S2.s.x + v) && au)) :
    Sn.md ⟨{ S5.s with x := xm, wr := b }, S5.F, S5.zs, S5.L⟩ = S2.md.put R v ins au := by
  have e : Sn.md ⟨{ S5.s with x := xm, wr := b }, S5.F, S5.zs, S5.L⟩ = { S5.md with x := xm, wr := b } := rfl
  rw [e, h, hx, hb]
  rfl
set_option maxRecDepth 100000 in
set_option maxHeartbeats 4000000 in
theorem Print_c (S : Sn) (R v : Int) (ins au : Bool) (w : World) (hs : S.md.Ok) (hr : S.rd w) (hR1 : 1 ≤ R) (hR2 : R ≤ 1114111) (hv : v = 1 ∨ v = 2) (hvW : v ≤ S.s.W) :
    Calls Tryz.prog 12 #[.agg #[.slice S.s.gA S.s.gn S.s.gc, .int .i64 S.s.x, .int .i64 S.s.y, .bool S.s.wr, .bool S.s.og, .int .i64 S.s.fg, .int .i64 S.s.bg, .int .i64 S.s.fl, .int .u8 S.s.g0, .int .u8 S.s.g1, .int .u8 S.s.g2, .int .u8 S.s.g3, .int .i64 S.s.gl, .int .i64 S.s.gr, .int .i64 S.s.on, .int .i64 S.s.H, .int .i64 S.s.W, .int .i64 S.s.T, .int .i64 S.s.B, .slice S.s.tA S.s.tn S.s.tc, .int .i64 S.s.tw, .slice S.s.kA S.s.kn S.s.kc, .int .i64 S.s.kp, .int .i64 S.s.dir, .bool S.s.ex], .int .i64 R, .int .i64 v, .bool ins, .bool au] w (SPost S w (fun m => m = S.md.print R v ins au)) := by
  have HR := Lib.hid hr
  have HV := Lib.hid hv
  have HS := Lib.hid hs
  obtain ⟨s, F, zs, L⟩ := S
  have hw1 := hs.cf.w1
  have hw2 := hs.cf.w2
  simp only [Sn.md] at hw1 hw2
  dsimp only at hvW
  have c1 : decide (R < 1) = false := decide_eq_false (by omega)
  have c2 : decide (1114111 < R) = false := decide_eq_false (by omega)
  have c3 : decide (v < 1) = false := decide_eq_false (by omega)
  have c4 : decide (2 < v) = false := decide_eq_false (by omega)
  have c5 : decide (s.W < v) = false := decide_eq_false (by omega)
  have v1 : 1 ≤ v := by omega
  have v2 : v ≤ 2 := by omega
  clear hr hv hs
  dsimp only
  go_enter Tryz.func12, Tryz.ntmps12
  go_upto_region 1 with fail
  generalize hW0 : (((w.alloc _).alloc _).alloc _).alloc _ = W0
  have hP : P0 ⟨s, F, zs, L⟩ R v w W0 := hW0 ▸ p0_start HR.out
  clear hW0
  go_wp2_with (refine hP.1.wload rfl rfl rfl ?_)
  refine (sane_ok ⟨s, F, zs, L⟩ _ hP.1.v.rd HS.out).mono ?_
  rintro e w1 ⟨rfl, hg⟩
  obtain ⟨hX, hA, hB, hz⟩ := hP.below hg.below
  clear hg hP
  obtain ⟨a0, al⟩ := blk_one hA
  obtain ⟨b0, bl⟩ := blk_one hB
  have rS := SBlk.isScr hX.x.B; have rL := SBlk.cells hX.x.B; have rZ := IsScr.lt rS
  go_upto_region 4 with fail
  generalize (.agg #[.slice s.gA s.gn s.gc, .int .i64 s.x, .int .i64 s.y, .bool s.wr, .bool s.og, .int .i64 s.fg, .int .i64 s.bg, .int .i64 s.fl, .int .u8 s.g0, .int .u8 s.g1, .int .u8 s.g2, .int .u8 s.g3, .int .i64 s.gl, .int .i64 s.gr, .int .i64 s.on, .int .i64 s.H, .int .i64 s.W, .int .i64 s.T, .int .i64 s.B, .slice s.tA s.tn s.tc, .int .i64 s.tw, .slice s.kA s.kn s.kc, .int .i64 s.kp, .int .i64 s.dir, .bool s.ex] : Value) = V0
  obtain ⟨wa, HWA⟩ : ∃ wa, Hid ((s.wr && au) = wa) := ⟨_, Lib.hid rfl⟩
  go_cut [51] from 46 to 51 (fun u wc => w1 = wc ∧ u = .bool wa)
  case first =>
    go_wp2_with fail
    all_goals (go_meet; case rel => exact ⟨rfl, by rw [← HWA.out]; simp [*]⟩)
  case rest =>
    obtain ⟨rfl, rfl⟩ := hcut
    go_upto_if 51 with fail
    go_cut [51] from 52 to 53 (fun _ wd => PMid ⟨s, F, zs, L⟩ R v ((Sn.md ⟨s, F, zs, L⟩).pre1 au) w wd)
    case first =>
      cases wa
      · go_wp2_with fail
        go_meet
        case rel => exact ⟨_, hX, (pre1_no HWA.out).symm, hA, hB, hz⟩
      · go_wp2_with (refine hX.wload rfl rfl rfl ?_)
        (with_reducible refine (next_c ⟨s, F, zs, L⟩ _ HS.out hX.v.rd).mono ?_)
        intro e w3 hp
        have hg3 : Below w1.heap.size w1 w3 := by obtain ⟨_, _, h, _⟩ := hp; exact h
        obtain ⟨S2, rfl, hX3, hV3, hm3, hz3⟩ := hX.post hz hp
        have hA3 := hA.below hg3 hA.lt
        have hB3 := hB.below hg3 hB.lt
        go_wp2_with (refine wpList_scr_store S2.s hX3.x.B.isScr (by rfl) (by rfl) (by rfl) (by rfl) (by rfl) ?_)
        go_meet
        case rel =>
          have h := pmid_row hX3 hV3 hA3 hB3 hz3
          rw [hm3, ← pre1_yes HWA.out] at h
          exact h
    case rest =>
      obtain ⟨S1, hX1, hm1, hA1, hB1, hz1⟩ := hcut
      clear hX hA hB hz a0 al b0 bl
      clear rS rL rZ
      have hO1 : S1.md.Ok := hm1 ▸ HS.out.pre1 au
      obtain ⟨s1, F1, zs1, L1⟩ := S1
      have HO1 := Lib.hid hO1
      have HM1 := Lib.hid hm1
      have x0 := hO1.cf.x0
      have x1 := hO1.cf.x1
      have HW1 := Lib.hid (show s1.W = s.W by have h := (pre1_same (Sn.md ⟨s, F, zs, L⟩) au).W_; rw [← hm1] at h; exact h)
      simp only [Sn.md] at x0 x1
      have x1' : s1.x < s.W := by have := HW1.out; omega
      clear hO1 hm1 x1
      obtain ⟨wy, rfl⟩ : ∃ wy, wy = wc := ⟨_, rfl⟩
      obtain ⟨b0, bl⟩ := blk_one hB1
      have rS := SBlk.isScr hX1.x.B; have rL := SBlk.cells hX1.x.B; have rZ := IsScr.lt rS
      go_upto_region 6 with fail
      obtain ⟨wb, HWB⟩ : ∃ wb, Hid (decide (v = 2 ∧ s1.x = s.W - 1) = wb) := ⟨_, Lib.hid rfl⟩
      go_cut [62] from 54 to 62 (fun u wd => wy = wd ∧ u = .bool wb)
      case first =>
        rcases Bool.eq_false_or_eq_true (v == 2) with hv2 | hv2
        · go_wp2_with fail
          go_meet
          case rel =>
            have e : v = 2 := by simpa using hv2
            refine ⟨rfl, ?_⟩
            rw [← HWB.out, Value.bool.injEq, Bool.eq_iff_iff]
            simp [e]
        · go_wp2_with fail
          go_meet
          case rel =>
            have e : ¬ v = 2 := by simpa using hv2
            refine ⟨rfl, ?_⟩
            rw [← HWB.out]
            simp [e]
      case rest =>
        obtain ⟨rfl, rfl⟩ := hcut
        go_upto_if 62 with fail
        go_cut [62] from 63 to 71 (fun _ wd => PMid ⟨s, F, zs, L⟩ R v ((Sn.md ⟨s, F, zs, L⟩).pre v au) w wd)
        case first =>
          cases wb
          · go_wp2_with fail
            go_meet
            case rel => exact ⟨_, hX1, by rw [pre_no]; exact HM1.out; rw [← HM1.out]; exact of_decide_eq_false HWB.out, hA1, hB1, hz1⟩
          · cases au
            · go_wp2_with fail
              go_meet
              case rel =>
                exact ⟨⟨{ s1 with x := s1.x - 1 }, F1, zs1, L1⟩, hX1.cell (by omega) 1 _ (fun v => ⟨v.rd, v.out, v.gen⟩) rfl, by rw [pre_back (by rw [← HM1.out]; exact of_decide_eq_true HWB.out), ← HM1.out]; rfl, blk_other hA1 _ _ (by simp), blk_other hB1 _ _ (by simp), by simpa [World.setCell] using hz1⟩
            · go_wp2_with (refine hX1.wload rfl rfl rfl ?_)
              (with_reducible refine (next_c ⟨s1, F1, zs1, L1⟩ _ HO1.out hX1.v.rd).mono ?_)
              intro e w3 hp
              have hg3 : Below wy.heap.size wy w3 := by obtain ⟨_, _, h, _⟩ := hp; exact h
              obtain ⟨S2, rfl, hX3, hV3, hm3, hz3⟩ := hX1.post hz1 hp
              have hA3 := hA1.below hg3 hA1.lt
              have hB3 := hB1.below hg3 hB1.lt
              go_wp2_with (refine wpList_scr_store S2.s hX3.x.B.isScr (by rfl) (by rfl) (by rfl) (by rfl) (by rfl) ?_)
              go_meet
              case rel =>
                have h := pmid_row hX3 hV3 hA3 hB3 hz3
                rw [hm3, HM1.out, ← pre_next (by rw [← HM1.out]; exact of_decide_eq_true HWB.out)] at h
                exact h
        case rest =>
          obtain ⟨S2, hX2, hm2, hA2, hB2, hz2⟩ := hcut
          clear hX1 hA1 hB1 hz1 b0 bl x0 x1'
          clear rS rL rZ
          have hO2 := pre_bare HS.out HV.out (show v ≤ (Sn.md ⟨s, F, zs, L⟩).W from hvW) au
          rw [← hm2] at hO2
          have HSM := Lib.hid (show (Sn.md ⟨s, F, zs, L⟩).Same S2.md from hm2 ▸ pre_same _ v au)
          obtain ⟨s2, F2, zs2, L2⟩ := S2
          obtain ⟨ho2, x0, xv⟩ := hO2
          have HO2 := Lib.hid ho2
          have HM2 := Lib.hid hm2
          have x0' : 0 ≤ s2.x := x0
          have xv' : s2.x + v ≤ s.W := xv
          clear ho2 hm2 x0 xv
          obtain ⟨wy2, rfl⟩ : ∃ wy, wy = wc := ⟨_, rfl⟩
          go_upto_region 10 with fail
          obtain ⟨bw, HBW⟩ : ∃ bw, Hid (decide (s.W - 1 < s2.x + v) = bw) := ⟨_, Lib.hid rfl⟩
          go_cut [12, 13] from 72 to 81 (fun p b wd => PCut ⟨s, F, zs, L⟩ ⟨s2, F2, zs2, L2⟩ R v s2.x bw w p b wd)
          case first =>
            have hd := HBW.out
            have hwx : IntKind.i64.wrap (s2.x + v) = s2.x + v := IntWalk.i64_in _ (by omega)
            refine hr_start (S := (fun w' => WS w.heap.size (w.heap.size + 3) 4 ⟨s, F, zs, L⟩ w w' ⟨s2, F2, zs2, L2⟩ ∧ Blk w' (w.heap.size + 2) 3 #[.int .i64 v])) (by kernel_rfl) rfl ?_ (fun hHeld => ?_)
            · ((try dsimp only); (first | exact ⟨hX2.drew, hB2⟩ | exact hHeld | exact ⟨hHeld.1.alloc _, hHeld.2.alloc _⟩ | exact ⟨((hX2.alloc _).alloc _).drew, (hB2.alloc _).alloc _⟩))
            refine hr_t 0 (v := ?_) ?_ ?_
            rotate_left
            focus (intro wS hSw; (obtain ⟨hSw1, hSw2⟩ := hSw; have qS := SBlk.isScr hSw1.x.B; have qL := SBlk.cells hSw1.x.B; have qZ := IsScr.lt qS; obtain ⟨q0, ql⟩ := blk_one hSw2); go_simp; (try with_reducible rfl))
            simp only [st0, st1]
            refine hr_t 1 (v := ?_) ?_ ?_
            rotate_left
            focus (intro wS hSw; (obtain ⟨hSw1, hSw2⟩ := hSw; have qS := SBlk.isScr hSw1.x.B; have qL := SBlk.cells hSw1.x.B; have qZ := IsScr.lt qS; obtain ⟨q0, ql⟩ := blk_one hSw2); go_simp; (try with_reducible rfl))
            simp only [st0, st1]
            refine hr_t 2 (v := ?_) ?_ ?_
            rotate_left
            focus (intro wS hSw; (obtain ⟨hSw1, hSw2⟩ := hSw; have qS := SBlk.isScr hSw1.x.B; have qL := SBlk.cells hSw1.x.B; have qZ := IsScr.lt qS; obtain ⟨q0, ql⟩ := blk_one hSw2); go_simp; (try with_reducible rfl))
            simp only [st0, st1]
            refine hr_t 3 (v := ?_) ?_ ?_
            rotate_left
            focus (intro wS hSw; (obtain ⟨hSw1, hSw2⟩ := hSw; have qS := SBlk.isScr hSw1.x.B; have qL := SBlk.cells hSw1.x.B; have qZ := IsScr.lt qS; obtain ⟨q0, ql⟩ := blk_one hSw2); go_simp; (try with_reducible rfl))
            simp only [st0, st1]
            refine hr_t 4 (v := ?_) ?_ ?_
            rotate_left
            focus (intro wS hSw; (obtain ⟨hSw1, hSw2⟩ := hSw; have qS := SBlk.isScr hSw1.x.B; have qL := SBlk.cells hSw1.x.B; have qZ := IsScr.lt qS; obtain ⟨q0, ql⟩ := blk_one hSw2); go_simp; (try with_reducible rfl))
            simp only [st0, st1]
            refine hr_t 5 (v := ?_) ?_ ?_
            rotate_left
            focus (intro wS hSw; (obtain ⟨hSw1, hSw2⟩ := hSw; have qS := SBlk.isScr hSw1.x.B; have qL := SBlk.cells hSw1.x.B; have qZ := IsScr.lt qS; obtain ⟨q0, ql⟩ := blk_one hSw2); go_simp; (try with_reducible rfl))
            simp only [st0, st1]
            refine hr_t 6 (v := ?_) ?_ ?_
            rotate_left
            focus (intro wS hSw; (obtain ⟨hSw1, hSw2⟩ := hSw; have qS := SBlk.isScr hSw1.x.B; have qL := SBlk.cells hSw1.x.B; have qZ := IsScr.lt qS; obtain ⟨q0, ql⟩ := blk_one hSw2); go_simp; (try with_reducible rfl))
            simp only [st0, st1]
            refine hr_t 7 (v := ?_) ?_ ?_
            rotate_left
            focus (intro wS hSw; (obtain ⟨hSw1, hSw2⟩ := hSw; have qS := SBlk.isScr hSw1.x.B; have qL := SBlk.cells hSw1.x.B; have qZ := IsScr.lt qS; obtain ⟨q0, ql⟩ := blk_one hSw2); go_simp; (try with_reducible rfl))
            simp only [st0, st1]
            refine hr_t 8 (v := ?_) ?_ ?_
            rotate_left
            focus (intro wS hSw; (obtain ⟨hSw1, hSw2⟩ := hSw; have qS := SBlk.isScr hSw1.x.B; have qL := SBlk.cells hSw1.x.B; have qZ := IsScr.lt qS; obtain ⟨q0, ql⟩ := blk_one hSw2); go_simp; (try with_reducible rfl))
            simp only [st0, st1]
            refine hr_t 9 (v := ?_) ?_ ?_
            rotate_left
            focus (intro wS hSw; (obtain ⟨hSw1, hSw2⟩ := hSw; have qS := SBlk.isScr hSw1.x.B; have qL := SBlk.cells hSw1.x.B; have qZ := IsScr.lt qS; obtain ⟨q0, ql⟩ := blk_one hSw2); go_simp; (try with_reducible rfl))
            simp only [st0, st1]
            refine hr_two (i := 10) (j := 11) rfl rfl rfl rfl (by kernel_rfl) (by kernel_rfl) (by kernel_rfl) (fun K hK => ?_) (fun K hK => ?_)
            · (try go_simp)
              (try go_wp2_with fail)
              refine hK.out _ _ ?_ (fun hHeld => ?_)
              · ((try dsimp only); (first | exact ⟨hX2.drew, hB2⟩ | exact hHeld | exact ⟨hHeld.1.alloc _, hHeld.2.alloc _⟩ | exact ⟨((hX2.alloc _).alloc _).drew, (hB2.alloc _).alloc _⟩))
              clear hK K
              simp only [st0, st1]
              refine hr_o 11 (fun K hK => ?_)
              (try go_simp)
              (try go_wp2_with fail)
              refine hK.out _ _ ?_ (fun hHeld => ?_)
              · ((try dsimp only); (first | exact ⟨hX2.drew, hB2⟩ | exact hHeld | exact ⟨hHeld.1.alloc _, hHeld.2.alloc _⟩ | exact ⟨((hX2.alloc _).alloc _).drew, (hB2.alloc _).alloc _⟩))
              clear hK K
              simp only [st0, st1]
              refine hr_op0 (i := 12) rfl (by kernel_rfl) (by kernel_rfl) (fun K hK => ?_)
              (try go_simp)
              (try go_wp2_with fail)
              refine hK.out _ ?_ (fun hHeld => ?_)
              · ((try dsimp only); (first | exact ⟨hX2.drew, hB2⟩ | exact hHeld | exact ⟨hHeld.1.alloc _, hHeld.2.alloc _⟩ | exact ⟨((hX2.alloc _).alloc _).drew, (hB2.alloc _).alloc _⟩))
              clear hK K
              refine hr_op0 (i := 13) rfl (by kernel_rfl) (by kernel_rfl) (fun K hK => ?_)
              (try go_simp)
              (try go_wp2_with fail)
              refine hK.out _ ?_ (fun hHeld => ?_)
              · ((try dsimp only); (first | exact ⟨hX2.drew, hB2⟩ | exact hHeld | exact ⟨hHeld.1.alloc _, hHeld.2.alloc _⟩ | exact ⟨((hX2.alloc _).alloc _).drew, (hB2.alloc _).alloc _⟩))
              clear hK K
              refine hr_done (by kernel_rfl) ?_
              (go_wp2_with fail; go_meet; case rel => exact ⟨_, _, rfl, rfl, ((hX2.alloc _).alloc _).drew, (hA2.alloc _).alloc _, (hB2.alloc _).alloc _, (by show _ ≤ ((wy2.alloc _).alloc _).heap.size; simp; omega), (by first | exact (Blk.new _ _ _).alloc _ | exact Blk.new_at (by simp)), (by first | exact (Blk.new _ _ _).alloc _ | exact Blk.new_at (by simp)), by omega, by omega⟩)
            · (try go_simp)
              (try go_wp2_with fail)
              refine hK.out _ _ ?_ (fun hHeld => ?_)
              · ((try dsimp only); (first | exact ⟨hX2.drew, hB2⟩ | exact hHeld | exact ⟨hHeld.1.alloc _, hHeld.2.alloc _⟩ | exact ⟨((hX2.alloc _).alloc _).drew, (hB2.alloc _).alloc _⟩))
              clear hK K
              simp only [st0, st1]
              refine hr_o 10 (fun K hK => ?_)
              (try go_simp)
              (try go_wp2_with fail)
              refine hK.out _ _ ?_ (fun hHeld => ?_)
              · ((try dsimp only); (first | exact ⟨hX2.drew, hB2⟩ | exact hHeld | exact ⟨hHeld.1.alloc _, hHeld.2.alloc _⟩ | exact ⟨((hX2.alloc _).alloc _).drew, (hB2.alloc _).alloc _⟩))
              clear hK K
              simp only [st0, st1]
              refine hr_op0 (i := 12) rfl (by kernel_rfl) (by kernel_rfl) (fun K hK => ?_)
              (try go_simp)
              (try go_wp2_with fail)
              refine hK.out _ ?_ (fun hHeld => ?_)
              · ((try dsimp only); (first | exact ⟨hX2.drew, hB2⟩ | exact hHeld | exact ⟨hHeld.1.alloc _, hHeld.2.alloc _⟩ | exact ⟨((hX2.alloc _).alloc _).drew, (hB2.alloc _).alloc _⟩))
              clear hK K
              refine hr_op0 (i := 13) rfl (by kernel_rfl) (by kernel_rfl) (fun K hK => ?_)
              (try go_simp)
              (try go_wp2_with fail)
              refine hK.out _ ?_ (fun hHeld => ?_)
              · ((try dsimp only); (first | exact ⟨hX2.drew, hB2⟩ | exact hHeld | exact ⟨hHeld.1.alloc _, hHeld.2.alloc _⟩ | exact ⟨((hX2.alloc _).alloc _).drew, (hB2.alloc _).alloc _⟩))
              clear hK K
              refine hr_done (by kernel_rfl) ?_
              (go_wp2_with fail; go_meet; case rel => exact ⟨_, _, rfl, rfl, ((hX2.alloc _).alloc _).drew, (hA2.alloc _).alloc _, (hB2.alloc _).alloc _, (by show _ ≤ ((wy2.alloc _).alloc _).heap.size; simp; omega), (by first | exact (Blk.new _ _ _).alloc _ | exact Blk.new_at (by simp)), (by first | exact (Blk.new _ _ _).alloc _ | exact Blk.new_at (by simp)), by omega, by omega⟩)
          case rest =>
            obtain ⟨wy3, rfl⟩ : ∃ wy, wy = wc := ⟨_, rfl⟩
            obtain ⟨ha, hb, rfl, rfl, hX3, hA3, hB3, hz3, hAt, hBy, hza, hzb⟩ := hcut
            clear hX2 hA2 hB2 hz2
            have HWS := Lib.hid (show s2.W = s.W from HSM.out.W_)
            obtain ⟨i3, hi3, hzz3, hs3, hb3⟩ := step_parts
            have HI3 := Lib.hid hi3
            have HZ3 := Lib.hid hzz3
            have HS3 := Lib.hid hs3
            have HB3_ := Lib.hid hb3
            clear hi3 hzz3 hs3 hb3
            go_upto_if 82 with fail
            go_cut [14, 82] from 83 to 93 (fun st _ wd => SCut s2.x v s.W s2.bg ins wy3 st wd)
            case first =>
              cases ins
              · go_wp2_with fail
                go_meet
                case rel => exact ⟨[], Below.refl _ _, OwnX.nil _ _ _, .inl ⟨rfl, rfl⟩⟩
              · go_upto_region 13 with fail
                have hZ : Below wy3.heap.size wy3 wy3.drew := Below.drew (Below.refl _ _)
                refine hr_start (S := (fun w' => WS w.heap.size (w.heap.size + 3) 4 ⟨s, F, zs, L⟩ w w' ⟨s2, F2, zs2, L2⟩ ∧ Blk w' (w.heap.size + 2) 3 #[.int .i64 v] ∧ Blk w' ha 3 #[.int .i64 s2.x])) (by kernel_rfl) rfl ?_ (fun hHeld => ?_)
                · ((try dsimp only); (first | exact ⟨hX3.drew, hB3, hAt⟩ | exact hHeld | exact ⟨hHeld.1.below hg, hHeld.2.1.below hg hHeld.2.1.lt, hHeld.2.2.below hg hHeld.2.2.lt⟩ | exact ⟨hHeld.1.alloc _, hHeld.2.1.alloc _, hHeld.2.2.alloc _⟩))
                refine hr_t 0 (v := ?_) ?_ ?_
                rotate_left
                focus (intro wS hSw; (obtain ⟨hSw1, hSw2, hSw3⟩ := hSw; have qS := SBlk.isScr hSw1.x.B; have qL := SBlk.cells hSw1.x.B; have qZ := IsScr.lt qS; obtain ⟨q0, ql⟩ := blk_one hSw2; obtain ⟨p0, pl⟩ := blk_one hSw3); go_simp; (try with_reducible rfl))
                simp only [st0, st1]
                refine hr_t 1 (v := ?_) ?_ ?_
                rotate_left
                focus (intro wS hSw; (obtain ⟨hSw1, hSw2, hSw3⟩ := hSw; have qS := SBlk.isScr hSw1.x.B; have qL := SBlk.cells hSw1.x.B; have qZ := IsScr.lt qS; obtain ⟨q0, ql⟩ := blk_one hSw2; obtain ⟨p0, pl⟩ := blk_one hSw3); go_simp; (try with_reducible rfl))
                simp only [st0, st1]
                refine hr_t 2 (v := ?_) ?_ ?_
                rotate_left
                focus (intro wS hSw; (obtain ⟨hSw1, hSw2, hSw3⟩ := hSw; have qS := SBlk.isScr hSw1.x.B; have qL := SBlk.cells hSw1.x.B; have qZ := IsScr.lt qS; obtain ⟨q0, ql⟩ := blk_one hSw2; obtain ⟨p0, pl⟩ := blk_one hSw3); go_simp; (try with_reducible rfl))
                simp only [st0, st1]
                refine hr_t 3 (v := ?_) ?_ ?_
                rotate_left
                focus (intro wS hSw; (obtain ⟨hSw1, hSw2, hSw3⟩ := hSw; have qS := SBlk.isScr hSw1.x.B; have qL := SBlk.cells hSw1.x.B; have qZ := IsScr.lt qS; obtain ⟨q0, ql⟩ := blk_one hSw2; obtain ⟨p0, pl⟩ := blk_one hSw3); go_simp; (try with_reducible rfl))
                simp only [st0, st1]
                refine hr_t 4 (v := ?_) ?_ ?_
                rotate_left
                focus (intro wS hSw; (obtain ⟨hSw1, hSw2, hSw3⟩ := hSw; have qS := SBlk.isScr hSw1.x.B; have qL := SBlk.cells hSw1.x.B; have qZ := IsScr.lt qS; obtain ⟨q0, ql⟩ := blk_one hSw2; obtain ⟨p0, pl⟩ := blk_one hSw3); go_simp; (try with_reducible rfl))
                simp only [st0, st1]
                refine hr_t 5 (v := ?_) ?_ ?_
                rotate_left
                focus (intro wS hSw; (obtain ⟨hSw1, hSw2, hSw3⟩ := hSw; have qS := SBlk.isScr hSw1.x.B; have qL := SBlk.cells hSw1.x.B; have qZ := IsScr.lt qS; obtain ⟨q0, ql⟩ := blk_one hSw2; obtain ⟨p0, pl⟩ := blk_one hSw3); go_simp; (try with_reducible rfl))
                simp only [st0, st1]
                refine hr_t 6 (fun _ hSw => exec_scr hSw.1.x.B rfl rfl) ?_
                simp only [st0, st1]
                refine hr_o 7 (fun K hK => ?_)
                (try go_simp)
                ((with_reducible refine (ground_c s2 _).mono ?_); rintro e w4 ⟨rfl, hg⟩; replace hg := hg.below; replace hZ := hZ.trans (hg.mono hZ.size))
                (try go_wp2_with fail)
                refine hK.out _ _ ?_ (fun hHeld => ?_)
                · ((try dsimp only); (first | exact ⟨hX3.drew, hB3, hAt⟩ | exact hHeld | exact ⟨hHeld.1.below hg, hHeld.2.1.below hg hHeld.2.1.lt, hHeld.2.2.below hg hHeld.2.2.lt⟩ | exact ⟨hHeld.1.alloc _, hHeld.2.1.alloc _, hHeld.2.2.alloc _⟩))
                clear hK K
                simp only [st0, st1]
                refine hr_o 8 (fun K hK => ?_)
                (try go_simp)
                ((with_reducible refine (inserted_c s2.x v s2.W 0 s2.bg 0 _).mono ?_); rintro e w5 ⟨_, rfl, hg, b1, b2, b3, b4, rfl, k1, k2, k3, k4⟩; replace hZ := hZ.trans (hg.mono hZ.size))
                (try go_wp2_with fail)
                refine hK.out _ _ ?_ (fun hHeld => ?_)
                · ((try dsimp only); (first | exact ⟨hX3.drew, hB3, hAt⟩ | exact hHeld | exact ⟨hHeld.1.below hg, hHeld.2.1.below hg hHeld.2.1.lt, hHeld.2.2.below hg hHeld.2.2.lt⟩ | exact ⟨hHeld.1.alloc _, hHeld.2.1.alloc _, hHeld.2.2.alloc _⟩))
                clear hK K
                simp only [st0, st1]
                refine hr_o 9 (fun K hK => ?_)
                (try go_simp)
                (try go_wp2_with fail)
                refine hK.out _ _ ?_ (fun hHeld => ?_)
                · ((try dsimp only); (first | exact ⟨hX3.drew, hB3, hAt⟩ | exact hHeld | exact ⟨hHeld.1.below hg, hHeld.2.1.below hg hHeld.2.1.lt, hHeld.2.2.below hg hHeld.2.2.lt⟩ | exact ⟨hHeld.1.alloc _, hHeld.2.1.alloc _, hHeld.2.2.alloc _⟩))
                clear hK K
                simp only [st0, st1]
                refine hr_o 10 (fun K hK => ?_)
                (refine wp_append_X encF _ _ _ rfl wy3.heap.size 88 8 i3 _ rfl HI3.out HZ3.out HS3.out HB3_.out rfl (.slice none 0 0) _ [] [⟨70, #[.pointer (some ⟨b1, 0, none⟩), .pointer (some ⟨b2, 0, none⟩), .pointer (some ⟨b3, 0, none⟩), .pointer (some ⟨b4, 0, none⟩)]⟩] rfl rfl (OwnX.nil _ _ _) (rdX_one (E := encF) _ _ _ _ _ rfl rfl) (by simp [maxLen]) (by simp) (Nat.le_trans hZ.size (by simp)) ?_; intro st w6 hst hgb hor; have hg := gb_to_below hgb (base := (w5.alloc (.cells #[.func (.func 70) #[] #[.pointer (some ⟨b1, 0, none⟩), .pointer (some ⟨b2, 0, none⟩), .pointer (some ⟨b3, 0, none⟩), .pointer (some ⟨b4, 0, none⟩)]] 88)).heap.size) (fun g h => by cases h) (Nat.le_refl _); have hZ6 := (hZ.alloc hZ.size _).trans (hg.mono (Nat.le_trans hZ.size (by simp))); have k1' := (k1.alloc _).below hg (k1.alloc _).lt; have k2' := (k2.alloc _).below hg (k2.alloc _).lt; have k3' := (k3.alloc _).below hg (k3.alloc _).lt; have k4' := (k4.alloc _).below hg (k4.alloc _).lt)
                refine hK.out _ _ ?_ (fun hHeld => ?_)
                · ((try dsimp only); (first | exact ⟨hX3.drew, hB3, hAt⟩ | exact hHeld | exact ⟨hHeld.1.below hg, hHeld.2.1.below hg hHeld.2.1.lt, hHeld.2.2.below hg hHeld.2.2.lt⟩ | exact ⟨hHeld.1.alloc _, hHeld.2.1.alloc _, hHeld.2.2.alloc _⟩))
                clear hK K
                simp only [st0, st1]
                refine hr_t 11 (v := ?_) ?_ ?_
                rotate_left
                focus (intro wS hSw; (obtain ⟨hSw1, hSw2, hSw3⟩ := hSw; have qS := SBlk.isScr hSw1.x.B; have qL := SBlk.cells hSw1.x.B; have qZ := IsScr.lt qS; obtain ⟨q0, ql⟩ := blk_one hSw2; obtain ⟨p0, pl⟩ := blk_one hSw3); go_simp; (try with_reducible rfl))
                simp only [st0, st1]
                refine hr_done (by kernel_rfl) ?_
                (go_wp2_with fail; go_meet; case rel => exact ⟨_, hZ6, hst, .inr ⟨rfl, _, _, _, _, rfl, k1', k2', HWS.out ▸ k3', k4'⟩⟩)
            case rest =>
              obtain ⟨wy4, rfl⟩ : ∃ wy, wy = wc := ⟨_, rfl⟩
              obtain ⟨fvs, hZ, hst, hcase⟩ := hcut
              have HFL := Lib.hid (show fvs.length ≤ 1 by rcases hcase with ⟨_, rfl⟩ | ⟨_, b1, b2, b3, b4, rfl, _⟩ <;> simp)
              have hmf : ∀ (fn : Fn) (first cap : Array Value) (w : World), (Instr.makeFunc fn first cap).run Tryz.prog w = .ok (.func fn first cap) w := fun _ _ _ _ => rfl
              go_upto_region 15 with (at_builtin; refine wpList_append_X encF rfl _ _ _ rfl wy3.heap.size 88 8 i3 _ rfl HI3.out HZ3.out HS3.out HB3_.out rfl _ _ fvs [⟨37, #[.pointer (some ⟨ha, 0, none⟩), .pointer (some ⟨w.heap.size + 1, 0, none⟩), .pointer (some ⟨w.heap.size + 2, 0, none⟩), .pointer (some ⟨w.heap.size, 0, none⟩), .pointer (some ⟨hb, 0, none⟩)]⟩] rfl rfl (hst.alloc _) (rdX_one (E := encF) _ _ _ _ _ rfl rfl) (by have := HFL.out; unfold maxLen; simp; omega) (by have := HFL.out; simp; omega) (Nat.le_trans hZ.size (by simp)) ?_; intro st2 w7 hst2 hgb hor)
              have hZ7 := below_ownx (hZ.alloc hZ.size (.cells #[.func (.func 37) #[] #[.pointer (some ⟨ha, 0, none⟩), .pointer (some ⟨w.heap.size + 1, 0, none⟩), .pointer (some ⟨w.heap.size + 2, 0, none⟩), .pointer (some ⟨w.heap.size, 0, none⟩), .pointer (some ⟨hb, 0, none⟩)]] 88)) hgb (fun g hg => (hst.lt hg).1) (Nat.le_trans hZ.size (by simp))
              have hX7 := hX3.below hZ7
              have hA7 := hA3.below hZ7 hA3.lt
              have hB7 := hB3.below hZ7 hB3.lt
              have hAt7 := hAt.below hZ7 hAt.lt
              have hBy7 := hBy.below hZ7 hBy.lt
              have hz7 := Nat.le_trans hz3 hZ7.size
              have hkx : ((s2.x.toNat : Nat) : Int) = s2.x := by omega
              have hqW : ((s2.W.toNat : Nat) : Int) = s2.W := by have := HWS.out; omega
              have HPS : Hid (StepOk s2.W.toNat w7 ⟨37, #[.pointer (some ⟨ha, 0, none⟩), .pointer (some ⟨w.heap.size + 1, 0, none⟩), .pointer (some ⟨w.heap.size + 2, 0, none⟩), .pointer (some ⟨w.heap.size, 0, none⟩), .pointer (some ⟨hb, 0, none⟩)]⟩ (putC s2.x.toNat ⟨R, 0, 0, v, s2.fg, s2.bg, s2.fl⟩ s2.dir s2.ex bw)) :=
                print_step s2.W.toNat s2.x.toNat ha (w.heap.size + 1) (w.heap.size + 2) w.heap.size hb R v s2 bw w7 (by rw [hkx]; exact hAt7) hA7 hB7 hX7.x.B hBy7 (fits_letter hR1 hR2 HV.out HO2.out.pen) HV.out (by have := HWS.out; omega) HO2.out.d0 HO2.out.d2
              have HCALL : Hid (Calls Tryz.prog 39 #[.agg #[.slice s2.gA s2.gn s2.gc, .int .i64 s2.x, .int .i64 s2.y, .bool s2.wr, .bool s2.og, .int .i64 s2.fg, .int .i64 s2.bg, .int .i64 s2.fl, .int .u8 s2.g0, .int .u8 s2.g1, .int .u8 s2.g2, .int .u8 s2.g3, .int .i64 s2.gl, .int .i64 s2.gr, .int .i64 s2.on, .int .i64 s2.H, .int .i64 s2.W, .int .i64 s2.T, .int .i64 s2.B, .slice s2.tA s2.tn s2.tc, .int .i64 s2.tw, .slice s2.kA s2.kn s2.kc, .int .i64 s2.kp, .int .i64 s2.dir, .bool s2.ex], st2] w7 (SPost ⟨s2, F2, zs2, L2⟩ w7 (fun m => m = (Sn.md ⟨s2, F2, zs2, L2⟩).setR ((Sn.md ⟨s2, F2, zs2, L2⟩).rowC R v ins)))) := by
                have hbw : decide (s2.W - 1 < s2.x + v) = bw := by rw [HWS.out]; exact HBW.out
                rcases hcase with ⟨rfl, rfl⟩ | ⟨rfl, b1, b2, b3, b4, rfl, k1, k2, k3, k4⟩
                · have := onRow_1 ⟨s2, F2, zs2, L2⟩ st2 s2.W.toNat _ _ w7 HO2.out hX7.v.rd hst2.rd hqW HPS.out
                  rw [← hbw] at this
                  exact this
                · have hi := inserted_step s2.W.toNat s2.x.toNat (min v (s2.W - s2.x)).toNat b1 b2 b3 b4 v 0 s2.bg 0 w7
                    (by rw [hkx]; exact (k1.alloc _).gb hgb (hst.ne_ k1 (by decide))) ((k2.alloc _).gb hgb (hst.ne_ k2 (by decide))) (by rw [hqW, HWS.out]; exact (k3.alloc _).gb hgb (hst.ne_ k3 (by decide))) ((k4.alloc _).gb hgb (hst.ne_ k4 (by decide)))
                    HO2.out.ground (by have := HWS.out; omega) (by have := HWS.out; omega)
                  have := onRow_2 ⟨s2, F2, zs2, L2⟩ st2 s2.W.toNat _ _ _ _ w7 HO2.out hX7.v.rd hst2.rd hqW hi HPS.out
                  rw [← hbw] at this
                  exact this
              clear hZ hst hcase hmf hgb hor hst2 HPS
              go_wp2_with (refine hX7.wload rfl rfl rfl ?_)
              (with_reducible refine HCALL.out.mono ?_)
              intro e w8 hp
              have hg8 : Below w7.heap.size w7 w8 := by obtain ⟨_, _, h, _⟩ := hp; exact h
              obtain ⟨S5, rfl, hX8, hV8, hm8, hz8⟩ := hX7.post hz7 hp
              have hB8 := hB7.below hg8 hB7.lt
              have hAt8 := hAt7.below hg8 hAt7.lt
              have hBy8 := hBy7.below hg8 hBy7.lt
              clear hX7 hA7 hB7 hAt7 hBy7 hp hg8
              go_upto_region 16 with (refine wpList_scr_store S5.s hX8.x.B.isScr (by rfl) (by rfl) (by rfl) (by rfl) (by rfl) ?_)
              generalize hW9 : World.setRow _ _ _ = W9
              have hX9 : WS w.heap.size (w.heap.size + 3) 4 ⟨s, F, zs, L⟩ w W9 S5 := hW9 ▸ hX8.row (by omega) hV8
              have hB9 : Blk W9 (w.heap.size + 2) 3 #[.int .i64 v] := by rw [← hW9]; exact (setRow_other _ _ _ _ (by omega)).trans hB8
              have hAt9 : Blk W9 ha 3 #[.int .i64 s2.x] := by rw [← hW9]; exact (setRow_other _ _ _ _ (by omega)).trans hAt8
              have hBy9 : Blk W9 hb 4 #[.bool bw] := by rw [← hW9]; exact (setRow_other _ _ _ _ (by omega)).trans hBy8
              clear hW9 hX8 hB8 hAt8 hBy8 hV8
              obtain ⟨p0, pl⟩ := blk_one hB9
              obtain ⟨q0, ql⟩ := blk_one hAt9
              have rS := SBlk.isScr hX9.x.B; have rL := SBlk.cells hX9.x.B; have rZ := IsScr.lt rS
              go_upto_region 17 with fail
              clear rS rL rZ
              generalize hxv : (if s.W - 1 < s2.x + v then s.W - 1 else s2.x + v) = xm
              have HXM := Lib.hid (show xm = min (s2.x + v) (s.W - 1) by omega)
              clear hxv
              generalize hW10 : World.setCell _ _ _ = W10
              have hX10 : WS w.heap.size (w.heap.size + 3) 4 ⟨s, F, zs, L⟩ w W10 ⟨{ S5.s with x := xm }, S5.F, S5.zs, S5.L⟩ := hW10 ▸ hX9.cell (by omega) 1 _ (fun v => ⟨v.rd, v.out, v.gen⟩) rfl
              have hBy10 : Blk W10 hb 4 #[.bool bw] := by rw [← hW10]; exact blk_other hBy9 _ _ (by show hb ≠ w.heap.size; omega)
              clear hW10 hX9 hB9 hAt9 hBy9 p0 pl q0 ql
              obtain ⟨p0, pl⟩ := blk_one hBy10
              have HMD : ∀ b : Bool, (bw && au) = b → Sn.md ⟨{ S5.s with x := xm, wr := b }, S5.F, S5.zs, S5.L⟩ = (Sn.md ⟨s, F, zs, L⟩).print R v ins au := fun b hb => by
                unfold Md.print
                rw [← HM2.out]
                exact put_md hm8 (by rw [HXM.out, HWS.out]) (by rw [← hb, ← HBW.out, HWS.out])
              have HMD' := Lib.hid HMD
              clear HMD hm8
              cases bw
              · have rS := SBlk.isScr hX10.x.B; have rL := SBlk.cells hX10.x.B; have rZ := IsScr.lt rS
                go_upto_region 18 with fail
                clear rS rL rZ
                generalize hW11 : World.setCell _ _ _ = W11
                have hX11 : WS w.heap.size (w.heap.size + 3) 4 ⟨s, F, zs, L⟩ w W11 ⟨{ S5.s with x := xm, wr := false }, S5.F, S5.zs, S5.L⟩ := hW11 ▸ hX10.cell (by omega) 3 _ (fun v => ⟨v.rd, v.out, v.gen⟩) rfl
                clear hW11
                go_wp2_with (first | (refine hX11.wload rfl rfl rfl ?_) | (refine hX11.wstore hX11.v (by rfl) (by rfl) (by rfl) (by rfl) (by rfl) ?_)); exact bodyPost_ret (results_scr rfl rfl (hX11.res hX11.v)) rfl (hX11.fin hX11.v (by omega) (HMD'.out false rfl))
              · have rS := SBlk.isScr hX10.x.B; have rL := SBlk.cells hX10.x.B; have rZ := IsScr.lt rS
                go_upto_region 18 with fail
                clear rS rL rZ
                generalize hW11 : World.setCell _ _ _ = W11
                have hX11 : WS w.heap.size (w.heap.size + 3) 4 ⟨s, F, zs, L⟩ w W11 ⟨{ S5.s with x := xm, wr := au }, S5.F, S5.zs, S5.L⟩ := hW11 ▸ hX10.cell (by omega) 3 _ (fun v => ⟨v.rd, v.out, v.gen⟩) rfl
                clear hW11
                go_wp2_with (first | (refine hX11.wload rfl rfl rfl ?_) | (refine hX11.wstore hX11.v (by rfl) (by rfl) (by rfl) (by rfl) (by rfl) ?_)); exact bodyPost_ret (results_scr rfl rfl (hX11.res hX11.v)) rfl (hX11.fin hX11.v (by omega) (HMD'.out au (by simp)))
end Go.Proofs.YtlchffkabpfjpaaGreat.Scr
