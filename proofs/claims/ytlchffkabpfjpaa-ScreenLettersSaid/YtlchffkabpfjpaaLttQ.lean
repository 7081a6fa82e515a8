/- ScreenLetters: a screen in a variable beside a row of ints of the call's own. -/
import Derived.Test.YtlchffkabpfjpaaLttP
namespace Go.Proofs.Ytlchffkabpfjpaa.Scr
open Go.RowKit Go.Proofs.Ytlchffkabpfjpaa.Row
/-- the letters of a list -/
def ltA (l : List Int) (i : Nat) : Int := 33 + l.getD i 0 % 64
theorem ltA_b (l : List Int) (i : Nat) : 33 ≤ ltA l i ∧ ltA l i ≤ 96 := by unfold ltA; omega
theorem ltA_ok {n q : Nat} {kp : Int} (l : List Int) (h1 : 1 ≤ n) (h2 : n ≤ 1000) (h3 : 1 ≤ q) (h4 : q ≤ 4096) (h5 : 0 ≤ kp) (h6 : kp ≤ 200) (k : Nat) (hk : k ≤ n ∧ k ≤ 200) : (prMd n q kp (ltA l) k).Ok :=
  prMd_ok h1 h2 h3 h4 h5 h6 (fun i => by have := ltA_b l i; omega) (fun i _ => by have := ltA_b l i; omega) k hk
theorem rdI_atx {w : World} {b o : Nat} {n c : Nat} {zs : List Int} {i : Nat} (h : RdI w (.slice (some ⟨b, o, none⟩) n c) zs) (hi : i < zs.length) : w.cell? ⟨b, o + i, none⟩ = some (.int .i64 (zs.getD i 0)) := by
  obtain ⟨A, c', e, h⟩ := h
  obtain ⟨b', o', rfl, hb, hc⟩ := h (by omega)
  injection e with e
  injection e with e
  injection e with e1 e2
  subst e1 e2
  rw [hc i _ (List.getElem?_eq_getElem hi), List.getD_eq_getElem?_getD, List.getElem?_eq_getElem hi]
  rfl
theorem intInfoL : (Try.prog.info? 3).map (fun i => (i.zero, i.size, i.bytes)) = some (some (.int .i64 0), 1, 8) := by kernel_rfl
theorem int_partsL : ∃ i, Try.prog.info? 3 = some i ∧ i.zero = some (.int .i64 0) ∧ i.size = 1 ∧ i.bytes = 8 := by
  obtain ⟨i, hi, hzz⟩ := Option.map_eq_some_iff.1 intInfoL
  simp only [Prod.mk.injEq] at hzz
  exact ⟨i, hi, hzz⟩
/-- a screen in a variable (block g), clear of block o -/
structure PV (w : World) (g : Nat) (o : Option Nat) (m : Md) (wz : World) (S : Sn) : Prop where
  bl : Below w.heap.size w wz
  B : SBlk wz g S.s
  rd : S.rd wz
  ft : S.ft (fun b => b ≠ g ∧ some b ≠ o)
  md : S.md = m
  hg : w.heap.size ≤ g
  ne : some g ≠ o
theorem PV.below {w wz wy : World} {g : Nat} {o : Option Nat} {m : Md} {S : Sn} (h : PV w g o m wz S) (hb : Below wz.heap.size wz wy) : PV w g o m wy S :=
  ⟨h.bl.trans (hb.mono h.bl.size), Blk.below h.B hb (Blk.lt h.B), h.rd.below hb, h.ft, h.md, h.hg, h.ne⟩
theorem PV.gb {w wz wy : World} {g : Nat} {o o' : Option Nat} {m : Md} {S : Sn} (h : PV w g o m wz S) (hv : ∀ b, o = some b → w.heap.size ≤ b) (hg : wz.grownBy wy o) (ho : o' = o ∨ o' = some wz.heap.size) : PV w g o' m wy S := by
  have hsz := h.bl.size
  refine ⟨below_own h.bl hg hv hsz, (hg.block g (Blk.lt h.B) h.ne).trans h.B, h.rd.of_ft h.ft hg.size fun b hb hl => hg.block b hl hb.2, ?_, h.md, h.hg, ?_⟩
  · rcases ho with ho | ho
    · rw [ho]; exact h.ft
    · rw [ho]
      refine (h.ft.and h.rd.ft).mono fun b hb => ⟨hb.1.1, fun e => ?_⟩
      injection e with e
      have := hb.2
      omega
  · rcases ho with ho | ho
    · rw [ho]; exact h.ne
    · rw [ho]
      intro e
      injection e with e
      have := Blk.lt h.B
      omega
theorem PV.start {w w1 : World} {S : Sn} {m : Md} (h1 : Below w.heap.size w w1) (h2 : S.rd w1) (h3 : S.md = m) : PV w w1.heap.size none m ((w1.alloc (.cells #[.slice dummy.gA dummy.gn dummy.gc, .int .i64 dummy.x, .int .i64 dummy.y, .bool dummy.wr, .bool dummy.og, .int .i64 dummy.fg, .int .i64 dummy.bg, .int .i64 dummy.fl, .int .u8 dummy.g0, .int .u8 dummy.g1, .int .u8 dummy.g2, .int .u8 dummy.g3, .int .i64 dummy.gl, .int .i64 dummy.gr, .int .i64 dummy.on, .int .i64 dummy.H, .int .i64 dummy.W, .int .i64 dummy.T, .int .i64 dummy.B, .slice dummy.tA dummy.tn dummy.tc, .int .i64 dummy.tw, .slice dummy.kA dummy.kn dummy.kc, .int .i64 dummy.kp, .int .i64 dummy.dir, .bool dummy.ex] 41)).setRow w1.heap.size #[.slice S.s.gA S.s.gn S.s.gc, .int .i64 S.s.x, .int .i64 S.s.y, .bool S.s.wr, .bool S.s.og, .int .i64 S.s.fg, .int .i64 S.s.bg, .int .i64 S.s.fl, .int .u8 S.s.g0, .int .u8 S.s.g1, .int .u8 S.s.g2, .int .u8 S.s.g3, .int .i64 S.s.gl, .int .i64 S.s.gr, .int .i64 S.s.on, .int .i64 S.s.H, .int .i64 S.s.W, .int .i64 S.s.T, .int .i64 S.s.B, .slice S.s.tA S.s.tn S.s.tc, .int .i64 S.s.tw, .slice S.s.kA S.s.kn S.s.kc, .int .i64 S.s.kp, .int .i64 S.s.dir, .bool S.s.ex]) S := by
  have hs := h1.size
  have hd : SBlk (w1.alloc (.cells #[.slice dummy.gA dummy.gn dummy.gc, .int .i64 dummy.x, .int .i64 dummy.y, .bool dummy.wr, .bool dummy.og, .int .i64 dummy.fg, .int .i64 dummy.bg, .int .i64 dummy.fl, .int .u8 dummy.g0, .int .u8 dummy.g1, .int .u8 dummy.g2, .int .u8 dummy.g3, .int .i64 dummy.gl, .int .i64 dummy.gr, .int .i64 dummy.on, .int .i64 dummy.H, .int .i64 dummy.W, .int .i64 dummy.T, .int .i64 dummy.B, .slice dummy.tA dummy.tn dummy.tc, .int .i64 dummy.tw, .slice dummy.kA dummy.kn dummy.kc, .int .i64 dummy.kp, .int .i64 dummy.dir, .bool dummy.ex] 41)) w1.heap.size dummy := Blk.new _ _ _
  have hf : S.ft (· ≠ w1.heap.size) := h2.ft.mono fun b hb => Nat.ne_of_lt hb
  exact ⟨below_row (h1.alloc hs _) hs _, hd.row, (h2.below ((Below.refl _ _).alloc (Nat.le_refl _) _)).keep hf (Keeps.row _ _ (fun h => h rfl)), hf.mono fun b hb => ⟨hb, by simp⟩, h3, hs, by simp⟩
/-- one more letter -/
def PvPost (w wz : World) (g : Nat) (o : Option Nat) (m : Md) (S : Sn) (e : Ending) (w5 : World) : Prop := ∃ S' : Sn, e = .returned (.agg #[.slice S'.s.gA S'.s.gn S'.s.gc, .int .i64 S'.s.x, .int .i64 S'.s.y, .bool S'.s.wr, .bool S'.s.og, .int .i64 S'.s.fg, .int .i64 S'.s.bg, .int .i64 S'.s.fl, .int .u8 S'.s.g0, .int .u8 S'.s.g1, .int .u8 S'.s.g2, .int .u8 S'.s.g3, .int .i64 S'.s.gl, .int .i64 S'.s.gr, .int .i64 S'.s.on, .int .i64 S'.s.H, .int .i64 S'.s.W, .int .i64 S'.s.T, .int .i64 S'.s.B, .slice S'.s.tA S'.s.tn S'.s.tc, .int .i64 S'.s.tw, .slice S'.s.kA S'.s.kn S'.s.kc, .int .i64 S'.s.kp, .int .i64 S'.s.dir, .bool S'.s.ex]) ∧ SBlk w5 g S.s ∧ PV w g o m (w5.setRow g #[.slice S'.s.gA S'.s.gn S'.s.gc, .int .i64 S'.s.x, .int .i64 S'.s.y, .bool S'.s.wr, .bool S'.s.og, .int .i64 S'.s.fg, .int .i64 S'.s.bg, .int .i64 S'.s.fl, .int .u8 S'.s.g0, .int .u8 S'.s.g1, .int .u8 S'.s.g2, .int .u8 S'.s.g3, .int .i64 S'.s.gl, .int .i64 S'.s.gr, .int .i64 S'.s.on, .int .i64 S'.s.H, .int .i64 S'.s.W, .int .i64 S'.s.T, .int .i64 S'.s.B, .slice S'.s.tA S'.s.tn S'.s.tc, .int .i64 S'.s.tw, .slice S'.s.kA S'.s.kn S'.s.kc, .int .i64 S'.s.kp, .int .i64 S'.s.dir, .bool S'.s.ex]) S' ∧ Below wz.heap.size wz w5
theorem pv_print {w wz : World} {g n q k : Nat} {o : Option Nat} {kp : Int} {a : Nat → Int} {S : Sn} (h : PV w g o (prMd n q kp a k) wz S) (ho : ∀ b, o = some b → b < wz.heap.size) (hO : S.md.Ok) (hq : 1 ≤ q) (hk : k / q < n) (ha : 1 ≤ a k) (hb : a k ≤ 1114111) {R : Int} (hR : R = a k) :
    Calls Try.prog 9 #[.agg #[.slice S.s.gA S.s.gn S.s.gc, .int .i64 S.s.x, .int .i64 S.s.y, .bool S.s.wr, .bool S.s.og, .int .i64 S.s.fg, .int .i64 S.s.bg, .int .i64 S.s.fl, .int .u8 S.s.g0, .int .u8 S.s.g1, .int .u8 S.s.g2, .int .u8 S.s.g3, .int .i64 S.s.gl, .int .i64 S.s.gr, .int .i64 S.s.on, .int .i64 S.s.H, .int .i64 S.s.W, .int .i64 S.s.T, .int .i64 S.s.B, .slice S.s.tA S.s.tn S.s.tc, .int .i64 S.s.tw, .slice S.s.kA S.s.kn S.s.kc, .int .i64 S.s.kp, .int .i64 S.s.dir, .bool S.s.ex], .int .i64 R, .int .i64 1, .bool false, .bool true] wz (PvPost w wz g o (prMd n q kp a (k + 1)) S) := by
  subst hR
  have hW : S.md.W = (q : Int) := by rw [h.md]; rfl
  refine (Print_c S (a k) 1 false true wz hO h.rd ha hb (.inl rfl) (by show 1 ≤ S.md.W; rw [hW]; omega)).mono ?_
  rintro e w5 ⟨S', rfl, k1, k2, k3, k4⟩
  have hlt := Blk.lt h.B
  have hB := Blk.below h.B k1 hlt
  have hf : S'.ft (fun b => b ≠ g ∧ some b ≠ o) := (k4 _ h.ft).mono fun b hb => by
    rcases hb with hb | hb
    · exact hb
    · refine ⟨by omega, fun e => ?_⟩
      have := ho b e.symm
      omega
  refine ⟨S', rfl, hB, ⟨below_row (h.bl.trans (k1.mono h.bl.size)) h.hg _, SBlk.row hB, k2.keep hf (Keeps.row _ _ (fun h => h.1 rfl)), hf, ?_, h.hg, h.ne⟩, k1⟩
  rw [k3, h.md, pr_step n q kp a (by omega) k hk]
theorem ownI_row {w : World} {base e g : Nat} {v : Value} {zs : List Int} (h : OwnI w base e v zs) (cs : Array Value) (hne : some g ≠ v.ownBlock) : OwnI (w.setRow g cs) base e v zs :=
  h.of fun b hb => setRow_other w g b cs (by rintro rfl; exact hne hb.symm)
end Go.Proofs.Ytlchffkabpfjpaa.Scr
