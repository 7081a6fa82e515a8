/- A screen as plain Lean: what it holds, what may be, what is done to it. -/
import Derived.Test.YtlchffkabpfjpaaGreatGE
import Derived.Test.YtlchffkabpfjpaaGreatGB
import Derived.Test.YtlchffkabpfjpaaGreatGF
import Derived.Test.YtlchffkabpfjpaaGreatGG
namespace Go.Proofs.YtlchffkabpfjpaaGreat.Scr
open Go.RowKit Go.Proofs.YtlchffkabpfjpaaGreat.Row
/-- a row's content -/
structure Ct where
  n : Nat
  f : Nat → Cl
  wb : Bool
  dir : Int
  ex : Bool
def ct (r : Rw) : Ct := ⟨r.n, r.f, r.wb, r.dir, r.ex⟩
def Ct.sane (c : Ct) : Bool := saneB c.n c.f c.dir
theorem ct_sane (r : Rw) : (ct r).sane = saneRw r := rfl
def newC (q : Nat) (fg bg fl : Int) : Ct := ⟨q, fun _ => Row.blank fg bg fl, false, 0, false⟩
theorem ct_new (b q : Nat) (fg bg fl : Int) : ct (newRw b q fg bg fl) = newC q fg bg fl := rfl
def updC (G : Nat → Ct) (k : Nat) (c : Ct) (i : Nat) : Ct := if i = k then c else G i
theorem ct_upd (F : Nat → Rw) (k : Nat) (r : Rw) : ct ∘ updG F k r = updC (ct ∘ F) k (ct r) := by
  funext i
  unfold updC updG
  simp only [Function.comp]
  split <;> rfl
def mvC (G : Nat → Ct) (t q j i : Nat) : Ct := if t ≤ i ∧ i < t + j then G (i + q) else G i
theorem ct_mv (F : Nat → Rw) (t q j : Nat) : ct ∘ mvG F t q j = mvC (ct ∘ F) t q j := by
  funext i
  unfold mvC mvG
  simp only [Function.comp]
  split <;> rfl
def mdC (G : Nat → Ct) (t q j i : Nat) : Ct := if t + q ≤ i ∧ i < t + q + j then G (i - q) else G i
theorem ct_md (F : Nat → Rw) (t q j : Nat) : ct ∘ mdG F t q j = mdC (ct ∘ F) t q j := by
  funext i
  unfold mdC mdG
  simp only [Function.comp]
  split <;> rfl
def layC (G : Nat → Ct) (k m q : Nat) (fg bg fl : Int) (i : Nat) : Ct := if k ≤ i ∧ i < k + m then newC q fg bg fl else G i
theorem ct_lay (F : Nat → Rw) (k m : Nat) (B : Nat → Nat) (q : Nat) (fg bg fl : Int) : ct ∘ layG F k m B q fg bg fl = layC (ct ∘ F) k m q fg bg fl := by
  funext i
  unfold layC layG
  simp only [Function.comp]
  split <;> rfl
def pushC (K : List Ct) (c : Nat) (M : List Ct) : List Ct := (K ++ M.filter Ct.sane).drop ((K ++ M.filter Ct.sane).length - c)
theorem ct_push (L : List Rw) (c : Nat) (M : List Rw) : (pushL L c M).map ct = pushC (L.map ct) c (M.map ct) := by
  have e : (M.map ct).filter Ct.sane = (M.filter saneRw).map ct := by rw [List.filter_map]; rfl
  unfold pushL pushC
  rw [e, ← List.map_append, List.length_map, List.map_drop]
def rowsC (n : Nat) (G : Nat → Ct) : List Ct := (List.range n).map G
theorem ct_list (n : Nat) (F : Nat → Rw) : (listG n F).map ct = rowsC n (ct ∘ F) := by
  unfold listG rowsC
  rw [List.map_map]
/-- a screen's leaves, in the order of its cells -/
structure Sc where
  (gA : Option Addr) (gn gc : Nat)
  (x y : Int) (wr og : Bool) (fg bg fl g0 g1 g2 g3 gl gr on H W T B : Int)
  (tA : Option Addr) (tn tc : Nat) (tw : Int)
  (kA : Option Addr) (kn kc : Nat) (kp dir : Int) (ex : Bool)
/-- .. with what its slices read as -/
structure Sn where
  s : Sc
  F : Nat → Rw
  zs : List Int
  L : List Rw
/-- what a screen holds, wherever it lies -/
structure Md where
  (n : Nat) (G : Nat → Ct)
  (x y : Int) (wr og : Bool) (fg bg fl g0 g1 g2 g3 gl gr on H W T B : Int)
  (zs : List Int) (tw : Int)
  (K : List Ct) (kp dir : Int) (ex : Bool)
def Sn.md (S : Sn) : Md := ⟨S.s.gn, ct ∘ S.F, S.s.x, S.s.y, S.s.wr, S.s.og, S.s.fg, S.s.bg, S.s.fl, S.s.g0, S.s.g1, S.s.g2, S.s.g3, S.s.gl, S.s.gr, S.s.on, S.s.H, S.s.W, S.s.T, S.s.B, S.zs, S.s.tw, S.L.map ct, S.s.kp, S.s.dir, S.s.ex⟩
def gsC (n : Nat) (G : Nat → Ct) : Bool := decide (1 ≤ n ∧ n ≤ 1000 ∧ ∀ i, i < n → (G i).n = (G 0).n ∧ (G i).sane = true)
def hsC (K : List Ct) (kp : Int) : Bool := decide (0 ≤ kp ∧ kp ≤ 200 ∧ (K.length : Int) ≤ kp ∧ ∀ c ∈ K, c.sane = true)
theorem gs_ct (n : Nat) (F : Nat → Rw) : gsC n (ct ∘ F) = gsaneB (listG n F) := by
  rw [Bool.eq_iff_iff]
  constructor
  · intro h
    unfold gsC at h
    obtain ⟨h1, h2, h3⟩ := of_decide_eq_true h
    exact gsane_of (F 0).n h1 h2 h3
  · intro h
    obtain ⟨h1, h2, h3⟩ := gsane_wd h
    unfold gsC
    exact decide_eq_true ⟨h1, h2, h3⟩
theorem hs_ct (L : List Rw) (kp : Int) : hsC (L.map ct) kp = hsaneB L kp := by
  unfold hsC hsaneB
  congr 1
  simp only [List.length_map, List.mem_map, forall_exists_index, and_imp, forall_apply_eq_imp_iff₂, ct_sane]
def Md.curOk (m : Md) : Bool := Cur.csaneB m.x m.y m.wr m.og m.fg m.bg m.fl m.g0 m.g1 m.g2 m.g3 m.gl m.gr m.on m.H m.W m.T m.B
def Md.sane (m : Md) : Bool := decide (0 ≤ m.dir ∧ m.dir ≤ 2) && (m.curOk && (Tab.tsaneB m.tw m.zs && (decide (m.tw = m.W) && (gsC m.n m.G && (decide ((m.n : Int) = m.H ∧ ((m.G 0).n : Int) = m.W) && hsC m.K m.kp)))))
structure Md.Ok (m : Md) : Prop where
  d0 : 0 ≤ m.dir
  d2 : m.dir ≤ 2
  cu : m.curOk = true
  tb : Tab.tsaneB m.tw m.zs = true
  tw : m.tw = m.W
  gs : gsC m.n m.G = true
  nH : (m.n : Int) = m.H
  nW : ((m.G 0).n : Int) = m.W
  hs : hsC m.K m.kp = true
theorem Md.sane_iff {m : Md} : m.sane = true ↔ m.Ok := by
  unfold Md.sane
  simp only [Bool.and_eq_true, decide_eq_true_eq]
  constructor
  · rintro ⟨⟨h1, h2⟩, h3, h4, h5, h6, ⟨h7, h8⟩, h9⟩
    exact ⟨h1, h2, h3, h4, h5, h6, h7, h8, h9⟩
  · rintro ⟨h1, h2, h3, h4, h5, h6, h7, h8, h9⟩
    exact ⟨⟨h1, h2⟩, h3, h4, h5, h6, ⟨h7, h8⟩, h9⟩
theorem Md.Ok.cf {m : Md} (h : m.Ok) : Cur.Facts m.x m.y m.wr m.og m.H m.W m.T m.B := Cur.facts h.cu
theorem pen_pen (fg bg fl : Int) : Pen.saneB fg bg fl = penB fg bg fl := rfl
/-- the ground's pen may be -/
theorem Md.Ok.pen {m : Md} (h : m.Ok) : penB m.fg m.bg m.fl = true := by
  have := h.cu
  unfold Md.curOk Cur.csaneB at this
  simp only [Bool.and_eq_true] at this
  rw [← pen_pen]
  exact this.2.2.1
theorem pen_ground {fg bg fl : Int} (h : penB fg bg fl = true) : penB 0 bg 0 = true := by
  unfold penB at h ⊢
  simp only [Bool.and_eq_true] at h ⊢
  exact ⟨by decide, h.2.1, by decide, by decide⟩
theorem Md.Ok.ground {m : Md} (h : m.Ok) : penB 0 m.bg 0 = true := pen_ground h.pen
/-- a screen of the same cursor, region and stops but for where the cursor is -/
theorem cur_move {m : Md} (h : m.curOk = true) {x y : Int} {wr og : Bool} {H W T B : Int} (F : Cur.Facts x y wr og H W T B) : Cur.csaneB x y wr og m.fg m.bg m.fl m.g0 m.g1 m.g2 m.g3 m.gl m.gr m.on H W T B = true := Cur.csane_mk h F

/-! ### what is read in a world, and where it lies -/
def FtI (P : Nat → Prop) (x : Value) (zs : List Int) : Prop := 0 < zs.length → ∀ b o n c, x = .slice (some ⟨b, o, none⟩) n c → P b
def Sn.rd (S : Sn) (w : World) : Prop := RdR w (.slice S.s.gA S.s.gn S.s.gc) (listG S.s.gn S.F) ∧ RdI w (.slice S.s.tA S.s.tn S.s.tc) S.zs ∧ RdR w (.slice S.s.kA S.s.kn S.s.kc) S.L
def Sn.ft (S : Sn) (P : Nat → Prop) : Prop := Ft P (.slice S.s.gA S.s.gn S.s.gc) (listG S.s.gn S.F) ∧ FtI P (.slice S.s.tA S.s.tn S.s.tc) S.zs ∧ Ft P (.slice S.s.kA S.s.kn S.s.kc) S.L
section
variable {P Q : Nat → Prop} {w w' w'' : World} {S : Sn} {x : Value} {zs : List Int}
theorem FtI.mono (h : FtI P x zs) (k : ∀ b, P b → Q b) : FtI Q x zs := fun h0 b o n c e => k b (h h0 b o n c e)
theorem FtI.and (h : FtI P x zs) (k : FtI Q x zs) : FtI (fun b => P b ∧ Q b) x zs := fun h0 b o n c e => ⟨h h0 b o n c e, k h0 b o n c e⟩
theorem Sn.ft.mono (h : S.ft P) (k : ∀ b, P b → Q b) : S.ft Q := ⟨h.1.mono k, h.2.1.mono k, h.2.2.mono k⟩
theorem Sn.ft.and (h : S.ft P) (k : S.ft Q) : S.ft (fun b => P b ∧ Q b) := ⟨h.1.and k.1, h.2.1.and k.2.1, h.2.2.and k.2.2⟩
theorem RdI.ft (h : RdI w x zs) : FtI (· < w.heap.size) x zs := fun h0 b o n c e => by
  obtain ⟨A, cap, rfl, hr⟩ := h
  obtain ⟨b', o', e', hl, _⟩ := hr h0
  subst e'
  injection e with e
  injection e with e
  injection e with e
  exact e ▸ hl
theorem RdI.of_ft (h : RdI w x zs) (hf : FtI P x zs) (hs : w.heap.size ≤ w'.heap.size) (he : ∀ b, P b → b < w.heap.size → w'.heap[b]? = w.heap[b]?) : RdI w' x zs := by
  obtain ⟨A, cap, rfl, hr⟩ := h
  refine ⟨A, cap, rfl, fun h0 => ?_⟩
  obtain ⟨b, o, rfl, hl, hcell⟩ := hr h0
  refine ⟨b, o, rfl, Nat.lt_of_lt_of_le hl hs, fun i z hz => ?_⟩
  rw [← hcell i z hz]
  unfold World.cell?
  rw [he b (hf h0 b o _ _ rfl) hl]
theorem Sn.rd.ft (h : S.rd w) : S.ft (· < w.heap.size) := ⟨h.1.ft, RdI.ft h.2.1, h.2.2.ft⟩
theorem Sn.rd.of_ft (h : S.rd w) (hf : S.ft P) (hs : w.heap.size ≤ w'.heap.size) (he : ∀ b, P b → b < w.heap.size → w'.heap[b]? = w.heap[b]?) : S.rd w' :=
  ⟨h.1.of_ft hf.1 hs he, RdI.of_ft h.2.1 hf.2.1 hs he, h.2.2.of_ft hf.2.2 hs he⟩
theorem Sn.rd.below (h : S.rd w) (hb : Below w.heap.size w w') : S.rd w' := ⟨h.1.below hb, h.2.1.below hb, h.2.2.below hb⟩
/-- what lies in P is as it was -/
def Keeps (P : Nat → Prop) (w w' : World) : Prop := w.heap.size ≤ w'.heap.size ∧ ∀ b, P b → b < w.heap.size → w'.heap[b]? = w.heap[b]?
theorem Keeps.trans (h : Keeps P w w') (k : Keeps P w' w'') : Keeps P w w'' := ⟨Nat.le_trans h.1 k.1, fun b hb hl => (k.2 b hb (Nat.lt_of_lt_of_le hl h.1)).trans (h.2 b hb hl)⟩
theorem Keeps.row (w : World) {g : Nat} (cs : Array Value) (h : ¬ P g) : Keeps P w (w.setRow g cs) := ⟨by simp [World.setRow], fun b hb _ => setRow_other w g b cs (by rintro rfl; exact h hb)⟩
theorem Keeps.cell (w : World) {a : Addr} (u : Value) (h : ¬ P a.block) : Keeps P w (w.setCell a u) := ⟨by simp [World.setCell], fun b hb _ => Below.heap_setCell w a u b (by rintro rfl; exact h hb)⟩
theorem Sn.rd.keep (h : S.rd w) (hf : S.ft P) (hk : Keeps P w w') : S.rd w' := h.of_ft hf hk.1 hk.2
theorem below_row {a : World} {B g : Nat} (h : Below B a w) (hg : B ≤ g) (cs : Array Value) : Below B a (w.setRow g cs) := h.trans ⟨rfl, rfl, rfl, by simp [World.setRow], fun k hk => setRow_other w g k cs (by omega)⟩
end
/-- how a screen's function ends: with a screen that is as Φ says -/
def SPost (S : Sn) (w : World) (Φ : Md → Prop) (e : Ending) (w' : World) : Prop :=
  ∃ S' : Sn, e = .returned (.agg #[.slice S'.s.gA S'.s.gn S'.s.gc, .int .i64 S'.s.x, .int .i64 S'.s.y, .bool S'.s.wr, .bool S'.s.og, .int .i64 S'.s.fg, .int .i64 S'.s.bg, .int .i64 S'.s.fl, .int .u8 S'.s.g0, .int .u8 S'.s.g1, .int .u8 S'.s.g2, .int .u8 S'.s.g3, .int .i64 S'.s.gl, .int .i64 S'.s.gr, .int .i64 S'.s.on, .int .i64 S'.s.H, .int .i64 S'.s.W, .int .i64 S'.s.T, .int .i64 S'.s.B, .slice S'.s.tA S'.s.tn S'.s.tc, .int .i64 S'.s.tw, .slice S'.s.kA S'.s.kn S'.s.kc, .int .i64 S'.s.kp, .int .i64 S'.s.dir, .bool S'.s.ex]) ∧ Below w.heap.size w w' ∧ S'.rd w' ∧ Φ S'.md ∧ ∀ P : Nat → Prop, S.ft P → S'.ft (since P w.heap.size)
theorem since_mono {P : Nat → Prop} {s t : Nat} (h : t ≤ s) : ∀ b, since P s b → since P t b := fun _ hb => hb.elim .inl (fun h' => .inr (Nat.le_trans h h'))
end Go.Proofs.YtlchffkabpfjpaaGreat.Scr
