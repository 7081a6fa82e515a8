/- Walk of row.Letters. -/
import Derived.Test.YtlgnchhhadnjbaaRowF
import Derived.Test.YtlgnchhhadnjbaaInts
import Derived.Deep.Cut
namespace Go.Proofs.Ytlgnchhhadnjbaa.Row
open Go.RowKit

/-- a cell's letter and marks -/
def lettersOf (c : Cl) : List Int := if c.w = 0 then [] else [if c.r = 0 then 32 else c.r] ++ ((if c.m0 = 0 then [] else [c.m0]) ++ (if c.m1 = 0 then [] else [c.m1]))
def lettersL (f : Nat → Cl) (a : Nat) : Nat → List Int
  | 0 => []
  | k + 1 => lettersL f a k ++ lettersOf (f (a + k))
theorem lettersOf_le (c : Cl) : (lettersOf c).length ≤ 3 := by
  unfold lettersOf
  split
  · simp
  · split <;> (try split) <;> (try split) <;> simp
theorem lettersL_le (f : Nat → Cl) (a k : Nat) : (lettersL f a k).length ≤ 3 * k := by
  induction k with
  | zero => simp [lettersL]
  | succ k ih =>
    have := lettersOf_le (f (a + k))
    simp only [lettersL, List.length_append]
    omega
theorem ownI_alloc {w : World} {base e : Nat} {v : Value} {zs : List Int} (h : OwnI w base e v zs) (o : Obj) : OwnI (w.alloc o) base e v zs := h.below ((Below.refl w.heap.size w).alloc (Nat.le_refl _) o) (Nat.le_refl _)
theorem rdI_one (w : World) (b : Nat) (z : Int) (t : TypeId) (h : b = w.heap.size) : RdI (w.alloc (.cells #[.int .i64 z] t)) (.slice (some ⟨b, 0, none⟩) 1 1) [z] := by
  subst h
  refine ⟨_, _, rfl, fun _ => ⟨_, _, rfl, by simp, fun j u hu => ?_⟩⟩
  match j, hu with
  | 0, hu => simp at hu; subst hu; exact (Blk.new w t _).cell 0
theorem wp_append_ints {P : Program} {w : World} {o : Oper} {a : Act} {K : Act → World → Prop} {Q : Exit → Act → World → Prop} (s x : Operand) (t : TypeId)
    (ho : o.op = .call { callee := .builtin .append, args := #[s, x], argTypes := #[t, t] })
    (base e : TypeId) (i : TypeInfo) (ht : P.underlying t = some (.slice e)) (hi : P.info? e = some i) (hz : i.zero = some (.int .i64 0)) (hsize : i.size = 1) (hby : i.bytes = 8)
    (v xv : Value) (xs zs : List Int) (hs : a.eval s = v) (hx : a.eval x = xv) (hown : OwnI w base e v xs) (hr : RdI w xv zs) (h63 : xs.length + zs.length ≤ 65536) (hbase : base ≤ w.heap.size)
    (h : ∀ v' w', OwnI w' base e v' (xs ++ zs) → w.grownBy w' v.ownBlock → K (a.put o.dst v') w') : o.wp P a w K Q := by
  obtain ⟨v', w', hrun, h2, h3, h4⟩ := run_append_ints (P := P) w base t o.type e i ht hi hz hsize hby v xv xs zs hown hr h63 hbase
  unfold Oper.wp
  simp [execOp, ho, resolve, invoke, builtin, hs, hx, hrun, Result.andThen]
  exact h v' w' h2 h3
theorem below_drew {B : Nat} {a w : World} (h : Below B a w) : Below B a w.drew := ⟨h.os, h.tape, h.output, h.size, h.block⟩
theorem ownI_drew {w : World} {base e : Nat} {v : Value} {zs : List Int} (h : OwnI w base e v zs) : OwnI w.drew base e v zs := h
theorem blk_drew {w : World} {g : Nat} {t : TypeId} {cs : Array Value} (h : Blk w g t cs) : Blk w.drew g t cs := h
theorem rd_drew {w : World} {A : Option Addr} {n : Nat} {f : Nat → Cl} (h : Rd w A n f) : Rd w.drew A n f := h
theorem int_info : (Try.prog.info? 3).map (fun i => (i.zero, i.size, i.bytes)) = some (some (.int .i64 0), 1, 8) := by kernel_rfl

end Go.Proofs.Ytlgnchhhadnjbaa.Row
