/- A region that draws its order, whose operations only read and whose callees only make new memory: walked once, in the order of the text. -/
import Derived.Test.YtpcpgoeahndlfaaBase
namespace Go
open Go.RowKit

/-- new blocks and draws -/
structure GExt where
  X : Array Obj
  d : Nat
instance : Inhabited GExt := ⟨⟨#[], 0⟩⟩

section
variable {P : Program} {Q : Exit → Act → World → Prop} {a : Act} {w : World}
theorem wp_region_grew {id : Nat} {l : List Oper} (hm : P.follows .mixedOrders = true) (hB : Region.lexB .any l.toArray = true)
    (h : wpQuiet P l.toArray (fun w' => ∃ x : GExt, w' = w.grow x.X x.d) (fun a' => ∀ w', (∃ x : GExt, w' = w.grow x.X x.d) → Q .normal a' w') l a) : (Code.region id l.toArray true).wp P Q a w :=
  wp_region_quiet (C := fun w' => ∃ x : GExt, w' = w.grow x.X x.d) hm hB ⟨⟨#[], w.drawn + 1⟩, by simp [World.grow]⟩ (by simpa using h)
theorem Calls.grew_of {f : FuncId} {args : Array Value} {X : Array Obj} {d : Nat} {v : Value} (h : Calls P f args (w.grow X d) fun e w' => e = .returned v ∧ Grew (w.grow X d) w') :
    Calls P f args (w.grow X d) fun e w'' => e = .returned v ∧ ∃ x : GExt, w'' = w.grow x.X x.d :=
  h.mono fun _ _ ⟨he, Y, e', hw⟩ => ⟨he, ⟨X ++ Y, e'⟩, by rw [hw, World.grow_grow]⟩
theorem Calls.grew_same {f : FuncId} {args : Array Value} {X : Array Obj} {d : Nat} {v : Value} (h : Calls P f args (w.grow X d) fun e w' => e = .returned v ∧ w.grow X d = w') :
    Calls P f args (w.grow X d) fun e w'' => e = .returned v ∧ ∃ x : GExt, w'' = w.grow x.X x.d :=
  h.mono fun _ _ ⟨he, hw⟩ => ⟨he, ⟨X, d⟩, hw.symm⟩
/-- .. where the walk has joined the new blocks to those of an elder callee -/
theorem Calls.grew_add {f : FuncId} {args : Array Value} {Z X : Array Obj} {d : Nat} {v : Value} (h : Calls P f args (w.grow (Z ++ X) d) fun e w' => e = .returned v ∧ Grew (w.grow (Z ++ X) d) w') :
    Calls P f args (w.grow (Z ++ X) d) fun e w'' => e = .returned v ∧ ∃ x : GExt, w'' = w.grow (Z ++ x.X) x.d :=
  h.mono fun _ _ ⟨he, Y, e', hw⟩ => ⟨he, ⟨X ++ Y, e'⟩, by rw [hw, World.grow_grow, Array.append_assoc]⟩
theorem Calls.grew_add_same {f : FuncId} {args : Array Value} {Z X : Array Obj} {d : Nat} {v : Value} (h : Calls P f args (w.grow (Z ++ X) d) fun e w' => e = .returned v ∧ w.grow (Z ++ X) d = w') :
    Calls P f args (w.grow (Z ++ X) d) fun e w'' => e = .returned v ∧ ∃ x : GExt, w'' = w.grow (Z ++ x.X) x.d :=
  h.mono fun _ _ ⟨he, hw⟩ => ⟨he, ⟨X, d⟩, hw.symm⟩
end
end Go
