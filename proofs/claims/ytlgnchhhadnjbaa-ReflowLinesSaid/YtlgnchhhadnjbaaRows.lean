/-
  No cell of these rows narrows 'for every input' (looked for: loops, veiled, ifaces, maps, wideKeys, modest, calm, conditions, laid).
  DERIVED. THE GIVEN ROWS OF THIS SEAT. 5 by the template 'for every input the law returns true; each argument reads behind the call as it read before'; 0 by the template 'total and deterministic' (their statements: YtlgnchhhadnjbaaTotals.lean).
  GIVEN WITH THE SEED: the statements are not yours to turn. If you find one false, say at which input.
  Laid BY PROGRAM, IN A SANDBOX (cutbox-rows.mjs): the forced cells as the released guide's own fill.sh prints them over the translation 5df5886bbcc6a395… (all of the seat's roots in one cut). By AI agents, Wed Nov 11 2026. No macro, syntax, notation, axiom, sorry.
-/
import Derived.Test.YtlgnchhhadnjbaaChecked
import GoSem.Claim
import GoSem.ClaimJoined
import GoSem.ClaimMapViews
import Derived.JoinedTies
import Derived.KernelRfl
namespace Go.Proofs.Ytlgnchhhadnjbaa
/- THE CELL 'sum', in the pinned program and in every row, IS THE sha256 OF THE DUMP (.gsa) THAT YtlgnchhhadnjbaaProg.lean LOADS. Nothing in Lean hashes anything: it is a label: what it is worth is what the hold of that sum in a sandbox is worth. -/
noncomputable def Try.pinned : Pinned := { name := "ytlgnchhhadnjbaa", sum := "5df5886bbcc6a395c709b878b4380f3cb3af87256c91564c4b65db2b7694ff80", checked := Try.checked }
namespace Rows
def none {H : Type} : Left H := { results := [], args := [] }

/-- 'lapwinglaw11.ReflowLines': WHATEVER THE INPUT: true; the input reads as it did. -/
def reflowLinesSpec : ChangeSpec := { name := "reflowLines", fn := fun _ => fun
  | [d1, d2, d3] => { results := [.lit (.bool true)], args := [d1, d2, d3] }
  | _ => none }
def reflowLinesRow : OpenClaim := { program := "ytlgnchhhadnjbaa", sum := "5df5886bbcc6a395c709b878b4380f3cb3af87256c91564c4b65db2b7694ff80", func := "lapwing/lapwinglaw11.ReflowLines", spec := "reflowLines", apart := false }
def ReflowLinesSaid : Prop := reflowLinesRow.holds Try.pinned (OpenSpec.ofChange reflowLinesSpec)

/-- ITS FALSE NEIGHBOUR: 'it returns false'. Refute it at one input. -/
def reflowLinesWrong : ChangeSpec := { name := "reflowLines", fn := fun _ => fun
  | [d1, d2, d3] => { results := [.lit (.bool false)], args := [d1, d2, d3] }
  | _ => none }
def ReflowLinesWrongFalsely : Prop := reflowLinesRow.holds Try.pinned (OpenSpec.ofChange reflowLinesWrong)

/-- 'lapwinglaw11.ReflowBack': WHATEVER THE INPUT: true; the input reads as it did. -/
def reflowBackSpec : ChangeSpec := { name := "reflowBack", fn := fun _ => fun
  | [d1, d2, d3] => { results := [.lit (.bool true)], args := [d1, d2, d3] }
  | _ => none }
def reflowBackRow : OpenClaim := { program := "ytlgnchhhadnjbaa", sum := "5df5886bbcc6a395c709b878b4380f3cb3af87256c91564c4b65db2b7694ff80", func := "lapwing/lapwinglaw11.ReflowBack", spec := "reflowBack", apart := false }
def ReflowBackSaid : Prop := reflowBackRow.holds Try.pinned (OpenSpec.ofChange reflowBackSpec)

/-- ITS FALSE NEIGHBOUR: 'it returns false'. Refute it at one input. -/
def reflowBackWrong : ChangeSpec := { name := "reflowBack", fn := fun _ => fun
  | [d1, d2, d3] => { results := [.lit (.bool false)], args := [d1, d2, d3] }
  | _ => none }
def ReflowBackWrongFalsely : Prop := reflowBackRow.holds Try.pinned (OpenSpec.ofChange reflowBackWrong)

/-- 'lapwinglaw11.ReflowPlace': WHATEVER THE INPUT: true; the input reads as it did. -/
def reflowPlaceSpec : ChangeSpec := { name := "reflowPlace", fn := fun _ => fun
  | [d1, d2, d3, d4, d5] => { results := [.lit (.bool true)], args := [d1, d2, d3, d4, d5] }
  | _ => none }
def reflowPlaceRow : OpenClaim := { program := "ytlgnchhhadnjbaa", sum := "5df5886bbcc6a395c709b878b4380f3cb3af87256c91564c4b65db2b7694ff80", func := "lapwing/lapwinglaw11.ReflowPlace", spec := "reflowPlace", apart := false }
def ReflowPlaceSaid : Prop := reflowPlaceRow.holds Try.pinned (OpenSpec.ofChange reflowPlaceSpec)

/-- ITS FALSE NEIGHBOUR: 'it returns false'. Refute it at one input. -/
def reflowPlaceWrong : ChangeSpec := { name := "reflowPlace", fn := fun _ => fun
  | [d1, d2, d3, d4, d5] => { results := [.lit (.bool false)], args := [d1, d2, d3, d4, d5] }
  | _ => none }
def ReflowPlaceWrongFalsely : Prop := reflowPlaceRow.holds Try.pinned (OpenSpec.ofChange reflowPlaceWrong)

/-- 'lapwinglaw11.ReflowLetters': WHATEVER THE INPUT: true; the input reads as it did. -/
def reflowLettersSpec : ChangeSpec := { name := "reflowLetters", fn := fun _ => fun
  | [d1, d2] => { results := [.lit (.bool true)], args := [d1, d2] }
  | _ => none }
def reflowLettersRow : OpenClaim := { program := "ytlgnchhhadnjbaa", sum := "5df5886bbcc6a395c709b878b4380f3cb3af87256c91564c4b65db2b7694ff80", func := "lapwing/lapwinglaw11.ReflowLetters", spec := "reflowLetters", apart := false }
def ReflowLettersSaid : Prop := reflowLettersRow.holds Try.pinned (OpenSpec.ofChange reflowLettersSpec)

/-- ITS FALSE NEIGHBOUR: 'it returns false'. Refute it at one input. -/
def reflowLettersWrong : ChangeSpec := { name := "reflowLetters", fn := fun _ => fun
  | [d1, d2] => { results := [.lit (.bool false)], args := [d1, d2] }
  | _ => none }
def ReflowLettersWrongFalsely : Prop := reflowLettersRow.holds Try.pinned (OpenSpec.ofChange reflowLettersWrong)

/-- 'lapwinglaw11.ReflowSplit': WHATEVER THE INPUT: true; the input reads as it did. -/
def reflowSplitSpec : ChangeSpec := { name := "reflowSplit", fn := fun _ => fun
  | [d1, d2] => { results := [.lit (.bool true)], args := [d1, d2] }
  | _ => none }
def reflowSplitRow : OpenClaim := { program := "ytlgnchhhadnjbaa", sum := "5df5886bbcc6a395c709b878b4380f3cb3af87256c91564c4b65db2b7694ff80", func := "lapwing/lapwinglaw11.ReflowSplit", spec := "reflowSplit", apart := false }
def ReflowSplitSaid : Prop := reflowSplitRow.holds Try.pinned (OpenSpec.ofChange reflowSplitSpec)

/-- ITS FALSE NEIGHBOUR: 'it returns false'. Refute it at one input. -/
def reflowSplitWrong : ChangeSpec := { name := "reflowSplit", fn := fun _ => fun
  | [d1, d2] => { results := [.lit (.bool false)], args := [d1, d2] }
  | _ => none }
def ReflowSplitWrongFalsely : Prop := reflowSplitRow.holds Try.pinned (OpenSpec.ofChange reflowSplitWrong)

/- THE SECOND FORM. 'bulk': how many values and letters a reading holds, each counted each time it is reached (what is shared counts as often as it is met; a slice's spare places count too). A statement '..UptoSaid' is the law's where the arguments, and the package variables that the reading takes, are together of bulk at most 1048576: NARROWER than '..Said'. Prove '..Said' where nothing that the law and all that it calls make is longer than what came in: it says more and counts as full. Else prove '..UptoSaid'. A law counts once. -/
mutual
def uptoBulk {H : Type} : DataW H → Nat
  | .lit (.string bytes) => bytes.length + 1
  | .lit _ => 1
  | .nil => 1
  | .ptr d => uptoBulk d + 1
  | .slice elems spare => uptoBulkAll elems + uptoBulkAll spare + 1
  | .agg parts => uptoBulkAll parts + 1
  | .iface _ d => uptoBulk d + 1
  | .map entries => uptoBulkEntries entries + 1
  | .held _ => 1
def uptoBulkAll {H : Type} : List (DataW H) → Nat
  | [] => 0
  | d :: r => uptoBulk d + uptoBulkAll r
def uptoBulkEntries {H : Type} : List (Lit × DataW H) → Nat
  | [] => 0
  | x :: r => uptoBulkEntry x + uptoBulkEntries r
def uptoBulkEntry {H : Type} : Lit × DataW H → Nat
  | (.string bytes, d) => bytes.length + uptoBulk d + 1
  | (_, d) => uptoBulk d + 1
 end
def uptoSmall : (H : Type) → List (DataW H) → Bool := fun _ ds => decide (uptoBulkAll ds ≤ 1048576)
def OpenSpec.upto (s : _root_.Go.ChangeSpec) : _root_.Go.OpenSpec := { _root_.Go.OpenSpec.ofChange s with cond := some uptoSmall }

/-- 'lapwinglaw11.ReflowLines', WHERE WHAT IT READS IS OF BULK AT MOST 1048576: true; the input reads as it did. -/
def reflowLinesUptoRow : OpenClaim := { program := "ytlgnchhhadnjbaa", sum := "5df5886bbcc6a395c709b878b4380f3cb3af87256c91564c4b65db2b7694ff80", func := "lapwing/lapwinglaw11.ReflowLines", spec := "reflowLines", apart := false, narrowed := true }
def ReflowLinesUptoSaid : Prop := reflowLinesUptoRow.holds Try.pinned (OpenSpec.upto reflowLinesSpec)

/-- 'lapwinglaw11.ReflowBack', WHERE WHAT IT READS IS OF BULK AT MOST 1048576: true; the input reads as it did. -/
def reflowBackUptoRow : OpenClaim := { program := "ytlgnchhhadnjbaa", sum := "5df5886bbcc6a395c709b878b4380f3cb3af87256c91564c4b65db2b7694ff80", func := "lapwing/lapwinglaw11.ReflowBack", spec := "reflowBack", apart := false, narrowed := true }
def ReflowBackUptoSaid : Prop := reflowBackUptoRow.holds Try.pinned (OpenSpec.upto reflowBackSpec)

/-- 'lapwinglaw11.ReflowPlace', WHERE WHAT IT READS IS OF BULK AT MOST 1048576: true; the input reads as it did. -/
def reflowPlaceUptoRow : OpenClaim := { program := "ytlgnchhhadnjbaa", sum := "5df5886bbcc6a395c709b878b4380f3cb3af87256c91564c4b65db2b7694ff80", func := "lapwing/lapwinglaw11.ReflowPlace", spec := "reflowPlace", apart := false, narrowed := true }
def ReflowPlaceUptoSaid : Prop := reflowPlaceUptoRow.holds Try.pinned (OpenSpec.upto reflowPlaceSpec)

/-- 'lapwinglaw11.ReflowLetters', WHERE WHAT IT READS IS OF BULK AT MOST 1048576: true; the input reads as it did. -/
def reflowLettersUptoRow : OpenClaim := { program := "ytlgnchhhadnjbaa", sum := "5df5886bbcc6a395c709b878b4380f3cb3af87256c91564c4b65db2b7694ff80", func := "lapwing/lapwinglaw11.ReflowLetters", spec := "reflowLetters", apart := false, narrowed := true }
def ReflowLettersUptoSaid : Prop := reflowLettersUptoRow.holds Try.pinned (OpenSpec.upto reflowLettersSpec)

/-- 'lapwinglaw11.ReflowSplit', WHERE WHAT IT READS IS OF BULK AT MOST 1048576: true; the input reads as it did. -/
def reflowSplitUptoRow : OpenClaim := { program := "ytlgnchhhadnjbaa", sum := "5df5886bbcc6a395c709b878b4380f3cb3af87256c91564c4b65db2b7694ff80", func := "lapwing/lapwinglaw11.ReflowSplit", spec := "reflowSplit", apart := false, narrowed := true }
def ReflowSplitUptoSaid : Prop := reflowSplitUptoRow.holds Try.pinned (OpenSpec.upto reflowSplitSpec)

end Rows
end Go.Proofs.Ytlgnchhhadnjbaa
