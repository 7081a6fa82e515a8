/-
  No cell of these rows narrows 'for every input' (looked for: loops, veiled, ifaces, maps, wideKeys, modest, calm, conditions, laid).
  DERIVED. THE GIVEN ROWS OF THIS SEAT. 4 by the template 'for every input the law returns true; each argument reads behind the call as it read before'; 0 by the template 'total and deterministic' (their statements: YtlchffkabpfjpaaTotals.lean).
  GIVEN WITH THE SEED: the statements are not yours to turn. If you find one false, say at which input.
  Laid BY PROGRAM, IN A SANDBOX (cutbox-rows.mjs): the forced cells as the released guide's own fill.sh prints them over the translation 9f4d9c953256390a… (all of the seat's roots in one cut). By AI agents, Wed Nov 11 2026. No macro, syntax, notation, axiom, sorry.
-/
import Derived.Test.YtlchffkabpfjpaaChecked
import GoSem.Claim
import GoSem.ClaimJoined
import GoSem.ClaimMapViews
import Derived.JoinedTies
import Derived.KernelRfl
namespace Go.Proofs.Ytlchffkabpfjpaa
/- THE CELL 'sum', in the pinned program and in every row, IS THE sha256 OF THE DUMP (.gsa) THAT YtlchffkabpfjpaaProg.lean LOADS. Nothing in Lean hashes anything: it is a label: what it is worth is what the hold of that sum in a sandbox is worth. -/
noncomputable def Try.pinned : Pinned := { name := "ytlchffkabpfjpaa", sum := "9f4d9c953256390a0bf7062b527ac93841612e76ed1094512deee8dabb2723c9", checked := Try.checked }
namespace Rows
def none {H : Type} : Left H := { results := [], args := [] }

/-- 'lapwinglaw15.ScreenPrints': WHATEVER THE INPUT: true; the input reads as it did. -/
def screenPrintsSpec : ChangeSpec := { name := "screenPrints", fn := fun _ => fun
  | [d1, d2] => { results := [.lit (.bool true)], args := [d1, d2] }
  | _ => none }
def screenPrintsRow : OpenClaim := { program := "ytlchffkabpfjpaa", sum := "9f4d9c953256390a0bf7062b527ac93841612e76ed1094512deee8dabb2723c9", func := "lapwing/lapwinglaw15.ScreenPrints", spec := "screenPrints", unfollowed := true, recurses := true, apart := false }
def ScreenPrintsSaid : Prop := screenPrintsRow.holds Try.pinned (OpenSpec.ofChange screenPrintsSpec)

/-- ITS FALSE NEIGHBOUR: 'it returns false'. Refute it at one input. -/
def screenPrintsWrong : ChangeSpec := { name := "screenPrints", fn := fun _ => fun
  | [d1, d2] => { results := [.lit (.bool false)], args := [d1, d2] }
  | _ => none }
def ScreenPrintsWrongFalsely : Prop := screenPrintsRow.holds Try.pinned (OpenSpec.ofChange screenPrintsWrong)

/-- 'lapwinglaw15.ScreenKeeps': WHATEVER THE INPUT: true; the input reads as it did. -/
def screenKeepsSpec : ChangeSpec := { name := "screenKeeps", fn := fun _ => fun
  | [d1, d2] => { results := [.lit (.bool true)], args := [d1, d2] }
  | _ => none }
def screenKeepsRow : OpenClaim := { program := "ytlchffkabpfjpaa", sum := "9f4d9c953256390a0bf7062b527ac93841612e76ed1094512deee8dabb2723c9", func := "lapwing/lapwinglaw15.ScreenKeeps", spec := "screenKeeps", unfollowed := true, recurses := true, apart := false }
def ScreenKeepsSaid : Prop := screenKeepsRow.holds Try.pinned (OpenSpec.ofChange screenKeepsSpec)

/-- ITS FALSE NEIGHBOUR: 'it returns false'. Refute it at one input. -/
def screenKeepsWrong : ChangeSpec := { name := "screenKeeps", fn := fun _ => fun
  | [d1, d2] => { results := [.lit (.bool false)], args := [d1, d2] }
  | _ => none }
def ScreenKeepsWrongFalsely : Prop := screenKeepsRow.holds Try.pinned (OpenSpec.ofChange screenKeepsWrong)

/-- 'lapwinglaw15.ScreenLetters': WHATEVER THE INPUT: true; the input reads as it did. -/
def screenLettersSpec : ChangeSpec := { name := "screenLetters", fn := fun _ => fun
  | [d1, d2, d3] => { results := [.lit (.bool true)], args := [d1, d2, d3] }
  | _ => none }
def screenLettersRow : OpenClaim := { program := "ytlchffkabpfjpaa", sum := "9f4d9c953256390a0bf7062b527ac93841612e76ed1094512deee8dabb2723c9", func := "lapwing/lapwinglaw15.ScreenLetters", spec := "screenLetters", unfollowed := true, recurses := true, apart := false }
def ScreenLettersSaid : Prop := screenLettersRow.holds Try.pinned (OpenSpec.ofChange screenLettersSpec)

/-- ITS FALSE NEIGHBOUR: 'it returns false'. Refute it at one input. -/
def screenLettersWrong : ChangeSpec := { name := "screenLetters", fn := fun _ => fun
  | [d1, d2, d3] => { results := [.lit (.bool false)], args := [d1, d2, d3] }
  | _ => none }
def ScreenLettersWrongFalsely : Prop := screenLettersRow.holds Try.pinned (OpenSpec.ofChange screenLettersWrong)

/-- 'lapwinglaw15.ScreenBlank': WHATEVER THE INPUT: true; the input reads as it did. -/
def screenBlankSpec : ChangeSpec := { name := "screenBlank", fn := fun _ => fun
  | [d1, d2, d3] => { results := [.lit (.bool true)], args := [d1, d2, d3] }
  | _ => none }
def screenBlankRow : OpenClaim := { program := "ytlchffkabpfjpaa", sum := "9f4d9c953256390a0bf7062b527ac93841612e76ed1094512deee8dabb2723c9", func := "lapwing/lapwinglaw15.ScreenBlank", spec := "screenBlank", unfollowed := true, recurses := true, apart := false }
def ScreenBlankSaid : Prop := screenBlankRow.holds Try.pinned (OpenSpec.ofChange screenBlankSpec)

/-- ITS FALSE NEIGHBOUR: 'it returns false'. Refute it at one input. -/
def screenBlankWrong : ChangeSpec := { name := "screenBlank", fn := fun _ => fun
  | [d1, d2, d3] => { results := [.lit (.bool false)], args := [d1, d2, d3] }
  | _ => none }
def ScreenBlankWrongFalsely : Prop := screenBlankRow.holds Try.pinned (OpenSpec.ofChange screenBlankWrong)

/- THE SECOND FORM. 'bulk': how many values and letters a reading holds, each counted each time it is reached (what is shared counts as often as it is met; a slice's spare places count too). A statement '..UptoSaid' is the law's where the arguments, and the package variables that the reading takes, are together of bulk at most 1048576: NARROWER than '..Said'. Prove '..Said' where nothing that the law and all that it calls make is longer than what came in: it says more and counts as full. Else prove '..UptoSaid'. A law counts once. -/
mutual
def uptoBulk {H : Type} : DataW H → Nat
  | .lit (.string bytes) => bytes.length + 1
  | .lit _ => 1
  | .nil => 1
  | .ptr d => uptoBulk d + 1
  | .slice elems spare => uptoBulkAll elems + uptoBulkAll spare + 1
  | .agg parts => uptoBulkAll parts + 1
  | .iface _ d => uptoBulk d + 1
  | .map entries => uptoBulkEntries entries + 1
  | .held _ => 1
def uptoBulkAll {H : Type} : List (DataW H) → Nat
  | [] => 0
  | d :: r => uptoBulk d + uptoBulkAll r
def uptoBulkEntries {H : Type} : List (Lit × DataW H) → Nat
  | [] => 0
  | x :: r => uptoBulkEntry x + uptoBulkEntries r
def uptoBulkEntry {H : Type} : Lit × DataW H → Nat
  | (.string bytes, d) => bytes.length + uptoBulk d + 1
  | (_, d) => uptoBulk d + 1
 end
def uptoSmall : (H : Type) → List (DataW H) → Bool := fun _ ds => decide (uptoBulkAll ds ≤ 1048576)
def OpenSpec.upto (s : _root_.Go.ChangeSpec) : _root_.Go.OpenSpec := { _root_.Go.OpenSpec.ofChange s with cond := some uptoSmall }

/-- 'lapwinglaw15.ScreenPrints', WHERE WHAT IT READS IS OF BULK AT MOST 1048576: true; the input reads as it did. -/
def screenPrintsUptoRow : OpenClaim := { program := "ytlchffkabpfjpaa", sum := "9f4d9c953256390a0bf7062b527ac93841612e76ed1094512deee8dabb2723c9", func := "lapwing/lapwinglaw15.ScreenPrints", spec := "screenPrints", unfollowed := true, recurses := true, apart := false, narrowed := true }
def ScreenPrintsUptoSaid : Prop := screenPrintsUptoRow.holds Try.pinned (OpenSpec.upto screenPrintsSpec)

/-- 'lapwinglaw15.ScreenKeeps', WHERE WHAT IT READS IS OF BULK AT MOST 1048576: true; the input reads as it did. -/
def screenKeepsUptoRow : OpenClaim := { program := "ytlchffkabpfjpaa", sum := "9f4d9c953256390a0bf7062b527ac93841612e76ed1094512deee8dabb2723c9", func := "lapwing/lapwinglaw15.ScreenKeeps", spec := "screenKeeps", unfollowed := true, recurses := true, apart := false, narrowed := true }
def ScreenKeepsUptoSaid : Prop := screenKeepsUptoRow.holds Try.pinned (OpenSpec.upto screenKeepsSpec)

/-- 'lapwinglaw15.ScreenLetters', WHERE WHAT IT READS IS OF BULK AT MOST 1048576: true; the input reads as it did. -/
def screenLettersUptoRow : OpenClaim := { program := "ytlchffkabpfjpaa", sum := "9f4d9c953256390a0bf7062b527ac93841612e76ed1094512deee8dabb2723c9", func := "lapwing/lapwinglaw15.ScreenLetters", spec := "screenLetters", unfollowed := true, recurses := true, apart := false, narrowed := true }
def ScreenLettersUptoSaid : Prop := screenLettersUptoRow.holds Try.pinned (OpenSpec.upto screenLettersSpec)

/-- 'lapwinglaw15.ScreenBlank', WHERE WHAT IT READS IS OF BULK AT MOST 1048576: true; the input reads as it did. -/
def screenBlankUptoRow : OpenClaim := { program := "ytlchffkabpfjpaa", sum := "9f4d9c953256390a0bf7062b527ac93841612e76ed1094512deee8dabb2723c9", func := "lapwing/lapwinglaw15.ScreenBlank", spec := "screenBlank", unfollowed := true, recurses := true, apart := false, narrowed := true }
def ScreenBlankUptoSaid : Prop := screenBlankUptoRow.holds Try.pinned (OpenSpec.upto screenBlankSpec)

end Rows
end Go.Proofs.Ytlchffkabpfjpaa
