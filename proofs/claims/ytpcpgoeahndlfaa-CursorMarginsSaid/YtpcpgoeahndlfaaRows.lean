/-
  No cell of these rows narrows 'for every input' (looked for: loops, veiled, ifaces, maps, wideKeys, modest, calm, conditions, laid).
  DERIVED. THE GIVEN ROWS OF THIS SEAT. 5 by the template 'for every input the law returns true; each argument reads behind the call as it read before'; 0 by the template 'total and deterministic' (their statements: YtpcpgoeahndlfaaTotals.lean).
  GIVEN WITH THE SEED: the statements are not yours to turn. If you find one false, say at which input.
  Laid BY PROGRAM, IN A SANDBOX (cutbox-rows.mjs): the forced cells as the released guide's own fill.sh prints them over the translation de803e459c980f6b… (all of the seat's roots in one cut). By AI agents, Wed Nov 11 2026. No macro, syntax, notation, axiom, sorry.
-/
import Derived.Test.YtpcpgoeahndlfaaChecked
import GoSem.Claim
import GoSem.ClaimJoined
import GoSem.ClaimMapViews
import Derived.JoinedTies
import Derived.KernelRfl
namespace Go.Proofs.Ytpcpgoeahndlfaa
/- THE CELL 'sum', in the pinned program and in every row, IS THE sha256 OF THE DUMP (.gsa) THAT YtpcpgoeahndlfaaProg.lean LOADS. Nothing in Lean hashes anything: it is a label: what it is worth is what the hold of that sum in a sandbox is worth. -/
noncomputable def Try.pinned : Pinned := { name := "ytpcpgoeahndlfaa", sum := "de803e459c980f6bbfc5f6f08ddb6fc089d4bd15b4905409917d1dcd450387d7", checked := Try.checked }
namespace Rows
def none {H : Type} : Left H := { results := [], args := [] }

/-- 'lapwinglaw12.TabsResize': WHATEVER THE INPUT: true; the input reads as it did. -/
def tabsResizeSpec : ChangeSpec := { name := "tabsResize", fn := fun _ => fun
  | [d1, d2] => { results := [.lit (.bool true)], args := [d1, d2] }
  | _ => none }
def tabsResizeRow : OpenClaim := { program := "ytpcpgoeahndlfaa", sum := "de803e459c980f6bbfc5f6f08ddb6fc089d4bd15b4905409917d1dcd450387d7", func := "lapwing/lapwinglaw12.TabsResize", spec := "tabsResize", unfollowed := true, recurses := true, apart := false }
def TabsResizeSaid : Prop := tabsResizeRow.holds Try.pinned (OpenSpec.ofChange tabsResizeSpec)

/-- ITS FALSE NEIGHBOUR: 'it returns false'. Refute it at one input. -/
def tabsResizeWrong : ChangeSpec := { name := "tabsResize", fn := fun _ => fun
  | [d1, d2] => { results := [.lit (.bool false)], args := [d1, d2] }
  | _ => none }
def TabsResizeWrongFalsely : Prop := tabsResizeRow.holds Try.pinned (OpenSpec.ofChange tabsResizeWrong)

/-- 'lapwinglaw14.CursorMargins': WHATEVER THE INPUT: true; the input reads as it did. -/
def cursorMarginsSpec : ChangeSpec := { name := "cursorMargins", fn := fun _ => fun
  | [d1, d2, d3] => { results := [.lit (.bool true)], args := [d1, d2, d3] }
  | _ => none }
def cursorMarginsRow : OpenClaim := { program := "ytpcpgoeahndlfaa", sum := "de803e459c980f6bbfc5f6f08ddb6fc089d4bd15b4905409917d1dcd450387d7", func := "lapwing/lapwinglaw14.CursorMargins", spec := "cursorMargins", apart := false }
def CursorMarginsSaid : Prop := cursorMarginsRow.holds Try.pinned (OpenSpec.ofChange cursorMarginsSpec)

/-- ITS FALSE NEIGHBOUR: 'it returns false'. Refute it at one input. -/
def cursorMarginsWrong : ChangeSpec := { name := "cursorMargins", fn := fun _ => fun
  | [d1, d2, d3] => { results := [.lit (.bool false)], args := [d1, d2, d3] }
  | _ => none }
def CursorMarginsWrongFalsely : Prop := cursorMarginsRow.holds Try.pinned (OpenSpec.ofChange cursorMarginsWrong)

/-- 'lapwinglaw14.CursorTo': WHATEVER THE INPUT: true; the input reads as it did. -/
def cursorToSpec : ChangeSpec := { name := "cursorTo", fn := fun _ => fun
  | [d1, d2, d3, d4] => { results := [.lit (.bool true)], args := [d1, d2, d3, d4] }
  | _ => none }
def cursorToRow : OpenClaim := { program := "ytpcpgoeahndlfaa", sum := "de803e459c980f6bbfc5f6f08ddb6fc089d4bd15b4905409917d1dcd450387d7", func := "lapwing/lapwinglaw14.CursorTo", spec := "cursorTo", apart := false }
def CursorToSaid : Prop := cursorToRow.holds Try.pinned (OpenSpec.ofChange cursorToSpec)

/-- ITS FALSE NEIGHBOUR: 'it returns false'. Refute it at one input. -/
def cursorToWrong : ChangeSpec := { name := "cursorTo", fn := fun _ => fun
  | [d1, d2, d3, d4] => { results := [.lit (.bool false)], args := [d1, d2, d3, d4] }
  | _ => none }
def CursorToWrongFalsely : Prop := cursorToRow.holds Try.pinned (OpenSpec.ofChange cursorToWrong)

/-- 'lapwinglaw14.CursorFound': WHATEVER THE INPUT: true; the input reads as it did. -/
def cursorFoundSpec : ChangeSpec := { name := "cursorFound", fn := fun _ => fun
  | [d1, d2, d3, d4] => { results := [.lit (.bool true)], args := [d1, d2, d3, d4] }
  | _ => none }
def cursorFoundRow : OpenClaim := { program := "ytpcpgoeahndlfaa", sum := "de803e459c980f6bbfc5f6f08ddb6fc089d4bd15b4905409917d1dcd450387d7", func := "lapwing/lapwinglaw14.CursorFound", spec := "cursorFound", apart := false }
def CursorFoundSaid : Prop := cursorFoundRow.holds Try.pinned (OpenSpec.ofChange cursorFoundSpec)

/-- ITS FALSE NEIGHBOUR: 'it returns false'. Refute it at one input. -/
def cursorFoundWrong : ChangeSpec := { name := "cursorFound", fn := fun _ => fun
  | [d1, d2, d3, d4] => { results := [.lit (.bool false)], args := [d1, d2, d3, d4] }
  | _ => none }
def CursorFoundWrongFalsely : Prop := cursorFoundRow.holds Try.pinned (OpenSpec.ofChange cursorFoundWrong)

/-- 'lapwinglaw14.CursorStays': WHATEVER THE INPUT: true; the input reads as it did. -/
def cursorStaysSpec : ChangeSpec := { name := "cursorStays", fn := fun _ => fun
  | [d1, d2, d3, d4] => { results := [.lit (.bool true)], args := [d1, d2, d3, d4] }
  | _ => none }
def cursorStaysRow : OpenClaim := { program := "ytpcpgoeahndlfaa", sum := "de803e459c980f6bbfc5f6f08ddb6fc089d4bd15b4905409917d1dcd450387d7", func := "lapwing/lapwinglaw14.CursorStays", spec := "cursorStays", apart := false }
def CursorStaysSaid : Prop := cursorStaysRow.holds Try.pinned (OpenSpec.ofChange cursorStaysSpec)

/-- ITS FALSE NEIGHBOUR: 'it returns false'. Refute it at one input. -/
def cursorStaysWrong : ChangeSpec := { name := "cursorStays", fn := fun _ => fun
  | [d1, d2, d3, d4] => { results := [.lit (.bool false)], args := [d1, d2, d3, d4] }
  | _ => none }
def CursorStaysWrongFalsely : Prop := cursorStaysRow.holds Try.pinned (OpenSpec.ofChange cursorStaysWrong)

/- THE SECOND FORM. 'bulk': how many values and letters a reading holds, each counted each time it is reached (what is shared counts as often as it is met; a slice's spare places count too). A statement '..UptoSaid' is the law's where the arguments, and the package variables that the reading takes, are together of bulk at most 1048576: NARROWER than '..Said'. Prove '..Said' where nothing that the law and all that it calls make is longer than what came in: it says more and counts as full. Else prove '..UptoSaid'. A law counts once. -/
mutual
def uptoBulk {H : Type} : DataW H → Nat
  | .lit (.string bytes) => bytes.length + 1
  | .lit _ => 1
  | .nil => 1
  | .ptr d => uptoBulk d + 1
  | .slice elems spare => uptoBulkAll elems + uptoBulkAll spare + 1
  | .agg parts => uptoBulkAll parts + 1
  | .iface _ d => uptoBulk d + 1
  | .map entries => uptoBulkEntries entries + 1
  | .held _ => 1
def uptoBulkAll {H : Type} : List (DataW H) → Nat
  | [] => 0
  | d :: r => uptoBulk d + uptoBulkAll r
def uptoBulkEntries {H : Type} : List (Lit × DataW H) → Nat
  | [] => 0
  | x :: r => uptoBulkEntry x + uptoBulkEntries r
def uptoBulkEntry {H : Type} : Lit × DataW H → Nat
  | (.string bytes, d) => bytes.length + uptoBulk d + 1
  | (_, d) => uptoBulk d + 1
 end
def uptoSmall : (H : Type) → List (DataW H) → Bool := fun _ ds => decide (uptoBulkAll ds ≤ 1048576)
def OpenSpec.upto (s : _root_.Go.ChangeSpec) : _root_.Go.OpenSpec := { _root_.Go.OpenSpec.ofChange s with cond := some uptoSmall }

/-- 'lapwinglaw12.TabsResize', WHERE WHAT IT READS IS OF BULK AT MOST 1048576: true; the input reads as it did. -/
def tabsResizeUptoRow : OpenClaim := { program := "ytpcpgoeahndlfaa", sum := "de803e459c980f6bbfc5f6f08ddb6fc089d4bd15b4905409917d1dcd450387d7", func := "lapwing/lapwinglaw12.TabsResize", spec := "tabsResize", unfollowed := true, recurses := true, apart := false, narrowed := true }
def TabsResizeUptoSaid : Prop := tabsResizeUptoRow.holds Try.pinned (OpenSpec.upto tabsResizeSpec)

/-- 'lapwinglaw14.CursorMargins', WHERE WHAT IT READS IS OF BULK AT MOST 1048576: true; the input reads as it did. -/
def cursorMarginsUptoRow : OpenClaim := { program := "ytpcpgoeahndlfaa", sum := "de803e459c980f6bbfc5f6f08ddb6fc089d4bd15b4905409917d1dcd450387d7", func := "lapwing/lapwinglaw14.CursorMargins", spec := "cursorMargins", apart := false, narrowed := true }
def CursorMarginsUptoSaid : Prop := cursorMarginsUptoRow.holds Try.pinned (OpenSpec.upto cursorMarginsSpec)

/-- 'lapwinglaw14.CursorTo', WHERE WHAT IT READS IS OF BULK AT MOST 1048576: true; the input reads as it did. -/
def cursorToUptoRow : OpenClaim := { program := "ytpcpgoeahndlfaa", sum := "de803e459c980f6bbfc5f6f08ddb6fc089d4bd15b4905409917d1dcd450387d7", func := "lapwing/lapwinglaw14.CursorTo", spec := "cursorTo", apart := false, narrowed := true }
def CursorToUptoSaid : Prop := cursorToUptoRow.holds Try.pinned (OpenSpec.upto cursorToSpec)

/-- 'lapwinglaw14.CursorFound', WHERE WHAT IT READS IS OF BULK AT MOST 1048576: true; the input reads as it did. -/
def cursorFoundUptoRow : OpenClaim := { program := "ytpcpgoeahndlfaa", sum := "de803e459c980f6bbfc5f6f08ddb6fc089d4bd15b4905409917d1dcd450387d7", func := "lapwing/lapwinglaw14.CursorFound", spec := "cursorFound", apart := false, narrowed := true }
def CursorFoundUptoSaid : Prop := cursorFoundUptoRow.holds Try.pinned (OpenSpec.upto cursorFoundSpec)

/-- 'lapwinglaw14.CursorStays', WHERE WHAT IT READS IS OF BULK AT MOST 1048576: true; the input reads as it did. -/
def cursorStaysUptoRow : OpenClaim := { program := "ytpcpgoeahndlfaa", sum := "de803e459c980f6bbfc5f6f08ddb6fc089d4bd15b4905409917d1dcd450387d7", func := "lapwing/lapwinglaw14.CursorStays", spec := "cursorStays", apart := false, narrowed := true }
def CursorStaysUptoSaid : Prop := cursorStaysUptoRow.holds Try.pinned (OpenSpec.upto cursorStaysSpec)

end Rows
end Go.Proofs.Ytpcpgoeahndlfaa
