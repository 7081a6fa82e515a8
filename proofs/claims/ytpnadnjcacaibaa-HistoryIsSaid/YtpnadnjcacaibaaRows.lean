/-
  No cell of these rows narrows 'for every input' (looked for: loops, veiled, ifaces, maps, wideKeys, modest, calm, conditions, laid).
  DERIVED. THE GIVEN ROWS OF THIS SEAT. 11 by the template 'for every input the law returns true; each argument reads behind the call as it read before'; 0 by the template 'total and deterministic' (their statements: YtpnadnjcacaibaaTotals.lean).
  GIVEN WITH THE SEED: the statements are not yours to turn. If you find one false, say at which input.
  Laid BY PROGRAM, IN A SANDBOX (cutbox-rows.mjs): the forced cells as the released guide's own fill.sh prints them over the translation 08e285542cee7843… (all of the seat's roots in one cut). By AI agents, Wed Nov 11 2026. No macro, syntax, notation, axiom, sorry.
-/
import Derived.Test.YtpnadnjcacaibaaChecked
import GoSem.Claim
import GoSem.ClaimJoined
import GoSem.ClaimMapViews
import Derived.JoinedTies
import Derived.KernelRfl
namespace Go.Proofs.Ytpnadnjcacaibaa
/- THE CELL 'sum', in the pinned program and in every row, IS THE sha256 OF THE DUMP (.gsa) THAT YtpnadnjcacaibaaProg.lean LOADS. Nothing in Lean hashes anything: it is a label: what it is worth is what the hold of that sum in a sandbox is worth. -/
noncomputable def Try.pinned : Pinned := { name := "ytpnadnjcacaibaa", sum := "08e285542cee784301d658e185ea934405a62de46d916c2b75dcdad558ee6e28", checked := Try.checked }
namespace Rows
def none {H : Type} : Left H := { results := [], args := [] }

/-- 'lapwinglaw08.RowPuts': WHATEVER THE INPUT: true; the input reads as it did. -/
def rowPutsSpec : ChangeSpec := { name := "rowPuts", fn := fun _ => fun
  | [d1, d2, d3] => { results := [.lit (.bool true)], args := [d1, d2, d3] }
  | _ => none }
def rowPutsRow : OpenClaim := { program := "ytpnadnjcacaibaa", sum := "08e285542cee784301d658e185ea934405a62de46d916c2b75dcdad558ee6e28", func := "lapwing/lapwinglaw08.RowPuts", spec := "rowPuts", apart := false }
def RowPutsSaid : Prop := rowPutsRow.holds Try.pinned (OpenSpec.ofChange rowPutsSpec)

/-- ITS FALSE NEIGHBOUR: 'it returns false'. Refute it at one input. -/
def rowPutsWrong : ChangeSpec := { name := "rowPuts", fn := fun _ => fun
  | [d1, d2, d3] => { results := [.lit (.bool false)], args := [d1, d2, d3] }
  | _ => none }
def RowPutsWrongFalsely : Prop := rowPutsRow.holds Try.pinned (OpenSpec.ofChange rowPutsWrong)

/-- 'lapwinglaw10.HistoryLots': WHATEVER THE INPUT: true; the input reads as it did. -/
def historyLotsSpec : ChangeSpec := { name := "historyLots", fn := fun _ => fun
  | [d1, d2, d3] => { results := [.lit (.bool true)], args := [d1, d2, d3] }
  | _ => none }
def historyLotsRow : OpenClaim := { program := "ytpnadnjcacaibaa", sum := "08e285542cee784301d658e185ea934405a62de46d916c2b75dcdad558ee6e28", func := "lapwing/lapwinglaw10.HistoryLots", spec := "historyLots", apart := false }
def HistoryLotsSaid : Prop := historyLotsRow.holds Try.pinned (OpenSpec.ofChange historyLotsSpec)

/-- ITS FALSE NEIGHBOUR: 'it returns false'. Refute it at one input. -/
def historyLotsWrong : ChangeSpec := { name := "historyLots", fn := fun _ => fun
  | [d1, d2, d3] => { results := [.lit (.bool false)], args := [d1, d2, d3] }
  | _ => none }
def HistoryLotsWrongFalsely : Prop := historyLotsRow.holds Try.pinned (OpenSpec.ofChange historyLotsWrong)

/-- 'lapwinglaw10.HistoryTakes': WHATEVER THE INPUT: true; the input reads as it did. -/
def historyTakesSpec : ChangeSpec := { name := "historyTakes", fn := fun _ => fun
  | [d1, d2] => { results := [.lit (.bool true)], args := [d1, d2] }
  | _ => none }
def historyTakesRow : OpenClaim := { program := "ytpnadnjcacaibaa", sum := "08e285542cee784301d658e185ea934405a62de46d916c2b75dcdad558ee6e28", func := "lapwing/lapwinglaw10.HistoryTakes", spec := "historyTakes", apart := false }
def HistoryTakesSaid : Prop := historyTakesRow.holds Try.pinned (OpenSpec.ofChange historyTakesSpec)

/-- ITS FALSE NEIGHBOUR: 'it returns false'. Refute it at one input. -/
def historyTakesWrong : ChangeSpec := { name := "historyTakes", fn := fun _ => fun
  | [d1, d2] => { results := [.lit (.bool false)], args := [d1, d2] }
  | _ => none }
def HistoryTakesWrongFalsely : Prop := historyTakesRow.holds Try.pinned (OpenSpec.ofChange historyTakesWrong)

/-- 'lapwinglaw08.RowErases': WHATEVER THE INPUT: true; the input reads as it did. -/
def rowErasesSpec : ChangeSpec := { name := "rowErases", fn := fun _ => fun
  | [d1, d2, d3, d4] => { results := [.lit (.bool true)], args := [d1, d2, d3, d4] }
  | _ => none }
def rowErasesRow : OpenClaim := { program := "ytpnadnjcacaibaa", sum := "08e285542cee784301d658e185ea934405a62de46d916c2b75dcdad558ee6e28", func := "lapwing/lapwinglaw08.RowErases", spec := "rowErases", apart := false }
def RowErasesSaid : Prop := rowErasesRow.holds Try.pinned (OpenSpec.ofChange rowErasesSpec)

/-- ITS FALSE NEIGHBOUR: 'it returns false'. Refute it at one input. -/
def rowErasesWrong : ChangeSpec := { name := "rowErases", fn := fun _ => fun
  | [d1, d2, d3, d4] => { results := [.lit (.bool false)], args := [d1, d2, d3, d4] }
  | _ => none }
def RowErasesWrongFalsely : Prop := rowErasesRow.holds Try.pinned (OpenSpec.ofChange rowErasesWrong)

/-- 'lapwinglaw08.RowMoves': WHATEVER THE INPUT: true; the input reads as it did. -/
def rowMovesSpec : ChangeSpec := { name := "rowMoves", fn := fun _ => fun
  | [d1, d2, d3, d4, d5] => { results := [.lit (.bool true)], args := [d1, d2, d3, d4, d5] }
  | _ => none }
def rowMovesRow : OpenClaim := { program := "ytpnadnjcacaibaa", sum := "08e285542cee784301d658e185ea934405a62de46d916c2b75dcdad558ee6e28", func := "lapwing/lapwinglaw08.RowMoves", spec := "rowMoves", apart := false }
def RowMovesSaid : Prop := rowMovesRow.holds Try.pinned (OpenSpec.ofChange rowMovesSpec)

/-- ITS FALSE NEIGHBOUR: 'it returns false'. Refute it at one input. -/
def rowMovesWrong : ChangeSpec := { name := "rowMoves", fn := fun _ => fun
  | [d1, d2, d3, d4, d5] => { results := [.lit (.bool false)], args := [d1, d2, d3, d4, d5] }
  | _ => none }
def RowMovesWrongFalsely : Prop := rowMovesRow.holds Try.pinned (OpenSpec.ofChange rowMovesWrong)

/-- 'lapwinglaw10.HistoryWindow': WHATEVER THE INPUT: true; the input reads as it did. -/
def historyWindowSpec : ChangeSpec := { name := "historyWindow", fn := fun _ => fun
  | [d1, d2, d3] => { results := [.lit (.bool true)], args := [d1, d2, d3] }
  | _ => none }
def historyWindowRow : OpenClaim := { program := "ytpnadnjcacaibaa", sum := "08e285542cee784301d658e185ea934405a62de46d916c2b75dcdad558ee6e28", func := "lapwing/lapwinglaw10.HistoryWindow", spec := "historyWindow", apart := false }
def HistoryWindowSaid : Prop := historyWindowRow.holds Try.pinned (OpenSpec.ofChange historyWindowSpec)

/-- ITS FALSE NEIGHBOUR: 'it returns false'. Refute it at one input. -/
def historyWindowWrong : ChangeSpec := { name := "historyWindow", fn := fun _ => fun
  | [d1, d2, d3] => { results := [.lit (.bool false)], args := [d1, d2, d3] }
  | _ => none }
def HistoryWindowWrongFalsely : Prop := historyWindowRow.holds Try.pinned (OpenSpec.ofChange historyWindowWrong)

/-- 'lapwinglaw09.GridSteps': WHATEVER THE INPUT: true; the input reads as it did. -/
def gridStepsSpec : ChangeSpec := { name := "gridSteps", fn := fun _ => fun
  | [d1, d2, d3, d4] => { results := [.lit (.bool true)], args := [d1, d2, d3, d4] }
  | _ => none }
def gridStepsRow : OpenClaim := { program := "ytpnadnjcacaibaa", sum := "08e285542cee784301d658e185ea934405a62de46d916c2b75dcdad558ee6e28", func := "lapwing/lapwinglaw09.GridSteps", spec := "gridSteps", apart := false }
def GridStepsSaid : Prop := gridStepsRow.holds Try.pinned (OpenSpec.ofChange gridStepsSpec)

/-- ITS FALSE NEIGHBOUR: 'it returns false'. Refute it at one input. -/
def gridStepsWrong : ChangeSpec := { name := "gridSteps", fn := fun _ => fun
  | [d1, d2, d3, d4] => { results := [.lit (.bool false)], args := [d1, d2, d3, d4] }
  | _ => none }
def GridStepsWrongFalsely : Prop := gridStepsRow.holds Try.pinned (OpenSpec.ofChange gridStepsWrong)

/-- 'lapwinglaw10.HistoryIs': WHATEVER THE INPUT: true; the input reads as it did. -/
def historyIsSpec : ChangeSpec := { name := "historyIs", fn := fun _ => fun
  | [d1, d2, d3, d4] => { results := [.lit (.bool true)], args := [d1, d2, d3, d4] }
  | _ => none }
def historyIsRow : OpenClaim := { program := "ytpnadnjcacaibaa", sum := "08e285542cee784301d658e185ea934405a62de46d916c2b75dcdad558ee6e28", func := "lapwing/lapwinglaw10.HistoryIs", spec := "historyIs", apart := false }
def HistoryIsSaid : Prop := historyIsRow.holds Try.pinned (OpenSpec.ofChange historyIsSpec)

/-- ITS FALSE NEIGHBOUR: 'it returns false'. Refute it at one input. -/
def historyIsWrong : ChangeSpec := { name := "historyIs", fn := fun _ => fun
  | [d1, d2, d3, d4] => { results := [.lit (.bool false)], args := [d1, d2, d3, d4] }
  | _ => none }
def HistoryIsWrongFalsely : Prop := historyIsRow.holds Try.pinned (OpenSpec.ofChange historyIsWrong)

/-- 'lapwinglaw08.RowLetters': WHATEVER THE INPUT: true; the input reads as it did. -/
def rowLettersSpec : ChangeSpec := { name := "rowLetters", fn := fun _ => fun
  | [d1, d2, d3] => { results := [.lit (.bool true)], args := [d1, d2, d3] }
  | _ => none }
def rowLettersRow : OpenClaim := { program := "ytpnadnjcacaibaa", sum := "08e285542cee784301d658e185ea934405a62de46d916c2b75dcdad558ee6e28", func := "lapwing/lapwinglaw08.RowLetters", spec := "rowLetters", apart := false }
def RowLettersSaid : Prop := rowLettersRow.holds Try.pinned (OpenSpec.ofChange rowLettersSpec)

/-- ITS FALSE NEIGHBOUR: 'it returns false'. Refute it at one input. -/
def rowLettersWrong : ChangeSpec := { name := "rowLetters", fn := fun _ => fun
  | [d1, d2, d3] => { results := [.lit (.bool false)], args := [d1, d2, d3] }
  | _ => none }
def RowLettersWrongFalsely : Prop := rowLettersRow.holds Try.pinned (OpenSpec.ofChange rowLettersWrong)

/-- 'lapwinglaw09.GridSets': WHATEVER THE INPUT: true; the input reads as it did. -/
def gridSetsSpec : ChangeSpec := { name := "gridSets", fn := fun _ => fun
  | [d1, d2, d3, d4] => { results := [.lit (.bool true)], args := [d1, d2, d3, d4] }
  | _ => none }
def gridSetsRow : OpenClaim := { program := "ytpnadnjcacaibaa", sum := "08e285542cee784301d658e185ea934405a62de46d916c2b75dcdad558ee6e28", func := "lapwing/lapwinglaw09.GridSets", spec := "gridSets", apart := false }
def GridSetsSaid : Prop := gridSetsRow.holds Try.pinned (OpenSpec.ofChange gridSetsSpec)

/-- ITS FALSE NEIGHBOUR: 'it returns false'. Refute it at one input. -/
def gridSetsWrong : ChangeSpec := { name := "gridSets", fn := fun _ => fun
  | [d1, d2, d3, d4] => { results := [.lit (.bool false)], args := [d1, d2, d3, d4] }
  | _ => none }
def GridSetsWrongFalsely : Prop := gridSetsRow.holds Try.pinned (OpenSpec.ofChange gridSetsWrong)

/-- 'lapwinglaw09.GridScrolls': WHATEVER THE INPUT: true; the input reads as it did. -/
def gridScrollsSpec : ChangeSpec := { name := "gridScrolls", fn := fun _ => fun
  | [d1, d2, d3, d4] => { results := [.lit (.bool true)], args := [d1, d2, d3, d4] }
  | _ => none }
def gridScrollsRow : OpenClaim := { program := "ytpnadnjcacaibaa", sum := "08e285542cee784301d658e185ea934405a62de46d916c2b75dcdad558ee6e28", func := "lapwing/lapwinglaw09.GridScrolls", spec := "gridScrolls", apart := false }
def GridScrollsSaid : Prop := gridScrollsRow.holds Try.pinned (OpenSpec.ofChange gridScrollsSpec)

/-- ITS FALSE NEIGHBOUR: 'it returns false'. Refute it at one input. -/
def gridScrollsWrong : ChangeSpec := { name := "gridScrolls", fn := fun _ => fun
  | [d1, d2, d3, d4] => { results := [.lit (.bool false)], args := [d1, d2, d3, d4] }
  | _ => none }
def GridScrollsWrongFalsely : Prop := gridScrollsRow.holds Try.pinned (OpenSpec.ofChange gridScrollsWrong)

/- THE SECOND FORM. 'bulk': how many values and letters a reading holds, each counted each time it is reached (what is shared counts as often as it is met; a slice's spare places count too). A statement '..UptoSaid' is the law's where the arguments, and the package variables that the reading takes, are together of bulk at most 1048576: NARROWER than '..Said'. Prove '..Said' where nothing that the law and all that it calls make is longer than what came in: it says more and counts as full. Else prove '..UptoSaid'. A law counts once. -/
mutual
def uptoBulk {H : Type} : DataW H → Nat
  | .lit (.string bytes) => bytes.length + 1
  | .lit _ => 1
  | .nil => 1
  | .ptr d => uptoBulk d + 1
  | .slice elems spare => uptoBulkAll elems + uptoBulkAll spare + 1
  | .agg parts => uptoBulkAll parts + 1
  | .iface _ d => uptoBulk d + 1
  | .map entries => uptoBulkEntries entries + 1
  | .held _ => 1
def uptoBulkAll {H : Type} : List (DataW H) → Nat
  | [] => 0
  | d :: r => uptoBulk d + uptoBulkAll r
def uptoBulkEntries {H : Type} : List (Lit × DataW H) → Nat
  | [] => 0
  | x :: r => uptoBulkEntry x + uptoBulkEntries r
def uptoBulkEntry {H : Type} : Lit × DataW H → Nat
  | (.string bytes, d) => bytes.length + uptoBulk d + 1
  | (_, d) => uptoBulk d + 1
 end
def uptoSmall : (H : Type) → List (DataW H) → Bool := fun _ ds => decide (uptoBulkAll ds ≤ 1048576)
def OpenSpec.upto (s : _root_.Go.ChangeSpec) : _root_.Go.OpenSpec := { _root_.Go.OpenSpec.ofChange s with cond := some uptoSmall }

/-- 'lapwinglaw08.RowPuts', WHERE WHAT IT READS IS OF BULK AT MOST 1048576: true; the input reads as it did. -/
def rowPutsUptoRow : OpenClaim := { program := "ytpnadnjcacaibaa", sum := "08e285542cee784301d658e185ea934405a62de46d916c2b75dcdad558ee6e28", func := "lapwing/lapwinglaw08.RowPuts", spec := "rowPuts", apart := false, narrowed := true }
def RowPutsUptoSaid : Prop := rowPutsUptoRow.holds Try.pinned (OpenSpec.upto rowPutsSpec)

/-- 'lapwinglaw10.HistoryLots', WHERE WHAT IT READS IS OF BULK AT MOST 1048576: true; the input reads as it did. -/
def historyLotsUptoRow : OpenClaim := { program := "ytpnadnjcacaibaa", sum := "08e285542cee784301d658e185ea934405a62de46d916c2b75dcdad558ee6e28", func := "lapwing/lapwinglaw10.HistoryLots", spec := "historyLots", apart := false, narrowed := true }
def HistoryLotsUptoSaid : Prop := historyLotsUptoRow.holds Try.pinned (OpenSpec.upto historyLotsSpec)

/-- 'lapwinglaw10.HistoryTakes', WHERE WHAT IT READS IS OF BULK AT MOST 1048576: true; the input reads as it did. -/
def historyTakesUptoRow : OpenClaim := { program := "ytpnadnjcacaibaa", sum := "08e285542cee784301d658e185ea934405a62de46d916c2b75dcdad558ee6e28", func := "lapwing/lapwinglaw10.HistoryTakes", spec := "historyTakes", apart := false, narrowed := true }
def HistoryTakesUptoSaid : Prop := historyTakesUptoRow.holds Try.pinned (OpenSpec.upto historyTakesSpec)

/-- 'lapwinglaw08.RowErases', WHERE WHAT IT READS IS OF BULK AT MOST 1048576: true; the input reads as it did. -/
def rowErasesUptoRow : OpenClaim := { program := "ytpnadnjcacaibaa", sum := "08e285542cee784301d658e185ea934405a62de46d916c2b75dcdad558ee6e28", func := "lapwing/lapwinglaw08.RowErases", spec := "rowErases", apart := false, narrowed := true }
def RowErasesUptoSaid : Prop := rowErasesUptoRow.holds Try.pinned (OpenSpec.upto rowErasesSpec)

/-- 'lapwinglaw08.RowMoves', WHERE WHAT IT READS IS OF BULK AT MOST 1048576: true; the input reads as it did. -/
def rowMovesUptoRow : OpenClaim := { program := "ytpnadnjcacaibaa", sum := "08e285542cee784301d658e185ea934405a62de46d916c2b75dcdad558ee6e28", func := "lapwing/lapwinglaw08.RowMoves", spec := "rowMoves", apart := false, narrowed := true }
def RowMovesUptoSaid : Prop := rowMovesUptoRow.holds Try.pinned (OpenSpec.upto rowMovesSpec)

/-- 'lapwinglaw10.HistoryWindow', WHERE WHAT IT READS IS OF BULK AT MOST 1048576: true; the input reads as it did. -/
def historyWindowUptoRow : OpenClaim := { program := "ytpnadnjcacaibaa", sum := "08e285542cee784301d658e185ea934405a62de46d916c2b75dcdad558ee6e28", func := "lapwing/lapwinglaw10.HistoryWindow", spec := "historyWindow", apart := false, narrowed := true }
def HistoryWindowUptoSaid : Prop := historyWindowUptoRow.holds Try.pinned (OpenSpec.upto historyWindowSpec)

/-- 'lapwinglaw09.GridSteps', WHERE WHAT IT READS IS OF BULK AT MOST 1048576: true; the input reads as it did. -/
def gridStepsUptoRow : OpenClaim := { program := "ytpnadnjcacaibaa", sum := "08e285542cee784301d658e185ea934405a62de46d916c2b75dcdad558ee6e28", func := "lapwing/lapwinglaw09.GridSteps", spec := "gridSteps", apart := false, narrowed := true }
def GridStepsUptoSaid : Prop := gridStepsUptoRow.holds Try.pinned (OpenSpec.upto gridStepsSpec)

/-- 'lapwinglaw10.HistoryIs', WHERE WHAT IT READS IS OF BULK AT MOST 1048576: true; the input reads as it did. -/
def historyIsUptoRow : OpenClaim := { program := "ytpnadnjcacaibaa", sum := "08e285542cee784301d658e185ea934405a62de46d916c2b75dcdad558ee6e28", func := "lapwing/lapwinglaw10.HistoryIs", spec := "historyIs", apart := false, narrowed := true }
def HistoryIsUptoSaid : Prop := historyIsUptoRow.holds Try.pinned (OpenSpec.upto historyIsSpec)

/-- 'lapwinglaw08.RowLetters', WHERE WHAT IT READS IS OF BULK AT MOST 1048576: true; the input reads as it did. -/
def rowLettersUptoRow : OpenClaim := { program := "ytpnadnjcacaibaa", sum := "08e285542cee784301d658e185ea934405a62de46d916c2b75dcdad558ee6e28", func := "lapwing/lapwinglaw08.RowLetters", spec := "rowLetters", apart := false, narrowed := true }
def RowLettersUptoSaid : Prop := rowLettersUptoRow.holds Try.pinned (OpenSpec.upto rowLettersSpec)

/-- 'lapwinglaw09.GridSets', WHERE WHAT IT READS IS OF BULK AT MOST 1048576: true; the input reads as it did. -/
def gridSetsUptoRow : OpenClaim := { program := "ytpnadnjcacaibaa", sum := "08e285542cee784301d658e185ea934405a62de46d916c2b75dcdad558ee6e28", func := "lapwing/lapwinglaw09.GridSets", spec := "gridSets", apart := false, narrowed := true }
def GridSetsUptoSaid : Prop := gridSetsUptoRow.holds Try.pinned (OpenSpec.upto gridSetsSpec)

/-- 'lapwinglaw09.GridScrolls', WHERE WHAT IT READS IS OF BULK AT MOST 1048576: true; the input reads as it did. -/
def gridScrollsUptoRow : OpenClaim := { program := "ytpnadnjcacaibaa", sum := "08e285542cee784301d658e185ea934405a62de46d916c2b75dcdad558ee6e28", func := "lapwing/lapwinglaw09.GridScrolls", spec := "gridScrolls", apart := false, narrowed := true }
def GridScrollsUptoSaid : Prop := gridScrollsUptoRow.holds Try.pinned (OpenSpec.upto gridScrollsSpec)

end Rows
end Go.Proofs.Ytpnadnjcacaibaa
