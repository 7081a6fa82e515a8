/-
  NARROWER THAN 'FOR EVERY INPUT', by the rows' own cells (each row's printed sentence says how): CharsetPlain: laid · CharsetGraphics: laid · CharsetOnce: laid.
  DERIVED. THE GIVEN ROWS OF THIS SEAT. 3 by the template 'for every input the law returns true; each argument reads behind the call as it read before'; 0 by the template 'total and deterministic' (their statements: YtpcpgoeahndlfaaDoorTotals.lean).
  GIVEN WITH THE SEED: the statements are not yours to turn. If you find one false, say at which input.
  Laid BY PROGRAM, IN A SANDBOX (cutbox-rows.mjs): the forced cells as the released guide's own fill.sh prints them over the translation 2f6391c340ffd39a… (all of the seat's roots in one cut). By AI agents, Wed Nov 11 2026. No macro, syntax, notation, axiom, sorry.
-/
import Derived.Test.YtpcpgoeahndlfaaDoorChecked
import GoSem.Claim
import GoSem.ClaimJoined
import GoSem.ClaimMapViews
import Derived.JoinedTies
import Derived.KernelRfl
namespace Go.Proofs.YtpcpgoeahndlfaaDoor
/- THE CELL 'sum', in the pinned program and in every row, IS THE sha256 OF THE DUMP (.gsa) THAT YtpcpgoeahndlfaaDoorProg.lean LOADS. Nothing in Lean hashes anything: it is a label: what it is worth is what the hold of that sum in a sandbox is worth. -/
noncomputable def Tryd.pinned : Pinned := { name := "ytpcpgoeahndlfaadoor", sum := "2f6391c340ffd39a47f89e4003b3691699607890d143a76f916b7865b7c6bb3e", checked := Tryd.checked }
namespace Rows
def none {H : Type} : Left H := { results := [], args := [] }

/- WHAT THE LISTED PACKAGE-LEVEL VARIABLES READ AS WHEN THE CALL BEGINS. Each datum BY PROGRAM (the guide's laid-datum.mjs) off the statement by which the dump's own 'gosem.cut.vars' lays the variable. In a bare row this is a premise. The card (YtpcpgoeahndlfaaDoorCards.lean) ties it to the program's text. -/
def laid_lapwing_charset_graphics {H : Type} : DataW H := .agg [.lit (.int .i64 9670), .lit (.int .i64 9618), .lit (.int .i64 9225), .lit (.int .i64 9228), .lit (.int .i64 9229), .lit (.int .i64 9226), .lit (.int .i64 176), .lit (.int .i64 177), .lit (.int .i64 9252), .lit (.int .i64 9227), .lit (.int .i64 9496), .lit (.int .i64 9488), .lit (.int .i64 9484), .lit (.int .i64 9492), .lit (.int .i64 9532), .lit (.int .i64 9146), .lit (.int .i64 9147), .lit (.int .i64 9472), .lit (.int .i64 9148), .lit (.int .i64 9149), .lit (.int .i64 9500), .lit (.int .i64 9508), .lit (.int .i64 9524), .lit (.int .i64 9516), .lit (.int .i64 9474), .lit (.int .i64 8804), .lit (.int .i64 8805), .lit (.int .i64 960), .lit (.int .i64 8800), .lit (.int .i64 163), .lit (.int .i64 183)]

/-- 'lapwinglaw04.CharsetPlain': WHATEVER THE INPUT: true; the input reads as it did. -/
def charsetPlainSpec : ChangeSpec := { name := "charsetPlain", fn := fun _ => fun
  | [d1, d2] => { results := [.lit (.bool true)], args := [d1, d2] }
  | _ => none }
def charsetPlainRow : OpenClaim := { program := "ytpcpgoeahndlfaadoor", sum := "2f6391c340ffd39a47f89e4003b3691699607890d143a76f916b7865b7c6bb3e", func := "lapwing/lapwinglaw04.CharsetPlain", spec := "charsetPlain", named := ["lapwing/charset.graphics"], apart := false, laid := [("lapwing/charset.graphics", laid_lapwing_charset_graphics)] }
def CharsetPlainSaid : Prop := charsetPlainRow.holds Tryd.pinned (OpenSpec.ofChange charsetPlainSpec)

/-- ITS FALSE NEIGHBOUR: 'it returns false'. Refute it at one input. -/
def charsetPlainWrong : ChangeSpec := { name := "charsetPlain", fn := fun _ => fun
  | [d1, d2] => { results := [.lit (.bool false)], args := [d1, d2] }
  | _ => none }
def CharsetPlainWrongFalsely : Prop := charsetPlainRow.holds Tryd.pinned (OpenSpec.ofChange charsetPlainWrong)

/-- 'lapwinglaw04.CharsetGraphics': WHATEVER THE INPUT: true; the input reads as it did. -/
def charsetGraphicsSpec : ChangeSpec := { name := "charsetGraphics", fn := fun _ => fun
  | [d1, d2, d3, d4, d5] => { results := [.lit (.bool true)], args := [d1, d2, d3, d4, d5] }
  | _ => none }
def charsetGraphicsRow : OpenClaim := { program := "ytpcpgoeahndlfaadoor", sum := "2f6391c340ffd39a47f89e4003b3691699607890d143a76f916b7865b7c6bb3e", func := "lapwing/lapwinglaw04.CharsetGraphics", spec := "charsetGraphics", named := ["lapwing/charset.graphics"], apart := false, laid := [("lapwing/charset.graphics", laid_lapwing_charset_graphics)] }
def CharsetGraphicsSaid : Prop := charsetGraphicsRow.holds Tryd.pinned (OpenSpec.ofChange charsetGraphicsSpec)

/-- ITS FALSE NEIGHBOUR: 'it returns false'. Refute it at one input. -/
def charsetGraphicsWrong : ChangeSpec := { name := "charsetGraphics", fn := fun _ => fun
  | [d1, d2, d3, d4, d5] => { results := [.lit (.bool false)], args := [d1, d2, d3, d4, d5] }
  | _ => none }
def CharsetGraphicsWrongFalsely : Prop := charsetGraphicsRow.holds Tryd.pinned (OpenSpec.ofChange charsetGraphicsWrong)

/-- 'lapwinglaw04.CharsetOnce': WHATEVER THE INPUT: true; the input reads as it did. -/
def charsetOnceSpec : ChangeSpec := { name := "charsetOnce", fn := fun _ => fun
  | [d1, d2, d3, d4] => { results := [.lit (.bool true)], args := [d1, d2, d3, d4] }
  | _ => none }
def charsetOnceRow : OpenClaim := { program := "ytpcpgoeahndlfaadoor", sum := "2f6391c340ffd39a47f89e4003b3691699607890d143a76f916b7865b7c6bb3e", func := "lapwing/lapwinglaw04.CharsetOnce", spec := "charsetOnce", named := ["lapwing/charset.graphics"], apart := false, laid := [("lapwing/charset.graphics", laid_lapwing_charset_graphics)] }
def CharsetOnceSaid : Prop := charsetOnceRow.holds Tryd.pinned (OpenSpec.ofChange charsetOnceSpec)

/-- ITS FALSE NEIGHBOUR: 'it returns false'. Refute it at one input. -/
def charsetOnceWrong : ChangeSpec := { name := "charsetOnce", fn := fun _ => fun
  | [d1, d2, d3, d4] => { results := [.lit (.bool false)], args := [d1, d2, d3, d4] }
  | _ => none }
def CharsetOnceWrongFalsely : Prop := charsetOnceRow.holds Tryd.pinned (OpenSpec.ofChange charsetOnceWrong)

/- THE SECOND FORM. 'bulk': how many values and letters a reading holds, each counted each time it is reached (what is shared counts as often as it is met; a slice's spare places count too). A statement '..UptoSaid' is the law's where the arguments, and the package variables that the reading takes, are together of bulk at most 1048576: NARROWER than '..Said'. Prove '..Said' where nothing that the law and all that it calls make is longer than what came in: it says more and counts as full. Else prove '..UptoSaid'. A law counts once. -/
mutual
def uptoBulk {H : Type} : DataW H → Nat
  | .lit (.string bytes) => bytes.length + 1
  | .lit _ => 1
  | .nil => 1
  | .ptr d => uptoBulk d + 1
  | .slice elems spare => uptoBulkAll elems + uptoBulkAll spare + 1
  | .agg parts => uptoBulkAll parts + 1
  | .iface _ d => uptoBulk d + 1
  | .map entries => uptoBulkEntries entries + 1
  | .held _ => 1
def uptoBulkAll {H : Type} : List (DataW H) → Nat
  | [] => 0
  | d :: r => uptoBulk d + uptoBulkAll r
def uptoBulkEntries {H : Type} : List (Lit × DataW H) → Nat
  | [] => 0
  | x :: r => uptoBulkEntry x + uptoBulkEntries r
def uptoBulkEntry {H : Type} : Lit × DataW H → Nat
  | (.string bytes, d) => bytes.length + uptoBulk d + 1
  | (_, d) => uptoBulk d + 1
 end
def uptoSmall : (H : Type) → List (DataW H) → Bool := fun _ ds => decide (uptoBulkAll ds ≤ 1048576)
def OpenSpec.upto (s : _root_.Go.ChangeSpec) : _root_.Go.OpenSpec := { _root_.Go.OpenSpec.ofChange s with cond := some uptoSmall }

/-- 'lapwinglaw04.CharsetPlain', WHERE WHAT IT READS IS OF BULK AT MOST 1048576: true; the input reads as it did. -/
def charsetPlainUptoRow : OpenClaim := { program := "ytpcpgoeahndlfaadoor", sum := "2f6391c340ffd39a47f89e4003b3691699607890d143a76f916b7865b7c6bb3e", func := "lapwing/lapwinglaw04.CharsetPlain", spec := "charsetPlain", named := ["lapwing/charset.graphics"], apart := false, laid := [("lapwing/charset.graphics", laid_lapwing_charset_graphics)], narrowed := true }
def CharsetPlainUptoSaid : Prop := charsetPlainUptoRow.holds Tryd.pinned (OpenSpec.upto charsetPlainSpec)

/-- 'lapwinglaw04.CharsetGraphics', WHERE WHAT IT READS IS OF BULK AT MOST 1048576: true; the input reads as it did. -/
def charsetGraphicsUptoRow : OpenClaim := { program := "ytpcpgoeahndlfaadoor", sum := "2f6391c340ffd39a47f89e4003b3691699607890d143a76f916b7865b7c6bb3e", func := "lapwing/lapwinglaw04.CharsetGraphics", spec := "charsetGraphics", named := ["lapwing/charset.graphics"], apart := false, laid := [("lapwing/charset.graphics", laid_lapwing_charset_graphics)], narrowed := true }
def CharsetGraphicsUptoSaid : Prop := charsetGraphicsUptoRow.holds Tryd.pinned (OpenSpec.upto charsetGraphicsSpec)

/-- 'lapwinglaw04.CharsetOnce', WHERE WHAT IT READS IS OF BULK AT MOST 1048576: true; the input reads as it did. -/
def charsetOnceUptoRow : OpenClaim := { program := "ytpcpgoeahndlfaadoor", sum := "2f6391c340ffd39a47f89e4003b3691699607890d143a76f916b7865b7c6bb3e", func := "lapwing/lapwinglaw04.CharsetOnce", spec := "charsetOnce", named := ["lapwing/charset.graphics"], apart := false, laid := [("lapwing/charset.graphics", laid_lapwing_charset_graphics)], narrowed := true }
def CharsetOnceUptoSaid : Prop := charsetOnceUptoRow.holds Tryd.pinned (OpenSpec.upto charsetOnceSpec)

end Rows
end Go.Proofs.YtpcpgoeahndlfaaDoor
