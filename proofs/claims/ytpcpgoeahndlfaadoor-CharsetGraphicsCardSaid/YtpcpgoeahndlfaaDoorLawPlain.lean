/- CharsetPlain returns true for every state and letter; its row lists the table of DEC graphics, which the card ties to the program's text. -/
import Derived.Test.YtpcpgoeahndlfaaDoorCharL
import Derived.Test.YtpcpgoeahndlfaaDoorFrame
import Derived.Test.YtpcpgoeahndlfaaDoorCards
import Derived.Test.YtpcpgoeahndlfaaDoorTie
import Derived.Deep.DeepHandedRow
import Derived.Lib.LaidTab
namespace Go.Proofs.YtpcpgoeahndlfaaDoor.lawPlain
open Go.ChangeShapes Go.WideShapes Go.ChangeAt Go.RowKit
open Go.Proofs.YtpcpgoeahndlfaaDoor.Char

theorem own : ownKnob Tryd.prog.godebug = none := by kernel_rfl
theorem laidOut : laidOutB Tryd.prog = true := by kernel_rfl
theorem gTab : Tryd.prog.globalNamed "lapwing/charset.graphics" = some 0 := by kernel_rfl
theorem gTabType : (Tryd.prog.globals[0]?).map (·.type) = some 40 := by kernel_rfl
theorem cellsT : Tryd.prog.cellsOf 40 = 31 := by kernel_rfl
theorem cellsI : Tryd.prog.cellsOf 3 = 1 := by kernel_rfl
theorem cellsS : Tryd.prog.cellsOf 24 = 7 := by kernel_rfl
theorem leaves : Tryd.prog.cellTypes Tryd.prog.depth 24 = some [5, 5, 5, 5, 3, 3, 3] := by kernel_rfl

/-- the table's cells hold the letters -/
theorem tab {W : World} (h : laidMetH Tryd.prog Rows.charsetPlainRow.laid W) : Tab W := fun i hi =>
  (Lib.tabIs_of_head (rest := []) (zs := tabL) gTab gTabType Tryd.underlying40 Tryd.underlying3 cellsI cellsT h).cell gTab i (by simpa [tabL] using hi)

theorem state_open {W : World} {base : Nat} {v : Value} (h : Value.okWide Tryd.prog W .any base 24 v) : ∃ g0 g1 g2 g3 gl gr on : Int, v = .agg #[.int .u8 g0, .int .u8 g1, .int .u8 g2, .int .u8 g3, .int .i64 gl, .int .i64 gr, .int .i64 on] := by
  obtain ⟨cs, rfl, hlen, hc⟩ := agg_cells Tryd.underlying24 leaves cellsS h
  match cs, hlen with
  | [c0, c1, c2, c3, c4, c5, c6], _ =>
    obtain ⟨g0, rfl, _⟩ := cell_int Tryd.underlying5 (hc 0 _ _ rfl rfl)
    obtain ⟨g1, rfl, _⟩ := cell_int Tryd.underlying5 (hc 1 _ _ rfl rfl)
    obtain ⟨g2, rfl, _⟩ := cell_int Tryd.underlying5 (hc 2 _ _ rfl rfl)
    obtain ⟨g3, rfl, _⟩ := cell_int Tryd.underlying5 (hc 3 _ _ rfl rfl)
    obtain ⟨gl, rfl, _⟩ := cell_int Tryd.underlying3 (hc 4 _ _ rfl rfl)
    obtain ⟨gr, rfl, _⟩ := cell_int Tryd.underlying3 (hc 5 _ _ rfl rfl)
    obtain ⟨on, rfl, _⟩ := cell_int Tryd.underlying3 (hc 6 _ _ rfl rfl)
    exact ⟨g0, g1, g2, g3, gl, gr, on, rfl⟩

theorem contract (H : Type) (enc : TypeId × Value → H) (W : World) (base : Nat) (args : Array Value) (ds gs : List (DataW H)) (before : List MemPlace)
    (hval : ∀ (j : Nat) t v, Tryd.f3.params[j]? = some t → args[j]? = some v → Value.okWide Tryd.prog W .any base t v)
    (hW : DataW.Whole enc Tryd.prog Tryd.f3.params.toList Rows.charsetPlainSpec.vars false W args.toList ds gs before) (hL : laidMetH Tryd.prog Rows.charsetPlainRow.laid W) :
    Calls Tryd.prog 3 args W fun e W' => ∃ v, e = .returned v ∧ Rows.charsetPlainSpec.post enc Tryd.prog Tryd.f3 false true false false W args v W' := by
  have hW' := hW
  obtain ⟨p, q, hA, hV, _, _, _⟩ := hW
  obtain ⟨rfl, rfl⟩ := trodVars_none hV
  rw [Tryd.params3] at hA hval
  obtain ⟨v0, v1, d0, d1, p0, p1, rfl, rfl, _, h0, h1⟩ := trodAll_two hA
  obtain ⟨g0, g1, g2, g3, gl, gr, on, rfl⟩ := state_open (hval 0 _ v0 rfl rfl)
  obtain ⟨r, rfl, _⟩ := cell_int Tryd.underlying3 (val_cell Tryd.underlying3 rfl (hval 1 _ v1 rfl rfl))
  refine (plain_law r g0 g1 g2 g3 gl gr on W (tab hL)).mono fun e W' ⟨he, hg⟩ => ?_
  exact ⟨_, he, law_post laidOut (by kernel_rfl) rfl rfl Tryd.underlying4 hW' rfl hg.below⟩

/-- a world for the witness: the table holds what its initialiser lays -/
noncomputable def laidWorld (os : Os) : World :=
  { World.holding Tryd.prog os ⟨#[], #[], []⟩ with heap := (World.holding Tryd.prog os ⟨#[], #[], []⟩).heap.modify 0 fun
      | .cells _ t frozen => .cells (tabL.map (Value.int .i64)).toArray t frozen
      | o => o }
theorem laid_met (os : Os) : laidMet Tryd.prog Rows.charsetPlainRow.laid ((laidWorld os).forCall (fun _ _ => 0) ⟨#[], #[.agg #[.int .u8 0, .int .u8 0, .int .u8 0, .int .u8 0, .int .i64 0, .int .i64 0, .int .i64 0], .int .i64 0], []⟩).memory :=
  laidMet_of_run' 8 (by kernel_rfl) (by kernel_rfl)
theorem reads (os : Os) {H : Type} (enc : TypeId × Value → H) : ∃ (ds : List (DataW H)) (places : _), DataW.whole enc Tryd.prog ((laidWorld os).forCall (fun _ _ => 0) ⟨#[], #[.agg #[.int .u8 0, .int .u8 0, .int .u8 0, .int .u8 0, .int .i64 0, .int .i64 0, .int .i64 0], .int .i64 0], []⟩).memory Tryd.f3.params.toList Rows.charsetPlainSpec.vars false #[Value.agg #[.int .u8 0, .int .u8 0, .int .u8 0, .int .u8 0, .int .i64 0, .int .i64 0, .int .i64 0], .int .i64 0].toList 8 = some (ds, [], places) :=
  ⟨[.agg [.agg [.lit (.int .u8 0), .lit (.int .u8 0), .lit (.int .u8 0), .lit (.int .u8 0)], .lit (.int .i64 0), .lit (.int .i64 0), .lit (.int .i64 0)], .lit (.int .i64 0)], [], by kernel_rfl⟩

set_option maxRecDepth 100000 in
theorem lifted (os : Os) (started : os.Started) (H : Type) (enc : TypeId × Value → H) (F : Stop.Interp) :
    ReturnsInHanded {} Tryd.checked os 3 .any ((OpenSpec.ofChange Rows.charsetPlainSpec).preRow enc Tryd.prog Tryd.f3 Rows.charsetPlainRow.domain false Rows.charsetPlainRow.laid) (((OpenSpec.ofChange Rows.charsetPlainSpec).at F).post enc Tryd.prog Tryd.f3 false true false false) := by
  obtain ⟨ds, places, hx⟩ := reads os enc
  refine returnsInHanded_of_row (C := Tryd.checked) (s := OpenSpec.ofChange Rows.charsetPlainSpec) own started (by kernel_rfl) Tryd.func3
    (witness_row_at (enc := enc) (C := Tryd.checked) false (laidWorld os) #[.agg #[.int .u8 0, .int .u8 0, .int .u8 0, .int .u8 0, .int .i64 0, .int .i64 0, .int .i64 0], .int .i64 0] rfl (by kernel_rfl) (by kernel_rfl) (by kernel_rfl)
      (OpenSpec.preRow_of_cond 8 hx (by kernel_rfl) (fun k hk => by cases hk) (by kernel_rfl) (laid_met os))) ?_
  intro W base args ds gs before hval hW _ _ _ hL _ _
  exact contract H enc W base args ds gs before hval hW hL

theorem said : Rows.CharsetPlainSaid :=
  OpenClaim.holds_of_cond 3 Tryd.f3 rfl rfl rfl rfl rfl rfl rfl ⟨rfl, rfl, rfl, rfl, rfl⟩ rfl rfl rfl rfl rfl (by kernel_rfl) Tryd.func3 (by kernel_rfl)
    (of_decide_eq_true (by kernel_rfl)) (by unfold Func.isWrapper; first | (rw [if_pos (by decide +kernel)]; kernel_rfl) | (rw [if_neg (by decide +kernel)]; exact ⟨rfl, rfl⟩))
    (fun os started H enc _ F => by rw [OpenClaim.pre_eq_preRow]; exact lifted os started H enc F)

theorem plain (f : FuncId) (fn : Func) (hf : Tryd.pinned.checked.prog.funcNamed "lapwing/lapwinglaw04.CharsetPlain" = some f) (hfn : Tryd.pinned.checked.prog.funcs[f]? = some fn) :
    false = Tryd.pinned.checked.prog.looks [] ∧ ∀ (j : Nat) t, fn.params[j]? = some t → Tryd.pinned.checked.prog.wantsStandIn t = false := by
  obtain rfl : f = 3 := Option.some.inj ((show Tryd.prog.funcNamed "lapwing/lapwinglaw04.CharsetPlain" = some 3 by kernel_rfl).symm.trans hf) |>.symm
  obtain rfl : fn = Tryd.f3 := (Option.some.inj (Tryd.func3.symm.trans hfn)).symm
  refine ⟨by kernel_rfl, fun j t ht => ?_⟩
  rw [Tryd.params3] at ht
  have hm : t = 24 ∨ t = 3 := by simpa using Array.mem_of_getElem? ht
  rcases hm with rfl | rfl
  · exact (show Tryd.prog.wantsStandIn 24 = false by kernel_rfl)
  · exact (show Tryd.prog.wantsStandIn 3 = false by kernel_rfl)

theorem card : Rows.CharsetPlainCardSaid :=
  Claim7.holds_tied_plain_at .later [] _ _ _ _ said (fun _ h => by cases h) (by kernel_rfl) (fun _ h => by cases h) charsetPlain_row_tie rfl ⟨rfl, rfl⟩ (by kernel_rfl) rfl plain (by kernel_rfl)
end Go.Proofs.YtpcpgoeahndlfaaDoor.lawPlain
