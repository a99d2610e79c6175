/-
  No cell of these rows narrows 'for every input' (looked for: loops, veiled, ifaces, maps, wideKeys, modest, calm, conditions, laid).
  DERIVED. THE GIVEN ROWS OF THIS SEAT. 12 by the template 'for every input the law returns true; each argument reads behind the call as it read before'; 0 by the template 'total and deterministic' (their statements: YtoimmobljpegmaaTotals.lean).
  GIVEN WITH THE SEED: the statements are not yours to turn. If you find one false, say at which input.
  Laid BY PROGRAM, IN A SANDBOX (cutbox-rows.mjs): the forced cells as the released guide's own fill.sh prints them over the translation a50a0f42df44e85c… (all of the seat's roots in one cut). By AI agents, Wed Nov 11 2026. No macro, syntax, notation, axiom, sorry.
-/
import Derived.Test.YtoimmobljpegmaaChecked
import GoSem.Claim
import GoSem.ClaimJoined
import GoSem.ClaimMapViews
import Derived.JoinedTies
import Derived.KernelRfl
namespace Go.Proofs.Ytoimmobljpegmaa
/- THE CELL 'sum', in the pinned program and in every row, IS THE sha256 OF THE DUMP (.gsa) THAT YtoimmobljpegmaaProg.lean LOADS. Nothing in Lean hashes anything: it is a label: what it is worth is what the hold of that sum in a sandbox is worth. -/
noncomputable def Try.pinned : Pinned := { name := "ytoimmobljpegmaa", sum := "a50a0f42df44e85c06b84b95bc502f2ddb6ee823e208e49e04ebbc628ffafef4", checked := Try.checked }
namespace Rows
def none {H : Type} : Left H := { results := [], args := [] }

/-- 'presidiolaw9.PhaseAll': WHATEVER THE INPUT: true; the input reads as it did. -/
def phaseAllSpec : ChangeSpec := { name := "phaseAll", fn := fun _ => fun
  | [d1, d2, d3] => { results := [.lit (.bool true)], args := [d1, d2, d3] }
  | _ => none }
def phaseAllRow : OpenClaim := { program := "ytoimmobljpegmaa", sum := "a50a0f42df44e85c06b84b95bc502f2ddb6ee823e208e49e04ebbc628ffafef4", func := "presidio/presidiolaw9.PhaseAll", spec := "phaseAll", plainKeys := false, apart := false }
def PhaseAllSaid : Prop := phaseAllRow.holds Try.pinned (OpenSpec.ofChange phaseAllSpec)

/-- ITS FALSE NEIGHBOUR: 'it returns false'. Refute it at one input. -/
def phaseAllWrong : ChangeSpec := { name := "phaseAll", fn := fun _ => fun
  | [d1, d2, d3] => { results := [.lit (.bool false)], args := [d1, d2, d3] }
  | _ => none }
def PhaseAllWrongFalsely : Prop := phaseAllRow.holds Try.pinned (OpenSpec.ofChange phaseAllWrong)

/-- 'presidiolaw9.PhaseTable': WHATEVER THE INPUT: true; the input reads as it did. -/
def phaseTableSpec : ChangeSpec := { name := "phaseTable", fn := fun _ => fun
  | [] => { results := [.lit (.bool true)], args := [] }
  | _ => none }
def phaseTableRow : OpenClaim := { program := "ytoimmobljpegmaa", sum := "a50a0f42df44e85c06b84b95bc502f2ddb6ee823e208e49e04ebbc628ffafef4", func := "presidio/presidiolaw9.PhaseTable", spec := "phaseTable", plainKeys := false, apart := false }
def PhaseTableSaid : Prop := phaseTableRow.holds Try.pinned (OpenSpec.ofChange phaseTableSpec)

/-- ITS FALSE NEIGHBOUR: 'it returns false'. Refute it at one input. -/
def phaseTableWrong : ChangeSpec := { name := "phaseTable", fn := fun _ => fun
  | [] => { results := [.lit (.bool false)], args := [] }
  | _ => none }
def PhaseTableWrongFalsely : Prop := phaseTableRow.holds Try.pinned (OpenSpec.ofChange phaseTableWrong)

/-- 'presidiolaw9.PhaseRuns': WHATEVER THE INPUT: true; the input reads as it did. -/
def phaseRunsSpec : ChangeSpec := { name := "phaseRuns", fn := fun _ => fun
  | [d] => { results := [.lit (.bool true)], args := [d] }
  | _ => none }
def phaseRunsRow : OpenClaim := { program := "ytoimmobljpegmaa", sum := "a50a0f42df44e85c06b84b95bc502f2ddb6ee823e208e49e04ebbc628ffafef4", func := "presidio/presidiolaw9.PhaseRuns", spec := "phaseRuns", plainKeys := false, apart := false }
def PhaseRunsSaid : Prop := phaseRunsRow.holds Try.pinned (OpenSpec.ofChange phaseRunsSpec)

/-- ITS FALSE NEIGHBOUR: 'it returns false'. Refute it at one input. -/
def phaseRunsWrong : ChangeSpec := { name := "phaseRuns", fn := fun _ => fun
  | [d] => { results := [.lit (.bool false)], args := [d] }
  | _ => none }
def PhaseRunsWrongFalsely : Prop := phaseRunsRow.holds Try.pinned (OpenSpec.ofChange phaseRunsWrong)

/-- 'presidiolaw9.PhaseJoins': WHATEVER THE INPUT: true; the input reads as it did. -/
def phaseJoinsSpec : ChangeSpec := { name := "phaseJoins", fn := fun _ => fun
  | [d1, d2, d3] => { results := [.lit (.bool true)], args := [d1, d2, d3] }
  | _ => none }
def phaseJoinsRow : OpenClaim := { program := "ytoimmobljpegmaa", sum := "a50a0f42df44e85c06b84b95bc502f2ddb6ee823e208e49e04ebbc628ffafef4", func := "presidio/presidiolaw9.PhaseJoins", spec := "phaseJoins", plainKeys := false, apart := false }
def PhaseJoinsSaid : Prop := phaseJoinsRow.holds Try.pinned (OpenSpec.ofChange phaseJoinsSpec)

/-- ITS FALSE NEIGHBOUR: 'it returns false'. Refute it at one input. -/
def phaseJoinsWrong : ChangeSpec := { name := "phaseJoins", fn := fun _ => fun
  | [d1, d2, d3] => { results := [.lit (.bool false)], args := [d1, d2, d3] }
  | _ => none }
def PhaseJoinsWrongFalsely : Prop := phaseJoinsRow.holds Try.pinned (OpenSpec.ofChange phaseJoinsWrong)

/-- 'presidiolaw14.BoxAll': WHATEVER THE INPUT: true; the input reads as it did. -/
def boxAllSpec : ChangeSpec := { name := "boxAll", fn := fun _ => fun
  | [d] => { results := [.lit (.bool true)], args := [d] }
  | _ => none }
def boxAllRow : OpenClaim := { program := "ytoimmobljpegmaa", sum := "a50a0f42df44e85c06b84b95bc502f2ddb6ee823e208e49e04ebbc628ffafef4", func := "presidio/presidiolaw14.BoxAll", spec := "boxAll", plainKeys := false, apart := false }
def BoxAllSaid : Prop := boxAllRow.holds Try.pinned (OpenSpec.ofChange boxAllSpec)

/-- ITS FALSE NEIGHBOUR: 'it returns false'. Refute it at one input. -/
def boxAllWrong : ChangeSpec := { name := "boxAll", fn := fun _ => fun
  | [d] => { results := [.lit (.bool false)], args := [d] }
  | _ => none }
def BoxAllWrongFalsely : Prop := boxAllRow.holds Try.pinned (OpenSpec.ofChange boxAllWrong)

/-- 'presidiolaw14.BoxForms': WHATEVER THE INPUT: true; the input reads as it did. -/
def boxFormsSpec : ChangeSpec := { name := "boxForms", fn := fun _ => fun
  | [] => { results := [.lit (.bool true)], args := [] }
  | _ => none }
def boxFormsRow : OpenClaim := { program := "ytoimmobljpegmaa", sum := "a50a0f42df44e85c06b84b95bc502f2ddb6ee823e208e49e04ebbc628ffafef4", func := "presidio/presidiolaw14.BoxForms", spec := "boxForms", plainKeys := false, apart := false }
def BoxFormsSaid : Prop := boxFormsRow.holds Try.pinned (OpenSpec.ofChange boxFormsSpec)

/-- ITS FALSE NEIGHBOUR: 'it returns false'. Refute it at one input. -/
def boxFormsWrong : ChangeSpec := { name := "boxForms", fn := fun _ => fun
  | [] => { results := [.lit (.bool false)], args := [] }
  | _ => none }
def BoxFormsWrongFalsely : Prop := boxFormsRow.holds Try.pinned (OpenSpec.ofChange boxFormsWrong)

/-- 'presidiolaw3.StockAll': WHATEVER THE INPUT: true; the input reads as it did. -/
def stockAllSpec : ChangeSpec := { name := "stockAll", fn := fun _ => fun
  | [d1, d2, d3] => { results := [.lit (.bool true)], args := [d1, d2, d3] }
  | _ => none }
def stockAllRow : OpenClaim := { program := "ytoimmobljpegmaa", sum := "a50a0f42df44e85c06b84b95bc502f2ddb6ee823e208e49e04ebbc628ffafef4", func := "presidio/presidiolaw3.StockAll", spec := "stockAll", plainKeys := false, apart := false }
def StockAllSaid : Prop := stockAllRow.holds Try.pinned (OpenSpec.ofChange stockAllSpec)

/-- ITS FALSE NEIGHBOUR: 'it returns false'. Refute it at one input. -/
def stockAllWrong : ChangeSpec := { name := "stockAll", fn := fun _ => fun
  | [d1, d2, d3] => { results := [.lit (.bool false)], args := [d1, d2, d3] }
  | _ => none }
def StockAllWrongFalsely : Prop := stockAllRow.holds Try.pinned (OpenSpec.ofChange stockAllWrong)

/-- 'presidiolaw3.StockOnce': WHATEVER THE INPUT: true; the input reads as it did. -/
def stockOnceSpec : ChangeSpec := { name := "stockOnce", fn := fun _ => fun
  | [d1, d2] => { results := [.lit (.bool true)], args := [d1, d2] }
  | _ => none }
def stockOnceRow : OpenClaim := { program := "ytoimmobljpegmaa", sum := "a50a0f42df44e85c06b84b95bc502f2ddb6ee823e208e49e04ebbc628ffafef4", func := "presidio/presidiolaw3.StockOnce", spec := "stockOnce", plainKeys := false, apart := false }
def StockOnceSaid : Prop := stockOnceRow.holds Try.pinned (OpenSpec.ofChange stockOnceSpec)

/-- ITS FALSE NEIGHBOUR: 'it returns false'. Refute it at one input. -/
def stockOnceWrong : ChangeSpec := { name := "stockOnce", fn := fun _ => fun
  | [d1, d2] => { results := [.lit (.bool false)], args := [d1, d2] }
  | _ => none }
def StockOnceWrongFalsely : Prop := stockOnceRow.holds Try.pinned (OpenSpec.ofChange stockOnceWrong)

/-- 'presidiolaw3.StockForms': WHATEVER THE INPUT: true; the input reads as it did. -/
def stockFormsSpec : ChangeSpec := { name := "stockForms", fn := fun _ => fun
  | [] => { results := [.lit (.bool true)], args := [] }
  | _ => none }
def stockFormsRow : OpenClaim := { program := "ytoimmobljpegmaa", sum := "a50a0f42df44e85c06b84b95bc502f2ddb6ee823e208e49e04ebbc628ffafef4", func := "presidio/presidiolaw3.StockForms", spec := "stockForms", plainKeys := false, apart := false }
def StockFormsSaid : Prop := stockFormsRow.holds Try.pinned (OpenSpec.ofChange stockFormsSpec)

/-- ITS FALSE NEIGHBOUR: 'it returns false'. Refute it at one input. -/
def stockFormsWrong : ChangeSpec := { name := "stockForms", fn := fun _ => fun
  | [] => { results := [.lit (.bool false)], args := [] }
  | _ => none }
def StockFormsWrongFalsely : Prop := stockFormsRow.holds Try.pinned (OpenSpec.ofChange stockFormsWrong)

/-- 'presidiolaw24.PathAll': WHATEVER THE INPUT: true; the input reads as it did. -/
def pathAllSpec : ChangeSpec := { name := "pathAll", fn := fun _ => fun
  | [d1, d2, d3, d4] => { results := [.lit (.bool true)], args := [d1, d2, d3, d4] }
  | _ => none }
def pathAllRow : OpenClaim := { program := "ytoimmobljpegmaa", sum := "a50a0f42df44e85c06b84b95bc502f2ddb6ee823e208e49e04ebbc628ffafef4", func := "presidio/presidiolaw24.PathAll", spec := "pathAll", plainKeys := false, apart := false }
def PathAllSaid : Prop := pathAllRow.holds Try.pinned (OpenSpec.ofChange pathAllSpec)

/-- ITS FALSE NEIGHBOUR: 'it returns false'. Refute it at one input. -/
def pathAllWrong : ChangeSpec := { name := "pathAll", fn := fun _ => fun
  | [d1, d2, d3, d4] => { results := [.lit (.bool false)], args := [d1, d2, d3, d4] }
  | _ => none }
def PathAllWrongFalsely : Prop := pathAllRow.holds Try.pinned (OpenSpec.ofChange pathAllWrong)

/-- 'presidiolaw24.PathEdges': WHATEVER THE INPUT: true; the input reads as it did. -/
def pathEdgesSpec : ChangeSpec := { name := "pathEdges", fn := fun _ => fun
  | [] => { results := [.lit (.bool true)], args := [] }
  | _ => none }
def pathEdgesRow : OpenClaim := { program := "ytoimmobljpegmaa", sum := "a50a0f42df44e85c06b84b95bc502f2ddb6ee823e208e49e04ebbc628ffafef4", func := "presidio/presidiolaw24.PathEdges", spec := "pathEdges", plainKeys := false, apart := false }
def PathEdgesSaid : Prop := pathEdgesRow.holds Try.pinned (OpenSpec.ofChange pathEdgesSpec)

/-- ITS FALSE NEIGHBOUR: 'it returns false'. Refute it at one input. -/
def pathEdgesWrong : ChangeSpec := { name := "pathEdges", fn := fun _ => fun
  | [] => { results := [.lit (.bool false)], args := [] }
  | _ => none }
def PathEdgesWrongFalsely : Prop := pathEdgesRow.holds Try.pinned (OpenSpec.ofChange pathEdgesWrong)

/-- 'presidiolaw24.PathSteps': WHATEVER THE INPUT: true; the input reads as it did. -/
def pathStepsSpec : ChangeSpec := { name := "pathSteps", fn := fun _ => fun
  | [d1, d2] => { results := [.lit (.bool true)], args := [d1, d2] }
  | _ => none }
def pathStepsRow : OpenClaim := { program := "ytoimmobljpegmaa", sum := "a50a0f42df44e85c06b84b95bc502f2ddb6ee823e208e49e04ebbc628ffafef4", func := "presidio/presidiolaw24.PathSteps", spec := "pathSteps", plainKeys := false, apart := false }
def PathStepsSaid : Prop := pathStepsRow.holds Try.pinned (OpenSpec.ofChange pathStepsSpec)

/-- ITS FALSE NEIGHBOUR: 'it returns false'. Refute it at one input. -/
def pathStepsWrong : ChangeSpec := { name := "pathSteps", fn := fun _ => fun
  | [d1, d2] => { results := [.lit (.bool false)], args := [d1, d2] }
  | _ => none }
def PathStepsWrongFalsely : Prop := pathStepsRow.holds Try.pinned (OpenSpec.ofChange pathStepsWrong)

/- THE SECOND FORM. 'bulk': how many values and letters a reading holds, each counted each time it is reached (what is shared counts as often as it is met; a slice's spare places count too). A statement '..UptoSaid' is the law's where the arguments, and the package variables that the reading takes, are together of bulk at most 1048576: NARROWER than '..Said'. Prove '..Said' where nothing that the law and all that it calls make is longer than what came in: it says more and counts as full. Else prove '..UptoSaid'. A law counts once. -/
mutual
def uptoBulk {H : Type} : DataW H → Nat
  | .lit (.string bytes) => bytes.length + 1
  | .lit _ => 1
  | .nil => 1
  | .ptr d => uptoBulk d + 1
  | .slice elems spare => uptoBulkAll elems + uptoBulkAll spare + 1
  | .agg parts => uptoBulkAll parts + 1
  | .iface _ d => uptoBulk d + 1
  | .map entries => uptoBulkEntries entries + 1
  | .held _ => 1
def uptoBulkAll {H : Type} : List (DataW H) → Nat
  | [] => 0
  | d :: r => uptoBulk d + uptoBulkAll r
def uptoBulkEntries {H : Type} : List (Lit × DataW H) → Nat
  | [] => 0
  | x :: r => uptoBulkEntry x + uptoBulkEntries r
def uptoBulkEntry {H : Type} : Lit × DataW H → Nat
  | (.string bytes, d) => bytes.length + uptoBulk d + 1
  | (_, d) => uptoBulk d + 1
 end
def uptoSmall : (H : Type) → List (DataW H) → Bool := fun _ ds => decide (uptoBulkAll ds ≤ 1048576)
def OpenSpec.upto (s : _root_.Go.ChangeSpec) : _root_.Go.OpenSpec := { _root_.Go.OpenSpec.ofChange s with cond := some uptoSmall }

/-- 'presidiolaw9.PhaseAll', WHERE WHAT IT READS IS OF BULK AT MOST 1048576: true; the input reads as it did. -/
def phaseAllUptoRow : OpenClaim := { program := "ytoimmobljpegmaa", sum := "a50a0f42df44e85c06b84b95bc502f2ddb6ee823e208e49e04ebbc628ffafef4", func := "presidio/presidiolaw9.PhaseAll", spec := "phaseAll", plainKeys := false, apart := false, narrowed := true }
def PhaseAllUptoSaid : Prop := phaseAllUptoRow.holds Try.pinned (OpenSpec.upto phaseAllSpec)

/-- 'presidiolaw9.PhaseTable', WHERE WHAT IT READS IS OF BULK AT MOST 1048576: true; the input reads as it did. -/
def phaseTableUptoRow : OpenClaim := { program := "ytoimmobljpegmaa", sum := "a50a0f42df44e85c06b84b95bc502f2ddb6ee823e208e49e04ebbc628ffafef4", func := "presidio/presidiolaw9.PhaseTable", spec := "phaseTable", plainKeys := false, apart := false, narrowed := true }
def PhaseTableUptoSaid : Prop := phaseTableUptoRow.holds Try.pinned (OpenSpec.upto phaseTableSpec)

/-- 'presidiolaw9.PhaseRuns', WHERE WHAT IT READS IS OF BULK AT MOST 1048576: true; the input reads as it did. -/
def phaseRunsUptoRow : OpenClaim := { program := "ytoimmobljpegmaa", sum := "a50a0f42df44e85c06b84b95bc502f2ddb6ee823e208e49e04ebbc628ffafef4", func := "presidio/presidiolaw9.PhaseRuns", spec := "phaseRuns", plainKeys := false, apart := false, narrowed := true }
def PhaseRunsUptoSaid : Prop := phaseRunsUptoRow.holds Try.pinned (OpenSpec.upto phaseRunsSpec)

/-- 'presidiolaw9.PhaseJoins', WHERE WHAT IT READS IS OF BULK AT MOST 1048576: true; the input reads as it did. -/
def phaseJoinsUptoRow : OpenClaim := { program := "ytoimmobljpegmaa", sum := "a50a0f42df44e85c06b84b95bc502f2ddb6ee823e208e49e04ebbc628ffafef4", func := "presidio/presidiolaw9.PhaseJoins", spec := "phaseJoins", plainKeys := false, apart := false, narrowed := true }
def PhaseJoinsUptoSaid : Prop := phaseJoinsUptoRow.holds Try.pinned (OpenSpec.upto phaseJoinsSpec)

/-- 'presidiolaw14.BoxAll', WHERE WHAT IT READS IS OF BULK AT MOST 1048576: true; the input reads as it did. -/
def boxAllUptoRow : OpenClaim := { program := "ytoimmobljpegmaa", sum := "a50a0f42df44e85c06b84b95bc502f2ddb6ee823e208e49e04ebbc628ffafef4", func := "presidio/presidiolaw14.BoxAll", spec := "boxAll", plainKeys := false, apart := false, narrowed := true }
def BoxAllUptoSaid : Prop := boxAllUptoRow.holds Try.pinned (OpenSpec.upto boxAllSpec)

/-- 'presidiolaw14.BoxForms', WHERE WHAT IT READS IS OF BULK AT MOST 1048576: true; the input reads as it did. -/
def boxFormsUptoRow : OpenClaim := { program := "ytoimmobljpegmaa", sum := "a50a0f42df44e85c06b84b95bc502f2ddb6ee823e208e49e04ebbc628ffafef4", func := "presidio/presidiolaw14.BoxForms", spec := "boxForms", plainKeys := false, apart := false, narrowed := true }
def BoxFormsUptoSaid : Prop := boxFormsUptoRow.holds Try.pinned (OpenSpec.upto boxFormsSpec)

/-- 'presidiolaw3.StockAll', WHERE WHAT IT READS IS OF BULK AT MOST 1048576: true; the input reads as it did. -/
def stockAllUptoRow : OpenClaim := { program := "ytoimmobljpegmaa", sum := "a50a0f42df44e85c06b84b95bc502f2ddb6ee823e208e49e04ebbc628ffafef4", func := "presidio/presidiolaw3.StockAll", spec := "stockAll", plainKeys := false, apart := false, narrowed := true }
def StockAllUptoSaid : Prop := stockAllUptoRow.holds Try.pinned (OpenSpec.upto stockAllSpec)

/-- 'presidiolaw3.StockOnce', WHERE WHAT IT READS IS OF BULK AT MOST 1048576: true; the input reads as it did. -/
def stockOnceUptoRow : OpenClaim := { program := "ytoimmobljpegmaa", sum := "a50a0f42df44e85c06b84b95bc502f2ddb6ee823e208e49e04ebbc628ffafef4", func := "presidio/presidiolaw3.StockOnce", spec := "stockOnce", plainKeys := false, apart := false, narrowed := true }
def StockOnceUptoSaid : Prop := stockOnceUptoRow.holds Try.pinned (OpenSpec.upto stockOnceSpec)

/-- 'presidiolaw3.StockForms', WHERE WHAT IT READS IS OF BULK AT MOST 1048576: true; the input reads as it did. -/
def stockFormsUptoRow : OpenClaim := { program := "ytoimmobljpegmaa", sum := "a50a0f42df44e85c06b84b95bc502f2ddb6ee823e208e49e04ebbc628ffafef4", func := "presidio/presidiolaw3.StockForms", spec := "stockForms", plainKeys := false, apart := false, narrowed := true }
def StockFormsUptoSaid : Prop := stockFormsUptoRow.holds Try.pinned (OpenSpec.upto stockFormsSpec)

/-- 'presidiolaw24.PathAll', WHERE WHAT IT READS IS OF BULK AT MOST 1048576: true; the input reads as it did. -/
def pathAllUptoRow : OpenClaim := { program := "ytoimmobljpegmaa", sum := "a50a0f42df44e85c06b84b95bc502f2ddb6ee823e208e49e04ebbc628ffafef4", func := "presidio/presidiolaw24.PathAll", spec := "pathAll", plainKeys := false, apart := false, narrowed := true }
def PathAllUptoSaid : Prop := pathAllUptoRow.holds Try.pinned (OpenSpec.upto pathAllSpec)

/-- 'presidiolaw24.PathEdges', WHERE WHAT IT READS IS OF BULK AT MOST 1048576: true; the input reads as it did. -/
def pathEdgesUptoRow : OpenClaim := { program := "ytoimmobljpegmaa", sum := "a50a0f42df44e85c06b84b95bc502f2ddb6ee823e208e49e04ebbc628ffafef4", func := "presidio/presidiolaw24.PathEdges", spec := "pathEdges", plainKeys := false, apart := false, narrowed := true }
def PathEdgesUptoSaid : Prop := pathEdgesUptoRow.holds Try.pinned (OpenSpec.upto pathEdgesSpec)

/-- 'presidiolaw24.PathSteps', WHERE WHAT IT READS IS OF BULK AT MOST 1048576: true; the input reads as it did. -/
def pathStepsUptoRow : OpenClaim := { program := "ytoimmobljpegmaa", sum := "a50a0f42df44e85c06b84b95bc502f2ddb6ee823e208e49e04ebbc628ffafef4", func := "presidio/presidiolaw24.PathSteps", spec := "pathSteps", plainKeys := false, apart := false, narrowed := true }
def PathStepsUptoSaid : Prop := pathStepsUptoRow.holds Try.pinned (OpenSpec.upto pathStepsSpec)

end Rows
end Go.Proofs.Ytoimmobljpegmaa
