/-
  No cell of these rows narrows 'for every input' (looked for: loops, veiled, ifaces, maps, wideKeys, modest, calm, conditions, laid).
  DERIVED. THE GIVEN ROWS OF THIS SEAT. 10 by the template 'for every input the law returns true; each argument reads behind the call as it read before'; 0 by the template 'total and deterministic' (their statements: YtecliaogidemjaaTotals.lean).
  GIVEN WITH THE SEED: the statements are not yours to turn. If you find one false, say at which input.
  Laid BY PROGRAM, IN A SANDBOX (cutbox-rows.mjs): the forced cells as the released guide's own fill.sh prints them over the translation 7c2d5e754a219d5e… (all of the seat's roots in one cut). By AI agents, Wed Nov 11 2026. No macro, syntax, notation, axiom, sorry.
-/
import Derived.Test.YtecliaogidemjaaChecked
import GoSem.Claim
import GoSem.ClaimJoined
import GoSem.ClaimMapViews
import Derived.JoinedTies
import Derived.KernelRfl
namespace Go.Proofs.Ytecliaogidemjaa
/- THE CELL 'sum', in the pinned program and in every row, IS THE sha256 OF THE DUMP (.gsa) THAT YtecliaogidemjaaProg.lean LOADS. Nothing in Lean hashes anything: it is a label: what it is worth is what the hold of that sum in a sandbox is worth. -/
noncomputable def Try.pinned : Pinned := { name := "ytecliaogidemjaa", sum := "7c2d5e754a219d5e7d9464463efe2031d4efd395df06087ff9a86b6142c1099d", checked := Try.checked }
namespace Rows
def none {H : Type} : Left H := { results := [], args := [] }

/-- 'presidiolaw25.WordCalls': WHATEVER THE INPUT: true; the input reads as it did. -/
def wordCallsSpec : ChangeSpec := { name := "wordCalls", fn := fun _ => fun
  | [d1, d2] => { results := [.lit (.bool true)], args := [d1, d2] }
  | _ => none }
def wordCallsRow : OpenClaim := { program := "ytecliaogidemjaa", sum := "7c2d5e754a219d5e7d9464463efe2031d4efd395df06087ff9a86b6142c1099d", func := "presidio/presidiolaw25.WordCalls", spec := "wordCalls", apart := false }
def WordCallsSaid : Prop := wordCallsRow.holds Try.pinned (OpenSpec.ofChange wordCallsSpec)

/-- ITS FALSE NEIGHBOUR: 'it returns false'. Refute it at one input. -/
def wordCallsWrong : ChangeSpec := { name := "wordCalls", fn := fun _ => fun
  | [d1, d2] => { results := [.lit (.bool false)], args := [d1, d2] }
  | _ => none }
def WordCallsWrongFalsely : Prop := wordCallsRow.holds Try.pinned (OpenSpec.ofChange wordCallsWrong)

/-- 'presidiolaw25.WordList': WHATEVER THE INPUT: true; the input reads as it did. -/
def wordListSpec : ChangeSpec := { name := "wordList", fn := fun _ => fun
  | [] => { results := [.lit (.bool true)], args := [] }
  | _ => none }
def wordListRow : OpenClaim := { program := "ytecliaogidemjaa", sum := "7c2d5e754a219d5e7d9464463efe2031d4efd395df06087ff9a86b6142c1099d", func := "presidio/presidiolaw25.WordList", spec := "wordList", apart := false }
def WordListSaid : Prop := wordListRow.holds Try.pinned (OpenSpec.ofChange wordListSpec)

/-- ITS FALSE NEIGHBOUR: 'it returns false'. Refute it at one input. -/
def wordListWrong : ChangeSpec := { name := "wordList", fn := fun _ => fun
  | [] => { results := [.lit (.bool false)], args := [] }
  | _ => none }
def WordListWrongFalsely : Prop := wordListRow.holds Try.pinned (OpenSpec.ofChange wordListWrong)

/-- 'presidiolaw25.WordAnswers': WHATEVER THE INPUT: true; the input reads as it did. -/
def wordAnswersSpec : ChangeSpec := { name := "wordAnswers", fn := fun _ => fun
  | [d1, d2] => { results := [.lit (.bool true)], args := [d1, d2] }
  | _ => none }
def wordAnswersRow : OpenClaim := { program := "ytecliaogidemjaa", sum := "7c2d5e754a219d5e7d9464463efe2031d4efd395df06087ff9a86b6142c1099d", func := "presidio/presidiolaw25.WordAnswers", spec := "wordAnswers", apart := false }
def WordAnswersSaid : Prop := wordAnswersRow.holds Try.pinned (OpenSpec.ofChange wordAnswersSpec)

/-- ITS FALSE NEIGHBOUR: 'it returns false'. Refute it at one input. -/
def wordAnswersWrong : ChangeSpec := { name := "wordAnswers", fn := fun _ => fun
  | [d1, d2] => { results := [.lit (.bool false)], args := [d1, d2] }
  | _ => none }
def WordAnswersWrongFalsely : Prop := wordAnswersRow.holds Try.pinned (OpenSpec.ofChange wordAnswersWrong)

/-- 'presidiolaw8.BootAll': WHATEVER THE INPUT: true; the input reads as it did. -/
def bootAllSpec : ChangeSpec := { name := "bootAll", fn := fun _ => fun
  | [d1, d2] => { results := [.lit (.bool true)], args := [d1, d2] }
  | _ => none }
def bootAllRow : OpenClaim := { program := "ytecliaogidemjaa", sum := "7c2d5e754a219d5e7d9464463efe2031d4efd395df06087ff9a86b6142c1099d", func := "presidio/presidiolaw8.BootAll", spec := "bootAll", apart := false }
def BootAllSaid : Prop := bootAllRow.holds Try.pinned (OpenSpec.ofChange bootAllSpec)

/-- ITS FALSE NEIGHBOUR: 'it returns false'. Refute it at one input. -/
def bootAllWrong : ChangeSpec := { name := "bootAll", fn := fun _ => fun
  | [d1, d2] => { results := [.lit (.bool false)], args := [d1, d2] }
  | _ => none }
def BootAllWrongFalsely : Prop := bootAllRow.holds Try.pinned (OpenSpec.ofChange bootAllWrong)

/-- 'presidiolaw8.BootTurned': WHATEVER THE INPUT: true; the input reads as it did. -/
def bootTurnedSpec : ChangeSpec := { name := "bootTurned", fn := fun _ => fun
  | [d1, d2, d3] => { results := [.lit (.bool true)], args := [d1, d2, d3] }
  | _ => none }
def bootTurnedRow : OpenClaim := { program := "ytecliaogidemjaa", sum := "7c2d5e754a219d5e7d9464463efe2031d4efd395df06087ff9a86b6142c1099d", func := "presidio/presidiolaw8.BootTurned", spec := "bootTurned", apart := false }
def BootTurnedSaid : Prop := bootTurnedRow.holds Try.pinned (OpenSpec.ofChange bootTurnedSpec)

/-- ITS FALSE NEIGHBOUR: 'it returns false'. Refute it at one input. -/
def bootTurnedWrong : ChangeSpec := { name := "bootTurned", fn := fun _ => fun
  | [d1, d2, d3] => { results := [.lit (.bool false)], args := [d1, d2, d3] }
  | _ => none }
def BootTurnedWrongFalsely : Prop := bootTurnedRow.holds Try.pinned (OpenSpec.ofChange bootTurnedWrong)

/-- 'presidiolaw8.BootApart': WHATEVER THE INPUT: true; the input reads as it did. -/
def bootApartSpec : ChangeSpec := { name := "bootApart", fn := fun _ => fun
  | [d] => { results := [.lit (.bool true)], args := [d] }
  | _ => none }
def bootApartRow : OpenClaim := { program := "ytecliaogidemjaa", sum := "7c2d5e754a219d5e7d9464463efe2031d4efd395df06087ff9a86b6142c1099d", func := "presidio/presidiolaw8.BootApart", spec := "bootApart", apart := false }
def BootApartSaid : Prop := bootApartRow.holds Try.pinned (OpenSpec.ofChange bootApartSpec)

/-- ITS FALSE NEIGHBOUR: 'it returns false'. Refute it at one input. -/
def bootApartWrong : ChangeSpec := { name := "bootApart", fn := fun _ => fun
  | [d] => { results := [.lit (.bool false)], args := [d] }
  | _ => none }
def BootApartWrongFalsely : Prop := bootApartRow.holds Try.pinned (OpenSpec.ofChange bootApartWrong)

/-- 'presidiolaw8.BootForms': WHATEVER THE INPUT: true; the input reads as it did. -/
def bootFormsSpec : ChangeSpec := { name := "bootForms", fn := fun _ => fun
  | [] => { results := [.lit (.bool true)], args := [] }
  | _ => none }
def bootFormsRow : OpenClaim := { program := "ytecliaogidemjaa", sum := "7c2d5e754a219d5e7d9464463efe2031d4efd395df06087ff9a86b6142c1099d", func := "presidio/presidiolaw8.BootForms", spec := "bootForms", apart := false }
def BootFormsSaid : Prop := bootFormsRow.holds Try.pinned (OpenSpec.ofChange bootFormsSpec)

/-- ITS FALSE NEIGHBOUR: 'it returns false'. Refute it at one input. -/
def bootFormsWrong : ChangeSpec := { name := "bootForms", fn := fun _ => fun
  | [] => { results := [.lit (.bool false)], args := [] }
  | _ => none }
def BootFormsWrongFalsely : Prop := bootFormsRow.holds Try.pinned (OpenSpec.ofChange bootFormsWrong)

/-- 'presidiolaw16.RollAll': WHATEVER THE INPUT: true; the input reads as it did. -/
def rollAllSpec : ChangeSpec := { name := "rollAll", fn := fun _ => fun
  | [d1, d2, d3] => { results := [.lit (.bool true)], args := [d1, d2, d3] }
  | _ => none }
def rollAllRow : OpenClaim := { program := "ytecliaogidemjaa", sum := "7c2d5e754a219d5e7d9464463efe2031d4efd395df06087ff9a86b6142c1099d", func := "presidio/presidiolaw16.RollAll", spec := "rollAll", apart := false }
def RollAllSaid : Prop := rollAllRow.holds Try.pinned (OpenSpec.ofChange rollAllSpec)

/-- ITS FALSE NEIGHBOUR: 'it returns false'. Refute it at one input. -/
def rollAllWrong : ChangeSpec := { name := "rollAll", fn := fun _ => fun
  | [d1, d2, d3] => { results := [.lit (.bool false)], args := [d1, d2, d3] }
  | _ => none }
def RollAllWrongFalsely : Prop := rollAllRow.holds Try.pinned (OpenSpec.ofChange rollAllWrong)

/-- 'presidiolaw16.RollKinds': WHATEVER THE INPUT: true; the input reads as it did. -/
def rollKindsSpec : ChangeSpec := { name := "rollKinds", fn := fun _ => fun
  | [d] => { results := [.lit (.bool true)], args := [d] }
  | _ => none }
def rollKindsRow : OpenClaim := { program := "ytecliaogidemjaa", sum := "7c2d5e754a219d5e7d9464463efe2031d4efd395df06087ff9a86b6142c1099d", func := "presidio/presidiolaw16.RollKinds", spec := "rollKinds", apart := false }
def RollKindsSaid : Prop := rollKindsRow.holds Try.pinned (OpenSpec.ofChange rollKindsSpec)

/-- ITS FALSE NEIGHBOUR: 'it returns false'. Refute it at one input. -/
def rollKindsWrong : ChangeSpec := { name := "rollKinds", fn := fun _ => fun
  | [d] => { results := [.lit (.bool false)], args := [d] }
  | _ => none }
def RollKindsWrongFalsely : Prop := rollKindsRow.holds Try.pinned (OpenSpec.ofChange rollKindsWrong)

/-- 'presidiolaw16.RollForms': WHATEVER THE INPUT: true; the input reads as it did. -/
def rollFormsSpec : ChangeSpec := { name := "rollForms", fn := fun _ => fun
  | [] => { results := [.lit (.bool true)], args := [] }
  | _ => none }
def rollFormsRow : OpenClaim := { program := "ytecliaogidemjaa", sum := "7c2d5e754a219d5e7d9464463efe2031d4efd395df06087ff9a86b6142c1099d", func := "presidio/presidiolaw16.RollForms", spec := "rollForms", apart := false }
def RollFormsSaid : Prop := rollFormsRow.holds Try.pinned (OpenSpec.ofChange rollFormsSpec)

/-- ITS FALSE NEIGHBOUR: 'it returns false'. Refute it at one input. -/
def rollFormsWrong : ChangeSpec := { name := "rollForms", fn := fun _ => fun
  | [] => { results := [.lit (.bool false)], args := [] }
  | _ => none }
def RollFormsWrongFalsely : Prop := rollFormsRow.holds Try.pinned (OpenSpec.ofChange rollFormsWrong)

/- THE SECOND FORM. 'bulk': how many values and letters a reading holds, each counted each time it is reached (what is shared counts as often as it is met; a slice's spare places count too). A statement '..UptoSaid' is the law's where the arguments, and the package variables that the reading takes, are together of bulk at most 1048576: NARROWER than '..Said'. Prove '..Said' where nothing that the law and all that it calls make is longer than what came in: it says more and counts as full. Else prove '..UptoSaid'. A law counts once. -/
mutual
def uptoBulk {H : Type} : DataW H → Nat
  | .lit (.string bytes) => bytes.length + 1
  | .lit _ => 1
  | .nil => 1
  | .ptr d => uptoBulk d + 1
  | .slice elems spare => uptoBulkAll elems + uptoBulkAll spare + 1
  | .agg parts => uptoBulkAll parts + 1
  | .iface _ d => uptoBulk d + 1
  | .map entries => uptoBulkEntries entries + 1
  | .held _ => 1
def uptoBulkAll {H : Type} : List (DataW H) → Nat
  | [] => 0
  | d :: r => uptoBulk d + uptoBulkAll r
def uptoBulkEntries {H : Type} : List (Lit × DataW H) → Nat
  | [] => 0
  | x :: r => uptoBulkEntry x + uptoBulkEntries r
def uptoBulkEntry {H : Type} : Lit × DataW H → Nat
  | (.string bytes, d) => bytes.length + uptoBulk d + 1
  | (_, d) => uptoBulk d + 1
 end
def uptoSmall : (H : Type) → List (DataW H) → Bool := fun _ ds => decide (uptoBulkAll ds ≤ 1048576)
def OpenSpec.upto (s : _root_.Go.ChangeSpec) : _root_.Go.OpenSpec := { _root_.Go.OpenSpec.ofChange s with cond := some uptoSmall }

/-- 'presidiolaw25.WordCalls', WHERE WHAT IT READS IS OF BULK AT MOST 1048576: true; the input reads as it did. -/
def wordCallsUptoRow : OpenClaim := { program := "ytecliaogidemjaa", sum := "7c2d5e754a219d5e7d9464463efe2031d4efd395df06087ff9a86b6142c1099d", func := "presidio/presidiolaw25.WordCalls", spec := "wordCalls", apart := false, narrowed := true }
def WordCallsUptoSaid : Prop := wordCallsUptoRow.holds Try.pinned (OpenSpec.upto wordCallsSpec)

/-- 'presidiolaw25.WordList', WHERE WHAT IT READS IS OF BULK AT MOST 1048576: true; the input reads as it did. -/
def wordListUptoRow : OpenClaim := { program := "ytecliaogidemjaa", sum := "7c2d5e754a219d5e7d9464463efe2031d4efd395df06087ff9a86b6142c1099d", func := "presidio/presidiolaw25.WordList", spec := "wordList", apart := false, narrowed := true }
def WordListUptoSaid : Prop := wordListUptoRow.holds Try.pinned (OpenSpec.upto wordListSpec)

/-- 'presidiolaw25.WordAnswers', WHERE WHAT IT READS IS OF BULK AT MOST 1048576: true; the input reads as it did. -/
def wordAnswersUptoRow : OpenClaim := { program := "ytecliaogidemjaa", sum := "7c2d5e754a219d5e7d9464463efe2031d4efd395df06087ff9a86b6142c1099d", func := "presidio/presidiolaw25.WordAnswers", spec := "wordAnswers", apart := false, narrowed := true }
def WordAnswersUptoSaid : Prop := wordAnswersUptoRow.holds Try.pinned (OpenSpec.upto wordAnswersSpec)

/-- 'presidiolaw8.BootAll', WHERE WHAT IT READS IS OF BULK AT MOST 1048576: true; the input reads as it did. -/
def bootAllUptoRow : OpenClaim := { program := "ytecliaogidemjaa", sum := "7c2d5e754a219d5e7d9464463efe2031d4efd395df06087ff9a86b6142c1099d", func := "presidio/presidiolaw8.BootAll", spec := "bootAll", apart := false, narrowed := true }
def BootAllUptoSaid : Prop := bootAllUptoRow.holds Try.pinned (OpenSpec.upto bootAllSpec)

/-- 'presidiolaw8.BootTurned', WHERE WHAT IT READS IS OF BULK AT MOST 1048576: true; the input reads as it did. -/
def bootTurnedUptoRow : OpenClaim := { program := "ytecliaogidemjaa", sum := "7c2d5e754a219d5e7d9464463efe2031d4efd395df06087ff9a86b6142c1099d", func := "presidio/presidiolaw8.BootTurned", spec := "bootTurned", apart := false, narrowed := true }
def BootTurnedUptoSaid : Prop := bootTurnedUptoRow.holds Try.pinned (OpenSpec.upto bootTurnedSpec)

/-- 'presidiolaw8.BootApart', WHERE WHAT IT READS IS OF BULK AT MOST 1048576: true; the input reads as it did. -/
def bootApartUptoRow : OpenClaim := { program := "ytecliaogidemjaa", sum := "7c2d5e754a219d5e7d9464463efe2031d4efd395df06087ff9a86b6142c1099d", func := "presidio/presidiolaw8.BootApart", spec := "bootApart", apart := false, narrowed := true }
def BootApartUptoSaid : Prop := bootApartUptoRow.holds Try.pinned (OpenSpec.upto bootApartSpec)

/-- 'presidiolaw8.BootForms', WHERE WHAT IT READS IS OF BULK AT MOST 1048576: true; the input reads as it did. -/
def bootFormsUptoRow : OpenClaim := { program := "ytecliaogidemjaa", sum := "7c2d5e754a219d5e7d9464463efe2031d4efd395df06087ff9a86b6142c1099d", func := "presidio/presidiolaw8.BootForms", spec := "bootForms", apart := false, narrowed := true }
def BootFormsUptoSaid : Prop := bootFormsUptoRow.holds Try.pinned (OpenSpec.upto bootFormsSpec)

/-- 'presidiolaw16.RollAll', WHERE WHAT IT READS IS OF BULK AT MOST 1048576: true; the input reads as it did. -/
def rollAllUptoRow : OpenClaim := { program := "ytecliaogidemjaa", sum := "7c2d5e754a219d5e7d9464463efe2031d4efd395df06087ff9a86b6142c1099d", func := "presidio/presidiolaw16.RollAll", spec := "rollAll", apart := false, narrowed := true }
def RollAllUptoSaid : Prop := rollAllUptoRow.holds Try.pinned (OpenSpec.upto rollAllSpec)

/-- 'presidiolaw16.RollKinds', WHERE WHAT IT READS IS OF BULK AT MOST 1048576: true; the input reads as it did. -/
def rollKindsUptoRow : OpenClaim := { program := "ytecliaogidemjaa", sum := "7c2d5e754a219d5e7d9464463efe2031d4efd395df06087ff9a86b6142c1099d", func := "presidio/presidiolaw16.RollKinds", spec := "rollKinds", apart := false, narrowed := true }
def RollKindsUptoSaid : Prop := rollKindsUptoRow.holds Try.pinned (OpenSpec.upto rollKindsSpec)

/-- 'presidiolaw16.RollForms', WHERE WHAT IT READS IS OF BULK AT MOST 1048576: true; the input reads as it did. -/
def rollFormsUptoRow : OpenClaim := { program := "ytecliaogidemjaa", sum := "7c2d5e754a219d5e7d9464463efe2031d4efd395df06087ff9a86b6142c1099d", func := "presidio/presidiolaw16.RollForms", spec := "rollForms", apart := false, narrowed := true }
def RollFormsUptoSaid : Prop := rollFormsUptoRow.holds Try.pinned (OpenSpec.upto rollFormsSpec)

end Rows
end Go.Proofs.Ytecliaogidemjaa
