/-
  No cell of these rows narrows 'for every input' (looked for: loops, veiled, ifaces, maps, wideKeys, modest, calm, conditions, laid).
  DERIVED. THE GIVEN ROWS OF THIS SEAT. 12 by the template 'for every input the law returns true; each argument reads behind the call as it read before'; 0 by the template 'total and deterministic' (their statements: YtlohonlcoedfhaaTotals.lean).
  GIVEN WITH THE SEED: the statements are not yours to turn. If you find one false, say at which input.
  Laid BY PROGRAM, IN A SANDBOX (cutbox-rows.mjs): the forced cells as the released guide's own fill.sh prints them over the translation 6f961a75a7bdb508… (all of the seat's roots in one cut). By AI agents, Wed Nov 11 2026. No macro, syntax, notation, axiom, sorry.
-/
import Derived.Test.YtlohonlcoedfhaaChecked
import GoSem.Claim
import GoSem.ClaimJoined
import GoSem.ClaimMapViews
import Derived.JoinedTies
import Derived.KernelRfl
namespace Go.Proofs.Ytlohonlcoedfhaa
/- THE CELL 'sum', in the pinned program and in every row, IS THE sha256 OF THE DUMP (.gsa) THAT YtlohonlcoedfhaaProg.lean LOADS. Nothing in Lean hashes anything: it is a label: what it is worth is what the hold of that sum in a sandbox is worth. -/
noncomputable def Try.pinned : Pinned := { name := "ytlohonlcoedfhaa", sum := "6f961a75a7bdb50846addc1bb904d0d130256df4095c35cfb2fe635086177d46", checked := Try.checked }
namespace Rows
def none {H : Type} : Left H := { results := [], args := [] }

/-- 'presidiolaw19.PleaAll': WHATEVER THE INPUT: true; the input reads as it did. -/
def pleaAllSpec : ChangeSpec := { name := "pleaAll", fn := fun _ => fun
  | [d1, d2] => { results := [.lit (.bool true)], args := [d1, d2] }
  | _ => none }
def pleaAllRow : OpenClaim := { program := "ytlohonlcoedfhaa", sum := "6f961a75a7bdb50846addc1bb904d0d130256df4095c35cfb2fe635086177d46", func := "presidio/presidiolaw19.PleaAll", spec := "pleaAll", apart := false }
def PleaAllSaid : Prop := pleaAllRow.holds Try.pinned (OpenSpec.ofChange pleaAllSpec)

/-- ITS FALSE NEIGHBOUR: 'it returns false'. Refute it at one input. -/
def pleaAllWrong : ChangeSpec := { name := "pleaAll", fn := fun _ => fun
  | [d1, d2] => { results := [.lit (.bool false)], args := [d1, d2] }
  | _ => none }
def PleaAllWrongFalsely : Prop := pleaAllRow.holds Try.pinned (OpenSpec.ofChange pleaAllWrong)

/-- 'presidiolaw19.PleaBack': WHATEVER THE INPUT: true; the input reads as it did. -/
def pleaBackSpec : ChangeSpec := { name := "pleaBack", fn := fun _ => fun
  | [d1, d2, d3, d4] => { results := [.lit (.bool true)], args := [d1, d2, d3, d4] }
  | _ => none }
def pleaBackRow : OpenClaim := { program := "ytlohonlcoedfhaa", sum := "6f961a75a7bdb50846addc1bb904d0d130256df4095c35cfb2fe635086177d46", func := "presidio/presidiolaw19.PleaBack", spec := "pleaBack", apart := false }
def PleaBackSaid : Prop := pleaBackRow.holds Try.pinned (OpenSpec.ofChange pleaBackSpec)

/-- ITS FALSE NEIGHBOUR: 'it returns false'. Refute it at one input. -/
def pleaBackWrong : ChangeSpec := { name := "pleaBack", fn := fun _ => fun
  | [d1, d2, d3, d4] => { results := [.lit (.bool false)], args := [d1, d2, d3, d4] }
  | _ => none }
def PleaBackWrongFalsely : Prop := pleaBackRow.holds Try.pinned (OpenSpec.ofChange pleaBackWrong)

/-- 'presidiolaw19.PleaForms': WHATEVER THE INPUT: true; the input reads as it did. -/
def pleaFormsSpec : ChangeSpec := { name := "pleaForms", fn := fun _ => fun
  | [] => { results := [.lit (.bool true)], args := [] }
  | _ => none }
def pleaFormsRow : OpenClaim := { program := "ytlohonlcoedfhaa", sum := "6f961a75a7bdb50846addc1bb904d0d130256df4095c35cfb2fe635086177d46", func := "presidio/presidiolaw19.PleaForms", spec := "pleaForms", apart := false }
def PleaFormsSaid : Prop := pleaFormsRow.holds Try.pinned (OpenSpec.ofChange pleaFormsSpec)

/-- ITS FALSE NEIGHBOUR: 'it returns false'. Refute it at one input. -/
def pleaFormsWrong : ChangeSpec := { name := "pleaForms", fn := fun _ => fun
  | [] => { results := [.lit (.bool false)], args := [] }
  | _ => none }
def PleaFormsWrongFalsely : Prop := pleaFormsRow.holds Try.pinned (OpenSpec.ofChange pleaFormsWrong)

/-- 'presidiolaw15.LetterAll': WHATEVER THE INPUT: true; the input reads as it did. -/
def letterAllSpec : ChangeSpec := { name := "letterAll", fn := fun _ => fun
  | [d1, d2, d3, d4] => { results := [.lit (.bool true)], args := [d1, d2, d3, d4] }
  | _ => none }
def letterAllRow : OpenClaim := { program := "ytlohonlcoedfhaa", sum := "6f961a75a7bdb50846addc1bb904d0d130256df4095c35cfb2fe635086177d46", func := "presidio/presidiolaw15.LetterAll", spec := "letterAll", apart := false }
def LetterAllSaid : Prop := letterAllRow.holds Try.pinned (OpenSpec.ofChange letterAllSpec)

/-- ITS FALSE NEIGHBOUR: 'it returns false'. Refute it at one input. -/
def letterAllWrong : ChangeSpec := { name := "letterAll", fn := fun _ => fun
  | [d1, d2, d3, d4] => { results := [.lit (.bool false)], args := [d1, d2, d3, d4] }
  | _ => none }
def LetterAllWrongFalsely : Prop := letterAllRow.holds Try.pinned (OpenSpec.ofChange letterAllWrong)

/-- 'presidiolaw15.LetterBack': WHATEVER THE INPUT: true; the input reads as it did. -/
def letterBackSpec : ChangeSpec := { name := "letterBack", fn := fun _ => fun
  | [d1, d2, d3, d4, d5] => { results := [.lit (.bool true)], args := [d1, d2, d3, d4, d5] }
  | _ => none }
def letterBackRow : OpenClaim := { program := "ytlohonlcoedfhaa", sum := "6f961a75a7bdb50846addc1bb904d0d130256df4095c35cfb2fe635086177d46", func := "presidio/presidiolaw15.LetterBack", spec := "letterBack", apart := false }
def LetterBackSaid : Prop := letterBackRow.holds Try.pinned (OpenSpec.ofChange letterBackSpec)

/-- ITS FALSE NEIGHBOUR: 'it returns false'. Refute it at one input. -/
def letterBackWrong : ChangeSpec := { name := "letterBack", fn := fun _ => fun
  | [d1, d2, d3, d4, d5] => { results := [.lit (.bool false)], args := [d1, d2, d3, d4, d5] }
  | _ => none }
def LetterBackWrongFalsely : Prop := letterBackRow.holds Try.pinned (OpenSpec.ofChange letterBackWrong)

/-- 'presidiolaw15.LetterForms': WHATEVER THE INPUT: true; the input reads as it did. -/
def letterFormsSpec : ChangeSpec := { name := "letterForms", fn := fun _ => fun
  | [] => { results := [.lit (.bool true)], args := [] }
  | _ => none }
def letterFormsRow : OpenClaim := { program := "ytlohonlcoedfhaa", sum := "6f961a75a7bdb50846addc1bb904d0d130256df4095c35cfb2fe635086177d46", func := "presidio/presidiolaw15.LetterForms", spec := "letterForms", apart := false }
def LetterFormsSaid : Prop := letterFormsRow.holds Try.pinned (OpenSpec.ofChange letterFormsSpec)

/-- ITS FALSE NEIGHBOUR: 'it returns false'. Refute it at one input. -/
def letterFormsWrong : ChangeSpec := { name := "letterForms", fn := fun _ => fun
  | [] => { results := [.lit (.bool false)], args := [] }
  | _ => none }
def LetterFormsWrongFalsely : Prop := letterFormsRow.holds Try.pinned (OpenSpec.ofChange letterFormsWrong)

/-- 'presidiolaw2.SlotAll': WHATEVER THE INPUT: true; the input reads as it did. -/
def slotAllSpec : ChangeSpec := { name := "slotAll", fn := fun _ => fun
  | [d1, d2] => { results := [.lit (.bool true)], args := [d1, d2] }
  | _ => none }
def slotAllRow : OpenClaim := { program := "ytlohonlcoedfhaa", sum := "6f961a75a7bdb50846addc1bb904d0d130256df4095c35cfb2fe635086177d46", func := "presidio/presidiolaw2.SlotAll", spec := "slotAll", apart := false }
def SlotAllSaid : Prop := slotAllRow.holds Try.pinned (OpenSpec.ofChange slotAllSpec)

/-- ITS FALSE NEIGHBOUR: 'it returns false'. Refute it at one input. -/
def slotAllWrong : ChangeSpec := { name := "slotAll", fn := fun _ => fun
  | [d1, d2] => { results := [.lit (.bool false)], args := [d1, d2] }
  | _ => none }
def SlotAllWrongFalsely : Prop := slotAllRow.holds Try.pinned (OpenSpec.ofChange slotAllWrong)

/-- 'presidiolaw2.SlotBack': WHATEVER THE INPUT: true; the input reads as it did. -/
def slotBackSpec : ChangeSpec := { name := "slotBack", fn := fun _ => fun
  | [d1, d2, d3, d4] => { results := [.lit (.bool true)], args := [d1, d2, d3, d4] }
  | _ => none }
def slotBackRow : OpenClaim := { program := "ytlohonlcoedfhaa", sum := "6f961a75a7bdb50846addc1bb904d0d130256df4095c35cfb2fe635086177d46", func := "presidio/presidiolaw2.SlotBack", spec := "slotBack", apart := false }
def SlotBackSaid : Prop := slotBackRow.holds Try.pinned (OpenSpec.ofChange slotBackSpec)

/-- ITS FALSE NEIGHBOUR: 'it returns false'. Refute it at one input. -/
def slotBackWrong : ChangeSpec := { name := "slotBack", fn := fun _ => fun
  | [d1, d2, d3, d4] => { results := [.lit (.bool false)], args := [d1, d2, d3, d4] }
  | _ => none }
def SlotBackWrongFalsely : Prop := slotBackRow.holds Try.pinned (OpenSpec.ofChange slotBackWrong)

/-- 'presidiolaw2.SlotForms': WHATEVER THE INPUT: true; the input reads as it did. -/
def slotFormsSpec : ChangeSpec := { name := "slotForms", fn := fun _ => fun
  | [] => { results := [.lit (.bool true)], args := [] }
  | _ => none }
def slotFormsRow : OpenClaim := { program := "ytlohonlcoedfhaa", sum := "6f961a75a7bdb50846addc1bb904d0d130256df4095c35cfb2fe635086177d46", func := "presidio/presidiolaw2.SlotForms", spec := "slotForms", apart := false }
def SlotFormsSaid : Prop := slotFormsRow.holds Try.pinned (OpenSpec.ofChange slotFormsSpec)

/-- ITS FALSE NEIGHBOUR: 'it returns false'. Refute it at one input. -/
def slotFormsWrong : ChangeSpec := { name := "slotForms", fn := fun _ => fun
  | [] => { results := [.lit (.bool false)], args := [] }
  | _ => none }
def SlotFormsWrongFalsely : Prop := slotFormsRow.holds Try.pinned (OpenSpec.ofChange slotFormsWrong)

/-- 'presidiolaw20.PieceAll': WHATEVER THE INPUT: true; the input reads as it did. -/
def pieceAllSpec : ChangeSpec := { name := "pieceAll", fn := fun _ => fun
  | [d1, d2] => { results := [.lit (.bool true)], args := [d1, d2] }
  | _ => none }
def pieceAllRow : OpenClaim := { program := "ytlohonlcoedfhaa", sum := "6f961a75a7bdb50846addc1bb904d0d130256df4095c35cfb2fe635086177d46", func := "presidio/presidiolaw20.PieceAll", spec := "pieceAll", apart := false }
def PieceAllSaid : Prop := pieceAllRow.holds Try.pinned (OpenSpec.ofChange pieceAllSpec)

/-- ITS FALSE NEIGHBOUR: 'it returns false'. Refute it at one input. -/
def pieceAllWrong : ChangeSpec := { name := "pieceAll", fn := fun _ => fun
  | [d1, d2] => { results := [.lit (.bool false)], args := [d1, d2] }
  | _ => none }
def PieceAllWrongFalsely : Prop := pieceAllRow.holds Try.pinned (OpenSpec.ofChange pieceAllWrong)

/-- 'presidiolaw20.PieceCuts': WHATEVER THE INPUT: true; the input reads as it did. -/
def pieceCutsSpec : ChangeSpec := { name := "pieceCuts", fn := fun _ => fun
  | [d1, d2] => { results := [.lit (.bool true)], args := [d1, d2] }
  | _ => none }
def pieceCutsRow : OpenClaim := { program := "ytlohonlcoedfhaa", sum := "6f961a75a7bdb50846addc1bb904d0d130256df4095c35cfb2fe635086177d46", func := "presidio/presidiolaw20.PieceCuts", spec := "pieceCuts", apart := false }
def PieceCutsSaid : Prop := pieceCutsRow.holds Try.pinned (OpenSpec.ofChange pieceCutsSpec)

/-- ITS FALSE NEIGHBOUR: 'it returns false'. Refute it at one input. -/
def pieceCutsWrong : ChangeSpec := { name := "pieceCuts", fn := fun _ => fun
  | [d1, d2] => { results := [.lit (.bool false)], args := [d1, d2] }
  | _ => none }
def PieceCutsWrongFalsely : Prop := pieceCutsRow.holds Try.pinned (OpenSpec.ofChange pieceCutsWrong)

/-- 'presidiolaw20.PieceForms': WHATEVER THE INPUT: true; the input reads as it did. -/
def pieceFormsSpec : ChangeSpec := { name := "pieceForms", fn := fun _ => fun
  | [d1, d2] => { results := [.lit (.bool true)], args := [d1, d2] }
  | _ => none }
def pieceFormsRow : OpenClaim := { program := "ytlohonlcoedfhaa", sum := "6f961a75a7bdb50846addc1bb904d0d130256df4095c35cfb2fe635086177d46", func := "presidio/presidiolaw20.PieceForms", spec := "pieceForms", apart := false }
def PieceFormsSaid : Prop := pieceFormsRow.holds Try.pinned (OpenSpec.ofChange pieceFormsSpec)

/-- ITS FALSE NEIGHBOUR: 'it returns false'. Refute it at one input. -/
def pieceFormsWrong : ChangeSpec := { name := "pieceForms", fn := fun _ => fun
  | [d1, d2] => { results := [.lit (.bool false)], args := [d1, d2] }
  | _ => none }
def PieceFormsWrongFalsely : Prop := pieceFormsRow.holds Try.pinned (OpenSpec.ofChange pieceFormsWrong)

/- THE SECOND FORM. 'bulk': how many values and letters a reading holds, each counted each time it is reached (what is shared counts as often as it is met; a slice's spare places count too). A statement '..UptoSaid' is the law's where the arguments, and the package variables that the reading takes, are together of bulk at most 1048576: NARROWER than '..Said'. Prove '..Said' where nothing that the law and all that it calls make is longer than what came in: it says more and counts as full. Else prove '..UptoSaid'. A law counts once. -/
mutual
def uptoBulk {H : Type} : DataW H → Nat
  | .lit (.string bytes) => bytes.length + 1
  | .lit _ => 1
  | .nil => 1
  | .ptr d => uptoBulk d + 1
  | .slice elems spare => uptoBulkAll elems + uptoBulkAll spare + 1
  | .agg parts => uptoBulkAll parts + 1
  | .iface _ d => uptoBulk d + 1
  | .map entries => uptoBulkEntries entries + 1
  | .held _ => 1
def uptoBulkAll {H : Type} : List (DataW H) → Nat
  | [] => 0
  | d :: r => uptoBulk d + uptoBulkAll r
def uptoBulkEntries {H : Type} : List (Lit × DataW H) → Nat
  | [] => 0
  | x :: r => uptoBulkEntry x + uptoBulkEntries r
def uptoBulkEntry {H : Type} : Lit × DataW H → Nat
  | (.string bytes, d) => bytes.length + uptoBulk d + 1
  | (_, d) => uptoBulk d + 1
 end
def uptoSmall : (H : Type) → List (DataW H) → Bool := fun _ ds => decide (uptoBulkAll ds ≤ 1048576)
def OpenSpec.upto (s : _root_.Go.ChangeSpec) : _root_.Go.OpenSpec := { _root_.Go.OpenSpec.ofChange s with cond := some uptoSmall }

/-- 'presidiolaw19.PleaAll', WHERE WHAT IT READS IS OF BULK AT MOST 1048576: true; the input reads as it did. -/
def pleaAllUptoRow : OpenClaim := { program := "ytlohonlcoedfhaa", sum := "6f961a75a7bdb50846addc1bb904d0d130256df4095c35cfb2fe635086177d46", func := "presidio/presidiolaw19.PleaAll", spec := "pleaAll", apart := false, narrowed := true }
def PleaAllUptoSaid : Prop := pleaAllUptoRow.holds Try.pinned (OpenSpec.upto pleaAllSpec)

/-- 'presidiolaw19.PleaBack', WHERE WHAT IT READS IS OF BULK AT MOST 1048576: true; the input reads as it did. -/
def pleaBackUptoRow : OpenClaim := { program := "ytlohonlcoedfhaa", sum := "6f961a75a7bdb50846addc1bb904d0d130256df4095c35cfb2fe635086177d46", func := "presidio/presidiolaw19.PleaBack", spec := "pleaBack", apart := false, narrowed := true }
def PleaBackUptoSaid : Prop := pleaBackUptoRow.holds Try.pinned (OpenSpec.upto pleaBackSpec)

/-- 'presidiolaw19.PleaForms', WHERE WHAT IT READS IS OF BULK AT MOST 1048576: true; the input reads as it did. -/
def pleaFormsUptoRow : OpenClaim := { program := "ytlohonlcoedfhaa", sum := "6f961a75a7bdb50846addc1bb904d0d130256df4095c35cfb2fe635086177d46", func := "presidio/presidiolaw19.PleaForms", spec := "pleaForms", apart := false, narrowed := true }
def PleaFormsUptoSaid : Prop := pleaFormsUptoRow.holds Try.pinned (OpenSpec.upto pleaFormsSpec)

/-- 'presidiolaw15.LetterAll', WHERE WHAT IT READS IS OF BULK AT MOST 1048576: true; the input reads as it did. -/
def letterAllUptoRow : OpenClaim := { program := "ytlohonlcoedfhaa", sum := "6f961a75a7bdb50846addc1bb904d0d130256df4095c35cfb2fe635086177d46", func := "presidio/presidiolaw15.LetterAll", spec := "letterAll", apart := false, narrowed := true }
def LetterAllUptoSaid : Prop := letterAllUptoRow.holds Try.pinned (OpenSpec.upto letterAllSpec)

/-- 'presidiolaw15.LetterBack', WHERE WHAT IT READS IS OF BULK AT MOST 1048576: true; the input reads as it did. -/
def letterBackUptoRow : OpenClaim := { program := "ytlohonlcoedfhaa", sum := "6f961a75a7bdb50846addc1bb904d0d130256df4095c35cfb2fe635086177d46", func := "presidio/presidiolaw15.LetterBack", spec := "letterBack", apart := false, narrowed := true }
def LetterBackUptoSaid : Prop := letterBackUptoRow.holds Try.pinned (OpenSpec.upto letterBackSpec)

/-- 'presidiolaw15.LetterForms', WHERE WHAT IT READS IS OF BULK AT MOST 1048576: true; the input reads as it did. -/
def letterFormsUptoRow : OpenClaim := { program := "ytlohonlcoedfhaa", sum := "6f961a75a7bdb50846addc1bb904d0d130256df4095c35cfb2fe635086177d46", func := "presidio/presidiolaw15.LetterForms", spec := "letterForms", apart := false, narrowed := true }
def LetterFormsUptoSaid : Prop := letterFormsUptoRow.holds Try.pinned (OpenSpec.upto letterFormsSpec)

/-- 'presidiolaw2.SlotAll', WHERE WHAT IT READS IS OF BULK AT MOST 1048576: true; the input reads as it did. -/
def slotAllUptoRow : OpenClaim := { program := "ytlohonlcoedfhaa", sum := "6f961a75a7bdb50846addc1bb904d0d130256df4095c35cfb2fe635086177d46", func := "presidio/presidiolaw2.SlotAll", spec := "slotAll", apart := false, narrowed := true }
def SlotAllUptoSaid : Prop := slotAllUptoRow.holds Try.pinned (OpenSpec.upto slotAllSpec)

/-- 'presidiolaw2.SlotBack', WHERE WHAT IT READS IS OF BULK AT MOST 1048576: true; the input reads as it did. -/
def slotBackUptoRow : OpenClaim := { program := "ytlohonlcoedfhaa", sum := "6f961a75a7bdb50846addc1bb904d0d130256df4095c35cfb2fe635086177d46", func := "presidio/presidiolaw2.SlotBack", spec := "slotBack", apart := false, narrowed := true }
def SlotBackUptoSaid : Prop := slotBackUptoRow.holds Try.pinned (OpenSpec.upto slotBackSpec)

/-- 'presidiolaw2.SlotForms', WHERE WHAT IT READS IS OF BULK AT MOST 1048576: true; the input reads as it did. -/
def slotFormsUptoRow : OpenClaim := { program := "ytlohonlcoedfhaa", sum := "6f961a75a7bdb50846addc1bb904d0d130256df4095c35cfb2fe635086177d46", func := "presidio/presidiolaw2.SlotForms", spec := "slotForms", apart := false, narrowed := true }
def SlotFormsUptoSaid : Prop := slotFormsUptoRow.holds Try.pinned (OpenSpec.upto slotFormsSpec)

/-- 'presidiolaw20.PieceAll', WHERE WHAT IT READS IS OF BULK AT MOST 1048576: true; the input reads as it did. -/
def pieceAllUptoRow : OpenClaim := { program := "ytlohonlcoedfhaa", sum := "6f961a75a7bdb50846addc1bb904d0d130256df4095c35cfb2fe635086177d46", func := "presidio/presidiolaw20.PieceAll", spec := "pieceAll", apart := false, narrowed := true }
def PieceAllUptoSaid : Prop := pieceAllUptoRow.holds Try.pinned (OpenSpec.upto pieceAllSpec)

/-- 'presidiolaw20.PieceCuts', WHERE WHAT IT READS IS OF BULK AT MOST 1048576: true; the input reads as it did. -/
def pieceCutsUptoRow : OpenClaim := { program := "ytlohonlcoedfhaa", sum := "6f961a75a7bdb50846addc1bb904d0d130256df4095c35cfb2fe635086177d46", func := "presidio/presidiolaw20.PieceCuts", spec := "pieceCuts", apart := false, narrowed := true }
def PieceCutsUptoSaid : Prop := pieceCutsUptoRow.holds Try.pinned (OpenSpec.upto pieceCutsSpec)

/-- 'presidiolaw20.PieceForms', WHERE WHAT IT READS IS OF BULK AT MOST 1048576: true; the input reads as it did. -/
def pieceFormsUptoRow : OpenClaim := { program := "ytlohonlcoedfhaa", sum := "6f961a75a7bdb50846addc1bb904d0d130256df4095c35cfb2fe635086177d46", func := "presidio/presidiolaw20.PieceForms", spec := "pieceForms", apart := false, narrowed := true }
def PieceFormsUptoSaid : Prop := pieceFormsUptoRow.holds Try.pinned (OpenSpec.upto pieceFormsSpec)

end Rows
end Go.Proofs.Ytlohonlcoedfhaa
