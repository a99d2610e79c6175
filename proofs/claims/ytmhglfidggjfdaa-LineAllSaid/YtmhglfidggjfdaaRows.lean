/-
  No cell of these rows narrows 'for every input' (looked for: loops, veiled, ifaces, maps, wideKeys, modest, calm, conditions, laid).
  DERIVED. THE GIVEN ROWS OF THIS SEAT. 7 by the template 'for every input the law returns true; each argument reads behind the call as it read before'; 0 by the template 'total and deterministic' (their statements: YtmhglfidggjfdaaTotals.lean).
  GIVEN WITH THE SEED: the statements are not yours to turn. If you find one false, say at which input.
  Laid BY PROGRAM, IN A SANDBOX (cutbox-rows.mjs): the forced cells as the released guide's own fill.sh prints them over the translation 0d5d3015277362a3… (all of the seat's roots in one cut). By AI agents, Wed Nov 11 2026. No macro, syntax, notation, axiom, sorry.
-/
import Derived.Test.YtmhglfidggjfdaaChecked
import GoSem.Claim
import GoSem.ClaimJoined
import GoSem.ClaimMapViews
import Derived.JoinedTies
import Derived.KernelRfl
namespace Go.Proofs.Ytmhglfidggjfdaa
/- THE CELL 'sum', in the pinned program and in every row, IS THE sha256 OF THE DUMP (.gsa) THAT YtmhglfidggjfdaaProg.lean LOADS. Nothing in Lean hashes anything: it is a label: what it is worth is what the hold of that sum in a sandbox is worth. -/
noncomputable def Try.pinned : Pinned := { name := "ytmhglfidggjfdaa", sum := "0d5d3015277362a31891c68ba7b4ffc8bc04230df1082d97c19cd8d552fd4883", checked := Try.checked }
namespace Rows
def none {H : Type} : Left H := { results := [], args := [] }

/-- 'presidiolaw12.LineAll': WHATEVER THE INPUT: true; the input reads as it did. -/
def lineAllSpec : ChangeSpec := { name := "lineAll", fn := fun _ => fun
  | [d1, d2] => { results := [.lit (.bool true)], args := [d1, d2] }
  | _ => none }
def lineAllRow : OpenClaim := { program := "ytmhglfidggjfdaa", sum := "0d5d3015277362a31891c68ba7b4ffc8bc04230df1082d97c19cd8d552fd4883", func := "presidio/presidiolaw12.LineAll", spec := "lineAll", apart := false }
def LineAllSaid : Prop := lineAllRow.holds Try.pinned (OpenSpec.ofChange lineAllSpec)

/-- ITS FALSE NEIGHBOUR: 'it returns false'. Refute it at one input. -/
def lineAllWrong : ChangeSpec := { name := "lineAll", fn := fun _ => fun
  | [d1, d2] => { results := [.lit (.bool false)], args := [d1, d2] }
  | _ => none }
def LineAllWrongFalsely : Prop := lineAllRow.holds Try.pinned (OpenSpec.ofChange lineAllWrong)

/-- 'presidiolaw12.LineOrder': WHATEVER THE INPUT: true; the input reads as it did. -/
def lineOrderSpec : ChangeSpec := { name := "lineOrder", fn := fun _ => fun
  | [d1, d2, d3] => { results := [.lit (.bool true)], args := [d1, d2, d3] }
  | _ => none }
def lineOrderRow : OpenClaim := { program := "ytmhglfidggjfdaa", sum := "0d5d3015277362a31891c68ba7b4ffc8bc04230df1082d97c19cd8d552fd4883", func := "presidio/presidiolaw12.LineOrder", spec := "lineOrder", apart := false }
def LineOrderSaid : Prop := lineOrderRow.holds Try.pinned (OpenSpec.ofChange lineOrderSpec)

/-- ITS FALSE NEIGHBOUR: 'it returns false'. Refute it at one input. -/
def lineOrderWrong : ChangeSpec := { name := "lineOrder", fn := fun _ => fun
  | [d1, d2, d3] => { results := [.lit (.bool false)], args := [d1, d2, d3] }
  | _ => none }
def LineOrderWrongFalsely : Prop := lineOrderRow.holds Try.pinned (OpenSpec.ofChange lineOrderWrong)

/-- 'presidiolaw12.LineApart': WHATEVER THE INPUT: true; the input reads as it did. -/
def lineApartSpec : ChangeSpec := { name := "lineApart", fn := fun _ => fun
  | [d] => { results := [.lit (.bool true)], args := [d] }
  | _ => none }
def lineApartRow : OpenClaim := { program := "ytmhglfidggjfdaa", sum := "0d5d3015277362a31891c68ba7b4ffc8bc04230df1082d97c19cd8d552fd4883", func := "presidio/presidiolaw12.LineApart", spec := "lineApart", apart := false }
def LineApartSaid : Prop := lineApartRow.holds Try.pinned (OpenSpec.ofChange lineApartSpec)

/-- ITS FALSE NEIGHBOUR: 'it returns false'. Refute it at one input. -/
def lineApartWrong : ChangeSpec := { name := "lineApart", fn := fun _ => fun
  | [d] => { results := [.lit (.bool false)], args := [d] }
  | _ => none }
def LineApartWrongFalsely : Prop := lineApartRow.holds Try.pinned (OpenSpec.ofChange lineApartWrong)

/-- 'presidiolaw7.BillAll': WHATEVER THE INPUT: true; the input reads as it did. -/
def billAllSpec : ChangeSpec := { name := "billAll", fn := fun _ => fun
  | [d1, d2, d3] => { results := [.lit (.bool true)], args := [d1, d2, d3] }
  | _ => none }
def billAllRow : OpenClaim := { program := "ytmhglfidggjfdaa", sum := "0d5d3015277362a31891c68ba7b4ffc8bc04230df1082d97c19cd8d552fd4883", func := "presidio/presidiolaw7.BillAll", spec := "billAll", unfollowed := true, recurses := true, apart := false }
def BillAllSaid : Prop := billAllRow.holds Try.pinned (OpenSpec.ofChange billAllSpec)

/-- ITS FALSE NEIGHBOUR: 'it returns false'. Refute it at one input. -/
def billAllWrong : ChangeSpec := { name := "billAll", fn := fun _ => fun
  | [d1, d2, d3] => { results := [.lit (.bool false)], args := [d1, d2, d3] }
  | _ => none }
def BillAllWrongFalsely : Prop := billAllRow.holds Try.pinned (OpenSpec.ofChange billAllWrong)

/-- 'presidiolaw7.BillBack': WHATEVER THE INPUT: true; the input reads as it did. -/
def billBackSpec : ChangeSpec := { name := "billBack", fn := fun _ => fun
  | [d1, d2, d3] => { results := [.lit (.bool true)], args := [d1, d2, d3] }
  | _ => none }
def billBackRow : OpenClaim := { program := "ytmhglfidggjfdaa", sum := "0d5d3015277362a31891c68ba7b4ffc8bc04230df1082d97c19cd8d552fd4883", func := "presidio/presidiolaw7.BillBack", spec := "billBack", unfollowed := true, recurses := true, apart := false }
def BillBackSaid : Prop := billBackRow.holds Try.pinned (OpenSpec.ofChange billBackSpec)

/-- ITS FALSE NEIGHBOUR: 'it returns false'. Refute it at one input. -/
def billBackWrong : ChangeSpec := { name := "billBack", fn := fun _ => fun
  | [d1, d2, d3] => { results := [.lit (.bool false)], args := [d1, d2, d3] }
  | _ => none }
def BillBackWrongFalsely : Prop := billBackRow.holds Try.pinned (OpenSpec.ofChange billBackWrong)

/-- 'presidiolaw7.BillMany': WHATEVER THE INPUT: true; the input reads as it did. -/
def billManySpec : ChangeSpec := { name := "billMany", fn := fun _ => fun
  | [d1, d2, d3] => { results := [.lit (.bool true)], args := [d1, d2, d3] }
  | _ => none }
def billManyRow : OpenClaim := { program := "ytmhglfidggjfdaa", sum := "0d5d3015277362a31891c68ba7b4ffc8bc04230df1082d97c19cd8d552fd4883", func := "presidio/presidiolaw7.BillMany", spec := "billMany", unfollowed := true, recurses := true, apart := false }
def BillManySaid : Prop := billManyRow.holds Try.pinned (OpenSpec.ofChange billManySpec)

/-- ITS FALSE NEIGHBOUR: 'it returns false'. Refute it at one input. -/
def billManyWrong : ChangeSpec := { name := "billMany", fn := fun _ => fun
  | [d1, d2, d3] => { results := [.lit (.bool false)], args := [d1, d2, d3] }
  | _ => none }
def BillManyWrongFalsely : Prop := billManyRow.holds Try.pinned (OpenSpec.ofChange billManyWrong)

/-- 'presidiolaw7.BillForms': WHATEVER THE INPUT: true; the input reads as it did. -/
def billFormsSpec : ChangeSpec := { name := "billForms", fn := fun _ => fun
  | [] => { results := [.lit (.bool true)], args := [] }
  | _ => none }
def billFormsRow : OpenClaim := { program := "ytmhglfidggjfdaa", sum := "0d5d3015277362a31891c68ba7b4ffc8bc04230df1082d97c19cd8d552fd4883", func := "presidio/presidiolaw7.BillForms", spec := "billForms", unfollowed := true, recurses := true, apart := false }
def BillFormsSaid : Prop := billFormsRow.holds Try.pinned (OpenSpec.ofChange billFormsSpec)

/-- ITS FALSE NEIGHBOUR: 'it returns false'. Refute it at one input. -/
def billFormsWrong : ChangeSpec := { name := "billForms", fn := fun _ => fun
  | [] => { results := [.lit (.bool false)], args := [] }
  | _ => none }
def BillFormsWrongFalsely : Prop := billFormsRow.holds Try.pinned (OpenSpec.ofChange billFormsWrong)

/- THE SECOND FORM. 'bulk': how many values and letters a reading holds, each counted each time it is reached (what is shared counts as often as it is met; a slice's spare places count too). A statement '..UptoSaid' is the law's where the arguments, and the package variables that the reading takes, are together of bulk at most 1048576: NARROWER than '..Said'. Prove '..Said' where nothing that the law and all that it calls make is longer than what came in: it says more and counts as full. Else prove '..UptoSaid'. A law counts once. -/
mutual
def uptoBulk {H : Type} : DataW H → Nat
  | .lit (.string bytes) => bytes.length + 1
  | .lit _ => 1
  | .nil => 1
  | .ptr d => uptoBulk d + 1
  | .slice elems spare => uptoBulkAll elems + uptoBulkAll spare + 1
  | .agg parts => uptoBulkAll parts + 1
  | .iface _ d => uptoBulk d + 1
  | .map entries => uptoBulkEntries entries + 1
  | .held _ => 1
def uptoBulkAll {H : Type} : List (DataW H) → Nat
  | [] => 0
  | d :: r => uptoBulk d + uptoBulkAll r
def uptoBulkEntries {H : Type} : List (Lit × DataW H) → Nat
  | [] => 0
  | x :: r => uptoBulkEntry x + uptoBulkEntries r
def uptoBulkEntry {H : Type} : Lit × DataW H → Nat
  | (.string bytes, d) => bytes.length + uptoBulk d + 1
  | (_, d) => uptoBulk d + 1
 end
def uptoSmall : (H : Type) → List (DataW H) → Bool := fun _ ds => decide (uptoBulkAll ds ≤ 1048576)
def OpenSpec.upto (s : _root_.Go.ChangeSpec) : _root_.Go.OpenSpec := { _root_.Go.OpenSpec.ofChange s with cond := some uptoSmall }

/-- 'presidiolaw12.LineAll', WHERE WHAT IT READS IS OF BULK AT MOST 1048576: true; the input reads as it did. -/
def lineAllUptoRow : OpenClaim := { program := "ytmhglfidggjfdaa", sum := "0d5d3015277362a31891c68ba7b4ffc8bc04230df1082d97c19cd8d552fd4883", func := "presidio/presidiolaw12.LineAll", spec := "lineAll", apart := false, narrowed := true }
def LineAllUptoSaid : Prop := lineAllUptoRow.holds Try.pinned (OpenSpec.upto lineAllSpec)

/-- 'presidiolaw12.LineOrder', WHERE WHAT IT READS IS OF BULK AT MOST 1048576: true; the input reads as it did. -/
def lineOrderUptoRow : OpenClaim := { program := "ytmhglfidggjfdaa", sum := "0d5d3015277362a31891c68ba7b4ffc8bc04230df1082d97c19cd8d552fd4883", func := "presidio/presidiolaw12.LineOrder", spec := "lineOrder", apart := false, narrowed := true }
def LineOrderUptoSaid : Prop := lineOrderUptoRow.holds Try.pinned (OpenSpec.upto lineOrderSpec)

/-- 'presidiolaw12.LineApart', WHERE WHAT IT READS IS OF BULK AT MOST 1048576: true; the input reads as it did. -/
def lineApartUptoRow : OpenClaim := { program := "ytmhglfidggjfdaa", sum := "0d5d3015277362a31891c68ba7b4ffc8bc04230df1082d97c19cd8d552fd4883", func := "presidio/presidiolaw12.LineApart", spec := "lineApart", apart := false, narrowed := true }
def LineApartUptoSaid : Prop := lineApartUptoRow.holds Try.pinned (OpenSpec.upto lineApartSpec)

/-- 'presidiolaw7.BillAll', WHERE WHAT IT READS IS OF BULK AT MOST 1048576: true; the input reads as it did. -/
def billAllUptoRow : OpenClaim := { program := "ytmhglfidggjfdaa", sum := "0d5d3015277362a31891c68ba7b4ffc8bc04230df1082d97c19cd8d552fd4883", func := "presidio/presidiolaw7.BillAll", spec := "billAll", unfollowed := true, recurses := true, apart := false, narrowed := true }
def BillAllUptoSaid : Prop := billAllUptoRow.holds Try.pinned (OpenSpec.upto billAllSpec)

/-- 'presidiolaw7.BillBack', WHERE WHAT IT READS IS OF BULK AT MOST 1048576: true; the input reads as it did. -/
def billBackUptoRow : OpenClaim := { program := "ytmhglfidggjfdaa", sum := "0d5d3015277362a31891c68ba7b4ffc8bc04230df1082d97c19cd8d552fd4883", func := "presidio/presidiolaw7.BillBack", spec := "billBack", unfollowed := true, recurses := true, apart := false, narrowed := true }
def BillBackUptoSaid : Prop := billBackUptoRow.holds Try.pinned (OpenSpec.upto billBackSpec)

/-- 'presidiolaw7.BillMany', WHERE WHAT IT READS IS OF BULK AT MOST 1048576: true; the input reads as it did. -/
def billManyUptoRow : OpenClaim := { program := "ytmhglfidggjfdaa", sum := "0d5d3015277362a31891c68ba7b4ffc8bc04230df1082d97c19cd8d552fd4883", func := "presidio/presidiolaw7.BillMany", spec := "billMany", unfollowed := true, recurses := true, apart := false, narrowed := true }
def BillManyUptoSaid : Prop := billManyUptoRow.holds Try.pinned (OpenSpec.upto billManySpec)

/-- 'presidiolaw7.BillForms', WHERE WHAT IT READS IS OF BULK AT MOST 1048576: true; the input reads as it did. -/
def billFormsUptoRow : OpenClaim := { program := "ytmhglfidggjfdaa", sum := "0d5d3015277362a31891c68ba7b4ffc8bc04230df1082d97c19cd8d552fd4883", func := "presidio/presidiolaw7.BillForms", spec := "billForms", unfollowed := true, recurses := true, apart := false, narrowed := true }
def BillFormsUptoSaid : Prop := billFormsUptoRow.holds Try.pinned (OpenSpec.upto billFormsSpec)

end Rows
end Go.Proofs.Ytmhglfidggjfdaa
