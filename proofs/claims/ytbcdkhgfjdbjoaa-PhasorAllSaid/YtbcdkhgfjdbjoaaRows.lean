/-
  No cell of these rows narrows 'for every input' (looked for: loops, veiled, ifaces, maps, wideKeys, modest, calm, conditions, laid).
  DERIVED. THE GIVEN ROWS OF THIS SEAT. 11 by the template 'for every input the law returns true; each argument reads behind the call as it read before'; 0 by the template 'total and deterministic' (their statements: YtbcdkhgfjdbjoaaTotals.lean).
  GIVEN WITH THE SEED: the statements are not yours to turn. If you find one false, say at which input.
  Laid BY PROGRAM, IN A SANDBOX (cutbox-rows.mjs): the forced cells as the released guide's own fill.sh prints them over the translation 2551b8397c87369d… (all of the seat's roots in one cut). By AI agents, Wed Nov 11 2026. No macro, syntax, notation, axiom, sorry.
-/
import Derived.Test.YtbcdkhgfjdbjoaaChecked
import GoSem.Claim
import GoSem.ClaimJoined
import GoSem.ClaimMapViews
import Derived.JoinedTies
import Derived.KernelRfl
namespace Go.Proofs.Ytbcdkhgfjdbjoaa
/- THE CELL 'sum', in the pinned program and in every row, IS THE sha256 OF THE DUMP (.gsa) THAT YtbcdkhgfjdbjoaaProg.lean LOADS. Nothing in Lean hashes anything: it is a label: what it is worth is what the hold of that sum in a sandbox is worth. -/
noncomputable def Try.pinned : Pinned := { name := "ytbcdkhgfjdbjoaa", sum := "2551b8397c87369dff1e7e3ad6185d508e84b9ec885076d339b6958d8d38569c", checked := Try.checked }
namespace Rows
def none {H : Type} : Left H := { results := [], args := [] }

/-- 'presidiolaw13.PhasorAll': WHATEVER THE INPUT: true; the input reads as it did. -/
def phasorAllSpec : ChangeSpec := { name := "phasorAll", fn := fun _ => fun
  | [d1, d2] => { results := [.lit (.bool true)], args := [d1, d2] }
  | _ => none }
def phasorAllRow : OpenClaim := { program := "ytbcdkhgfjdbjoaa", sum := "2551b8397c87369dff1e7e3ad6185d508e84b9ec885076d339b6958d8d38569c", func := "presidio/presidiolaw13.PhasorAll", spec := "phasorAll", apart := false }
def PhasorAllSaid : Prop := phasorAllRow.holds Try.pinned (OpenSpec.ofChange phasorAllSpec)

/-- ITS FALSE NEIGHBOUR: 'it returns false'. Refute it at one input. -/
def phasorAllWrong : ChangeSpec := { name := "phasorAll", fn := fun _ => fun
  | [d1, d2] => { results := [.lit (.bool false)], args := [d1, d2] }
  | _ => none }
def PhasorAllWrongFalsely : Prop := phasorAllRow.holds Try.pinned (OpenSpec.ofChange phasorAllWrong)

/-- 'presidiolaw13.PhasorReckons': WHATEVER THE INPUT: true; the input reads as it did. -/
def phasorReckonsSpec : ChangeSpec := { name := "phasorReckons", fn := fun _ => fun
  | [d1, d2, d3, d4] => { results := [.lit (.bool true)], args := [d1, d2, d3, d4] }
  | _ => none }
def phasorReckonsRow : OpenClaim := { program := "ytbcdkhgfjdbjoaa", sum := "2551b8397c87369dff1e7e3ad6185d508e84b9ec885076d339b6958d8d38569c", func := "presidio/presidiolaw13.PhasorReckons", spec := "phasorReckons", apart := false }
def PhasorReckonsSaid : Prop := phasorReckonsRow.holds Try.pinned (OpenSpec.ofChange phasorReckonsSpec)

/-- ITS FALSE NEIGHBOUR: 'it returns false'. Refute it at one input. -/
def phasorReckonsWrong : ChangeSpec := { name := "phasorReckons", fn := fun _ => fun
  | [d1, d2, d3, d4] => { results := [.lit (.bool false)], args := [d1, d2, d3, d4] }
  | _ => none }
def PhasorReckonsWrongFalsely : Prop := phasorReckonsRow.holds Try.pinned (OpenSpec.ofChange phasorReckonsWrong)

/-- 'presidiolaw13.PhasorSums': WHATEVER THE INPUT: true; the input reads as it did. -/
def phasorSumsSpec : ChangeSpec := { name := "phasorSums", fn := fun _ => fun
  | [d1, d2, d3] => { results := [.lit (.bool true)], args := [d1, d2, d3] }
  | _ => none }
def phasorSumsRow : OpenClaim := { program := "ytbcdkhgfjdbjoaa", sum := "2551b8397c87369dff1e7e3ad6185d508e84b9ec885076d339b6958d8d38569c", func := "presidio/presidiolaw13.PhasorSums", spec := "phasorSums", apart := false }
def PhasorSumsSaid : Prop := phasorSumsRow.holds Try.pinned (OpenSpec.ofChange phasorSumsSpec)

/-- ITS FALSE NEIGHBOUR: 'it returns false'. Refute it at one input. -/
def phasorSumsWrong : ChangeSpec := { name := "phasorSums", fn := fun _ => fun
  | [d1, d2, d3] => { results := [.lit (.bool false)], args := [d1, d2, d3] }
  | _ => none }
def PhasorSumsWrongFalsely : Prop := phasorSumsRow.holds Try.pinned (OpenSpec.ofChange phasorSumsWrong)

/-- 'presidiolaw13.PhasorTurns': WHATEVER THE INPUT: true; the input reads as it did. -/
def phasorTurnsSpec : ChangeSpec := { name := "phasorTurns", fn := fun _ => fun
  | [d1, d2, d3, d4] => { results := [.lit (.bool true)], args := [d1, d2, d3, d4] }
  | _ => none }
def phasorTurnsRow : OpenClaim := { program := "ytbcdkhgfjdbjoaa", sum := "2551b8397c87369dff1e7e3ad6185d508e84b9ec885076d339b6958d8d38569c", func := "presidio/presidiolaw13.PhasorTurns", spec := "phasorTurns", apart := false }
def PhasorTurnsSaid : Prop := phasorTurnsRow.holds Try.pinned (OpenSpec.ofChange phasorTurnsSpec)

/-- ITS FALSE NEIGHBOUR: 'it returns false'. Refute it at one input. -/
def phasorTurnsWrong : ChangeSpec := { name := "phasorTurns", fn := fun _ => fun
  | [d1, d2, d3, d4] => { results := [.lit (.bool false)], args := [d1, d2, d3, d4] }
  | _ => none }
def PhasorTurnsWrongFalsely : Prop := phasorTurnsRow.holds Try.pinned (OpenSpec.ofChange phasorTurnsWrong)

/-- 'presidiolaw13.PhasorClips': WHATEVER THE INPUT: true; the input reads as it did. -/
def phasorClipsSpec : ChangeSpec := { name := "phasorClips", fn := fun _ => fun
  | [d1, d2] => { results := [.lit (.bool true)], args := [d1, d2] }
  | _ => none }
def phasorClipsRow : OpenClaim := { program := "ytbcdkhgfjdbjoaa", sum := "2551b8397c87369dff1e7e3ad6185d508e84b9ec885076d339b6958d8d38569c", func := "presidio/presidiolaw13.PhasorClips", spec := "phasorClips", apart := false }
def PhasorClipsSaid : Prop := phasorClipsRow.holds Try.pinned (OpenSpec.ofChange phasorClipsSpec)

/-- ITS FALSE NEIGHBOUR: 'it returns false'. Refute it at one input. -/
def phasorClipsWrong : ChangeSpec := { name := "phasorClips", fn := fun _ => fun
  | [d1, d2] => { results := [.lit (.bool false)], args := [d1, d2] }
  | _ => none }
def PhasorClipsWrongFalsely : Prop := phasorClipsRow.holds Try.pinned (OpenSpec.ofChange phasorClipsWrong)

/-- 'presidiolaw1.RamAll': WHATEVER THE INPUT: true; the input reads as it did. -/
def ramAllSpec : ChangeSpec := { name := "ramAll", fn := fun _ => fun
  | [d1, d2, d3, d4] => { results := [.lit (.bool true)], args := [d1, d2, d3, d4] }
  | _ => none }
def ramAllRow : OpenClaim := { program := "ytbcdkhgfjdbjoaa", sum := "2551b8397c87369dff1e7e3ad6185d508e84b9ec885076d339b6958d8d38569c", func := "presidio/presidiolaw1.RamAll", spec := "ramAll", apart := false }
def RamAllSaid : Prop := ramAllRow.holds Try.pinned (OpenSpec.ofChange ramAllSpec)

/-- ITS FALSE NEIGHBOUR: 'it returns false'. Refute it at one input. -/
def ramAllWrong : ChangeSpec := { name := "ramAll", fn := fun _ => fun
  | [d1, d2, d3, d4] => { results := [.lit (.bool false)], args := [d1, d2, d3, d4] }
  | _ => none }
def RamAllWrongFalsely : Prop := ramAllRow.holds Try.pinned (OpenSpec.ofChange ramAllWrong)

/-- 'presidiolaw1.RamWorlds': WHATEVER THE INPUT: true; the input reads as it did. -/
def ramWorldsSpec : ChangeSpec := { name := "ramWorlds", fn := fun _ => fun
  | [d1, d2, d3] => { results := [.lit (.bool true)], args := [d1, d2, d3] }
  | _ => none }
def ramWorldsRow : OpenClaim := { program := "ytbcdkhgfjdbjoaa", sum := "2551b8397c87369dff1e7e3ad6185d508e84b9ec885076d339b6958d8d38569c", func := "presidio/presidiolaw1.RamWorlds", spec := "ramWorlds", apart := false }
def RamWorldsSaid : Prop := ramWorldsRow.holds Try.pinned (OpenSpec.ofChange ramWorldsSpec)

/-- ITS FALSE NEIGHBOUR: 'it returns false'. Refute it at one input. -/
def ramWorldsWrong : ChangeSpec := { name := "ramWorlds", fn := fun _ => fun
  | [d1, d2, d3] => { results := [.lit (.bool false)], args := [d1, d2, d3] }
  | _ => none }
def RamWorldsWrongFalsely : Prop := ramWorldsRow.holds Try.pinned (OpenSpec.ofChange ramWorldsWrong)

/-- 'presidiolaw1.RamWords': WHATEVER THE INPUT: true; the input reads as it did. -/
def ramWordsSpec : ChangeSpec := { name := "ramWords", fn := fun _ => fun
  | [d1, d2, d3] => { results := [.lit (.bool true)], args := [d1, d2, d3] }
  | _ => none }
def ramWordsRow : OpenClaim := { program := "ytbcdkhgfjdbjoaa", sum := "2551b8397c87369dff1e7e3ad6185d508e84b9ec885076d339b6958d8d38569c", func := "presidio/presidiolaw1.RamWords", spec := "ramWords", apart := false }
def RamWordsSaid : Prop := ramWordsRow.holds Try.pinned (OpenSpec.ofChange ramWordsSpec)

/-- ITS FALSE NEIGHBOUR: 'it returns false'. Refute it at one input. -/
def ramWordsWrong : ChangeSpec := { name := "ramWords", fn := fun _ => fun
  | [d1, d2, d3] => { results := [.lit (.bool false)], args := [d1, d2, d3] }
  | _ => none }
def RamWordsWrongFalsely : Prop := ramWordsRow.holds Try.pinned (OpenSpec.ofChange ramWordsWrong)

/-- 'presidiolaw1.RamNone': WHATEVER THE INPUT: true; the input reads as it did. -/
def ramNoneSpec : ChangeSpec := { name := "ramNone", fn := fun _ => fun
  | [d1, d2, d3] => { results := [.lit (.bool true)], args := [d1, d2, d3] }
  | _ => none }
def ramNoneRow : OpenClaim := { program := "ytbcdkhgfjdbjoaa", sum := "2551b8397c87369dff1e7e3ad6185d508e84b9ec885076d339b6958d8d38569c", func := "presidio/presidiolaw1.RamNone", spec := "ramNone", apart := false }
def RamNoneSaid : Prop := ramNoneRow.holds Try.pinned (OpenSpec.ofChange ramNoneSpec)

/-- ITS FALSE NEIGHBOUR: 'it returns false'. Refute it at one input. -/
def ramNoneWrong : ChangeSpec := { name := "ramNone", fn := fun _ => fun
  | [d1, d2, d3] => { results := [.lit (.bool false)], args := [d1, d2, d3] }
  | _ => none }
def RamNoneWrongFalsely : Prop := ramNoneRow.holds Try.pinned (OpenSpec.ofChange ramNoneWrong)

/-- 'presidiolaw1.RamCopies': WHATEVER THE INPUT: true; the input reads as it did. -/
def ramCopiesSpec : ChangeSpec := { name := "ramCopies", fn := fun _ => fun
  | [d1, d2, d3] => { results := [.lit (.bool true)], args := [d1, d2, d3] }
  | _ => none }
def ramCopiesRow : OpenClaim := { program := "ytbcdkhgfjdbjoaa", sum := "2551b8397c87369dff1e7e3ad6185d508e84b9ec885076d339b6958d8d38569c", func := "presidio/presidiolaw1.RamCopies", spec := "ramCopies", apart := false }
def RamCopiesSaid : Prop := ramCopiesRow.holds Try.pinned (OpenSpec.ofChange ramCopiesSpec)

/-- ITS FALSE NEIGHBOUR: 'it returns false'. Refute it at one input. -/
def ramCopiesWrong : ChangeSpec := { name := "ramCopies", fn := fun _ => fun
  | [d1, d2, d3] => { results := [.lit (.bool false)], args := [d1, d2, d3] }
  | _ => none }
def RamCopiesWrongFalsely : Prop := ramCopiesRow.holds Try.pinned (OpenSpec.ofChange ramCopiesWrong)

/-- 'presidiolaw1.RamEdges': WHATEVER THE INPUT: true; the input reads as it did. -/
def ramEdgesSpec : ChangeSpec := { name := "ramEdges", fn := fun _ => fun
  | [d1, d2] => { results := [.lit (.bool true)], args := [d1, d2] }
  | _ => none }
def ramEdgesRow : OpenClaim := { program := "ytbcdkhgfjdbjoaa", sum := "2551b8397c87369dff1e7e3ad6185d508e84b9ec885076d339b6958d8d38569c", func := "presidio/presidiolaw1.RamEdges", spec := "ramEdges", apart := false }
def RamEdgesSaid : Prop := ramEdgesRow.holds Try.pinned (OpenSpec.ofChange ramEdgesSpec)

/-- ITS FALSE NEIGHBOUR: 'it returns false'. Refute it at one input. -/
def ramEdgesWrong : ChangeSpec := { name := "ramEdges", fn := fun _ => fun
  | [d1, d2] => { results := [.lit (.bool false)], args := [d1, d2] }
  | _ => none }
def RamEdgesWrongFalsely : Prop := ramEdgesRow.holds Try.pinned (OpenSpec.ofChange ramEdgesWrong)

/- THE SECOND FORM. 'bulk': how many values and letters a reading holds, each counted each time it is reached (what is shared counts as often as it is met; a slice's spare places count too). A statement '..UptoSaid' is the law's where the arguments, and the package variables that the reading takes, are together of bulk at most 1048576: NARROWER than '..Said'. Prove '..Said' where nothing that the law and all that it calls make is longer than what came in: it says more and counts as full. Else prove '..UptoSaid'. A law counts once. -/
mutual
def uptoBulk {H : Type} : DataW H → Nat
  | .lit (.string bytes) => bytes.length + 1
  | .lit _ => 1
  | .nil => 1
  | .ptr d => uptoBulk d + 1
  | .slice elems spare => uptoBulkAll elems + uptoBulkAll spare + 1
  | .agg parts => uptoBulkAll parts + 1
  | .iface _ d => uptoBulk d + 1
  | .map entries => uptoBulkEntries entries + 1
  | .held _ => 1
def uptoBulkAll {H : Type} : List (DataW H) → Nat
  | [] => 0
  | d :: r => uptoBulk d + uptoBulkAll r
def uptoBulkEntries {H : Type} : List (Lit × DataW H) → Nat
  | [] => 0
  | x :: r => uptoBulkEntry x + uptoBulkEntries r
def uptoBulkEntry {H : Type} : Lit × DataW H → Nat
  | (.string bytes, d) => bytes.length + uptoBulk d + 1
  | (_, d) => uptoBulk d + 1
 end
def uptoSmall : (H : Type) → List (DataW H) → Bool := fun _ ds => decide (uptoBulkAll ds ≤ 1048576)
def OpenSpec.upto (s : _root_.Go.ChangeSpec) : _root_.Go.OpenSpec := { _root_.Go.OpenSpec.ofChange s with cond := some uptoSmall }

/-- 'presidiolaw13.PhasorAll', WHERE WHAT IT READS IS OF BULK AT MOST 1048576: true; the input reads as it did. -/
def phasorAllUptoRow : OpenClaim := { program := "ytbcdkhgfjdbjoaa", sum := "2551b8397c87369dff1e7e3ad6185d508e84b9ec885076d339b6958d8d38569c", func := "presidio/presidiolaw13.PhasorAll", spec := "phasorAll", apart := false, narrowed := true }
def PhasorAllUptoSaid : Prop := phasorAllUptoRow.holds Try.pinned (OpenSpec.upto phasorAllSpec)

/-- 'presidiolaw13.PhasorReckons', WHERE WHAT IT READS IS OF BULK AT MOST 1048576: true; the input reads as it did. -/
def phasorReckonsUptoRow : OpenClaim := { program := "ytbcdkhgfjdbjoaa", sum := "2551b8397c87369dff1e7e3ad6185d508e84b9ec885076d339b6958d8d38569c", func := "presidio/presidiolaw13.PhasorReckons", spec := "phasorReckons", apart := false, narrowed := true }
def PhasorReckonsUptoSaid : Prop := phasorReckonsUptoRow.holds Try.pinned (OpenSpec.upto phasorReckonsSpec)

/-- 'presidiolaw13.PhasorSums', WHERE WHAT IT READS IS OF BULK AT MOST 1048576: true; the input reads as it did. -/
def phasorSumsUptoRow : OpenClaim := { program := "ytbcdkhgfjdbjoaa", sum := "2551b8397c87369dff1e7e3ad6185d508e84b9ec885076d339b6958d8d38569c", func := "presidio/presidiolaw13.PhasorSums", spec := "phasorSums", apart := false, narrowed := true }
def PhasorSumsUptoSaid : Prop := phasorSumsUptoRow.holds Try.pinned (OpenSpec.upto phasorSumsSpec)

/-- 'presidiolaw13.PhasorTurns', WHERE WHAT IT READS IS OF BULK AT MOST 1048576: true; the input reads as it did. -/
def phasorTurnsUptoRow : OpenClaim := { program := "ytbcdkhgfjdbjoaa", sum := "2551b8397c87369dff1e7e3ad6185d508e84b9ec885076d339b6958d8d38569c", func := "presidio/presidiolaw13.PhasorTurns", spec := "phasorTurns", apart := false, narrowed := true }
def PhasorTurnsUptoSaid : Prop := phasorTurnsUptoRow.holds Try.pinned (OpenSpec.upto phasorTurnsSpec)

/-- 'presidiolaw13.PhasorClips', WHERE WHAT IT READS IS OF BULK AT MOST 1048576: true; the input reads as it did. -/
def phasorClipsUptoRow : OpenClaim := { program := "ytbcdkhgfjdbjoaa", sum := "2551b8397c87369dff1e7e3ad6185d508e84b9ec885076d339b6958d8d38569c", func := "presidio/presidiolaw13.PhasorClips", spec := "phasorClips", apart := false, narrowed := true }
def PhasorClipsUptoSaid : Prop := phasorClipsUptoRow.holds Try.pinned (OpenSpec.upto phasorClipsSpec)

/-- 'presidiolaw1.RamAll', WHERE WHAT IT READS IS OF BULK AT MOST 1048576: true; the input reads as it did. -/
def ramAllUptoRow : OpenClaim := { program := "ytbcdkhgfjdbjoaa", sum := "2551b8397c87369dff1e7e3ad6185d508e84b9ec885076d339b6958d8d38569c", func := "presidio/presidiolaw1.RamAll", spec := "ramAll", apart := false, narrowed := true }
def RamAllUptoSaid : Prop := ramAllUptoRow.holds Try.pinned (OpenSpec.upto ramAllSpec)

/-- 'presidiolaw1.RamWorlds', WHERE WHAT IT READS IS OF BULK AT MOST 1048576: true; the input reads as it did. -/
def ramWorldsUptoRow : OpenClaim := { program := "ytbcdkhgfjdbjoaa", sum := "2551b8397c87369dff1e7e3ad6185d508e84b9ec885076d339b6958d8d38569c", func := "presidio/presidiolaw1.RamWorlds", spec := "ramWorlds", apart := false, narrowed := true }
def RamWorldsUptoSaid : Prop := ramWorldsUptoRow.holds Try.pinned (OpenSpec.upto ramWorldsSpec)

/-- 'presidiolaw1.RamWords', WHERE WHAT IT READS IS OF BULK AT MOST 1048576: true; the input reads as it did. -/
def ramWordsUptoRow : OpenClaim := { program := "ytbcdkhgfjdbjoaa", sum := "2551b8397c87369dff1e7e3ad6185d508e84b9ec885076d339b6958d8d38569c", func := "presidio/presidiolaw1.RamWords", spec := "ramWords", apart := false, narrowed := true }
def RamWordsUptoSaid : Prop := ramWordsUptoRow.holds Try.pinned (OpenSpec.upto ramWordsSpec)

/-- 'presidiolaw1.RamNone', WHERE WHAT IT READS IS OF BULK AT MOST 1048576: true; the input reads as it did. -/
def ramNoneUptoRow : OpenClaim := { program := "ytbcdkhgfjdbjoaa", sum := "2551b8397c87369dff1e7e3ad6185d508e84b9ec885076d339b6958d8d38569c", func := "presidio/presidiolaw1.RamNone", spec := "ramNone", apart := false, narrowed := true }
def RamNoneUptoSaid : Prop := ramNoneUptoRow.holds Try.pinned (OpenSpec.upto ramNoneSpec)

/-- 'presidiolaw1.RamCopies', WHERE WHAT IT READS IS OF BULK AT MOST 1048576: true; the input reads as it did. -/
def ramCopiesUptoRow : OpenClaim := { program := "ytbcdkhgfjdbjoaa", sum := "2551b8397c87369dff1e7e3ad6185d508e84b9ec885076d339b6958d8d38569c", func := "presidio/presidiolaw1.RamCopies", spec := "ramCopies", apart := false, narrowed := true }
def RamCopiesUptoSaid : Prop := ramCopiesUptoRow.holds Try.pinned (OpenSpec.upto ramCopiesSpec)

/-- 'presidiolaw1.RamEdges', WHERE WHAT IT READS IS OF BULK AT MOST 1048576: true; the input reads as it did. -/
def ramEdgesUptoRow : OpenClaim := { program := "ytbcdkhgfjdbjoaa", sum := "2551b8397c87369dff1e7e3ad6185d508e84b9ec885076d339b6958d8d38569c", func := "presidio/presidiolaw1.RamEdges", spec := "ramEdges", apart := false, narrowed := true }
def RamEdgesUptoSaid : Prop := ramEdgesUptoRow.holds Try.pinned (OpenSpec.upto ramEdgesSpec)

end Rows
end Go.Proofs.Ytbcdkhgfjdbjoaa
