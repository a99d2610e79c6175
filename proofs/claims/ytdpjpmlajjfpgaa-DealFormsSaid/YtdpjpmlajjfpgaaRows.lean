/-
  No cell of these rows narrows 'for every input' (looked for: loops, veiled, ifaces, maps, wideKeys, modest, calm, conditions, laid).
  DERIVED. THE GIVEN ROWS OF THIS SEAT. 11 by the template 'for every input the law returns true; each argument reads behind the call as it read before'; 0 by the template 'total and deterministic' (their statements: YtdpjpmlajjfpgaaTotals.lean).
  GIVEN WITH THE SEED: the statements are not yours to turn. If you find one false, say at which input.
  Laid BY PROGRAM, IN A SANDBOX (cutbox-rows.mjs): the forced cells as the released guide's own fill.sh prints them over the translation 6aafc78e1b3f7758… (all of the seat's roots in one cut). By AI agents, Wed Nov 11 2026. No macro, syntax, notation, axiom, sorry.
-/
import Derived.Test.YtdpjpmlajjfpgaaChecked
import GoSem.Claim
import GoSem.ClaimJoined
import GoSem.ClaimMapViews
import Derived.JoinedTies
import Derived.KernelRfl
namespace Go.Proofs.Ytdpjpmlajjfpgaa
/- THE CELL 'sum', in the pinned program and in every row, IS THE sha256 OF THE DUMP (.gsa) THAT YtdpjpmlajjfpgaaProg.lean LOADS. Nothing in Lean hashes anything: it is a label: what it is worth is what the hold of that sum in a sandbox is worth. -/
noncomputable def Try.pinned : Pinned := { name := "ytdpjpmlajjfpgaa", sum := "6aafc78e1b3f77586542efce47e6e5bc26a94d3b5c9403eb6b993ec4739c5c64", checked := Try.checked }
namespace Rows
def none {H : Type} : Left H := { results := [], args := [] }

/-- 'presidiolaw18.DealAll': WHATEVER THE INPUT: true; the input reads as it did. -/
def dealAllSpec : ChangeSpec := { name := "dealAll", fn := fun _ => fun
  | [d1, d2] => { results := [.lit (.bool true)], args := [d1, d2] }
  | _ => none }
def dealAllRow : OpenClaim := { program := "ytdpjpmlajjfpgaa", sum := "6aafc78e1b3f77586542efce47e6e5bc26a94d3b5c9403eb6b993ec4739c5c64", func := "presidio/presidiolaw18.DealAll", spec := "dealAll", apart := false }
def DealAllSaid : Prop := dealAllRow.holds Try.pinned (OpenSpec.ofChange dealAllSpec)

/-- ITS FALSE NEIGHBOUR: 'it returns false'. Refute it at one input. -/
def dealAllWrong : ChangeSpec := { name := "dealAll", fn := fun _ => fun
  | [d1, d2] => { results := [.lit (.bool false)], args := [d1, d2] }
  | _ => none }
def DealAllWrongFalsely : Prop := dealAllRow.holds Try.pinned (OpenSpec.ofChange dealAllWrong)

/-- 'presidiolaw18.DealTurned': WHATEVER THE INPUT: true; the input reads as it did. -/
def dealTurnedSpec : ChangeSpec := { name := "dealTurned", fn := fun _ => fun
  | [d1, d2, d3] => { results := [.lit (.bool true)], args := [d1, d2, d3] }
  | _ => none }
def dealTurnedRow : OpenClaim := { program := "ytdpjpmlajjfpgaa", sum := "6aafc78e1b3f77586542efce47e6e5bc26a94d3b5c9403eb6b993ec4739c5c64", func := "presidio/presidiolaw18.DealTurned", spec := "dealTurned", apart := false }
def DealTurnedSaid : Prop := dealTurnedRow.holds Try.pinned (OpenSpec.ofChange dealTurnedSpec)

/-- ITS FALSE NEIGHBOUR: 'it returns false'. Refute it at one input. -/
def dealTurnedWrong : ChangeSpec := { name := "dealTurned", fn := fun _ => fun
  | [d1, d2, d3] => { results := [.lit (.bool false)], args := [d1, d2, d3] }
  | _ => none }
def DealTurnedWrongFalsely : Prop := dealTurnedRow.holds Try.pinned (OpenSpec.ofChange dealTurnedWrong)

/-- 'presidiolaw18.DealBack': WHATEVER THE INPUT: true; the input reads as it did. -/
def dealBackSpec : ChangeSpec := { name := "dealBack", fn := fun _ => fun
  | [d1, d2, d3] => { results := [.lit (.bool true)], args := [d1, d2, d3] }
  | _ => none }
def dealBackRow : OpenClaim := { program := "ytdpjpmlajjfpgaa", sum := "6aafc78e1b3f77586542efce47e6e5bc26a94d3b5c9403eb6b993ec4739c5c64", func := "presidio/presidiolaw18.DealBack", spec := "dealBack", apart := false }
def DealBackSaid : Prop := dealBackRow.holds Try.pinned (OpenSpec.ofChange dealBackSpec)

/-- ITS FALSE NEIGHBOUR: 'it returns false'. Refute it at one input. -/
def dealBackWrong : ChangeSpec := { name := "dealBack", fn := fun _ => fun
  | [d1, d2, d3] => { results := [.lit (.bool false)], args := [d1, d2, d3] }
  | _ => none }
def DealBackWrongFalsely : Prop := dealBackRow.holds Try.pinned (OpenSpec.ofChange dealBackWrong)

/-- 'presidiolaw18.DealForms': WHATEVER THE INPUT: true; the input reads as it did. -/
def dealFormsSpec : ChangeSpec := { name := "dealForms", fn := fun _ => fun
  | [] => { results := [.lit (.bool true)], args := [] }
  | _ => none }
def dealFormsRow : OpenClaim := { program := "ytdpjpmlajjfpgaa", sum := "6aafc78e1b3f77586542efce47e6e5bc26a94d3b5c9403eb6b993ec4739c5c64", func := "presidio/presidiolaw18.DealForms", spec := "dealForms", apart := false }
def DealFormsSaid : Prop := dealFormsRow.holds Try.pinned (OpenSpec.ofChange dealFormsSpec)

/-- ITS FALSE NEIGHBOUR: 'it returns false'. Refute it at one input. -/
def dealFormsWrong : ChangeSpec := { name := "dealForms", fn := fun _ => fun
  | [] => { results := [.lit (.bool false)], args := [] }
  | _ => none }
def DealFormsWrongFalsely : Prop := dealFormsRow.holds Try.pinned (OpenSpec.ofChange dealFormsWrong)

/-- 'presidiolaw4.WalkAll': WHATEVER THE INPUT: true; the input reads as it did. -/
def walkAllSpec : ChangeSpec := { name := "walkAll", fn := fun _ => fun
  | [d1, d2, d3] => { results := [.lit (.bool true)], args := [d1, d2, d3] }
  | _ => none }
def walkAllRow : OpenClaim := { program := "ytdpjpmlajjfpgaa", sum := "6aafc78e1b3f77586542efce47e6e5bc26a94d3b5c9403eb6b993ec4739c5c64", func := "presidio/presidiolaw4.WalkAll", spec := "walkAll", apart := false }
def WalkAllSaid : Prop := walkAllRow.holds Try.pinned (OpenSpec.ofChange walkAllSpec)

/-- ITS FALSE NEIGHBOUR: 'it returns false'. Refute it at one input. -/
def walkAllWrong : ChangeSpec := { name := "walkAll", fn := fun _ => fun
  | [d1, d2, d3] => { results := [.lit (.bool false)], args := [d1, d2, d3] }
  | _ => none }
def WalkAllWrongFalsely : Prop := walkAllRow.holds Try.pinned (OpenSpec.ofChange walkAllWrong)

/-- 'presidiolaw4.WalkPaths': WHATEVER THE INPUT: true; the input reads as it did. -/
def walkPathsSpec : ChangeSpec := { name := "walkPaths", fn := fun _ => fun
  | [d] => { results := [.lit (.bool true)], args := [d] }
  | _ => none }
def walkPathsRow : OpenClaim := { program := "ytdpjpmlajjfpgaa", sum := "6aafc78e1b3f77586542efce47e6e5bc26a94d3b5c9403eb6b993ec4739c5c64", func := "presidio/presidiolaw4.WalkPaths", spec := "walkPaths", apart := false }
def WalkPathsSaid : Prop := walkPathsRow.holds Try.pinned (OpenSpec.ofChange walkPathsSpec)

/-- ITS FALSE NEIGHBOUR: 'it returns false'. Refute it at one input. -/
def walkPathsWrong : ChangeSpec := { name := "walkPaths", fn := fun _ => fun
  | [d] => { results := [.lit (.bool false)], args := [d] }
  | _ => none }
def WalkPathsWrongFalsely : Prop := walkPathsRow.holds Try.pinned (OpenSpec.ofChange walkPathsWrong)

/-- 'presidiolaw4.WalkFaults': WHATEVER THE INPUT: true; the input reads as it did. -/
def walkFaultsSpec : ChangeSpec := { name := "walkFaults", fn := fun _ => fun
  | [d1, d2, d3, d4] => { results := [.lit (.bool true)], args := [d1, d2, d3, d4] }
  | _ => none }
def walkFaultsRow : OpenClaim := { program := "ytdpjpmlajjfpgaa", sum := "6aafc78e1b3f77586542efce47e6e5bc26a94d3b5c9403eb6b993ec4739c5c64", func := "presidio/presidiolaw4.WalkFaults", spec := "walkFaults", apart := false }
def WalkFaultsSaid : Prop := walkFaultsRow.holds Try.pinned (OpenSpec.ofChange walkFaultsSpec)

/-- ITS FALSE NEIGHBOUR: 'it returns false'. Refute it at one input. -/
def walkFaultsWrong : ChangeSpec := { name := "walkFaults", fn := fun _ => fun
  | [d1, d2, d3, d4] => { results := [.lit (.bool false)], args := [d1, d2, d3, d4] }
  | _ => none }
def WalkFaultsWrongFalsely : Prop := walkFaultsRow.holds Try.pinned (OpenSpec.ofChange walkFaultsWrong)

/-- 'presidiolaw4.WalkBlocks': WHATEVER THE INPUT: true; the input reads as it did. -/
def walkBlocksSpec : ChangeSpec := { name := "walkBlocks", fn := fun _ => fun
  | [d1, d2, d3] => { results := [.lit (.bool true)], args := [d1, d2, d3] }
  | _ => none }
def walkBlocksRow : OpenClaim := { program := "ytdpjpmlajjfpgaa", sum := "6aafc78e1b3f77586542efce47e6e5bc26a94d3b5c9403eb6b993ec4739c5c64", func := "presidio/presidiolaw4.WalkBlocks", spec := "walkBlocks", apart := false }
def WalkBlocksSaid : Prop := walkBlocksRow.holds Try.pinned (OpenSpec.ofChange walkBlocksSpec)

/-- ITS FALSE NEIGHBOUR: 'it returns false'. Refute it at one input. -/
def walkBlocksWrong : ChangeSpec := { name := "walkBlocks", fn := fun _ => fun
  | [d1, d2, d3] => { results := [.lit (.bool false)], args := [d1, d2, d3] }
  | _ => none }
def WalkBlocksWrongFalsely : Prop := walkBlocksRow.holds Try.pinned (OpenSpec.ofChange walkBlocksWrong)

/-- 'presidiolaw27.GuestPerms': WHATEVER THE INPUT: true; the input reads as it did. -/
def guestPermsSpec : ChangeSpec := { name := "guestPerms", fn := fun _ => fun
  | [d1, d2, d3, d4] => { results := [.lit (.bool true)], args := [d1, d2, d3, d4] }
  | _ => none }
def guestPermsRow : OpenClaim := { program := "ytdpjpmlajjfpgaa", sum := "6aafc78e1b3f77586542efce47e6e5bc26a94d3b5c9403eb6b993ec4739c5c64", func := "presidio/presidiolaw27.GuestPerms", spec := "guestPerms", apart := false }
def GuestPermsSaid : Prop := guestPermsRow.holds Try.pinned (OpenSpec.ofChange guestPermsSpec)

/-- ITS FALSE NEIGHBOUR: 'it returns false'. Refute it at one input. -/
def guestPermsWrong : ChangeSpec := { name := "guestPerms", fn := fun _ => fun
  | [d1, d2, d3, d4] => { results := [.lit (.bool false)], args := [d1, d2, d3, d4] }
  | _ => none }
def GuestPermsWrongFalsely : Prop := guestPermsRow.holds Try.pinned (OpenSpec.ofChange guestPermsWrong)

/-- 'presidiolaw27.GuestDevice': WHATEVER THE INPUT: true; the input reads as it did. -/
def guestDeviceSpec : ChangeSpec := { name := "guestDevice", fn := fun _ => fun
  | [d1, d2, d3, d4] => { results := [.lit (.bool true)], args := [d1, d2, d3, d4] }
  | _ => none }
def guestDeviceRow : OpenClaim := { program := "ytdpjpmlajjfpgaa", sum := "6aafc78e1b3f77586542efce47e6e5bc26a94d3b5c9403eb6b993ec4739c5c64", func := "presidio/presidiolaw27.GuestDevice", spec := "guestDevice", apart := false }
def GuestDeviceSaid : Prop := guestDeviceRow.holds Try.pinned (OpenSpec.ofChange guestDeviceSpec)

/-- ITS FALSE NEIGHBOUR: 'it returns false'. Refute it at one input. -/
def guestDeviceWrong : ChangeSpec := { name := "guestDevice", fn := fun _ => fun
  | [d1, d2, d3, d4] => { results := [.lit (.bool false)], args := [d1, d2, d3, d4] }
  | _ => none }
def GuestDeviceWrongFalsely : Prop := guestDeviceRow.holds Try.pinned (OpenSpec.ofChange guestDeviceWrong)

/-- 'presidiolaw27.GuestAll': WHATEVER THE INPUT: true; the input reads as it did. -/
def guestAllSpec : ChangeSpec := { name := "guestAll", fn := fun _ => fun
  | [d1, d2, d3, d4, d5, d6, d7, d8] => { results := [.lit (.bool true)], args := [d1, d2, d3, d4, d5, d6, d7, d8] }
  | _ => none }
def guestAllRow : OpenClaim := { program := "ytdpjpmlajjfpgaa", sum := "6aafc78e1b3f77586542efce47e6e5bc26a94d3b5c9403eb6b993ec4739c5c64", func := "presidio/presidiolaw27.GuestAll", spec := "guestAll", apart := false }
def GuestAllSaid : Prop := guestAllRow.holds Try.pinned (OpenSpec.ofChange guestAllSpec)

/-- ITS FALSE NEIGHBOUR: 'it returns false'. Refute it at one input. -/
def guestAllWrong : ChangeSpec := { name := "guestAll", fn := fun _ => fun
  | [d1, d2, d3, d4, d5, d6, d7, d8] => { results := [.lit (.bool false)], args := [d1, d2, d3, d4, d5, d6, d7, d8] }
  | _ => none }
def GuestAllWrongFalsely : Prop := guestAllRow.holds Try.pinned (OpenSpec.ofChange guestAllWrong)

/- THE SECOND FORM. 'bulk': how many values and letters a reading holds, each counted each time it is reached (what is shared counts as often as it is met; a slice's spare places count too). A statement '..UptoSaid' is the law's where the arguments, and the package variables that the reading takes, are together of bulk at most 1048576: NARROWER than '..Said'. Prove '..Said' where nothing that the law and all that it calls make is longer than what came in: it says more and counts as full. Else prove '..UptoSaid'. A law counts once. -/
mutual
def uptoBulk {H : Type} : DataW H → Nat
  | .lit (.string bytes) => bytes.length + 1
  | .lit _ => 1
  | .nil => 1
  | .ptr d => uptoBulk d + 1
  | .slice elems spare => uptoBulkAll elems + uptoBulkAll spare + 1
  | .agg parts => uptoBulkAll parts + 1
  | .iface _ d => uptoBulk d + 1
  | .map entries => uptoBulkEntries entries + 1
  | .held _ => 1
def uptoBulkAll {H : Type} : List (DataW H) → Nat
  | [] => 0
  | d :: r => uptoBulk d + uptoBulkAll r
def uptoBulkEntries {H : Type} : List (Lit × DataW H) → Nat
  | [] => 0
  | x :: r => uptoBulkEntry x + uptoBulkEntries r
def uptoBulkEntry {H : Type} : Lit × DataW H → Nat
  | (.string bytes, d) => bytes.length + uptoBulk d + 1
  | (_, d) => uptoBulk d + 1
 end
def uptoSmall : (H : Type) → List (DataW H) → Bool := fun _ ds => decide (uptoBulkAll ds ≤ 1048576)
def OpenSpec.upto (s : _root_.Go.ChangeSpec) : _root_.Go.OpenSpec := { _root_.Go.OpenSpec.ofChange s with cond := some uptoSmall }

/-- 'presidiolaw18.DealAll', WHERE WHAT IT READS IS OF BULK AT MOST 1048576: true; the input reads as it did. -/
def dealAllUptoRow : OpenClaim := { program := "ytdpjpmlajjfpgaa", sum := "6aafc78e1b3f77586542efce47e6e5bc26a94d3b5c9403eb6b993ec4739c5c64", func := "presidio/presidiolaw18.DealAll", spec := "dealAll", apart := false, narrowed := true }
def DealAllUptoSaid : Prop := dealAllUptoRow.holds Try.pinned (OpenSpec.upto dealAllSpec)

/-- 'presidiolaw18.DealTurned', WHERE WHAT IT READS IS OF BULK AT MOST 1048576: true; the input reads as it did. -/
def dealTurnedUptoRow : OpenClaim := { program := "ytdpjpmlajjfpgaa", sum := "6aafc78e1b3f77586542efce47e6e5bc26a94d3b5c9403eb6b993ec4739c5c64", func := "presidio/presidiolaw18.DealTurned", spec := "dealTurned", apart := false, narrowed := true }
def DealTurnedUptoSaid : Prop := dealTurnedUptoRow.holds Try.pinned (OpenSpec.upto dealTurnedSpec)

/-- 'presidiolaw18.DealBack', WHERE WHAT IT READS IS OF BULK AT MOST 1048576: true; the input reads as it did. -/
def dealBackUptoRow : OpenClaim := { program := "ytdpjpmlajjfpgaa", sum := "6aafc78e1b3f77586542efce47e6e5bc26a94d3b5c9403eb6b993ec4739c5c64", func := "presidio/presidiolaw18.DealBack", spec := "dealBack", apart := false, narrowed := true }
def DealBackUptoSaid : Prop := dealBackUptoRow.holds Try.pinned (OpenSpec.upto dealBackSpec)

/-- 'presidiolaw18.DealForms', WHERE WHAT IT READS IS OF BULK AT MOST 1048576: true; the input reads as it did. -/
def dealFormsUptoRow : OpenClaim := { program := "ytdpjpmlajjfpgaa", sum := "6aafc78e1b3f77586542efce47e6e5bc26a94d3b5c9403eb6b993ec4739c5c64", func := "presidio/presidiolaw18.DealForms", spec := "dealForms", apart := false, narrowed := true }
def DealFormsUptoSaid : Prop := dealFormsUptoRow.holds Try.pinned (OpenSpec.upto dealFormsSpec)

/-- 'presidiolaw4.WalkAll', WHERE WHAT IT READS IS OF BULK AT MOST 1048576: true; the input reads as it did. -/
def walkAllUptoRow : OpenClaim := { program := "ytdpjpmlajjfpgaa", sum := "6aafc78e1b3f77586542efce47e6e5bc26a94d3b5c9403eb6b993ec4739c5c64", func := "presidio/presidiolaw4.WalkAll", spec := "walkAll", apart := false, narrowed := true }
def WalkAllUptoSaid : Prop := walkAllUptoRow.holds Try.pinned (OpenSpec.upto walkAllSpec)

/-- 'presidiolaw4.WalkPaths', WHERE WHAT IT READS IS OF BULK AT MOST 1048576: true; the input reads as it did. -/
def walkPathsUptoRow : OpenClaim := { program := "ytdpjpmlajjfpgaa", sum := "6aafc78e1b3f77586542efce47e6e5bc26a94d3b5c9403eb6b993ec4739c5c64", func := "presidio/presidiolaw4.WalkPaths", spec := "walkPaths", apart := false, narrowed := true }
def WalkPathsUptoSaid : Prop := walkPathsUptoRow.holds Try.pinned (OpenSpec.upto walkPathsSpec)

/-- 'presidiolaw4.WalkFaults', WHERE WHAT IT READS IS OF BULK AT MOST 1048576: true; the input reads as it did. -/
def walkFaultsUptoRow : OpenClaim := { program := "ytdpjpmlajjfpgaa", sum := "6aafc78e1b3f77586542efce47e6e5bc26a94d3b5c9403eb6b993ec4739c5c64", func := "presidio/presidiolaw4.WalkFaults", spec := "walkFaults", apart := false, narrowed := true }
def WalkFaultsUptoSaid : Prop := walkFaultsUptoRow.holds Try.pinned (OpenSpec.upto walkFaultsSpec)

/-- 'presidiolaw4.WalkBlocks', WHERE WHAT IT READS IS OF BULK AT MOST 1048576: true; the input reads as it did. -/
def walkBlocksUptoRow : OpenClaim := { program := "ytdpjpmlajjfpgaa", sum := "6aafc78e1b3f77586542efce47e6e5bc26a94d3b5c9403eb6b993ec4739c5c64", func := "presidio/presidiolaw4.WalkBlocks", spec := "walkBlocks", apart := false, narrowed := true }
def WalkBlocksUptoSaid : Prop := walkBlocksUptoRow.holds Try.pinned (OpenSpec.upto walkBlocksSpec)

/-- 'presidiolaw27.GuestPerms', WHERE WHAT IT READS IS OF BULK AT MOST 1048576: true; the input reads as it did. -/
def guestPermsUptoRow : OpenClaim := { program := "ytdpjpmlajjfpgaa", sum := "6aafc78e1b3f77586542efce47e6e5bc26a94d3b5c9403eb6b993ec4739c5c64", func := "presidio/presidiolaw27.GuestPerms", spec := "guestPerms", apart := false, narrowed := true }
def GuestPermsUptoSaid : Prop := guestPermsUptoRow.holds Try.pinned (OpenSpec.upto guestPermsSpec)

/-- 'presidiolaw27.GuestDevice', WHERE WHAT IT READS IS OF BULK AT MOST 1048576: true; the input reads as it did. -/
def guestDeviceUptoRow : OpenClaim := { program := "ytdpjpmlajjfpgaa", sum := "6aafc78e1b3f77586542efce47e6e5bc26a94d3b5c9403eb6b993ec4739c5c64", func := "presidio/presidiolaw27.GuestDevice", spec := "guestDevice", apart := false, narrowed := true }
def GuestDeviceUptoSaid : Prop := guestDeviceUptoRow.holds Try.pinned (OpenSpec.upto guestDeviceSpec)

/-- 'presidiolaw27.GuestAll', WHERE WHAT IT READS IS OF BULK AT MOST 1048576: true; the input reads as it did. -/
def guestAllUptoRow : OpenClaim := { program := "ytdpjpmlajjfpgaa", sum := "6aafc78e1b3f77586542efce47e6e5bc26a94d3b5c9403eb6b993ec4739c5c64", func := "presidio/presidiolaw27.GuestAll", spec := "guestAll", apart := false, narrowed := true }
def GuestAllUptoSaid : Prop := guestAllUptoRow.holds Try.pinned (OpenSpec.upto guestAllSpec)

end Rows
end Go.Proofs.Ytdpjpmlajjfpgaa
