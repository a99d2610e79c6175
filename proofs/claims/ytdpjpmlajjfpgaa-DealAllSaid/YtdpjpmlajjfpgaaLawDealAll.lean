/- May, the bytes and what is taken of bytes are the reference's: true for every deal and any bytes. No condition. -/
import Derived.Test.YtdpjpmlajjfpgaaRows
import Derived.Test.YtdpjpmlajjfpgaaDealS
import Derived.Test.YtdpjpmlajjfpgaaFrame
import Derived.Test.YtdpjpmlajjfpgaaOpen
import Derived.WalkKit
import Derived.ProofKit
import Derived.OpenShut
import Derived.ShutString
import Derived.ChangeOld
import Derived.Below
import Derived.SizedLaws
import Derived.Lib.SmallJoins
import Derived.Test.YtdpjpmlajjfpgaaDealO
namespace Go.Proofs.Ytdpjpmlajjfpgaa.dealAll
open Go.ChangeShapes Go.WideShapes Go.ChangeAt Go.RowKit Go.Joins Go.Proofs.Ytdpjpmlajjfpgaa.Frame Go.Proofs.Ytdpjpmlajjfpgaa.Open
open Go.ChangeMaps (open_string shut_string)
open Go.Proofs.Ytdpjpmlajjfpgaa.Deal
set_option linter.unusedVariables false
theorem own : ownKnob Try.prog.godebug = none := by kernel_rfl
theorem laidOut : laidOutB Try.prog = true := by kernel_rfl
set_option maxRecDepth 100000 in
theorem lifted (os : Os) (started : os.Started) (H : Type) (enc : TypeId × Value → H) :
    ReturnsInHanded {} Try.checked os 3 .any (Rows.dealAllSpec.pre6 enc Try.prog Try.f3 Rows.dealAllRow.domain false) (Rows.dealAllSpec.post enc Try.prog Try.f3 false true false false) := by
  refine returnsInHanded_of_change_sized (C := Try.checked) own started (by kernel_rfl) Try.func3
    (ChangeSpec.witness6 (enc := enc) (C := Try.checked) false ⟨#[], #[.agg #[.int .i64 0, .int .i64 0, .bool false, .slice none 0 0, .slice none 0 0], .slice none 0 0], []⟩ 8 (by kernel_rfl) (by kernel_rfl) (by kernel_rfl) (by kernel_rfl)) ?_
  intro W base args ds gs before hval0 hW hcnd hsz0 _
  have hsz : (DataW.weightsEach Try.prog (Try.f3.params.toList ++ Rows.dealAllSpec.plain.varTypes Try.prog) (ds ++ gs)).all (· ≤ reachBytes) = true := hsz0
  have hval : ∀ (j : Nat) t v, Try.f3.params[j]? = some t → args[j]? = some v → Value.okWide Try.prog W .any base t v := hval0
  have hW' := hW
  obtain ⟨p, q, hA0, hV, rfl, hfz, hnd⟩ := hW
  have hA : DataW.TrodAll enc Try.prog W 0 (fun _ => true) true Try.f3.params.toList args.toList ds p := hA0
  rw [Try.params3] at hA hval hsz
  have keep := hA
  obtain ⟨v0, vs0, d0, ds0, p0, q0, hargs, rfl, hp0, h0, r0⟩ := trodAll_cons hA
  obtain ⟨v1, vs1, d1, ds1, p1, q1, rfl, rfl, rfl, h1, r1⟩ := trodAll_cons r0
  obtain ⟨rfl, rfl, rfl⟩ := trodAll_nil r1
  obtain rfl : args = #[v0, v1] := by cases args; simp_all
  obtain ⟨rfl, rfl⟩ := trodVars_none hV
  have hlt : ∀ x ∈ p, x.block < W.heap.size := fun x hx => hW'.lt x (by simpa using hx)
  -- OPEN 0: type 25, kind ('struct', [(3, ('int', 'i64')), (3, ('int', 'i64')), (4, ('bool',)), (22, ('slice', 40, ('struct', [(3, ('int', 'i64')), (3, ('int', 'i64'))]))), (23, ('slice', 42, ('struct', [(3, ('int', 'i64')), (3, ('int', 'i64'))])))])
  obtain ⟨a1, len1, cap1, rfl⟩ := okWide_slice Try.underlying26 (hval 1 26 v1 rfl rfl)
  have y1 := sized_row hsz (j := 1) (t := 26) rfl rfl Try.underlying26 Try.underlying5 (by kernel_rfl) (B := 1) (by kernel_rfl) h1
  obtain ⟨z1, w1⟩ := isRow_of_trod Try.underlying26 Try.underlying5 (by kernel_rfl) h1
  obtain ⟨b1, o1, l1, rfl, hcap1, hmax1, ha1, hb1, hc1, hw1, hn1⟩ := w1.plain
  obtain ⟨K0, S0, z0, A0, c0, rv0, B0, e0, sp0, rfl, hl0, hc0, hm0, hd0⟩ := DealO.open_deal (hval 0 25 v0 rfl rfl) h0
  refine (Deal.all_any W K0 S0 z0 A0 c0 rv0 B0 e0 sp0 a1 cap1 l1 hl0 hc0 hm0 hd0 (CRow.c_row (by unfold maxLen at hmax1; omega) ha1 hc1) hcap1 (fun x hx => bounds_u8 (hw1 x hx))).mono fun e W' ⟨he, bel⟩ => ?_
  subst he
  exact ⟨_, rfl, _, _, _, [], _, [], hW', trodAll_mk1 (shut_bool Try.underlying4 _), Frame.trodAll_below laidOut bel _ (by kernel_rfl) keep hlt, rfl, bel.frame _, fun h => by cases h⟩
theorem over : Rows.dealAllRow.holds Try.pinned (OpenSpec.ofChange Rows.dealAllSpec) :=
  OpenClaim.holds_of_wide 3 Try.f3 rfl rfl rfl rfl rfl rfl rfl ⟨rfl, rfl, rfl, rfl, rfl⟩ rfl rfl rfl rfl rfl (by kernel_rfl) Try.func3 (by kernel_rfl)
    (of_decide_eq_true (by kernel_rfl)) (by unfold Func.isWrapper; rw [if_neg (of_decide_eq_false (by kernel_rfl))]; exact ⟨rfl, rfl⟩)
    (fun os started H enc _ => lifted os started H enc)
theorem proved : Rows.DealAllSaid := over
#print axioms proved
end Go.Proofs.Ytdpjpmlajjfpgaa.dealAll
namespace Go.Proofs.Ytdpjpmlajjfpgaa
/-- The row, under a short name, for the claim. -/
theorem dealAll_holds : Rows.DealAllSaid := dealAll.proved
end Go.Proofs.Ytdpjpmlajjfpgaa
