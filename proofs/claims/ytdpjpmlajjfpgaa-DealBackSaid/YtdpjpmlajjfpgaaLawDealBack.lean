/- The deal's bytes are taken again, and cut or with more they are none: true for every deal, and any two bytes. No condition. -/
import Derived.Test.YtdpjpmlajjfpgaaRows
import Derived.Test.YtdpjpmlajjfpgaaDealV
import Derived.Test.YtdpjpmlajjfpgaaFrame
import Derived.Test.YtdpjpmlajjfpgaaOpen
import Derived.WalkKit
import Derived.ProofKit
import Derived.OpenShut
import Derived.ShutString
import Derived.ChangeOld
import Derived.Below
import Derived.SizedLaws
import Derived.Lib.SmallJoins
import Derived.Test.YtdpjpmlajjfpgaaDealO
namespace Go.Proofs.Ytdpjpmlajjfpgaa.dealBack
open Go.ChangeShapes Go.WideShapes Go.ChangeAt Go.RowKit Go.Joins Go.Proofs.Ytdpjpmlajjfpgaa.Frame Go.Proofs.Ytdpjpmlajjfpgaa.Open
open Go.ChangeMaps (open_string shut_string)
open Go.Proofs.Ytdpjpmlajjfpgaa.Deal
set_option linter.unusedVariables false
theorem own : ownKnob Try.prog.godebug = none := by kernel_rfl
theorem laidOut : laidOutB Try.prog = true := by kernel_rfl
set_option maxRecDepth 100000 in
theorem lifted (os : Os) (started : os.Started) (H : Type) (enc : TypeId × Value → H) :
    ReturnsInHanded {} Try.checked os 5 .any (Rows.dealBackSpec.pre6 enc Try.prog Try.f5 Rows.dealBackRow.domain false) (Rows.dealBackSpec.post enc Try.prog Try.f5 false true false false) := by
  refine returnsInHanded_of_change_sized (C := Try.checked) own started (by kernel_rfl) Try.func5
    (ChangeSpec.witness6 (enc := enc) (C := Try.checked) false ⟨#[], #[.agg #[.int .i64 0, .int .i64 0, .bool false, .slice none 0 0, .slice none 0 0], .int .u8 0, .int .u8 0], []⟩ 8 (by kernel_rfl) (by kernel_rfl) (by kernel_rfl) (by kernel_rfl)) ?_
  intro W base args ds gs before hval0 hW hcnd hsz0 _
  have hsz : (DataW.weightsEach Try.prog (Try.f5.params.toList ++ Rows.dealBackSpec.plain.varTypes Try.prog) (ds ++ gs)).all (· ≤ reachBytes) = true := hsz0
  have hval : ∀ (j : Nat) t v, Try.f5.params[j]? = some t → args[j]? = some v → Value.okWide Try.prog W .any base t v := hval0
  have hW' := hW
  obtain ⟨p, q, hA0, hV, rfl, hfz, hnd⟩ := hW
  have hA : DataW.TrodAll enc Try.prog W 0 (fun _ => true) true Try.f5.params.toList args.toList ds p := hA0
  rw [Try.params5] at hA hval hsz
  have keep := hA
  obtain ⟨v0, vs0, d0, ds0, p0, q0, hargs, rfl, hp0, h0, r0⟩ := trodAll_cons hA
  obtain ⟨v1, vs1, d1, ds1, p1, q1, rfl, rfl, rfl, h1, r1⟩ := trodAll_cons r0
  obtain ⟨v2, vs2, d2, ds2, p2, q2, rfl, rfl, rfl, h2, r2⟩ := trodAll_cons r1
  obtain ⟨rfl, rfl, rfl⟩ := trodAll_nil r2
  obtain rfl : args = #[v0, v1, v2] := by cases args; simp_all
  obtain ⟨rfl, rfl⟩ := trodVars_none hV
  have hlt : ∀ x ∈ p, x.block < W.heap.size := fun x hx => hW'.lt x (by simpa using hx)
  -- OPEN 0: type 25, kind ('struct', [(3, ('int', 'i64')), (3, ('int', 'i64')), (4, ('bool',)), (22, ('slice', 40, ('struct', [(3, ('int', 'i64')), (3, ('int', 'i64'))]))), (23, ('slice', 42, ('struct', [(3, ('int', 'i64')), (3, ('int', 'i64'))])))])
  obtain ⟨a1, rfl, rfl, hq1, w1⟩ := open_int Try.underlying5 (hval 1 5 v1 rfl rfl) h1
  obtain ⟨a2, rfl, rfl, hq2, w2⟩ := open_int Try.underlying5 (hval 2 5 v2 rfl rfl) h2
  obtain ⟨K0, S0, z0, A0, c0, rv0, B0, e0, sp0, rfl, hl0, hc0, hm0, hd0⟩ := DealO.open_deal (hval 0 25 v0 rfl rfl) h0
  refine (Deal.back_any W K0 S0 z0 A0 c0 rv0 B0 e0 sp0 _ _ hl0 hc0 hm0 hd0 (bounds_u8 w1) (bounds_u8 w2)).mono fun e W' ⟨he, bel⟩ => ?_
  subst he
  exact ⟨_, rfl, _, _, _, [], _, [], hW', trodAll_mk1 (shut_bool Try.underlying4 _), Frame.trodAll_below laidOut bel _ (by kernel_rfl) keep hlt, rfl, bel.frame _, fun h => by cases h⟩
theorem over : Rows.dealBackRow.holds Try.pinned (OpenSpec.ofChange Rows.dealBackSpec) :=
  OpenClaim.holds_of_wide 5 Try.f5 rfl rfl rfl rfl rfl rfl rfl ⟨rfl, rfl, rfl, rfl, rfl⟩ rfl rfl rfl rfl rfl (by kernel_rfl) Try.func5 (by kernel_rfl)
    (of_decide_eq_true (by kernel_rfl)) (by unfold Func.isWrapper; rw [if_neg (of_decide_eq_false (by kernel_rfl))]; exact ⟨rfl, rfl⟩)
    (fun os started H enc _ => lifted os started H enc)
theorem proved : Rows.DealBackSaid := over
#print axioms proved
end Go.Proofs.Ytdpjpmlajjfpgaa.dealBack
namespace Go.Proofs.Ytdpjpmlajjfpgaa
/-- The row, under a short name, for the claim. -/
theorem dealBack_holds : Rows.DealBackSaid := dealBack.proved
end Go.Proofs.Ytdpjpmlajjfpgaa
