/- A narrow call sees narrow words, a wide one all, and which calls there are; no condition -/
import Derived.Test.YtecliaogidemjaaRows
import Derived.Test.YtecliaogidemjaaWordC
import Derived.Test.YtecliaogidemjaaFrame
import Derived.Test.YtecliaogidemjaaArr
import Derived.WalkKit
import Derived.ProofKit
import Derived.OpenShut
import Derived.ShutString
import Derived.ChangeOld
import Derived.Below
import Derived.SizedLaws
import Derived.Lib.SmallJoins
namespace Go.Proofs.Ytecliaogidemjaa.wordCalls
open Go.ChangeShapes Go.WideShapes Go.ChangeAt Go.RowKit Go.Joins Go.Proofs.Ytecliaogidemjaa.Frame Go.Proofs.Ytecliaogidemjaa.Open
open Go.ChangeMaps (open_string shut_string)
set_option linter.unusedVariables false
theorem own : ownKnob Try.prog.godebug = none := by kernel_rfl
theorem laidOut : laidOutB Try.prog = true := by kernel_rfl
set_option maxRecDepth 100000 in
theorem lifted (os : Os) (started : os.Started) (H : Type) (enc : TypeId × Value → H) :
    ReturnsInHanded {} Try.checked os 3 .any (Rows.wordCallsSpec.pre6 enc Try.prog Try.f3 Rows.wordCallsRow.domain false) (Rows.wordCallsSpec.post enc Try.prog Try.f3 false true false false) := by
  refine returnsInHanded_of_change_sized (C := Try.checked) own started (by kernel_rfl) Try.func3
    (ChangeSpec.witness6 (enc := enc) (C := Try.checked) false ⟨#[], #[.int .u16 0, .agg #[.int .u64 0, .int .u64 0, .int .u64 0, .int .u64 0, .int .u64 0, .int .u64 0, .int .u64 0, .int .u64 0]], []⟩ 8 (by kernel_rfl) (by kernel_rfl) (by kernel_rfl) (by kernel_rfl)) ?_
  intro W base args ds gs before hval0 hW hcnd hsz0 _
  have hsz : (DataW.weightsEach Try.prog (Try.f3.params.toList ++ Rows.wordCallsSpec.plain.varTypes Try.prog) (ds ++ gs)).all (· ≤ reachBytes) = true := hsz0
  have hval : ∀ (j : Nat) t v, Try.f3.params[j]? = some t → args[j]? = some v → Value.okWide Try.prog W .any base t v := hval0
  have hW' := hW
  obtain ⟨p, q, hA0, hV, rfl, hfz, hnd⟩ := hW
  have hA : DataW.TrodAll enc Try.prog W 0 (fun _ => true) true Try.f3.params.toList args.toList ds p := hA0
  rw [Try.params3] at hA hval hsz
  have keep := hA
  obtain ⟨v0, vs0, d0, ds0, p0, q0, hargs, rfl, hp0, h0, r0⟩ := trodAll_cons hA
  obtain ⟨v1, vs1, d1, ds1, p1, q1, rfl, rfl, rfl, h1, r1⟩ := trodAll_cons r0
  obtain ⟨rfl, rfl, rfl⟩ := trodAll_nil r1
  obtain rfl : args = #[v0, v1] := by cases args; simp_all
  obtain ⟨rfl, rfl⟩ := trodVars_none hV
  have hlt : ∀ x ∈ p, x.block < W.heap.size := fun x hx => hW'.lt x (by simpa using hx)
  obtain ⟨a0, rfl, rfl, hq0, w0⟩ := open_int Try.underlying22 (hval 0 22 v0 rfl rfl) h0
  -- OPEN 1: type 25, kind ('array', 8, 23, ('int', 'u64'))
  obtain ⟨cs1, rfl, hs1⟩ := okWide_array Try.underlying25 (hval 1 25 v1 rfl rfl)
  have hc1 : Try.prog.cellsOf 25 = 8 := by kernel_rfl
  have hi1 := ints_of_array (n := 8) Try.underlying25 Try.underlying23 (by kernel_rfl) hc1 (hs1.trans hc1) h1
  obtain ⟨z0, e0, u0⟩ := hi1 0 (by omega)
  obtain ⟨z1, e1, u1⟩ := hi1 1 (by omega)
  obtain ⟨z2, e2, u2⟩ := hi1 2 (by omega)
  obtain ⟨z3, e3, u3⟩ := hi1 3 (by omega)
  obtain ⟨z4, e4, u4⟩ := hi1 4 (by omega)
  obtain ⟨z5, e5, u5⟩ := hi1 5 (by omega)
  obtain ⟨z6, e6, u6⟩ := hi1 6 (by omega)
  obtain ⟨z7, e7, u7⟩ := hi1 7 (by omega)
  obtain rfl := arr8 (hs1.trans hc1) e0 e1 e2 e3 e4 e5 e6 e7
  refine (Word.calls W a0 (bounds_u16 w0) z0 z1 z2 z3 z4 z5 z6 z7 (bounds_u64 u0) (bounds_u64 u1) (bounds_u64 u2) (bounds_u64 u3) (bounds_u64 u4) (bounds_u64 u5) (bounds_u64 u6) (bounds_u64 u7)).mono fun e W' ⟨he, bel⟩ => ?_
  subst he
  exact ⟨_, rfl, _, _, _, [], _, [], hW', trodAll_mk1 (shut_bool Try.underlying4 _), Frame.trodAll_below laidOut bel _ (by kernel_rfl) keep hlt, rfl, bel.frame _, fun h => by cases h⟩
theorem over : Rows.wordCallsRow.holds Try.pinned (OpenSpec.ofChange Rows.wordCallsSpec) :=
  OpenClaim.holds_of_wide 3 Try.f3 rfl rfl rfl rfl rfl rfl rfl ⟨rfl, rfl, rfl, rfl, rfl⟩ rfl rfl rfl rfl rfl (by kernel_rfl) Try.func3 (by kernel_rfl)
    (of_decide_eq_true (by kernel_rfl)) (by unfold Func.isWrapper; rw [if_neg (of_decide_eq_false (by kernel_rfl))]; exact ⟨rfl, rfl⟩)
    (fun os started H enc _ => lifted os started H enc)
theorem proved : Rows.WordCallsSaid := over
#print axioms proved
end Go.Proofs.Ytecliaogidemjaa.wordCalls
namespace Go.Proofs.Ytecliaogidemjaa
/-- The row, under a short name, for the claim. -/
theorem wordCalls_holds : Rows.WordCallsSaid := wordCalls.proved
end Go.Proofs.Ytecliaogidemjaa
