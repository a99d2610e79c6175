/- An answer's words stand where they are looked for, and an error is its number with its sign; no condition -/
import Derived.Test.YtecliaogidemjaaRows
import Derived.Test.YtecliaogidemjaaWordE
import Derived.Test.YtecliaogidemjaaFrame
import Derived.Test.YtecliaogidemjaaArr
import Derived.WalkKit
import Derived.ProofKit
import Derived.OpenShut
import Derived.ShutString
import Derived.ChangeOld
import Derived.Below
import Derived.SizedLaws
import Derived.Lib.SmallJoins
namespace Go.Proofs.Ytecliaogidemjaa.wordAnswers
open Go.ChangeShapes Go.WideShapes Go.ChangeAt Go.RowKit Go.Joins Go.Proofs.Ytecliaogidemjaa.Frame Go.Proofs.Ytecliaogidemjaa.Open
open Go.ChangeMaps (open_string shut_string)
set_option linter.unusedVariables false
theorem own : ownKnob Try.prog.godebug = none := by kernel_rfl
theorem laidOut : laidOutB Try.prog = true := by kernel_rfl
set_option maxRecDepth 100000 in
theorem lifted (os : Os) (started : os.Started) (H : Type) (enc : TypeId × Value → H) :
    ReturnsInHanded {} Try.checked os 5 .any (Rows.wordAnswersSpec.pre6 enc Try.prog Try.f5 Rows.wordAnswersRow.domain false) (Rows.wordAnswersSpec.post enc Try.prog Try.f5 false true false false) := by
  refine returnsInHanded_of_change_sized (C := Try.checked) own started (by kernel_rfl) Try.func5
    (ChangeSpec.witness6 (enc := enc) (C := Try.checked) false ⟨#[], #[.agg #[.int .u64 0, .int .u64 0, .int .u64 0, .int .u64 0, .int .u64 0, .int .u64 0], .int .i16 0], []⟩ 8 (by kernel_rfl) (by kernel_rfl) (by kernel_rfl) (by kernel_rfl)) ?_
  intro W base args ds gs before hval0 hW hcnd hsz0 _
  have hsz : (DataW.weightsEach Try.prog (Try.f5.params.toList ++ Rows.wordAnswersSpec.plain.varTypes Try.prog) (ds ++ gs)).all (· ≤ reachBytes) = true := hsz0
  have hval : ∀ (j : Nat) t v, Try.f5.params[j]? = some t → args[j]? = some v → Value.okWide Try.prog W .any base t v := hval0
  have hW' := hW
  obtain ⟨p, q, hA0, hV, rfl, hfz, hnd⟩ := hW
  have hA : DataW.TrodAll enc Try.prog W 0 (fun _ => true) true Try.f5.params.toList args.toList ds p := hA0
  rw [Try.params5] at hA hval hsz
  have keep := hA
  obtain ⟨v0, vs0, d0, ds0, p0, q0, hargs, rfl, hp0, h0, r0⟩ := trodAll_cons hA
  obtain ⟨v1, vs1, d1, ds1, p1, q1, rfl, rfl, rfl, h1, r1⟩ := trodAll_cons r0
  obtain ⟨rfl, rfl, rfl⟩ := trodAll_nil r1
  obtain rfl : args = #[v0, v1] := by cases args; simp_all
  obtain ⟨rfl, rfl⟩ := trodVars_none hV
  have hlt : ∀ x ∈ p, x.block < W.heap.size := fun x hx => hW'.lt x (by simpa using hx)
  -- OPEN 0: type 32, kind ('array', 6, 23, ('int', 'u64'))
  obtain ⟨a1, rfl, rfl, hq1, w1⟩ := open_int Try.underlying33 (hval 1 33 v1 rfl rfl) h1
  obtain ⟨cs0, rfl, hs0⟩ := okWide_array Try.underlying32 (hval 0 32 v0 rfl rfl)
  have hc0 : Try.prog.cellsOf 32 = 6 := by kernel_rfl
  have hi0 := ints_of_array (n := 6) Try.underlying32 Try.underlying23 (by kernel_rfl) hc0 (hs0.trans hc0) h0
  obtain ⟨z0, e0, u0⟩ := hi0 0 (by omega)
  obtain ⟨z1, e1, u1⟩ := hi0 1 (by omega)
  obtain ⟨z2, e2, u2⟩ := hi0 2 (by omega)
  obtain ⟨z3, e3, u3⟩ := hi0 3 (by omega)
  obtain ⟨z4, e4, u4⟩ := hi0 4 (by omega)
  obtain ⟨z5, e5, u5⟩ := hi0 5 (by omega)
  obtain rfl := arr6 (hs0.trans hc0) e0 e1 e2 e3 e4 e5
  refine (Word.answers W z0 z1 z2 z3 z4 z5 a1 (bounds_i16 w1)).mono fun e W' ⟨he, bel⟩ => ?_
  subst he
  exact ⟨_, rfl, _, _, _, [], _, [], hW', trodAll_mk1 (shut_bool Try.underlying4 _), Frame.trodAll_below laidOut bel _ (by kernel_rfl) keep hlt, rfl, bel.frame _, fun h => by cases h⟩
theorem over : Rows.wordAnswersRow.holds Try.pinned (OpenSpec.ofChange Rows.wordAnswersSpec) :=
  OpenClaim.holds_of_wide 5 Try.f5 rfl rfl rfl rfl rfl rfl rfl ⟨rfl, rfl, rfl, rfl, rfl⟩ rfl rfl rfl rfl rfl (by kernel_rfl) Try.func5 (by kernel_rfl)
    (of_decide_eq_true (by kernel_rfl)) (by unfold Func.isWrapper; rw [if_neg (of_decide_eq_false (by kernel_rfl))]; exact ⟨rfl, rfl⟩)
    (fun os started H enc _ => lifted os started H enc)
theorem proved : Rows.WordAnswersSaid := over
#print axioms proved
end Go.Proofs.Ytecliaogidemjaa.wordAnswers
namespace Go.Proofs.Ytecliaogidemjaa
/-- The row, under a short name, for the claim. -/
theorem wordAnswers_holds : Rows.WordAnswersSaid := wordAnswers.proved
end Go.Proofs.Ytecliaogidemjaa
