/- A plea comes back, and eleven bytes are one plea's; no condition -/
import Derived.Test.YtlohonlcoedfhaaRows
import Derived.Test.YtlohonlcoedfhaaPleaB
import Derived.Test.YtlohonlcoedfhaaFrame
import Derived.Test.YtlohonlcoedfhaaArr11
import Derived.WalkKit
import Derived.ProofKit
import Derived.OpenShut
import Derived.ShutString
import Derived.ChangeOld
import Derived.Below
import Derived.SizedLaws
import Derived.Lib.SmallJoins
namespace Go.Proofs.Ytlohonlcoedfhaa.pleaBack
open Go.ChangeShapes Go.WideShapes Go.ChangeAt Go.RowKit Go.Joins Go.Proofs.Ytlohonlcoedfhaa.Frame Go.Proofs.Ytlohonlcoedfhaa.Open
open Go.ChangeMaps (open_string shut_string)
set_option linter.unusedVariables false
theorem own : ownKnob Try.prog.godebug = none := by kernel_rfl
theorem laidOut : laidOutB Try.prog = true := by kernel_rfl
set_option maxRecDepth 100000 in
theorem lifted (os : Os) (started : os.Started) (H : Type) (enc : TypeId × Value → H) :
    ReturnsInHanded {} Try.checked os 4 .any (Rows.pleaBackSpec.pre6 enc Try.prog Try.f4 Rows.pleaBackRow.domain false) (Rows.pleaBackSpec.post enc Try.prog Try.f4 false true false false) := by
  refine returnsInHanded_of_change_sized (C := Try.checked) own started (by kernel_rfl) Try.func4
    (ChangeSpec.witness6 (enc := enc) (C := Try.checked) false ⟨#[], #[.int .u64 0, .int .u8 0, .int .u16 0, .agg #[.int .u8 0, .int .u8 0, .int .u8 0, .int .u8 0, .int .u8 0, .int .u8 0, .int .u8 0, .int .u8 0, .int .u8 0, .int .u8 0, .int .u8 0]], []⟩ 8 (by kernel_rfl) (by kernel_rfl) (by kernel_rfl) (by kernel_rfl)) ?_
  intro W base args ds gs before hval0 hW hcnd hsz0 _
  have hsz : (DataW.weightsEach Try.prog (Try.f4.params.toList ++ Rows.pleaBackSpec.plain.varTypes Try.prog) (ds ++ gs)).all (· ≤ reachBytes) = true := hsz0
  have hval : ∀ (j : Nat) t v, Try.f4.params[j]? = some t → args[j]? = some v → Value.okWide Try.prog W .any base t v := hval0
  have hW' := hW
  obtain ⟨p, q, hA0, hV, rfl, hfz, hnd⟩ := hW
  have hA : DataW.TrodAll enc Try.prog W 0 (fun _ => true) true Try.f4.params.toList args.toList ds p := hA0
  rw [Try.params4] at hA hval hsz
  have keep := hA
  obtain ⟨v0, vs0, d0, ds0, p0, q0, hargs, rfl, hp0, h0, r0⟩ := trodAll_cons hA
  obtain ⟨v1, vs1, d1, ds1, p1, q1, rfl, rfl, rfl, h1, r1⟩ := trodAll_cons r0
  obtain ⟨v2, vs2, d2, ds2, p2, q2, rfl, rfl, rfl, h2, r2⟩ := trodAll_cons r1
  obtain ⟨v3, vs3, d3, ds3, p3, q3, rfl, rfl, rfl, h3, r3⟩ := trodAll_cons r2
  obtain ⟨rfl, rfl, rfl⟩ := trodAll_nil r3
  obtain rfl : args = #[v0, v1, v2, v3] := by cases args; simp_all
  obtain ⟨rfl, rfl⟩ := trodVars_none hV
  have hlt : ∀ x ∈ p, x.block < W.heap.size := fun x hx => hW'.lt x (by simpa using hx)
  obtain ⟨a0, rfl, rfl, hq0, w0⟩ := open_int Try.underlying22 (hval 0 22 v0 rfl rfl) h0
  obtain ⟨a1, rfl, rfl, hq1, w1⟩ := open_int Try.underlying5 (hval 1 5 v1 rfl rfl) h1
  obtain ⟨a2, rfl, rfl, hq2, w2⟩ := open_int Try.underlying34 (hval 2 34 v2 rfl rfl) h2
  -- OPEN 3: type 35, kind ('array', 11, 5, ('int', 'u8'))
  obtain ⟨cs3, rfl, hs3⟩ := okWide_array Try.underlying35 (hval 3 35 v3 rfl rfl)
  have hc3 : Try.prog.cellsOf 35 = 11 := by kernel_rfl
  have hi3 := ints_of_array (n := 11) Try.underlying35 Try.underlying5 (by kernel_rfl) hc3 (hs3.trans hc3) h3
  obtain ⟨z0, e0, u0⟩ := hi3 0 (by omega)
  obtain ⟨z1, e1, u1⟩ := hi3 1 (by omega)
  obtain ⟨z2, e2, u2⟩ := hi3 2 (by omega)
  obtain ⟨z3, e3, u3⟩ := hi3 3 (by omega)
  obtain ⟨z4, e4, u4⟩ := hi3 4 (by omega)
  obtain ⟨z5, e5, u5⟩ := hi3 5 (by omega)
  obtain ⟨z6, e6, u6⟩ := hi3 6 (by omega)
  obtain ⟨z7, e7, u7⟩ := hi3 7 (by omega)
  obtain ⟨z8, e8, u8⟩ := hi3 8 (by omega)
  obtain ⟨z9, e9, u9⟩ := hi3 9 (by omega)
  obtain ⟨z10, e10, u10⟩ := hi3 10 (by omega)
  obtain rfl := arr11 (hs3.trans hc3) e0 e1 e2 e3 e4 e5 e6 e7 e8 e9 e10
  refine (Plea.back W a0 a1 a2 z0 z1 z2 z3 z4 z5 z6 z7 z8 z9 z10 (bounds_u64 w0) (bounds_u8 w1) (bounds_u16 w2) (bounds_u8 u0) (bounds_u8 u1) (bounds_u8 u2) (bounds_u8 u3) (bounds_u8 u4) (bounds_u8 u5) (bounds_u8 u6) (bounds_u8 u7) (bounds_u8 u8) (bounds_u8 u9) (bounds_u8 u10)).mono fun e W' ⟨he, bel⟩ => ?_
  subst he
  exact ⟨_, rfl, _, _, _, [], _, [], hW', trodAll_mk1 (shut_bool Try.underlying4 _), Frame.trodAll_below laidOut bel _ (by kernel_rfl) keep hlt, rfl, bel.frame _, fun h => by cases h⟩
theorem over : Rows.pleaBackRow.holds Try.pinned (OpenSpec.ofChange Rows.pleaBackSpec) :=
  OpenClaim.holds_of_wide 4 Try.f4 rfl rfl rfl rfl rfl rfl rfl ⟨rfl, rfl, rfl, rfl, rfl⟩ rfl rfl rfl rfl rfl (by kernel_rfl) Try.func4 (by kernel_rfl)
    (of_decide_eq_true (by kernel_rfl)) (by unfold Func.isWrapper; rw [if_neg (of_decide_eq_false (by kernel_rfl))]; exact ⟨rfl, rfl⟩)
    (fun os started H enc _ => lifted os started H enc)
theorem proved : Rows.PleaBackSaid := over
#print axioms proved
end Go.Proofs.Ytlohonlcoedfhaa.pleaBack
namespace Go.Proofs.Ytlohonlcoedfhaa
/-- The row, under a short name, for the claim. -/
theorem pleaBack_holds : Rows.PleaBackSaid := pleaBack.proved
end Go.Proofs.Ytlohonlcoedfhaa
