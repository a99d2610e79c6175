/- Where pages lie, through any words. -/
import Derived.Test.YtdpjpmlajjfpgaaRows
import Derived.Test.YtdpjpmlajjfpgaaWlkA
import Derived.Test.YtdpjpmlajjfpgaaFrame
import Derived.Test.YtdpjpmlajjfpgaaOpen
import Derived.WalkKit
import Derived.ProofKit
import Derived.OpenShut
import Derived.ShutString
import Derived.ChangeOld
import Derived.Below
import Derived.SizedLaws
import Derived.Lib.SmallJoins
namespace Go.Proofs.Ytdpjpmlajjfpgaa.walkAll
open Go.ChangeShapes Go.WideShapes Go.ChangeAt Go.RowKit Go.Joins Go.Proofs.Ytdpjpmlajjfpgaa.Frame Go.Proofs.Ytdpjpmlajjfpgaa.Open
open Go.ChangeMaps (open_string shut_string)
set_option linter.unusedVariables false
theorem own : ownKnob Try.prog.godebug = none := by kernel_rfl
theorem laidOut : laidOutB Try.prog = true := by kernel_rfl
set_option maxRecDepth 100000 in
theorem lifted (os : Os) (started : os.Started) (H : Type) (enc : TypeId × Value → H) :
    ReturnsInHanded {} Try.checked os 7 .any (Rows.walkAllSpec.pre6 enc Try.prog Try.f7 Rows.walkAllRow.domain false) (Rows.walkAllSpec.post enc Try.prog Try.f7 false true false false) := by
  refine returnsInHanded_of_change_sized (C := Try.checked) own started (by kernel_rfl) Try.func7
    (ChangeSpec.witness6 (enc := enc) (C := Try.checked) false ⟨#[], #[.slice none 0 0, .int .i64 0, .int .i64 0], []⟩ 8 (by kernel_rfl) (by kernel_rfl) (by kernel_rfl) (by kernel_rfl)) ?_
  intro W base args ds gs before hval0 hW hcnd hsz0 _
  have hsz : (DataW.weightsEach Try.prog (Try.f7.params.toList ++ Rows.walkAllSpec.plain.varTypes Try.prog) (ds ++ gs)).all (· ≤ reachBytes) = true := hsz0
  have hval : ∀ (j : Nat) t v, Try.f7.params[j]? = some t → args[j]? = some v → Value.okWide Try.prog W .any base t v := hval0
  have hW' := hW
  obtain ⟨p, q, hA0, hV, rfl, hfz, hnd⟩ := hW
  have hA : DataW.TrodAll enc Try.prog W 0 (fun _ => true) true Try.f7.params.toList args.toList ds p := hA0
  rw [Try.params7] at hA hval hsz
  have keep := hA
  obtain ⟨v0, vs0, d0, ds0, p0, q0, hargs, rfl, hp0, h0, r0⟩ := trodAll_cons hA
  obtain ⟨v1, vs1, d1, ds1, p1, q1, rfl, rfl, rfl, h1, r1⟩ := trodAll_cons r0
  obtain ⟨v2, vs2, d2, ds2, p2, q2, rfl, rfl, rfl, h2, r2⟩ := trodAll_cons r1
  obtain ⟨rfl, rfl, rfl⟩ := trodAll_nil r2
  obtain rfl : args = #[v0, v1, v2] := by cases args; simp_all
  obtain ⟨rfl, rfl⟩ := trodVars_none hV
  have hlt : ∀ x ∈ p, x.block < W.heap.size := fun x hx => hW'.lt x (by simpa using hx)
  -- OPEN 0: type 44, kind ('slice', 49, ('array', 4, 5, ('int', 'u8')))
  obtain ⟨a1, rfl, rfl, hq1, w1⟩ := open_int Try.underlying3 (hval 1 3 v1 rfl rfl) h1
  obtain ⟨a2, rfl, rfl, hq2, w2⟩ := open_int Try.underlying3 (hval 2 3 v2 rfl rfl) h2
  obtain ⟨a0, len0, cap0, rfl⟩ := okWide_slice Try.underlying44 (hval 0 44 v0 rfl rfl)
  have call : Calls Try.prog 7 #[.slice a0 len0 cap0, .int .i64 a1, .int .i64 a2] W fun e w' => e = .returned (.bool true) ∧ Below W.heap.size W w' := by
    rcases flat_slice Try.underlying44 (sz := 4) (by kernel_rfl) (by decide) h0 with ⟨rfl, rfl, rfl⟩ | ⟨b, off, hl, hm, hp, hr⟩
    · exact Ram.walks_any W none 0 0 0 0 a1 a2 (fun h => absurd h (by omega)) (Nat.le_refl _) (fun i hi => absurd hi (by omega))
    · refine Ram.walks_any W a0 b off len0 cap0 a1 a2 (fun h => (hp h).1) hl (fun i hi => ?_)
      obtain ⟨cs, fu, x, hcl, hx, hc⟩ := hr i hi
      obtain ⟨z0, h0z, w0z⟩ := int_of (m := 3) (T := 5) (k := .u8) (j := 0) hx (by kernel_rfl) Try.underlying5 (Nat.le_of_eq (hcl.trans (by kernel_rfl)))
      obtain ⟨z1, h1z, w1z⟩ := int_of (m := 3) (T := 5) (k := .u8) (j := 1) hx (by kernel_rfl) Try.underlying5 (Nat.le_of_eq (hcl.trans (by kernel_rfl)))
      obtain ⟨z2, h2z, w2z⟩ := int_of (m := 3) (T := 5) (k := .u8) (j := 2) hx (by kernel_rfl) Try.underlying5 (Nat.le_of_eq (hcl.trans (by kernel_rfl)))
      obtain ⟨z3, h3z, w3z⟩ := int_of (m := 3) (T := 5) (k := .u8) (j := 3) hx (by kernel_rfl) Try.underlying5 (Nat.le_of_eq (hcl.trans (by kernel_rfl)))
      exact ⟨z0, z1, z2, z3, (hc 0 (by decide)).trans h0z, (hc 1 (by decide)).trans h1z, (hc 2 (by decide)).trans h2z, (hc 3 (by decide)).trans h3z, bounds_u8 w0z, bounds_u8 w1z, bounds_u8 w2z, bounds_u8 w3z⟩
  refine (call).mono fun e W' ⟨he, bel⟩ => ?_
  subst he
  exact ⟨_, rfl, _, _, _, [], _, [], hW', trodAll_mk1 (shut_bool Try.underlying4 _), Frame.trodAll_below laidOut bel _ (by kernel_rfl) keep hlt, rfl, bel.frame _, fun h => by cases h⟩
theorem over : Rows.walkAllRow.holds Try.pinned (OpenSpec.ofChange Rows.walkAllSpec) :=
  OpenClaim.holds_of_wide 7 Try.f7 rfl rfl rfl rfl rfl rfl rfl ⟨rfl, rfl, rfl, rfl, rfl⟩ rfl rfl rfl rfl rfl (by kernel_rfl) Try.func7 (by kernel_rfl)
    (of_decide_eq_true (by kernel_rfl)) (by unfold Func.isWrapper; rw [if_neg (of_decide_eq_false (by kernel_rfl))]; exact ⟨rfl, rfl⟩)
    (fun os started H enc _ => lifted os started H enc)
theorem proved : Rows.WalkAllSaid := over
#print axioms proved
end Go.Proofs.Ytdpjpmlajjfpgaa.walkAll
namespace Go.Proofs.Ytdpjpmlajjfpgaa
/-- The row, under a short name, for the claim. -/
theorem walkAll_holds : Rows.WalkAllSaid := walkAll.proved
end Go.Proofs.Ytdpjpmlajjfpgaa
