/- In any run of at most forty deeds a box of the program has the pages and the letter that the reference's box has, and no box refuses all. No condition. -/
import Derived.Test.YtoimmobljpegmaaRows
import Derived.Test.YtoimmobljpegmaaBoxA
import Derived.Test.YtoimmobljpegmaaFrame
import Derived.Test.YtoimmobljpegmaaOpen
import Derived.WalkKit
import Derived.ProofKit
import Derived.OpenShut
import Derived.ShutString
import Derived.ChangeOld
import Derived.Below
import Derived.SizedLaws
import Derived.Lib.SmallJoins
namespace Go.Proofs.Ytoimmobljpegmaa.boxAll
open Go.ChangeShapes Go.WideShapes Go.ChangeAt Go.RowKit Go.Joins Go.Proofs.Ytoimmobljpegmaa.Frame Go.Proofs.Ytoimmobljpegmaa.Open
open Go.ChangeMaps (open_string shut_string)
set_option linter.unusedVariables false
theorem own : ownKnob Try.prog.godebug = none := by kernel_rfl
theorem laidOut : laidOutB Try.prog = true := by kernel_rfl
set_option maxRecDepth 100000 in
theorem lifted (os : Os) (started : os.Started) (H : Type) (enc : TypeId × Value → H) :
    ReturnsInHanded {} Try.checked os 7 .any (Rows.boxAllSpec.pre6 enc Try.prog Try.f7 Rows.boxAllRow.domain false) (Rows.boxAllSpec.post enc Try.prog Try.f7 false true false false) := by
  refine returnsInHanded_of_change_sized (C := Try.checked) own started (by kernel_rfl) Try.func7
    (ChangeSpec.witness6 (enc := enc) (C := Try.checked) false ⟨#[], #[.slice none 0 0], []⟩ 8 (by kernel_rfl) (by kernel_rfl) (by kernel_rfl) (by kernel_rfl)) ?_
  intro W base args ds gs before hval0 hW hcnd hsz0 _
  have hsz : (DataW.weightsEach Try.prog (Try.f7.params.toList ++ Rows.boxAllSpec.plain.varTypes Try.prog) (ds ++ gs)).all (· ≤ reachBytes) = true := hsz0
  have hval : ∀ (j : Nat) t v, Try.f7.params[j]? = some t → args[j]? = some v → Value.okWide Try.prog W .any base t v := hval0
  have hW' := hW
  obtain ⟨p, q, hA0, hV, rfl, hfz, hnd⟩ := hW
  have hA : DataW.TrodAll enc Try.prog W 0 (fun _ => true) true Try.f7.params.toList args.toList ds p := hA0
  rw [Try.params7] at hA hval hsz
  have keep := hA
  obtain ⟨v0, vs0, d0, ds0, p0, q0, hargs, rfl, hp0, h0, r0⟩ := trodAll_cons hA
  obtain ⟨rfl, rfl, rfl⟩ := trodAll_nil r0
  obtain rfl : args = #[v0] := by cases args; simp_all
  obtain ⟨rfl, rfl⟩ := trodVars_none hV
  have hlt : ∀ x ∈ p, x.block < W.heap.size := fun x hx => hW'.lt x (by simpa using hx)
  -- OPEN 0: type 32, kind ('slice', 39, ('struct', [(3, ('int', 'i64')), (3, ('int', 'i64')), (3, ('int', 'i64'))]))
  obtain ⟨a0, len0, cap0, rfl⟩ := okWide_slice Try.underlying32 (hval 0 32 v0 rfl rfl)
  have y0 := flat_sized hsz (j := 0) (t := 32) rfl rfl Try.underlying32 (B := 24) (by kernel_rfl) h0
  have call : Calls Try.prog 7 #[.slice a0 len0 cap0] W fun e w' => e = .returned (.bool true) ∧ Below W.heap.size W w' := by
    rcases flat_slice Try.underlying32 (sz := 3) (by kernel_rfl) (by decide) h0 with ⟨rfl, rfl, rfl⟩ | ⟨b, off, hl, hm, hp, hr⟩
    · exact Box.all_nil W _ _
    · rcases Nat.eq_zero_or_pos len0 with rfl | hpos
      · exact Box.all_nil W _ _
      · obtain ⟨rfl, hblt⟩ := hp hpos
        obtain ⟨kd, hk⟩ := int_col (m := 3) (T := 3) (k := .i64) (j := 0) (by kernel_rfl) (by kernel_rfl) Try.underlying3 (by decide) hr
        obtain ⟨sd, hs⟩ := int_col (m := 3) (T := 3) (k := .i64) (j := 1) (by kernel_rfl) (by kernel_rfl) Try.underlying3 (by decide) hr
        obtain ⟨td, ht⟩ := int_col (m := 3) (T := 3) (k := .i64) (j := 2) (by kernel_rfl) (by kernel_rfl) Try.underlying3 (by decide) hr
        exact Box.all_pos W b off len0 cap0 kd sd td (by omega) hblt (fun i hi => (hk i hi).1) (fun i hi => (hs i hi).1) (fun i hi => (ht i hi).1)
  refine (call).mono fun e W' ⟨he, bel⟩ => ?_
  subst he
  exact ⟨_, rfl, _, _, _, [], _, [], hW', trodAll_mk1 (shut_bool Try.underlying4 _), Frame.trodAll_below laidOut bel _ (by kernel_rfl) keep hlt, rfl, bel.frame _, fun h => by cases h⟩
theorem over : Rows.boxAllRow.holds Try.pinned (OpenSpec.ofChange Rows.boxAllSpec) :=
  OpenClaim.holds_of_wide 7 Try.f7 rfl rfl rfl rfl rfl rfl rfl ⟨rfl, rfl, rfl, rfl, rfl⟩ rfl rfl rfl rfl rfl (by kernel_rfl) Try.func7 (by kernel_rfl)
    (of_decide_eq_true (by kernel_rfl)) (by unfold Func.isWrapper; rw [if_neg (of_decide_eq_false (by kernel_rfl))]; exact ⟨rfl, rfl⟩)
    (fun os started H enc _ => lifted os started H enc)
theorem proved : Rows.BoxAllSaid := over
#print axioms proved
end Go.Proofs.Ytoimmobljpegmaa.boxAll
namespace Go.Proofs.Ytoimmobljpegmaa
/-- The row, under a short name, for the claim. -/
theorem boxAll_holds : Rows.BoxAllSaid := boxAll.proved
end Go.Proofs.Ytoimmobljpegmaa
