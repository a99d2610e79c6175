/- What the device tells, word by word, in any run of forty stores, is as the document's answer says: true for all words and numbers. No condition. -/
import Derived.Test.YtbcdkhgfjdbjoaaRows
import Derived.Test.YtbcdkhgfjdbjoaaPhaJ
import Derived.Test.YtbcdkhgfjdbjoaaFrame
import Derived.WalkKit
import Derived.ProofKit
import Derived.OpenShut
import Derived.ShutString
import Derived.ChangeOld
import Derived.Below
import Derived.SizedLaws
import Derived.Lib.SmallJoins
namespace Go.Proofs.Ytbcdkhgfjdbjoaa.phasorAll
open Go.ChangeShapes Go.WideShapes Go.ChangeAt Go.RowKit Go.Joins Go.Proofs.Ytbcdkhgfjdbjoaa.Frame
open Go.ChangeMaps (open_string shut_string)
open Go.Proofs.Ytbcdkhgfjdbjoaa.Pha
set_option linter.unusedVariables false
theorem own : ownKnob Try.prog.godebug = none := by kernel_rfl
theorem laidOut : laidOutB Try.prog = true := by kernel_rfl
set_option maxRecDepth 100000 in
theorem lifted (os : Os) (started : os.Started) (H : Type) (enc : TypeId × Value → H) :
    ReturnsInHanded {} Try.checked os 3 .any (Rows.phasorAllSpec.pre6 enc Try.prog Try.f3 Rows.phasorAllRow.domain false) (Rows.phasorAllSpec.post enc Try.prog Try.f3 false true false false) := by
  refine returnsInHanded_of_change_sized (C := Try.checked) own started (by kernel_rfl) Try.func3
    (ChangeSpec.witness6 (enc := enc) (C := Try.checked) false ⟨#[], #[.slice none 0 0, .slice none 0 0], []⟩ 8 (by kernel_rfl) (by kernel_rfl) (by kernel_rfl) (by kernel_rfl)) ?_
  intro W base args ds gs before hval0 hW hcnd hsz0 _
  have hsz : (DataW.weightsEach Try.prog (Try.f3.params.toList ++ Rows.phasorAllSpec.plain.varTypes Try.prog) (ds ++ gs)).all (· ≤ reachBytes) = true := hsz0
  have hval : ∀ (j : Nat) t v, Try.f3.params[j]? = some t → args[j]? = some v → Value.okWide Try.prog W .any base t v := hval0
  have hW' := hW
  obtain ⟨p, q, hA0, hV, rfl, hfz, hnd⟩ := hW
  have hA : DataW.TrodAll enc Try.prog W 0 (fun _ => true) true Try.f3.params.toList args.toList ds p := hA0
  rw [Try.params3] at hA hval hsz
  have keep := hA
  obtain ⟨v0, vs0, d0, ds0, p0, q0, hargs, rfl, hp0, h0, r0⟩ := trodAll_cons hA
  obtain ⟨v1, vs1, d1, ds1, p1, q1, rfl, rfl, rfl, h1, r1⟩ := trodAll_cons r0
  obtain ⟨rfl, rfl, rfl⟩ := trodAll_nil r1
  obtain rfl : args = #[v0, v1] := by cases args; simp_all
  obtain ⟨rfl, rfl⟩ := trodVars_none hV
  have hlt : ∀ x ∈ p, x.block < W.heap.size := fun x hx => hW'.lt x (by simpa using hx)
  obtain ⟨a0, len0, cap0, rfl⟩ := okWide_slice Try.underlying22 (hval 0 22 v0 rfl rfl)
  have y0 := sized_row hsz (j := 0) (t := 22) rfl rfl Try.underlying22 Try.underlying3 (by kernel_rfl) (B := 8) (by kernel_rfl) h0
  obtain ⟨z0, w0⟩ := isRow_of_trod Try.underlying22 Try.underlying3 (by kernel_rfl) h0
  obtain ⟨b0, o0, l0, rfl, hcap0, hmax0, ha0, hb0, hc0, hw0, hn0⟩ := w0.plain
  obtain ⟨a1, len1, cap1, rfl⟩ := okWide_slice Try.underlying23 (hval 1 23 v1 rfl rfl)
  have y1 := sized_row hsz (j := 1) (t := 23) rfl rfl Try.underlying23 Try.underlying32 (by kernel_rfl) (B := 8) (by kernel_rfl) h1
  obtain ⟨z1, w1⟩ := isRow_of_trod Try.underlying23 Try.underlying32 (by kernel_rfl) h1
  obtain ⟨b1, o1, l1, rfl, hcap1, hmax1, ha1, hb1, hc1, hw1, hn1⟩ := w1.plain
  refine (Pha.all_l W a0 b0 o0 cap0 l0 a1 b1 o1 cap1 l1 ha0 hc0 ha1 hc1).mono fun e W' ⟨he, bel⟩ => ?_
  subst he
  exact ⟨_, rfl, _, _, _, [], _, [], hW', trodAll_mk1 (shut_bool Try.underlying4 _), Frame.trodAll_below laidOut bel _ (by kernel_rfl) keep hlt, rfl, bel.frame _, fun h => by cases h⟩
theorem over : Rows.phasorAllRow.holds Try.pinned (OpenSpec.ofChange Rows.phasorAllSpec) :=
  OpenClaim.holds_of_wide 3 Try.f3 rfl rfl rfl rfl rfl rfl rfl ⟨rfl, rfl, rfl, rfl, rfl⟩ rfl rfl rfl rfl rfl (by kernel_rfl) Try.func3 (by kernel_rfl)
    (of_decide_eq_true (by kernel_rfl)) (by unfold Func.isWrapper; rw [if_neg (of_decide_eq_false (by kernel_rfl))]; exact ⟨rfl, rfl⟩)
    (fun os started H enc _ => lifted os started H enc)
theorem proved : Rows.PhasorAllSaid := over
#print axioms proved
end Go.Proofs.Ytbcdkhgfjdbjoaa.phasorAll
namespace Go.Proofs.Ytbcdkhgfjdbjoaa
/-- The row, under a short name, for the claim. -/
theorem phasorAll_holds : Rows.PhasorAllSaid := phasorAll.proved
end Go.Proofs.Ytbcdkhgfjdbjoaa
