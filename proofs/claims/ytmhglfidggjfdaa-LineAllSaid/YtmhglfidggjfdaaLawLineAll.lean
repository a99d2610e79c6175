/- What interrupts, in which order, in any run of sixty deeds, is as the document's answer says: true for every number of processors and every deeds. No condition. -/
import Derived.Test.YtmhglfidggjfdaaRows
import Derived.Test.YtmhglfidggjfdaaLineW
import Derived.Test.YtmhglfidggjfdaaFrame
import Derived.Test.YtmhglfidggjfdaaOpen
import Derived.WalkKit
import Derived.ProofKit
import Derived.OpenShut
import Derived.ShutString
import Derived.ChangeOld
import Derived.Below
import Derived.SizedLaws
import Derived.Lib.SmallJoins
namespace Go.Proofs.Ytmhglfidggjfdaa.lineAll
open Go.ChangeShapes Go.WideShapes Go.ChangeAt Go.RowKit Go.Joins Go.Proofs.Ytmhglfidggjfdaa.Frame Go.Proofs.Ytmhglfidggjfdaa.Open
open Go.ChangeMaps (open_string shut_string)
open Go.Proofs.Ytmhglfidggjfdaa.Line
set_option linter.unusedVariables false
theorem own : ownKnob Try.prog.godebug = none := by kernel_rfl
theorem laidOut : laidOutB Try.prog = true := by kernel_rfl
set_option maxRecDepth 100000 in
theorem lifted (os : Os) (started : os.Started) (H : Type) (enc : TypeId × Value → H) :
    ReturnsInHanded {} Try.checked os 3 .any (Rows.lineAllSpec.pre6 enc Try.prog Try.f3 Rows.lineAllRow.domain false) (Rows.lineAllSpec.post enc Try.prog Try.f3 false true false false) := by
  refine returnsInHanded_of_change_sized (C := Try.checked) own started (by kernel_rfl) Try.func3
    (ChangeSpec.witness6 (enc := enc) (C := Try.checked) false ⟨#[], #[.int .i64 0, .slice none 0 0], []⟩ 8 (by kernel_rfl) (by kernel_rfl) (by kernel_rfl) (by kernel_rfl)) ?_
  intro W base args ds gs before hval0 hW hcnd hsz0 _
  have hsz : (DataW.weightsEach Try.prog (Try.f3.params.toList ++ Rows.lineAllSpec.plain.varTypes Try.prog) (ds ++ gs)).all (· ≤ reachBytes) = true := hsz0
  have hval : ∀ (j : Nat) t v, Try.f3.params[j]? = some t → args[j]? = some v → Value.okWide Try.prog W .any base t v := hval0
  have hW' := hW
  obtain ⟨p, q, hA0, hV, rfl, hfz, hnd⟩ := hW
  have hA : DataW.TrodAll enc Try.prog W 0 (fun _ => true) true Try.f3.params.toList args.toList ds p := hA0
  rw [Try.params3] at hA hval hsz
  have keep := hA
  obtain ⟨v0, vs0, d0, ds0, p0, q0, hargs, rfl, hp0, h0, r0⟩ := trodAll_cons hA
  obtain ⟨v1, vs1, d1, ds1, p1, q1, rfl, rfl, rfl, h1, r1⟩ := trodAll_cons r0
  obtain ⟨rfl, rfl, rfl⟩ := trodAll_nil r1
  obtain rfl : args = #[v0, v1] := by cases args; simp_all
  obtain ⟨rfl, rfl⟩ := trodVars_none hV
  have hlt : ∀ x ∈ p, x.block < W.heap.size := fun x hx => hW'.lt x (by simpa using hx)
  obtain ⟨a0, rfl, rfl, hq0, w0⟩ := open_int Try.underlying3 (hval 0 3 v0 rfl rfl) h0
  -- OPEN 1: type 22, kind ('slice', 29, ('struct', [(3, ('int', 'i64')), (3, ('int', 'i64')), (3, ('int', 'i64')), (5, ('int', 'u8'))]))
  obtain ⟨a1, len1, cap1, rfl⟩ := okWide_slice Try.underlying22 (hval 1 22 v1 rfl rfl)
  have call : Calls Try.prog 3 #[.int .i64 a0, .slice a1 len1 cap1] W fun e w' => e = .returned (.bool true) ∧ Below W.heap.size W w' := by
    rcases flat_slice Try.underlying22 (sz := 4) (by kernel_rfl) (by decide) h1 with ⟨rfl, rfl, rfl⟩ | ⟨b, off, hl, hm, hp, hr⟩
    · exact Line.all_any W a0 none 0 0 0 0 (fun h => absurd h (by omega)) (fun i hi => absurd hi (by omega))
    · refine Line.all_any W a0 a1 b off len1 cap1 (fun h => (hp h).1) (fun i hi => ?_)
      obtain ⟨cs, fu, x, hcl, hx, hc⟩ := hr i hi
      obtain ⟨k, hk, _⟩ := int_of (m := 3) (T := 3) (k := .i64) (j := 0) hx (by kernel_rfl) Try.underlying3 (Nat.le_of_eq (hcl.trans (by kernel_rfl)))
      obtain ⟨f, hf, _⟩ := int_of (m := 3) (T := 3) (k := .i64) (j := 1) hx (by kernel_rfl) Try.underlying3 (Nat.le_of_eq (hcl.trans (by kernel_rfl)))
      obtain ⟨o, ho, _⟩ := int_of (m := 3) (T := 3) (k := .i64) (j := 2) hx (by kernel_rfl) Try.underlying3 (Nat.le_of_eq (hcl.trans (by kernel_rfl)))
      obtain ⟨v, hv, wv⟩ := int_of (m := 3) (T := 5) (k := .u8) (j := 3) hx (by kernel_rfl) Try.underlying5 (Nat.le_of_eq (hcl.trans (by kernel_rfl)))
      have hv8 := bounds_u8 wv
      obtain ⟨m, rfl⟩ : ∃ m : Nat, v = m := ⟨v.toNat, by omega⟩
      exact ⟨k, f, o, m, by omega, (hc 0 (by decide)).trans hk, (hc 1 (by decide)).trans hf, (hc 2 (by decide)).trans ho, (hc 3 (by decide)).trans hv⟩
  refine (call).mono fun e W' ⟨he, bel⟩ => ?_
  subst he
  exact ⟨_, rfl, _, _, _, [], _, [], hW', trodAll_mk1 (shut_bool Try.underlying4 _), Frame.trodAll_below laidOut bel _ (by kernel_rfl) keep hlt, rfl, bel.frame _, fun h => by cases h⟩
theorem over : Rows.lineAllRow.holds Try.pinned (OpenSpec.ofChange Rows.lineAllSpec) :=
  OpenClaim.holds_of_wide 3 Try.f3 rfl rfl rfl rfl rfl rfl rfl ⟨rfl, rfl, rfl, rfl, rfl⟩ rfl rfl rfl rfl rfl (by kernel_rfl) Try.func3 (by kernel_rfl)
    (of_decide_eq_true (by kernel_rfl)) (by unfold Func.isWrapper; rw [if_neg (of_decide_eq_false (by kernel_rfl))]; exact ⟨rfl, rfl⟩)
    (fun os started H enc _ => lifted os started H enc)
theorem proved : Rows.LineAllSaid := over
#print axioms proved
end Go.Proofs.Ytmhglfidggjfdaa.lineAll
namespace Go.Proofs.Ytmhglfidggjfdaa
/-- The row, under a short name, for the claim. -/
theorem lineAll_holds : Rows.LineAllSaid := lineAll.proved
end Go.Proofs.Ytmhglfidggjfdaa
