/- Which bytes bills are, and which bills bytes: true for every two bills and every row of bytes. No condition. -/
import Derived.Test.YtmhglfidggjfdaaRows
import Derived.Test.YtmhglfidggjfdaaBillA
import Derived.Test.YtmhglfidggjfdaaFrame
import Derived.Test.YtmhglfidggjfdaaOpen
import Derived.WalkKit
import Derived.ProofKit
import Derived.OpenShut
import Derived.ShutString
import Derived.ChangeOld
import Derived.Below
import Derived.SizedLaws
import Derived.Lib.SmallJoins
import Derived.Test.YtmhglfidggjfdaaBillO
namespace Go.Proofs.Ytmhglfidggjfdaa.billAll
open Go.ChangeShapes Go.WideShapes Go.ChangeAt Go.RowKit Go.Joins Go.Proofs.Ytmhglfidggjfdaa.Frame Go.Proofs.Ytmhglfidggjfdaa.Open
open Go.ChangeMaps (open_string shut_string)
open Go.Proofs.Ytmhglfidggjfdaa.Bill
set_option linter.unusedVariables false
theorem own : ownKnob Try.prog.godebug = none := by kernel_rfl
theorem laidOut : laidOutB Try.prog = true := by kernel_rfl
set_option maxRecDepth 100000 in
theorem lifted (os : Os) (started : os.Started) (H : Type) (enc : TypeId × Value → H) :
    ReturnsInHanded {} Try.checked os 6 .any (Rows.billAllSpec.pre6 enc Try.prog Try.f6 Rows.billAllRow.domain false) (Rows.billAllSpec.post enc Try.prog Try.f6 false true false false) := by
  refine returnsInHanded_of_change_sized (C := Try.checked) own started (by kernel_rfl) Try.func6
    (ChangeSpec.witness6 (enc := enc) (C := Try.checked) false ⟨#[], #[.agg #[.int .i64 0, .int .i64 0, .int .i64 0, .int .i64 0, .slice none 0 0], .agg #[.int .i64 0, .int .i64 0, .int .i64 0, .int .i64 0, .slice none 0 0], .slice none 0 0], []⟩ 8 (by kernel_rfl) (by kernel_rfl) (by kernel_rfl) (by kernel_rfl)) ?_
  intro W base args ds gs before hval0 hW hcnd hsz0 _
  have hsz : (DataW.weightsEach Try.prog (Try.f6.params.toList ++ Rows.billAllSpec.plain.varTypes Try.prog) (ds ++ gs)).all (· ≤ reachBytes) = true := hsz0
  have hval : ∀ (j : Nat) t v, Try.f6.params[j]? = some t → args[j]? = some v → Value.okWide Try.prog W .any base t v := hval0
  have hW' := hW
  obtain ⟨p, q, hA0, hV, rfl, hfz, hnd⟩ := hW
  have hA : DataW.TrodAll enc Try.prog W 0 (fun _ => true) true Try.f6.params.toList args.toList ds p := hA0
  rw [Try.params6] at hA hval hsz
  have keep := hA
  obtain ⟨v0, vs0, d0, ds0, p0, q0, hargs, rfl, hp0, h0, r0⟩ := trodAll_cons hA
  obtain ⟨v1, vs1, d1, ds1, p1, q1, rfl, rfl, rfl, h1, r1⟩ := trodAll_cons r0
  obtain ⟨v2, vs2, d2, ds2, p2, q2, rfl, rfl, rfl, h2, r2⟩ := trodAll_cons r1
  obtain ⟨rfl, rfl, rfl⟩ := trodAll_nil r2
  obtain rfl : args = #[v0, v1, v2] := by cases args; simp_all
  obtain ⟨rfl, rfl⟩ := trodVars_none hV
  have hlt : ∀ x ∈ p, x.block < W.heap.size := fun x hx => hW'.lt x (by simpa using hx)
  -- OPEN 0: type 44, kind ('struct', [(3, ('int', 'i64')), (3, ('int', 'i64')), (3, ('int', 'i64')), (3, ('int', 'i64')), (42, ('slice', 60, ('struct', [(4, ('bool',)), (4, ('bool',)), (4, ('bool',)), (4, ('bool',)), (4, ('bool',)), (58, ('int', 'u32')), (3, ('int', 'i64')), (3, ('int', 'i64')), (3, ('int', 'i64'))])))])
  -- OPEN 1: type 44, kind ('struct', [(3, ('int', 'i64')), (3, ('int', 'i64')), (3, ('int', 'i64')), (3, ('int', 'i64')), (42, ('slice', 60, ('struct', [(4, ('bool',)), (4, ('bool',)), (4, ('bool',)), (4, ('bool',)), (4, ('bool',)), (58, ('int', 'u32')), (3, ('int', 'i64')), (3, ('int', 'i64')), (3, ('int', 'i64'))])))])
  obtain ⟨a2, len2, cap2, rfl⟩ := okWide_slice Try.underlying38 (hval 2 38 v2 rfl rfl)
  have y2 := sized_row hsz (j := 2) (t := 38) rfl rfl Try.underlying38 Try.underlying5 (by kernel_rfl) (B := 1) (by kernel_rfl) h2
  obtain ⟨z2, w2⟩ := isRow_of_trod Try.underlying38 Try.underlying5 (by kernel_rfl) h2
  obtain ⟨b2, o2, l2, rfl, hcap2, hmax2, ha2, hb2, hc2, hw2, hn2⟩ := w2.plain
  obtain ⟨F0, T0, S0, C0, A0, c0, l0, rfl, hl0, hc0, hw0, wF0, wT0, wS0, wC0⟩ := BillO.open_bill (hval 0 44 v0 rfl rfl) h0
  obtain ⟨F1, T1, S1, C1, A1, c1, l1, rfl, hl1, hc1, hw1, wF1, wT1, wS1, wC1⟩ := BillO.open_bill (hval 1 44 v1 rfl rfl) h1
  refine (Bill.bill_all W F0 T0 S0 C0 A0 c0 l0 F1 T1 S1 C1 A1 c1 l1 a2 cap2 l2 ⟨hc0, hl0⟩ (fun p hp => bounds_u32 (hw0 p hp).1) ⟨hc1, hl1⟩ (fun p hp => bounds_u32 (hw1 p hp).1) ⟨CRow.c_row (by unfold maxLen at hmax2; omega) ha2 hc2, hcap2⟩ (fun x hx => bounds_u8 (hw2 x hx))).mono fun e W' ⟨he, bel⟩ => ?_
  subst he
  exact ⟨_, rfl, _, _, _, [], _, [], hW', trodAll_mk1 (shut_bool Try.underlying4 _), Frame.trodAll_below laidOut bel _ (by kernel_rfl) keep hlt, rfl, bel.frame _, fun h => by cases h⟩
theorem over : Rows.billAllRow.holds Try.pinned (OpenSpec.ofChange Rows.billAllSpec) :=
  OpenClaim.holds_of_wide 6 Try.f6 rfl rfl rfl rfl rfl rfl rfl ⟨rfl, rfl, rfl, rfl, rfl⟩ rfl rfl rfl rfl rfl (by kernel_rfl) Try.func6 (by kernel_rfl)
    (of_decide_eq_true (by kernel_rfl)) (by unfold Func.isWrapper; rw [if_neg (of_decide_eq_false (by kernel_rfl))]; exact ⟨rfl, rfl⟩)
    (fun os started H enc _ => lifted os started H enc)
theorem proved : Rows.BillAllSaid := over
#print axioms proved
end Go.Proofs.Ytmhglfidggjfdaa.billAll
namespace Go.Proofs.Ytmhglfidggjfdaa
/-- The row, under a short name, for the claim. -/
theorem billAll_holds : Rows.BillAllSaid := billAll.proved
end Go.Proofs.Ytmhglfidggjfdaa
