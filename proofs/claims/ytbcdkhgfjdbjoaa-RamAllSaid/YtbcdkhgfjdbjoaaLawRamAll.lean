/- What frames say, to which world, in any run; no condition -/
import Derived.Test.YtbcdkhgfjdbjoaaRows
import Derived.Test.YtbcdkhgfjdbjoaaRamB2
import Derived.Test.YtbcdkhgfjdbjoaaFrame
import Derived.Test.YtbcdkhgfjdbjoaaOpen
import Derived.WalkKit
import Derived.ProofKit
import Derived.OpenShut
import Derived.ShutString
import Derived.ChangeOld
import Derived.Below
import Derived.SizedLaws
import Derived.Lib.SmallJoins
namespace Go.Proofs.Ytbcdkhgfjdbjoaa.ramAll
open Go.ChangeShapes Go.WideShapes Go.ChangeAt Go.RowKit Go.Joins Go.Proofs.Ytbcdkhgfjdbjoaa.Frame Go.Proofs.Ytbcdkhgfjdbjoaa.Open
open Go.ChangeMaps (open_string shut_string)
set_option linter.unusedVariables false
theorem own : ownKnob Try.prog.godebug = none := by kernel_rfl
theorem laidOut : laidOutB Try.prog = true := by kernel_rfl
set_option maxRecDepth 100000 in
theorem lifted (os : Os) (started : os.Started) (H : Type) (enc : TypeId × Value → H) :
    ReturnsInHanded {} Try.checked os 8 .any (Rows.ramAllSpec.pre6 enc Try.prog Try.f8 Rows.ramAllRow.domain false) (Rows.ramAllSpec.post enc Try.prog Try.f8 false true false false) := by
  refine returnsInHanded_of_change_sized (C := Try.checked) own started (by kernel_rfl) Try.func8
    (ChangeSpec.witness6 (enc := enc) (C := Try.checked) false ⟨#[], #[.int .i64 0, .int .i64 0, .slice none 0 0, .int .i64 0], []⟩ 8 (by kernel_rfl) (by kernel_rfl) (by kernel_rfl) (by kernel_rfl)) ?_
  intro W base args ds gs before hval0 hW hcnd hsz0 _
  have hsz : (DataW.weightsEach Try.prog (Try.f8.params.toList ++ Rows.ramAllSpec.plain.varTypes Try.prog) (ds ++ gs)).all (· ≤ reachBytes) = true := hsz0
  have hval : ∀ (j : Nat) t v, Try.f8.params[j]? = some t → args[j]? = some v → Value.okWide Try.prog W .any base t v := hval0
  have hW' := hW
  obtain ⟨p, q, hA0, hV, rfl, hfz, hnd⟩ := hW
  have hA : DataW.TrodAll enc Try.prog W 0 (fun _ => true) true Try.f8.params.toList args.toList ds p := hA0
  rw [Try.params8] at hA hval hsz
  have keep := hA
  obtain ⟨v0, vs0, d0, ds0, p0, q0, hargs, rfl, hp0, h0, r0⟩ := trodAll_cons hA
  obtain ⟨v1, vs1, d1, ds1, p1, q1, rfl, rfl, rfl, h1, r1⟩ := trodAll_cons r0
  obtain ⟨v2, vs2, d2, ds2, p2, q2, rfl, rfl, rfl, h2, r2⟩ := trodAll_cons r1
  obtain ⟨v3, vs3, d3, ds3, p3, q3, rfl, rfl, rfl, h3, r3⟩ := trodAll_cons r2
  obtain ⟨rfl, rfl, rfl⟩ := trodAll_nil r3
  obtain rfl : args = #[v0, v1, v2, v3] := by cases args; simp_all
  obtain ⟨rfl, rfl⟩ := trodVars_none hV
  have hlt : ∀ x ∈ p, x.block < W.heap.size := fun x hx => hW'.lt x (by simpa using hx)
  obtain ⟨a0, rfl, rfl, hq0, w0⟩ := open_int Try.underlying3 (hval 0 3 v0 rfl rfl) h0
  obtain ⟨a1, rfl, rfl, hq1, w1⟩ := open_int Try.underlying3 (hval 1 3 v1 rfl rfl) h1
  -- OPEN 2: type 41, kind ('slice', 52, ('struct', [(3, ('int', 'i64')), (3, ('int', 'i64')), (3, ('int', 'i64')), (4, ('bool',)), (50, ('slice', 5, ('int', 'u8'))), (32, ('int', 'u64'))]))
  obtain ⟨a3, rfl, rfl, hq3, w3⟩ := open_int Try.underlying3 (hval 3 3 v3 rfl rfl) h3
  obtain ⟨a2, len2, cap2, rfl⟩ := okWide_slice Try.underlying41 (hval 2 41 v2 rfl rfl)
  have call : Calls Try.prog 8 #[.int .i64 a0, .int .i64 a1, .slice a2 len2 cap2, .int .i64 a3] W fun e w' => e = .returned (.bool true) ∧ Below W.heap.size W w' := by
    rcases flat_slice Try.underlying41 (sz := 6) (by kernel_rfl) (by decide) h2 with ⟨rfl, rfl, rfl⟩ | ⟨b, off, hl, hm, hp, hr⟩
    · exact Ram.all_any W a0 a1 none 0 0 0 0 a3 (fun h => absurd h (by omega)) (Nat.le_refl _) (fun i hi => absurd hi (by omega))
    · refine Ram.all_any W a0 a1 a2 b off len2 cap2 a3 (fun h => (hp h).1) hl (fun i hi => ?_)
      obtain ⟨cs, fu, x, hcl, hx, hc⟩ := hr i hi
      obtain ⟨k, hk, _⟩ := int_of (m := 3) (T := 3) (k := .i64) (j := 0) hx (by kernel_rfl) Try.underlying3 (Nat.le_of_eq (hcl.trans (by kernel_rfl)))
      obtain ⟨f, hf, _⟩ := int_of (m := 3) (T := 3) (k := .i64) (j := 1) hx (by kernel_rfl) Try.underlying3 (Nat.le_of_eq (hcl.trans (by kernel_rfl)))
      obtain ⟨o, ho, _⟩ := int_of (m := 3) (T := 3) (k := .i64) (j := 2) hx (by kernel_rfl) Try.underlying3 (Nat.le_of_eq (hcl.trans (by kernel_rfl)))
      obtain ⟨sec, hsec⟩ := bool_of (m := 3) (T := 4) (j := 3) hx (by kernel_rfl) Try.underlying4 (Nat.le_of_eq (hcl.trans (by kernel_rfl)))
      obtain ⟨A, m, c, dd, pp, hsl, htr⟩ := slice_of (m := 3) (T := 50) (e := 5) (j := 4) hx (by kernel_rfl) Try.underlying50 (Nat.le_of_eq (hcl.trans (by kernel_rfl)))
      obtain ⟨v, hv, wv⟩ := int_of (m := 3) (T := 32) (k := .u64) (j := 5) hx (by kernel_rfl) Try.underlying32 (Nat.le_of_eq (hcl.trans (by kernel_rfl)))
      obtain ⟨zz, wz⟩ := isRow_of_trod Try.underlying50 Try.underlying5 (by kernel_rfl) htr
      obtain ⟨bb, oo, ll, rfl, hcz, hmz, haz, hbz, hcz2, hwz, hnz⟩ := wz.plain
      exact ⟨k, f, o, sec, A, _, c, ll, v, (hc 0 (by decide)).trans hk, (hc 1 (by decide)).trans hf, (hc 2 (by decide)).trans ho, (hc 3 (by decide)).trans hsec, (hc 4 (by decide)).trans hsl, (hc 5 (by decide)).trans hv, Ram.reads_plainB (by unfold maxLen at hmz; omega) haz hcz2, fun x hx => bounds_u8 (hwz x hx), bounds_u64 wv⟩
  refine (call).mono fun e W' ⟨he, bel⟩ => ?_
  subst he
  exact ⟨_, rfl, _, _, _, [], _, [], hW', trodAll_mk1 (shut_bool Try.underlying4 _), Frame.trodAll_below laidOut bel _ (by kernel_rfl) keep hlt, rfl, bel.frame _, fun h => by cases h⟩
theorem over : Rows.ramAllRow.holds Try.pinned (OpenSpec.ofChange Rows.ramAllSpec) :=
  OpenClaim.holds_of_wide 8 Try.f8 rfl rfl rfl rfl rfl rfl rfl ⟨rfl, rfl, rfl, rfl, rfl⟩ rfl rfl rfl rfl rfl (by kernel_rfl) Try.func8 (by kernel_rfl)
    (of_decide_eq_true (by kernel_rfl)) (by unfold Func.isWrapper; rw [if_neg (of_decide_eq_false (by kernel_rfl))]; exact ⟨rfl, rfl⟩)
    (fun os started H enc _ => lifted os started H enc)
theorem proved : Rows.RamAllSaid := over
#print axioms proved
end Go.Proofs.Ytbcdkhgfjdbjoaa.ramAll
namespace Go.Proofs.Ytbcdkhgfjdbjoaa
/-- The row, under a short name, for the claim. -/
theorem ramAll_holds : Rows.RamAllSaid := ramAll.proved
end Go.Proofs.Ytbcdkhgfjdbjoaa
