/- Which bytes are there, and when all are, in any run; no condition -/
import Derived.Test.YtlohonlcoedfhaaRows
import Derived.Test.YtlohonlcoedfhaaPieceI
import Derived.Test.YtlohonlcoedfhaaFrame
import Derived.Test.YtlohonlcoedfhaaOpen
import Derived.WalkKit
import Derived.ProofKit
import Derived.OpenShut
import Derived.ShutString
import Derived.ChangeOld
import Derived.Below
import Derived.SizedLaws
import Derived.Lib.SmallJoins
import Derived.Deep.Matrix
namespace Go.Proofs.Ytlohonlcoedfhaa.pieceAll
open Go.ChangeShapes Go.WideShapes Go.ChangeAt Go.RowKit Go.Joins Go.Proofs.Ytlohonlcoedfhaa.Frame Go.Proofs.Ytlohonlcoedfhaa.Open
open Go.ChangeMaps (open_string shut_string)
set_option linter.unusedVariables false
theorem own : ownKnob Try.prog.godebug = none := by kernel_rfl
theorem laidOut : laidOutB Try.prog = true := by kernel_rfl
set_option maxRecDepth 100000 in
theorem lifted (os : Os) (started : os.Started) (H : Type) (enc : TypeId × Value → H) :
    ReturnsInHanded {} Try.checked os 12 .any (Rows.pieceAllSpec.pre6 enc Try.prog Try.f12 Rows.pieceAllRow.domain false) (Rows.pieceAllSpec.post enc Try.prog Try.f12 false true false false) := by
  refine returnsInHanded_of_change_sized (C := Try.checked) own started (by kernel_rfl) Try.func12
    (ChangeSpec.witness6 (enc := enc) (C := Try.checked) false ⟨#[], #[.int .i64 0, .slice none 0 0], []⟩ 8 (by kernel_rfl) (by kernel_rfl) (by kernel_rfl) (by kernel_rfl)) ?_
  intro W base args ds gs before hval0 hW hcnd hsz0 _
  have hsz : (DataW.weightsEach Try.prog (Try.f12.params.toList ++ Rows.pieceAllSpec.plain.varTypes Try.prog) (ds ++ gs)).all (· ≤ reachBytes) = true := hsz0
  have hval : ∀ (j : Nat) t v, Try.f12.params[j]? = some t → args[j]? = some v → Value.okWide Try.prog W .any base t v := hval0
  have hW' := hW
  obtain ⟨p, q, hA0, hV, rfl, hfz, hnd⟩ := hW
  have hA : DataW.TrodAll enc Try.prog W 0 (fun _ => true) true Try.f12.params.toList args.toList ds p := hA0
  rw [Try.params12] at hA hval hsz
  have keep := hA
  obtain ⟨v0, vs0, d0, ds0, p0, q0, hargs, rfl, hp0, h0, r0⟩ := trodAll_cons hA
  obtain ⟨v1, vs1, d1, ds1, p1, q1, rfl, rfl, rfl, h1, r1⟩ := trodAll_cons r0
  obtain ⟨rfl, rfl, rfl⟩ := trodAll_nil r1
  obtain rfl : args = #[v0, v1] := by cases args; simp_all
  obtain ⟨rfl, rfl⟩ := trodVars_none hV
  have hlt : ∀ x ∈ p, x.block < W.heap.size := fun x hx => hW'.lt x (by simpa using hx)
  obtain ⟨a0, rfl, rfl, hq0, w0⟩ := open_int Try.underlying3 (hval 0 3 v0 rfl rfl) h0
  -- OPEN 1: type 57, kind ('slice', 25, ('slice', 5, ('int', 'u8')))
  obtain ⟨a1, len1, cap1, rfl⟩ := okWide_slice Try.underlying57 (hval 1 57 v1 rfl rfl)
  have call : Calls Try.prog 12 #[.int .i64 a0, .slice a1 len1 cap1] W fun e w' => e = .returned (.bool true) ∧ Below W.heap.size W w' := by
    obtain ⟨fuel, hf⟩ := h1
    rcases Go.Deep.open_int_rows Try.underlying57 Try.underlying25 Try.underlying5 (by kernel_rfl) (by kernel_rfl) hf with ⟨h0, _⟩ | ⟨ad, len, cap, Af, Lf, Cf, Zf, hcs, hbb, hl, hm, _, hrow⟩
    · simp [Value.cells] at h0
      obtain ⟨rfl, rfl, rfl⟩ := h0
      exact Piece.all_any W a0 none 0 0 0 0 (fun _ => none) (fun _ => 0) (fun _ => []) (fun h => absurd h (by omega)) (Nat.le_refl _) (fun i hi => absurd hi (by omega))
    · simp [Value.cells] at hcs
      obtain ⟨rfl, rfl, rfl⟩ := hcs
      exact Piece.rows_any W a0 ad len1 cap1 Af Lf Cf Zf hl hrow
  refine (call).mono fun e W' ⟨he, bel⟩ => ?_
  subst he
  exact ⟨_, rfl, _, _, _, [], _, [], hW', trodAll_mk1 (shut_bool Try.underlying4 _), Frame.trodAll_below laidOut bel _ (by kernel_rfl) keep hlt, rfl, bel.frame _, fun h => by cases h⟩
theorem over : Rows.pieceAllRow.holds Try.pinned (OpenSpec.ofChange Rows.pieceAllSpec) :=
  OpenClaim.holds_of_wide 12 Try.f12 rfl rfl rfl rfl rfl rfl rfl ⟨rfl, rfl, rfl, rfl, rfl⟩ rfl rfl rfl rfl rfl (by kernel_rfl) Try.func12 (by kernel_rfl)
    (of_decide_eq_true (by kernel_rfl)) (by unfold Func.isWrapper; rw [if_neg (of_decide_eq_false (by kernel_rfl))]; exact ⟨rfl, rfl⟩)
    (fun os started H enc _ => lifted os started H enc)
theorem proved : Rows.PieceAllSaid := over
#print axioms proved
end Go.Proofs.Ytlohonlcoedfhaa.pieceAll
namespace Go.Proofs.Ytlohonlcoedfhaa
/-- The row, under a short name, for the claim. -/
theorem pieceAll_holds : Rows.PieceAllSaid := pieceAll.proved
end Go.Proofs.Ytlohonlcoedfhaa
