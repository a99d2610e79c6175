/- What no memory answers: the walk. -/
import Derived.Test.YtbcdkhgfjdbjoaaRamL
namespace Go.Proofs.Ytbcdkhgfjdbjoaa.Ram
open Go.RowKit Go.Proofs.Ytbcdkhgfjdbjoaa.Mem Go.Proofs.Ytbcdkhgfjdbjoaa.Kept
set_option linter.unusedVariables false

set_option maxRecDepth 100000 in
set_option maxHeartbeats 4000000 in
theorem none_all (w : World) (f o n : Int) : Calls Try.prog 11 #[.int .i64 f, .int .i64 o, .int .i64 n] w fun e w' => e = .returned (.bool true) ∧ Below w.heap.size w w' := by
  have hb := Below.refl w.heap.size w
  go_enter Try.func11, Try.ntmps11
  go_wp2_with (first
    | (go_at_call 22; (with_reducible refine (begun _).mono ?_); rintro e w1 ⟨rfl, hb1⟩; replace hb := bel_chain hb hb1; clear hb1)
    | (go_at_call 35; (with_reducible refine (read_nil _ _ _ _ _).mono ?_); rintro e w2 ⟨rfl, rfl⟩)
    | (go_at_call 37; (with_reducible refine (get_nil _ _ _ _).mono ?_); rintro e w3 ⟨rfl, rfl⟩)
    | (go_at_call 27; (with_reducible refine (write_nil _ _ _ _ _ _ _).mono ?_); rintro e w4 ⟨rfl, rfl⟩)
    | (go_at_call 30; (with_reducible refine (setWord_nil _ _ _ _ _).mono ?_); rintro e w5 ⟨rfl, rfl⟩)
    | (go_at_call 32; (with_reducible refine (clear_nil _ _).mono ?_); rintro e w6 ⟨rfl, rfl⟩)
    | (go_at_call 25; (with_reducible refine (frames_nil _).mono ?_); rintro e w7 ⟨rfl, rfl⟩)
    | (go_at_call 39; (with_reducible refine (secure_nil _ _).mono ?_); rintro e w8 ⟨rfl, rfl⟩)
    | (go_at_call 34; (with_reducible refine (copy_nil _).mono ?_); rintro e w9 ⟨rfl, rfl⟩)
    | fail)
  all_goals go_ret
  all_goals exact ⟨rfl, hb⟩
end Go.Proofs.Ytbcdkhgfjdbjoaa.Ram
