/- The closed statement on boxes: which boxes may be, and what may be done when. No condition. -/
import Derived.Test.YtoimmobljpegmaaBox
namespace Go.Proofs.Ytoimmobljpegmaa.Box
open Go.RowKit Go.Proofs.Ytoimmobljpegmaa.Mem

theorem bel_grown {w w1 w2 : World} {g : Nat} (h : Below w.heap.size w w1) (hg : w1.grownBy w2 (some g)) (hge : w.heap.size ≤ g) : Below w.heap.size w w2 :=
  h.grown hg h.size (fun k hk => by cases hk; exact hge)
theorem bel_new {w w1 w2 : World} (h : Below w.heap.size w w1) (hg : w1.grownBy w2 none) : Below w.heap.size w w2 :=
  h.grown hg h.size (fun k hk => by cases hk)

set_option maxRecDepth 100000 in
set_option maxHeartbeats 4000000 in
theorem begun (w : World) :
    Calls Try.prog 20 #[] w fun e w' => e = .returned (.bool true) ∧ Below w.heap.size w w' := by
  have hb := Below.refl w.heap.size w
  go_enter Try.func20, Try.ntmps20
  go_wp2_with (first
    | (go_at_call 21; refine (new_any _).mono ?_; rintro e w2 ⟨rfl, H1, g1⟩; have hge := hb.size; replace hb := bel_new hb g1; clear g1)
    | (go_at_call 22; (first | refine (map_any _ _ _ _ _ true _ H1 (by rfl)).mono ?_ | refine (map_any _ _ _ _ _ false _ H1 (by rfl)).mono ?_); clear H1; rintro e w1 ⟨rfl, H1, g1⟩; replace hb := bel_grown hb g1 hge; clear g1)
    | (go_at_call 26; (first | refine (fill_any _ _ _ true _ H1 (by rfl)).mono ?_ | refine (fill_any _ _ _ false _ H1 (by rfl)).mono ?_); clear H1; rintro e w1 ⟨rfl, H1, g1⟩; replace hb := bel_grown hb g1 hge; clear g1)
    | (go_at_call 30; refine (pages_any _ _ _ H1).mono ?_; clear H1; rintro e w1 ⟨rfl, H1, g1⟩; replace hb := bel_grown hb g1 hge; clear g1)
    | (go_at_call 31; refine (full_any _ _ _ H1).mono ?_; clear H1; rintro e w1 ⟨rfl, H1, g1⟩; replace hb := bel_grown hb g1 hge; clear g1)
    | (go_at_call 28; (first | refine (release_any _ _ _ true _ H1 (by rfl)).mono ?_ | refine (release_any _ _ _ false _ H1 (by rfl)).mono ?_); clear H1; rintro e w1 ⟨rfl, H1, g1⟩; replace hb := bel_grown hb g1 hge; clear g1)
    | (go_at_call 24; (first | refine (unmap_any _ _ _ true _ H1 (by rfl)).mono ?_ | refine (unmap_any _ _ _ false _ H1 (by rfl)).mono ?_); clear H1; rintro e w1 ⟨rfl, H1, g1⟩; replace hb := bel_grown hb g1 hge; clear g1))
  go_ret
  exact ⟨rfl, hb⟩

set_option maxRecDepth 100000 in
set_option maxHeartbeats 4000000 in
theorem forms (w : World) :
    Calls Try.prog 8 #[] w fun e w' => e = .returned (.bool true) ∧ Below w.heap.size w w' := by
  have hb := Below.refl w.heap.size w
  go_enter Try.func8, Try.ntmps8
  go_wp2_with (first
    | (go_at_call 20; refine (begun _).mono ?_; rintro e w1 ⟨rfl, hb1⟩; replace hb := bel_chain hb hb1; clear hb1)
    | (go_at_call 21; refine (new_any _).mono ?_; rintro e w2 ⟨rfl, H1, g1⟩; have hge := hb.size; replace hb := bel_new hb g1; clear g1)
    | (go_at_call 22; (first | refine (map_any _ _ _ _ _ true _ H1 (by rfl)).mono ?_ | refine (map_any _ _ _ _ _ false _ H1 (by rfl)).mono ?_); clear H1; rintro e w1 ⟨rfl, H1, g1⟩; replace hb := bel_grown hb g1 hge; clear g1)
    | (go_at_call 26; (first | refine (fill_any _ _ _ true _ H1 (by rfl)).mono ?_ | refine (fill_any _ _ _ false _ H1 (by rfl)).mono ?_); clear H1; rintro e w1 ⟨rfl, H1, g1⟩; replace hb := bel_grown hb g1 hge; clear g1)
    | (go_at_call 30; refine (pages_any _ _ _ H1).mono ?_; clear H1; rintro e w1 ⟨rfl, H1, g1⟩; replace hb := bel_grown hb g1 hge; clear g1)
    | (go_at_call 31; refine (full_any _ _ _ H1).mono ?_; clear H1; rintro e w1 ⟨rfl, H1, g1⟩; replace hb := bel_grown hb g1 hge; clear g1)
    | (go_at_call 28; (first | refine (release_any _ _ _ true _ H1 (by rfl)).mono ?_ | refine (release_any _ _ _ false _ H1 (by rfl)).mono ?_); clear H1; rintro e w1 ⟨rfl, H1, g1⟩; replace hb := bel_grown hb g1 hge; clear g1)
    | (go_at_call 24; (first | refine (unmap_any _ _ _ true _ H1 (by rfl)).mono ?_ | refine (unmap_any _ _ _ false _ H1 (by rfl)).mono ?_); clear H1; rintro e w1 ⟨rfl, H1, g1⟩; replace hb := bel_grown hb g1 hge; clear g1))
  go_ret
  exact ⟨rfl, hb⟩
end Go.Proofs.Ytoimmobljpegmaa.Box
