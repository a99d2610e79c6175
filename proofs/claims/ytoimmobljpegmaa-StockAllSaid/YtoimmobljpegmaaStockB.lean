/- Contracts of package stock, by values; what the statements on stocks begin with. -/
import Derived.Test.YtoimmobljpegmaaStockN
import Derived.Deep.RegionHeld3
namespace Go.Proofs.Ytoimmobljpegmaa.Stock
open Go.RowKit Go.Proofs.Ytoimmobljpegmaa.Mem
open Go.Proofs.YtoimmobljpegmaaW.PrintWords (bools nums print_append_num print_append_row print_make_of own_reads own_lt own_other own_lit nums_length)
set_option linter.unusedVariables false

theorem bel_grown {w w1 w2 : World} {g : Nat} (h : Below w.heap.size w w1) (hg : w1.grownBy w2 (some g)) (hge : w.heap.size ≤ g) : Below w.heap.size w w2 :=
  h.grown hg h.size (fun k hk => by cases hk; exact hge)

theorem new_val {f n F : Int} {xs : List Bool} (w : World) (hF : cl f = F) (hx : List.replicate (cl n).toNat false = xs) :
    Calls Try.prog 33 #[.int .i64 f, .int .i64 n] w fun e w' => ∃ g r, e = .returned (.pointer (some ⟨g, 0, none⟩)) ∧ Is 69 w' g r F xs ∧ Below w.heap.size w w' ∧ w.heap.size ≤ g ∧ w.heap.size ≤ r :=
  (new_any f n w).mono fun e w' ⟨g, r, h1, h2, h3, h4, h5⟩ => ⟨g, r, h1, by subst hF hx; exact h2, h3, h4, h5⟩
theorem take_hit {w : World} {g r : Nat} {f : Int} {xs : List Bool} (k : Nat) (xs' : List Bool) (H : Is 69 w g r f xs) (hf : 0 ≤ f ∧ f ≤ 240) (hl : xs.length ≤ 240) (h : least xs = some k) (hx : xs.set k true = xs') :
    Calls Try.prog 35 #[.pointer (some ⟨g, 0, none⟩)] w fun e w' => e = .returned (.tuple #[.int .i64 (f + k), .bool true]) ∧ Is 69 w' g r f xs' ∧ w.grownBy w' (some r) :=
  (take_any w g r f xs H hf hl).mono fun e w' hh => by
    rcases hh with ⟨j, h1, h2, h3, h4⟩ | ⟨h1, _⟩
    · rw [h] at h1; cases h1; subst hx; exact ⟨h2, h3, h4⟩
    · rw [h] at h1; cases h1
theorem take_full {w : World} {g r : Nat} {f : Int} {xs : List Bool} (H : Is 69 w g r f xs) (hf : 0 ≤ f ∧ f ≤ 240) (hl : xs.length ≤ 240) (h : least xs = none) :
    Calls Try.prog 35 #[.pointer (some ⟨g, 0, none⟩)] w fun e w' => e = .returned (.tuple #[.int .i64 0, .bool false]) ∧ Is 69 w' g r f xs ∧ w.grownBy w' (some r) :=
  (take_any w g r f xs H hf hl).mono fun e w' hh => by
    rcases hh with ⟨j, h1, _⟩ | ⟨h1, h2, h3, h4⟩
    · rw [h] at h1; cases h1
    · exact ⟨h2, h3, h4⟩
theorem back_hit {w : World} {g r : Nat} {f q : Int} {xs : List Bool} (k : Nat) (xs' : List Bool) (H : Is 69 w g r f xs) (hf : 0 ≤ f ∧ f ≤ 240) (hl : xs.length ≤ 240) (h : backF f xs q = some k) (hx : xs.set k false = xs') :
    Calls Try.prog 37 #[.pointer (some ⟨g, 0, none⟩), .int .i64 q] w fun e w' => e = .returned (.bool true) ∧ Is 69 w' g r f xs' ∧ w.grownBy w' (some r) := by
  unfold backF at h
  split at h
  · rename_i hc
    cases h
    have e : q = f + ((q - f).toNat : Int) := by omega
    rw [e]
    subst hx
    refine (back_yes w g r f (q - f).toNat xs H hf hl (by omega) hc.2.2).mono fun e w' hh => ?_
    exact hh
  · cases h
theorem back_miss {w : World} {g r : Nat} {f q : Int} {xs : List Bool} (H : Is 69 w g r f xs) (hf : 0 ≤ f ∧ f ≤ 240) (hl : xs.length ≤ 240) (hq : q ≤ 9223372036854775807) (h : backF f xs q = none) :
    Calls Try.prog 37 #[.pointer (some ⟨g, 0, none⟩), .int .i64 q] w fun e w' => e = .returned (.bool false) ∧ Is 69 w' g r f xs ∧ w.grownBy w' (some r) :=
  (back_no w g r f q xs H hf hl hq h).mono fun e w' ⟨he, n, hw⟩ => ⟨he, by subst hw; exact H, by subst hw; exact grown_drewN (grown_refl _ _) _⟩

set_option maxRecDepth 100000 in
set_option maxHeartbeats 1000000 in
theorem begun (w : World) : Calls Try.prog 32 #[] w fun e w' => e = .returned (.bool true) ∧ Below w.heap.size w w' := by
  have hb := Below.refl w.heap.size w
  go_enter Try.func32, Try.ntmps32
  go_wp2_with (first
    | (go_at_call 33; (with_reducible refine (new_val (F := 3) (xs := [false, false]) _ (by decide) (by decide)).mono ?_); rintro e w1 ⟨g, r, rfl, H1, hb1, hg, hr⟩; replace hb := bel_chain hb hb1; clear hb1)
    | (go_at_call 35; (first
        | (with_reducible refine (take_hit (xs := [false, false]) 0 [true, false] H1 (by decide) (by decide) (by decide) (by decide)).mono ?_)
        | (with_reducible refine (take_hit (xs := [true, false]) 1 [true, true] H1 (by decide) (by decide) (by decide) (by decide)).mono ?_)
        | (with_reducible refine (take_full (xs := [true, true]) H1 (by decide) (by decide) (by decide)).mono ?_)); clear H1; rintro e w1 ⟨rfl, H1, g1⟩; replace hb := bel_grown hb g1 hr; clear g1)
    | (go_at_call 41; (with_reducible refine (left_any _ _ _ _ _ H1 (by decide) (by decide)).mono ?_); rintro e w1 ⟨rfl, hb1⟩; have H2 := H1.below hb1; clear H1; have H1 := H2; clear H2; replace hb := bel_chain hb hb1; clear hb1)
    | (go_at_call 39; (with_reducible refine (taken_any _ _ _ _ _ H1 (by decide) (by decide)).mono ?_); rintro e w1 ⟨v, rfl, ho, hb1⟩; obtain ⟨A5, c5, rfl, hr5⟩ := own_reads ho; have H2 := H1.below hb1; clear H1 ho hr5; have H1 := H2; clear H2; replace hb := bel_chain hb hb1; clear hb1)
    | (go_at_call 37; (first
        | (with_reducible refine (back_hit (xs := [true, true]) 0 [false, true] H1 (by decide) (by decide) (by decide) (by decide)).mono ?_)
        | (with_reducible refine (back_miss (xs := [false, true]) H1 (by decide) (by decide) (by decide) (by decide)).mono ?_)); clear H1; rintro e w1 ⟨rfl, H1, g1⟩; replace hb := bel_grown hb g1 hr; clear g1))
  go_ret
  exact ⟨rfl, hb⟩
end Go.Proofs.Ytoimmobljpegmaa.Stock
