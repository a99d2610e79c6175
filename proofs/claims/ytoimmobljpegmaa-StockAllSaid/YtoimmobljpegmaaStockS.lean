/- The reference's Take and Back by values; what both stocks do alike. -/
import Derived.Test.YtoimmobljpegmaaStockR
namespace Go.Proofs.Ytoimmobljpegmaa.Stock
open Go.RowKit Go.Proofs.Ytoimmobljpegmaa.Mem
open Go.Proofs.YtoimmobljpegmaaW.PrintWords (bools nums print_append_num print_append_row print_make_of own_reads own_lt own_other own_lit nums_length)
set_option linter.unusedVariables false

theorem rtake_hit {w : World} {g r : Nat} {f : Int} {xs : List Bool} (k : Nat) (xs' : List Bool) (H : Is 54 w g r f xs) (hf : 0 ≤ f ∧ f ≤ 240) (hl : xs.length ≤ 240) (h : least xs = some k) (hx : xs.set k true = xs') :
    Calls Try.prog 36 #[.pointer (some ⟨g, 0, none⟩)] w fun e w' => e = .returned (.tuple #[.int .i64 (f + k), .bool true]) ∧ Is 54 w' g r f xs' ∧ w.grownBy w' (some r) :=
  (rtake_any w g r f xs H hf hl).mono fun e w' hh => by
    rcases hh with ⟨j, h1, h2, h3, h4⟩ | ⟨h1, _⟩
    · rw [h] at h1; cases h1; subst hx; exact ⟨h2, h3, h4⟩
    · rw [h] at h1; cases h1
theorem rtake_full {w : World} {g r : Nat} {f : Int} {xs : List Bool} (H : Is 54 w g r f xs) (hf : 0 ≤ f ∧ f ≤ 240) (hl : xs.length ≤ 240) (h : least xs = none) :
    Calls Try.prog 36 #[.pointer (some ⟨g, 0, none⟩)] w fun e w' => e = .returned (.tuple #[.int .i64 0, .bool false]) ∧ Is 54 w' g r f xs ∧ w.grownBy w' (some r) :=
  (rtake_any w g r f xs H hf hl).mono fun e w' hh => by
    rcases hh with ⟨j, h1, _⟩ | ⟨h1, h2, h3, h4⟩
    · rw [h] at h1; cases h1
    · exact ⟨h2, h3, h4⟩
theorem rback_hit {w : World} {g r : Nat} {f q : Int} {xs : List Bool} (k : Nat) (xs' : List Bool) (H : Is 54 w g r f xs) (hf : 0 ≤ f ∧ f ≤ 240) (hl : xs.length ≤ 240) (h : backF f xs q = some k) (hx : xs.set k false = xs') :
    Calls Try.prog 38 #[.pointer (some ⟨g, 0, none⟩), .int .i64 q] w fun e w' => e = .returned (.bool true) ∧ Is 54 w' g r f xs' ∧ w.grownBy w' (some r) := by
  unfold backF at h
  split at h
  · rename_i hc
    cases h
    have e : q = f + ((q - f).toNat : Int) := by omega
    rw [e]
    subst hx
    refine (rback_yes w g r f (q - f).toNat xs H hf hl (by omega) hc.2.2).mono fun e w' hh => ?_
    exact hh
  · cases h
theorem rback_miss {w : World} {g r : Nat} {f q : Int} {xs : List Bool} (H : Is 54 w g r f xs) (hf : 0 ≤ f ∧ f ≤ 240) (hl : xs.length ≤ 240) (hq : 0 ≤ q ∧ q ≤ 9223372036854775807) (h : backF f xs q = none) :
    Calls Try.prog 38 #[.pointer (some ⟨g, 0, none⟩), .int .i64 q] w fun e w' => e = .returned (.bool false) ∧ Is 54 w' g r f xs ∧ w.grownBy w' (some r) :=
  (rback_no w g r f q xs H hf hl hq.2 (by omega) h).mono fun e w' ⟨he, hw⟩ => ⟨he, by subst hw; exact H, by subst hw; exact grown_refl _ _⟩
theorem cl_in (n : Int) : 0 ≤ cl n ∧ cl n ≤ 240 := by
  unfold cl
  split
  · omega
  · split <;> omega
end Go.Proofs.Ytoimmobljpegmaa.Stock
