/- Which bytes are there, and when all are, in any run: whatever comes in. -/
import Derived.Test.YtlohonlcoedfhaaPieceH
namespace Go.Proofs.Ytlohonlcoedfhaa.Piece
open Go.RowKit Go.Proofs.Ytlohonlcoedfhaa.Mem
open Go.Proofs.YtlohonlcoedfhaaW.PrintWords (nums ReadsInt)
set_option linter.unusedVariables false

set_option maxRecDepth 100000 in
set_option maxHeartbeats 4000000 in
theorem all_zero (w : World) (all : Int) (a : Option Addr) (cap : Nat) (h1 : 1 ≤ all) (h2 : all ≤ 400) :
    Calls Try.prog 12 #[.int .i64 all, .slice a 0 cap] w fun e w' => e = .returned (.bool true) ∧ Below w.heap.size w w' := by
  have hb := Below.refl w.heap.size w
  go_enter Try.func12, Try.ntmps12
  go_wp2_with (first
    | (go_at_call 34; (with_reducible refine (begun _).mono ?_); rintro e w1 ⟨rfl, hb1⟩; replace hb := bel_chain hb hb1; clear hb1)
    | (go_at_call 35; (with_reducible refine (new_ok w1 w1.heap.size (Nat.le_refl _) all h1 h2).mono ?_); rintro e w2 ⟨rfl, H, hb2⟩; have hs2 := Lib.hid hb2.size; replace hb := bel_chain hb hb2; clear H hb2)
    | (go_at_call 36; (with_reducible refine (rnew_ok w2 w1.heap.size hs2.out all h1 h2).mono ?_); rintro e w3 ⟨rfl, H, hb3⟩; replace hb := bel_chain hb hb3; clear H hb3)
    | fail)
  go_loop [12] (fun i => i = .int .i64 0) (fun _ => 0)
  case atStart => rfl
  case round =>
    subst hrel
    go_wp2
    go_ret
    exact ⟨rfl, hb⟩
theorem all_any (w : World) (all : Int) (a : Option Addr) (b o n cap : Nat) (Af : Nat → Option Addr) (Cf : Nat → Nat) (X : Nat → List Int) (ha : 0 < n → a = some ⟨b, o, none⟩) (hcn : n ≤ cap)
    (hx : ∀ i, i < n → w.cell? ⟨b, o + i, none⟩ = some (.slice (Af i) (X i).length (Cf i)) ∧ ReadsInt w .u8 (Af i) (X i).length (X i)) :
    Calls Try.prog 12 #[.int .i64 all, .slice a n cap] w fun e w' => e = .returned (.bool true) ∧ Below w.heap.size w w' := by
  by_cases h : 20 < n
  · exact all_out w all a n cap h
  · by_cases hb : all < 1 ∨ 400 < all
    · exact all_none w all a n cap (by omega) hb
    · rcases Nat.eq_zero_or_pos n with rfl | hp
      · exact all_zero w all a cap (by omega) (by omega)
      · have e := ha hp
        subst e
        exact all_run w all b o n cap Af Cf X (by omega) hp (by omega) (by omega) hcn hx
theorem rows_any (w : World) (all : Int) (ad : Addr) (n cap : Nat) (Af : Nat → Option Addr) (Lf Cf : Nat → Nat) (Zf : Nat → List Int) {base : Nat} (hl : n ≤ cap)
    (hrow : ∀ r, r < cap → w.cell? (ad.add r) = some (.slice (Af r) (Lf r) (Cf r)) ∧ Lf r ≤ Cf r ∧ Cf r ≤ maxLen ∧ (Zf r).length = Cf r ∧ (∀ n ∈ Zf r, (Lit.int .u8 n).wf = true) ∧ (Af r = none → Cf r = 0) ∧
        ∀ a', Af r = some a' → base ≤ a'.block ∧ ∀ c, c < Cf r → w.cell? (a'.add c) = some (.int .u8 ((Zf r).getD c 0))) :
    Calls Try.prog 12 #[.int .i64 all, .slice (some ad) n cap] w fun e w' => e = .returned (.bool true) ∧ Below w.heap.size w w' := by
  have hsub : 0 < n → ad = ⟨ad.block, ad.off, none⟩ := fun hp => by
    have h0 := (hrow 0 (by omega)).1
    have hspot := World.cell?_spot h0
    simp [Addr.add] at hspot
    obtain ⟨bb, oo, ss⟩ := ad
    simp at hspot
    subst hspot
    rfl
  refine all_any w all (some ad) ad.block ad.off n cap Af Cf (fun i => (Zf i).take (Lf i)) (fun hp => by rw [← hsub hp]) hl (fun i hi => ?_)
  obtain ⟨h1, h2, h3, h4, h5, h6, h7⟩ := hrow i (by omega)
  have hlen : ((Zf i).take (Lf i)).length = Lf i := by rw [List.length_take]; omega
  show _ = some (Value.slice (Af i) ((Zf i).take (Lf i)).length (Cf i)) ∧ ReadsInt w .u8 (Af i) ((Zf i).take (Lf i)).length ((Zf i).take (Lf i))
  rw [hlen]
  have e := hsub (by omega)
  rw [e] at h1
  rw [Loan.add_at] at h1
  refine ⟨h1, hlen, by unfold maxLen at h3; omega, fun hp => ?_⟩
  cases hA : Af i with
  | none => have := h6 hA; omega
  | some a' =>
    refine ⟨a', rfl, fun j hj => ?_⟩
    rw [(h7 a' hA).2 j (by omega), List.getD_eq_getElem?_getD, List.getD_eq_getElem?_getD, List.getElem?_take, if_pos hj]
end Go.Proofs.Ytlohonlcoedfhaa.Piece
