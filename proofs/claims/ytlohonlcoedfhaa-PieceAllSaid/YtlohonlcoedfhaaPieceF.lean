/- How many bytes there may be, and which pieces are refused: the walk. -/
import Derived.Test.YtlohonlcoedfhaaPieceC
namespace Go.Proofs.Ytlohonlcoedfhaa.Piece
open Go.RowKit Go.Proofs.Ytlohonlcoedfhaa.Mem
open Go.Proofs.YtlohonlcoedfhaaW.PrintWords (nums ReadsInt own_reads own_reads' own_lit own_nil own_le print_append_row own_alloc)
set_option linter.unusedVariables false

theorem At.base {w : World} {B g : Nat} {R : Option Nat} {L : List Int} {all : Int} (h : At w B g R L all) : B ≤ w.heap.size := Nat.le_of_lt (Nat.lt_of_le_of_lt h.lt.1 h.lt.2)
theorem left_m {w : World} {B g : Nat} {R : Option Nat} {L : List Int} {all r : Int} (h : At w B g R L all) (h0 : 0 ≤ all) (h1 : all ≤ 400) (hl : (L.length : Int) ≤ all) (hr : all - L.length = r) :
    Calls Try.prog 39 #[.pointer (some ⟨g, 0, none⟩)] w fun e w' => e = .returned (.int .i64 r) ∧ Below w.heap.size w w' :=
  (left_n h h0 h1 hl hr).mono fun _ _ ⟨h1, n, h2⟩ => ⟨h1, by rw [h2]; exact bel_drewN (Below.refl _ _) _⟩
theorem add_nom {w : World} {B g : Nat} {R : Option Nat} {L : List Int} {all : Int} (A : Option Addr) (n c : Nat) (h : At w B g R L all) (h0 : 0 ≤ all) (h1 : all ≤ 400) (hl : (L.length : Int) ≤ all) (hn : n = 0 ∨ all - L.length < n) :
    Calls Try.prog 37 #[.pointer (some ⟨g, 0, none⟩), .slice A n c] w fun e w' => e = .returned (.tuple #[.bool false, .int .i64 (-2)]) ∧ Below w.heap.size w w' :=
  (add_no A n c h h0 h1 hl hn).mono fun _ _ ⟨h1, n, h2⟩ => ⟨h1, by rw [h2]; exact bel_drewN (Below.refl _ _) _⟩

set_option maxRecDepth 100000 in
set_option maxHeartbeats 8000000 in
theorem forms (w : World) (all n : Int) (hn0 : 0 ≤ n) (hn1 : n ≤ 65535) : Calls Try.prog 14 #[.int .i64 all, .int .u16 n] w fun e w' => e = .returned (.bool true) ∧ Below w.heap.size w w' := by
  have hb := Below.refl w.heap.size w
  by_cases hbad : all < 1 ∨ 400 < all
  · have HB := Lib.hid hbad
    by_cases h1 : all < 1
    · clear hbad
      go_enter Try.func14, Try.ntmps14
      go_wp2_with (first
        | (go_at_call 34; (with_reducible refine (begun _).mono ?_); rintro e w1 ⟨rfl, hb1⟩; replace hb := bel_chain hb hb1; clear hb1)
        | (go_at_call 35; (with_reducible refine (new_no _ all HB.out).mono ?_); rintro e w4 ⟨rfl, rfl⟩)
        | fail)
      all_goals go_ret
      all_goals exact ⟨rfl, hb⟩
    · have h2 : 400 < all := by omega
      clear hbad
      go_enter Try.func14, Try.ntmps14
      go_wp2_with (first
        | (go_at_call 34; (with_reducible refine (begun _).mono ?_); rintro e w1 ⟨rfl, hb1⟩; replace hb := bel_chain hb hb1; clear hb1)
        | (go_at_call 35; (with_reducible refine (new_no _ all HB.out).mono ?_); rintro e w4 ⟨rfl, rfl⟩)
        | fail)
      all_goals go_ret
      all_goals exact ⟨rfl, hb⟩
  · obtain ⟨N, rfl⟩ : ∃ N : Nat, all = (N : Int) := ⟨all.toNat, by omega⟩
    have hN1 : (1 : Int) ≤ (N : Int) := by omega
    have hN2 : (N : Int) ≤ 400 := by omega
    have hN0 : (0 : Int) ≤ (N : Int) := by omega
    have hNN : N ≤ 400 := by omega
    have hne : (N : Int) ≠ 0 := by omega
    clear hbad
    obtain ⟨r, hr⟩ : ∃ r : Nat, n % (N : Int) = (r : Int) := ⟨(n % (N : Int)).toNat, by have := Int.emod_nonneg n hne; omega⟩
    have hr1 : (r : Int) < (N : Int) := by have := Int.emod_lt_of_pos n (show (0 : Int) < (N : Int) by omega); omega
    have hrem : Int.tmod n (N : Int) = (r : Int) := by rw [Int.tmod_eq_emod_of_nonneg hn0, hr]
    obtain ⟨k, hk⟩ : ∃ k : Nat, k = 1 + r := ⟨_, rfl⟩
    have v1_ : IntKind.i64.wrap n = n := IntWalk.i64_in _ (by omega)
    have v2_ : IntKind.i64.wrap (r : Int) = (r : Int) := IntWalk.i64_in _ (by omega)
    have v3_ : IntKind.i64.wrap (1 + (r : Int)) = (k : Int) := by rw [IntWalk.i64_in _ (by omega)]; omega
    have v3b : 1 + (r : Int) = (k : Int) := by omega
    have hk1 : k ≤ N := by omega
    have hk0 : 0 < k := by omega
    have Q0 : Hid (((([] : List Int).length : Nat) : Int) ≤ (N : Int)) := Lib.hid (by simp)
    have E0 : Hid ((N : Int) - ((([] : List Int).length : Nat) : Int) = (N : Int)) := Lib.hid (by simp)
    have Q1 : Hid ((N + 1) = 0 ∨ (N : Int) - ((([] : List Int).length : Nat) : Int) < ((N + 1 : Nat) : Int)) := Lib.hid (Or.inr (by simp; omega))
    have Q2 : Hid (((([] : List Int).length : Nat) : Int) + (k : Int) ≤ (N : Int)) := Lib.hid (by simp; omega)
    have Q3 : Hid ((N - k + 1) = 0 ∨ (N : Int) - ((([] ++ List.replicate k 0 : List Int).length : Nat) : Int) < ((N - k + 1 : Nat) : Int)) := Lib.hid (Or.inr (by simp; omega))
    have Q4 : Hid (((([] ++ List.replicate k 0 : List Int).length : Nat) : Int) ≤ (N : Int)) := Lib.hid (by simp; omega)
    have E4 : Hid ((N : Int) - ((([] ++ List.replicate k 0 : List Int).length : Nat) : Int) = (N : Int) - (k : Int)) := Lib.hid (by simp)
    have Q5 : Hid ((([] ++ List.replicate k 0 : List Int).length) ≤ 400) := Lib.hid (by simp; omega)
    have E5 : Hid ((([] ++ List.replicate k 0 : List Int).length) = k) := Lib.hid (by simp)
    obtain ⟨b, hbb⟩ : ∃ b, ((k : Int) == (N : Int)) = b := ⟨_, rfl⟩
    have D : Hid (decide ((N : Int) - ((([] : List Int).length : Nat) : Int) - (k : Int) = 0) = b) := Lib.hid (by rw [← hbb, Bool.eq_iff_iff]; simp; omega)
    have z1 : (N : Int) + 1 = ((N + 1 : Nat) : Int) := by omega
    have z2 : (N : Int) - (k : Int) + 1 = ((N - k + 1 : Nat) : Int) := by omega
    have Z1 := Lib.hid z1
    have Z2 := Lib.hid z2
    have c1 : N + 1 ≤ 1000 := by omega
    have c2 : k ≤ 1000 := by omega
    have c3 : N - k + 1 ≤ 1000 := by omega
    clear hr hk z1 z2
    go_enter Try.func14, Try.ntmps14
    go_wp2_with (first
      | (go_at_call 34; (with_reducible refine (begun _).mono ?_); rintro e w1 ⟨rfl, hb1⟩; replace hb := bel_chain hb hb1; clear hb1)
      | (go_at_call 35; (with_reducible refine (new_ok w1 w1.heap.size (Nat.le_refl _) N hN1 hN2).mono ?_); rintro e w2 ⟨rfl, H, hb2⟩; have H2 := Lib.hid H; have hgN := hb.size; replace hb := bel_chain hb hb2; clear H hb2)
      | (go_at_call 39; (with_reducible refine (left_m (all := N) H2.out hN0 hN2 Q0.out E0.out).mono ?_); rintro e w3 ⟨rfl, hb3⟩; have H3 := Lib.hid (H2.out.below hb3); replace hb := bel_chain hb hb3; clear hb3 H2)
      | (go_at_call 37; ((with_reducible refine (add_nom (all := N) none 0 0 H3.out hN0 hN2 Q0.out (Or.inl rfl)).mono ?_); rintro e w4 ⟨rfl, hb4⟩; have H4 := Lib.hid (H3.out.below hb4); replace hb := bel_chain hb hb4; clear hb4 H3))
      | (at_make; refine make_b w4 rfl (.tmp 55) (.tmp 55) rfl _ (N + 1) rfl rfl Z1.out c1 ?_; intro w5 r5 hb5; have H5 := Lib.hid (H4.out.below hb5); have c1' := Lib.hid c1; replace hb := bel_chain hb hb5; clear hb5 H4 r5 c1)
      | (go_at_call 37; (with_reducible refine (add_nom (all := N) (some ⟨w4.heap.size, 0, none⟩) (N + 1) (N + 1) H5.out hN0 hN2 Q0.out Q1.out).mono ?_); rintro e w6 ⟨rfl, hb6⟩; have H6 := Lib.hid (H5.out.below hb6); replace hb := bel_chain hb hb6; clear hb6 H5)
      | (at_make; refine make_b w6 rfl (.tmp 67) (.tmp 67) rfl _ k rfl rfl rfl c2 ?_; intro w7 r7 hb7; have H7 := Lib.hid (H6.out.below hb7); have R7 := Lib.hid r7; replace hb := bel_chain hb hb7; clear hb7 H6 r7)
      | (go_at_call 37; (with_reducible refine (add_ok (all := N) (some ⟨w6.heap.size, 0, none⟩) k k H7.out H7.out.base hN0 hN2 hk0 Q2.out R7.out b D.out).mono ?_); rintro e w8 ⟨rfl, ⟨R8, H, _⟩, hk⟩; have H8 := Lib.hid H; replace hb := bel_kept hb H7.out hgN hk; clear H hk H7 R7)
      | (at_make; refine make_b w8 rfl (.tmp 77) (.tmp 77) rfl _ (N - k + 1) rfl rfl Z2.out c3 ?_; intro w9 r9 hb9; have H9 := Lib.hid (H8.out.below hb9); replace hb := bel_chain hb hb9; clear hb9 H8 r9)
      | (go_at_call 37; (with_reducible refine (add_nom (all := N) (some ⟨w8.heap.size, 0, none⟩) (N - k + 1) (N - k + 1) H9.out hN0 hN2 Q4.out Q3.out).mono ?_); rintro e w10 ⟨rfl, hb10⟩; have H10 := Lib.hid (H9.out.below hb10); replace hb := bel_chain hb hb10; clear hb10 H9)
      | (go_at_call 39; (with_reducible refine (left_m (all := N) H10.out hN0 hN2 Q4.out E4.out).mono ?_); rintro e w11 ⟨rfl, hb11⟩; have H11 := Lib.hid (H10.out.below hb11); replace hb := bel_chain hb hb11; clear hb11 H10)
      | (go_at_call 38; (with_reducible refine (bytes_n H11.out Q5.out E5.out).mono ?_); rintro e w12 ⟨A5, c5, rfl, _, hr5, hb12⟩; replace hb := bel_chain hb hb12; clear hr5 hb12)
      | fail)
    all_goals go_ret
    all_goals exact ⟨by simp, hb⟩
end Go.Proofs.Ytlohonlcoedfhaa.Piece
