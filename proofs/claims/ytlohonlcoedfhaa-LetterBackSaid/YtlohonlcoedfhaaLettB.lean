/- A letter comes back, whatever stands behind, and cut off it is none. -/
import Derived.Test.YtlohonlcoedfhaaLett
import Derived.Test.YtlohonlcoedfhaaLettP
namespace Go.Proofs.Ytlohonlcoedfhaa.Lett
open Go.RowKit Go.Proofs.Ytlohonlcoedfhaa.Mem
open Go.Proofs.YtlohonlcoedfhaaW.PrintWords (nums ReadsInt own_reads own_lit print_append_row)
set_option linter.unusedVariables false

set_option maxRecDepth 100000 in
set_option maxHeartbeats 8000000 in
theorem back (w : World) (f t cut : Int) (hf : 0 ≤ f ∧ f ≤ 65535) (ht : 0 ≤ t ∧ t ≤ 65535) (hq : 0 ≤ cut ∧ cut ≤ 255) (a : Option Addr) (cap : Nat) (l : List Int) (a2 : Option Addr) (cap2 : Nat) (l2 : List Int)
    (hl : l.length ≤ 1152921504606846976) (hcap : l.length ≤ cap) (hr : ReadsInt w .u8 a l.length l) (hl2 : l2.length ≤ 1152921504606846976) (hcap2 : l2.length ≤ cap2) (hr2 : ReadsInt w .u8 a2 l2.length l2) :
    Calls Try.prog 7 #[.int .u16 f, .int .u16 t, .slice a l.length cap, .slice a2 l2.length cap2, .int .u8 cut] w fun e w' => e = .returned (.bool true) ∧ Below w.heap.size w w' := by
  have hu := Try.underlying39
  have hb := Below.refl w.heap.size w
  have w1_ : IntKind.i64.wrap f = f := IntWalk.i64_in _ (by omega)
  have w2_ : IntKind.i64.wrap t = t := IntWalk.i64_in _ (by omega)
  have w3_ : IntKind.i64.wrap cut = cut := IntWalk.i64_in _ (by omega)
  have R := Lib.hid hr
  have R2 := Lib.hid hr2
  clear hr hr2
  by_cases h1 : 150 < (l.length : Int)
  · go_enter Try.func7, Try.ntmps7
    go_wp2_with (first
      | (go_at_call 22; refine (begun _).mono ?_; rintro e w1 ⟨rfl, hb1⟩; replace hb := bel_chain hb hb1; clear hb1)
      | fail)
    go_ret
    exact ⟨rfl, hb⟩
  by_cases h2 : 20 < (l2.length : Int)
  · go_enter Try.func7, Try.ntmps7
    go_wp2_with (first
      | (go_at_call 22; refine (begun _).mono ?_; rintro e w1 ⟨rfl, hb1⟩; replace hb := bel_chain hb hb1; clear hb1)
      | fail)
    go_ret
    exact ⟨rfl, hb⟩
  by_cases h3 : 122 < (l.length : Int)
  · have HP := Lib.hid (put_no f t l hf ht (by omega))
    go_enter Try.func7, Try.ntmps7
    go_wp2_with (first
      | (go_at_call 22; refine (begun _).mono ?_; rintro e w1 ⟨rfl, hb1⟩; replace R := Lib.hid (R.out.below hb1); replace hb := bel_chain hb hb1; clear hb1)
      | (go_at_call 23; refine (lput_call _ HP.out rfl hcap R.out).mono ?_; rintro e w2 ⟨v, rfl, ho, hb2⟩; obtain ⟨A, c, rfl, _⟩ := own_reads ho; replace hb := bel_chain hb hb2; clear hb2 ho)
      | fail)
    go_ret
    exact ⟨rfl, hb⟩
  · obtain ⟨B, hB⟩ : ∃ B, putB f t l = B := ⟨_, rfl⟩
    obtain ⟨nB, hnB⟩ : ∃ n, n = l.length + 6 := ⟨_, rfl⟩
    have hBl : B.length = nB := by rw [← hB, putB_len, hnB]
    obtain ⟨k, hk⟩ : ∃ k : Nat, cut % (nB : Int) = (k : Int) := ⟨(cut % (nB : Int)).toNat, by have := Int.emod_nonneg cut (show (nB : Int) ≠ 0 by omega); omega⟩
    have hklt : k < nB := by have := Int.emod_lt_of_pos cut (show (0 : Int) < (nB : Int) by omega); omega
    have hrem : Int.tmod cut (nB : Int) = (k : Int) := by rw [Int.tmod_eq_emod_of_nonneg hq.1, hk]
    have hp0 := put_ok f t l hf ht (by omega)
    have ht0 := take_back f t l l2 hf ht (by omega) (by omega)
    have hc0 := take_cut f t l k (by omega) (by omega)
    rw [hB] at hp0 ht0 hc0
    have HP := Lib.hid hp0
    have HT := Lib.hid ht0
    have HC := Lib.hid hc0
    have HBL := Lib.hid hBl
    have HTL : Hid ((B.take k).length = k) := Lib.hid (by rw [List.length_take]; omega)
    obtain ⟨n4, hn4⟩ : ∃ n4, (B ++ l2).length = n4 := ⟨_, rfl⟩
    have h04 : 0 < n4 := by rw [← hn4, List.length_append]; omega
    have HAL := Lib.hid hn4
    have w4_ : IntKind.i64.wrap (k : Int) = (k : Int) := IntWalk.i64_in _ (by omega)
    have w5_ : IntKind.i64.wrap (6 + (l.length : Int)) = (nB : Int) := by rw [IntWalk.i64_in _ (by omega)]; omega
    have hk0 : (0 : Int) ≤ (k : Int) := by omega
    have hne : (nB : Int) ≠ 0 := by omega
    have hnB2 : nB ≤ 128 := by omega
    clear hp0 ht0 hc0 hB hBl hk hnB hn4
    go_enter Try.func7, Try.ntmps7
    go_wp2_with (first
      | (go_at_call 22; refine (begun _).mono ?_; rintro e w1 ⟨rfl, hb1⟩; replace R := Lib.hid (R.out.below hb1); replace R2 := Lib.hid (R2.out.below hb1); replace hb := bel_chain hb hb1; clear hb1)
      | (go_at_call 23; refine (lput_call _ HP.out rfl hcap R.out).mono ?_; rintro e w2 ⟨v, rfl, ho, hb2⟩; rw [HBL.out] at ho; obtain ⟨g, c, rfl, hcB, hgb⟩ := own_some ho (by omega); have RB := Lib.hid (reads_own ho); have hkc : (k : Int) ≤ (c : Int) := (by omega); replace R := Lib.hid (R.out.below hb2); replace R2 := Lib.hid (R2.out.below hb2); replace hb := bel_chain hb hb2; clear hb2 ho)
      | (at_builtin; refine print_append_row w2.heap.size rfl (.tmp 58) (.tmp 59) 25 5 .u8 1 rfl Loan.underlyingB Loan.info5 (by decide) _ [] B (some ⟨g, 0, none⟩) nB c rfl rfl (own_lit _ w2.heap.size 5 .u8 [] (Nat.le_refl _) (by simp)) (RB.out.below (bel_alloc (Below.refl _ _) _)) (bel_alloc (Below.refl _ _) _) (bel_alloc (Below.refl _ _) _).size (by simp; omega) ?_; intro v3 w3 ho3 hb3 hg3 hat3; have hsz3 := hb3.size; have R23 := Lib.hid (R2.out.below hb3); clear hg3 hat3)
      | (at_builtin; refine print_append_row w2.heap.size rfl (.tmp 60) (.tmp 61) 25 5 .u8 1 rfl Loan.underlyingB Loan.info5 (by decide) _ ([] ++ B) l2 a2 l2.length cap2 rfl rfl ho3 R23.out hb3 hsz3 (by simp [HBL.out]; omega) ?_; intro v4 w4 ho4 hb4 hg4 hat4; rw [List.nil_append, HAL.out] at ho4; obtain ⟨g4, c4, rfl, hc4, hgg4⟩ := own_some ho4 h04; have R4 := Lib.hid (reads_own ho4); replace R := Lib.hid (R.out.below hb4); replace RB := Lib.hid (RB.out.below hb4); replace hb := bel_chain hb hb4; clear hb3 hb4 hg4 hat4 ho3 ho4 R23)
      | (go_at_call 25; refine (ltake_call _ HT.out HAL.out rfl hc4 R4.out).mono ?_; rintro e w5 ⟨A5, c5, rfl, hc5, hr5, hb5⟩; replace R := Lib.hid (R.out.below hb5); replace RB := Lib.hid (RB.out.below hb5); have R5 := Lib.hid hr5; replace hb := bel_chain hb hb5; clear R4 hr5 hb5)
      | (go_at_call 25; refine (ltake_call (w5.alloc (.cells #[.int .i64 f, .int .i64 t, .slice A5 l.length c5] 39)) HC.out HTL.out rfl (by omega) (reads_front (RB.out.below (bel_alloc (Below.refl _ _) _)) (by omega))).mono ?_; rintro e w6 ⟨A6, c6, rfl, hc6, hr6, hb6⟩; have y0 := (cells3a (blk_below (blk_new w5 (.cells #[.int .i64 f, .int .i64 t, .slice A5 l.length c5] 39)) hb6)).1 (.cells #[.int .i64 0, .int .i64 0, .slice A6 0 c6] 39); have y1 := (cells3a (blk_below (blk_new w5 (.cells #[.int .i64 f, .int .i64 t, .slice A5 l.length c5] 39)) hb6)).2.1 (.cells #[.int .i64 0, .int .i64 0, .slice A6 0 c6] 39); have y2 := (cells3a (blk_below (blk_new w5 (.cells #[.int .i64 f, .int .i64 t, .slice A5 l.length c5] 39)) hb6)).2.2 (.cells #[.int .i64 0, .int .i64 0, .slice A6 0 c6] 39); have v1 := Loan.conv (c := c5) (((R5.out.below (bel_alloc (Below.refl _ _) (.cells #[.int .i64 f, .int .i64 t, .slice A5 l.length c5] 39))).below hb6).below (bel_alloc (Below.refl _ _) (.cells #[.int .i64 0, .int .i64 0, .slice A6 0 c6] 39))); have v2 := Loan.conv (c := cap) (((R.out.below (bel_alloc (Below.refl _ _) (.cells #[.int .i64 f, .int .i64 t, .slice A5 l.length c5] 39))).below hb6).below (bel_alloc (Below.refl _ _) (.cells #[.int .i64 0, .int .i64 0, .slice A6 0 c6] 39))); replace hb := bel_chain (bel_alloc hb (.cells #[.int .i64 f, .int .i64 t, .slice A5 l.length c5] 39)) hb6; clear hb6 hr6 RB)
      | fail)
    all_goals go_ret
    all_goals exact ⟨by simp, bel_alloc hb _⟩
theorem reads_plain {w : World} {a : Option Addr} {b off : Nat} {l : List Int} (hl : l.length ≤ 1152921504606846976) (ha : 0 < l.length → a = some ⟨b, off, none⟩) (hc : ∀ i, i < l.length → w.cell? ⟨b, off + i, none⟩ = some (.int .u8 (l.getD i 0))) : ReadsInt w .u8 a l.length l :=
  ⟨rfl, by omega, fun h => ⟨_, ha h, fun j hj => by rw [Loan.add_at]; exact hc j hj⟩⟩
end Go.Proofs.Ytlohonlcoedfhaa.Lett
