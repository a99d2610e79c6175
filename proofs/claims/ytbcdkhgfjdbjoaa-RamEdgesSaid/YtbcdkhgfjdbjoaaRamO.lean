/- Where a frame ends, for bytes and for none: the walk. -/
import Derived.Test.YtbcdkhgfjdbjoaaRamL
namespace Go.Proofs.Ytbcdkhgfjdbjoaa.Ram
open Go.RowKit Go.Proofs.Ytbcdkhgfjdbjoaa.Mem Go.Proofs.Ytbcdkhgfjdbjoaa.Kept
open Go.Proofs.YtbcdkhgfjdbjoaaW.PrintWords (nums ReadsInt)
set_option linter.unusedVariables false

set_option maxRecDepth 100000 in
set_option maxHeartbeats 4000000 in
theorem edges_in (w : World) (o k : Nat) (ho : o ≤ 128) (hok : o + k ≤ 128) : Calls Try.prog 13 #[.int .i16 o, .int .i16 k] w fun e w' => e = .returned (.bool true) ∧ Below w.heap.size w w' := by
  have hb := Below.refl w.heap.size w
  have C4 : Hid (frames 1 = 1) := Lib.hid (by decide)
  have C2 : Hid (secures 1 0 = 0) := Lib.hid (by decide)
  have v1_ : IntKind.i64.wrap (o : Int) = (o : Int) := IntWalk.i64_in _ (by omega)
  have v2_ : IntKind.i64.wrap (k : Int) = (k : Int) := IntWalk.i64_in _ (by omega)
  have b1 : (o : Int) ≤ 128 := by omega
  have b2 : (o : Int) + (k : Int) ≤ 128 := by omega
  have q1 : 0 < 1 := by omega
  have hk3 : k ≤ 1000 := by omega
  go_enter Try.func13, Try.ntmps13
  go_wp2_with (first
    | (go_at_call 22; (with_reducible refine (begun _).mono ?_); rintro e w1 ⟨rfl, hb1⟩; replace hb := bel_chain hb hb1; clear hb1)
    | (go_at_call 23; (with_reducible refine (new_i w1 1 0 1 0 C4.out C2.out).mono ?_); rintro e w2 ⟨g, b, rfl, H, hb2⟩; have H2 := Lib.hid H; have hB := Lib.hid hb.size; replace hb := bel_chain hb hb2; clear H hb2)
    | (go_at_call 35; (with_reducible refine (read_i H2.out false 0 o k 0 o k rfl rfl rfl q1 (Or.inr (Int.le_refl 0)) hok rfl).mono ?_); rintro e w3 ⟨A3, c3, rfl, hc3, hr3, hb3, hf3⟩; have H3 := Lib.hid (H2.out.below hb3); replace hb := bel_chain hb hb3; clear hr3 hb3 hf3 H2)
    | (at_make; refine make_b underB info5 w3 rfl (.tmp 71) (.tmp 71) rfl _ k rfl rfl rfl hk3 ?_; intro w4 r4 hb4; have H4 := Lib.hid (H3.out.below hb4); have R4 := Lib.hid r4; replace hb := bel_chain hb hb4; clear r4 hb4 H3)
    | (go_at_call 27; (with_reducible refine (write_i H4.out false 0 o 0 o rfl rfl (some ⟨w3.heap.size, 0, none⟩) k k q1 (Or.inr (Int.le_refl 0)) hok R4.out).mono ?_); rintro e w5 ⟨rfl, H, hk⟩; replace hb := bel_row hb H4.out hB.out q1 hk; clear H hk)
    | fail)
  all_goals go_ret
  all_goals exact ⟨rfl, hb⟩
set_option maxRecDepth 100000 in
set_option maxHeartbeats 8000000 in
theorem edges_out (w : World) (o k : Int) (ho : -32768 ≤ o ∧ o ≤ 32767) (hk : -32768 ≤ k ∧ k ≤ 32767) (h : o < 0 ∨ (0 ≤ o ∧ k < 0) ∨ (0 ≤ o ∧ 0 ≤ k ∧ 128 < o) ∨ (0 ≤ o ∧ 0 ≤ k ∧ o ≤ 128 ∧ 128 < o + k)) : Calls Try.prog 13 #[.int .i16 o, .int .i16 k] w fun e w' => e = .returned (.bool true) ∧ Below w.heap.size w w' := by
  have hb := Below.refl w.heap.size w
  have C4 : Hid (frames 1 = 1) := Lib.hid (by decide)
  have C2 : Hid (secures 1 0 = 0) := Lib.hid (by decide)
  have v1_ : IntKind.i64.wrap o = o := IntWalk.i64_in _ (by omega)
  have v2_ : IntKind.i64.wrap k = k := IntWalk.i64_in _ (by omega)
  have M : Hid (may 1 0 false 0 o k = false) := Lib.hid (by
    unfold may
    rcases h with h | ⟨h, h2⟩ | ⟨h, h2, h3⟩ | ⟨h, h2, h3, h4⟩
    · rw [decide_eq_false (show ¬ (0 ≤ o) by omega)]; simp
    · rw [decide_eq_false (show ¬ (0 ≤ k) by omega)]; simp
    · rw [decide_eq_false (show ¬ (o ≤ 128) by omega)]; simp
    · rw [decide_eq_false (show ¬ (k ≤ 128 - o) by omega)]; simp)
  obtain ⟨a1, a2⟩ := ho
  obtain ⟨a3, a4⟩ := hk
  by_cases h3 : k < 0
  · rcases h with h | ⟨h, h2⟩ | ⟨h, h2, h3⟩ | ⟨h, h2, h3, h4⟩ <;> first | (exfalso; omega) | skip
    all_goals
      go_enter Try.func13, Try.ntmps13
      go_wp2_with (first
        | (go_at_call 22; (with_reducible refine (begun _).mono ?_); rintro e w1 ⟨rfl, hb1⟩; replace hb := bel_chain hb hb1; clear hb1)
        | (go_at_call 23; (with_reducible refine (new_i w1 1 0 1 0 C4.out C2.out).mono ?_); rintro e w2 ⟨g, b, rfl, H, hb2⟩; have H2 := Lib.hid H; have hB := Lib.hid hb.size; replace hb := bel_chain hb hb2; clear H hb2)
        | (go_at_call 35; (with_reducible refine (read_no H2.out false 0 o k M.out).mono ?_); rintro e w3 ⟨rfl, rfl⟩)
        | fail)
      all_goals go_ret
      all_goals exact ⟨rfl, hb⟩
  · by_cases h5 : 300 < k
    · rcases h with h | ⟨h, h2⟩ | ⟨h, h2, h3⟩ | ⟨h, h2, h3, h4⟩ <;> first | (exfalso; omega) | skip
      all_goals
        go_enter Try.func13, Try.ntmps13
        go_wp2_with (first
          | (go_at_call 22; (with_reducible refine (begun _).mono ?_); rintro e w1 ⟨rfl, hb1⟩; replace hb := bel_chain hb hb1; clear hb1)
          | (go_at_call 23; (with_reducible refine (new_i w1 1 0 1 0 C4.out C2.out).mono ?_); rintro e w2 ⟨g, b, rfl, H, hb2⟩; have H2 := Lib.hid H; have hB := Lib.hid hb.size; replace hb := bel_chain hb hb2; clear H hb2)
          | (go_at_call 35; (with_reducible refine (read_no H2.out false 0 o k M.out).mono ?_); rintro e w3 ⟨rfl, rfl⟩)
          | fail)
        all_goals go_ret
        all_goals exact ⟨rfl, hb⟩
    · obtain ⟨m, rfl⟩ : ∃ m : Nat, k = (m : Int) := ⟨k.toNat, by omega⟩
      have hm3 : m ≤ 1000 := by omega
      rcases h with h | ⟨h, h2⟩ | ⟨h, h2, h3⟩ | ⟨h, h2, h3, h4⟩ <;> first | (exfalso; omega) | skip
      all_goals
        go_enter Try.func13, Try.ntmps13
        go_wp2_with (first
          | (go_at_call 22; (with_reducible refine (begun _).mono ?_); rintro e w1 ⟨rfl, hb1⟩; replace hb := bel_chain hb hb1; clear hb1)
          | (go_at_call 23; (with_reducible refine (new_i w1 1 0 1 0 C4.out C2.out).mono ?_); rintro e w2 ⟨g, b, rfl, H, hb2⟩; have H2 := Lib.hid H; have hB := Lib.hid hb.size; replace hb := bel_chain hb hb2; clear H hb2)
          | (go_at_call 35; (with_reducible refine (read_no H2.out false 0 o m M.out).mono ?_); rintro e w3 ⟨rfl, rfl⟩)
          | (at_make; refine make_b underB info5 w2 rfl (.tmp 71) (.tmp 71) rfl _ m rfl rfl rfl hm3 ?_; intro w4 r4 hb4; have H4 := Lib.hid (H2.out.below hb4); replace hb := bel_chain hb hb4; clear r4 hb4 H2)
          | (go_at_call 27; (with_reducible refine (write_no H4.out false 0 o (some ⟨w2.heap.size, 0, none⟩) m m M.out).mono ?_); rintro e w5 ⟨rfl, rfl⟩)
          | fail)
        all_goals go_ret
        all_goals exact ⟨rfl, hb⟩
theorem edges_all (w : World) (o k : Int) (ho : -32768 ≤ o ∧ o ≤ 32767) (hk : -32768 ≤ k ∧ k ≤ 32767) : Calls Try.prog 13 #[.int .i16 o, .int .i16 k] w fun e w' => e = .returned (.bool true) ∧ Below w.heap.size w w' := by
  by_cases h : o < 0 ∨ (0 ≤ o ∧ k < 0) ∨ (0 ≤ o ∧ 0 ≤ k ∧ 128 < o) ∨ (0 ≤ o ∧ 0 ≤ k ∧ o ≤ 128 ∧ 128 < o + k)
  · exact edges_out w o k ho hk h
  · obtain ⟨a, rfl⟩ : ∃ m : Nat, o = (m : Int) := ⟨o.toNat, by omega⟩
    obtain ⟨c, rfl⟩ : ∃ m : Nat, k = (m : Int) := ⟨k.toNat, by omega⟩
    exact edges_in w a c (by omega) (by omega)
end Go.Proofs.Ytbcdkhgfjdbjoaa.Ram
