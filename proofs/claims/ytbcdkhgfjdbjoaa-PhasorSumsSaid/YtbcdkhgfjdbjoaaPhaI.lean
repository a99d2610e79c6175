/- Products are added up, and what is beyond its most is nothing: PhasorSums walked. -/
import Derived.Test.YtbcdkhgfjdbjoaaPhaH
namespace Go.Proofs.Ytbcdkhgfjdbjoaa.Pha
open Go Go.RowKit Go.Proofs.Ytbcdkhgfjdbjoaa.Mem Go.Proofs.Ytbcdkhgfjdbjoaa.Kept Go.Proofs.Ytbcdkhgfjdbjoaa.Flt
set_option linter.unusedVariables false
set_option linter.unusedSimpArgs false
theorem bnd (k : Nat) {P : Int} (h : -1099511627776 ≤ P ∧ P ≤ 1099511627776) : -((k : Int) * 1099511627776) ≤ k * P ∧ (k : Int) * P ≤ k * 1099511627776 := by
  constructor
  · have := Int.mul_le_mul_of_nonneg_left h.1 (Int.natCast_nonneg k)
    rw [Int.mul_neg] at this; exact this
  · exact Int.mul_le_mul_of_nonneg_left h.2 (Int.natCast_nonneg k)
theorem sum_5 {x y Q : Int} (hQ : -1125899906842624 ≤ Q + x * y ∧ Q + x * y ≤ 1125899906842624) : storeF ⟨x, 0, y, 0, Q, 0⟩ 4 5 = ⟨x, 0, y, 0, Q + x * y, 0⟩ := by
  show turnF ⟨x, 0, y, 0, Q, 0⟩ 5 = _
  have e : preF ⟨x, 0, y, 0, Q, 0⟩ 5 = (Q + x * y, 0) := by
    show (Q + (x * y - 0 * 0), 0 + (x * 0 + 0 * y)) = _
    simp
  unfold turnF
  rw [e]
  show ({ a0 := x, a1 := 0, b0 := y, b1 := 0, r0 := cutF (Q + x * y), r1 := cutF 0 } : PS) = _
  rw [cut_id hQ, cut_id (by omega)]
/-- The greatest, so often. -/
def big (k : Nat) : Int := if k ≤ 1024 then (k : Int) * 1099511627776 else 0
theorem big_5 (k : Nat) (hk : k ≤ 1024) : storeF ⟨1048576, 0, 1048576, 0, big k, 0⟩ 4 5 = ⟨1048576, 0, 1048576, 0, big (k + 1), 0⟩ := by
  show turnF ⟨1048576, 0, 1048576, 0, big k, 0⟩ 5 = _
  have e : preF ⟨1048576, 0, 1048576, 0, big k, 0⟩ 5 = (((k : Int) + 1) * 1099511627776, 0) := by
    show (big k + ((1048576 : Int) * 1048576 - 0 * 0), (0 : Int) + (1048576 * 0 + 0 * 1048576)) = _
    have h1 : big k + ((1048576 : Int) * 1048576 - 0 * 0) = ((k : Int) + 1) * 1099511627776 := by
      unfold big
      rw [if_pos hk]
      omega
    have h2 : (0 : Int) + (1048576 * 0 + 0 * 1048576) = 0 := by omega
    rw [h1, h2]
  unfold turnF
  rw [e]
  show ({ a0 := 1048576, a1 := 0, b0 := 1048576, b1 := 0, r0 := cutF (((k : Int) + 1) * 1099511627776), r1 := cutF 0 } : PS) = _
  rw [cut_id (x := 0) (by omega)]
  have : cutF (((k : Int) + 1) * 1099511627776) = big (k + 1) := by
    unfold big cutF
    by_cases h : k + 1 ≤ 1024
    · rw [if_pos h, if_neg (by omega)]; push_cast; rfl
    · rw [if_neg h, if_pos (Or.inl (by omega))]
  rw [this]
set_option maxRecDepth 100000 in
set_option maxHeartbeats 8000000 in
theorem sums (W : World) (a b n : Int) (ha : -2147483648 ≤ a ∧ a ≤ 2147483647) (hb : -2147483648 ≤ b ∧ b ≤ 2147483647) (hn : 0 ≤ n ∧ n ≤ 255) :
    Calls Try.prog 5 #[.int .i32 a, .int .i32 b, .int .u8 n] W fun e w' => e = .returned (.bool true) ∧ Below W.heap.size W w' := by
  obtain ⟨x, hx⟩ : ∃ w, a.tdiv 2048 = w := ⟨_, rfl⟩
  obtain ⟨y, hy⟩ : ∃ w, b.tdiv 2048 = w := ⟨_, rfl⟩
  have ix := div_in ha
  have iy := div_in hb
  rw [hx] at ix
  rw [hy] at iy
  obtain ⟨m, rfl⟩ : ∃ m : Nat, n = m := ⟨n.toNat, by omega⟩
  have hm : m ≤ 255 := by omega
  have hP := mul_in ix iy
  have hin : (-1048576 ≤ x ∧ x ≤ 1048576) ∧ (-1048576 ≤ y ∧ y ≤ 1048576) := ⟨ix, iy⟩
  have g1 : wrap64 x = x := w64 _ (by omega)
  have g2 : wrap64 y = y := w64 _ (by omega)
  have E1 : storeF ⟨0, 0, 0, 0, 0, 0⟩ 0 (IntKind.u64.wrap x) = ⟨x, 0, 0, 0, 0, 0⟩ := by show ({ a0 := clipF (IntKind.u64.wrap x), a1 := 0, b0 := 0, b1 := 0, r0 := 0, r1 := 0 } : PS) = _; rw [clip_in x ix]
  have E2 : storeF ⟨x, 0, 0, 0, 0, 0⟩ 2 (IntKind.u64.wrap y) = ⟨x, 0, y, 0, 0, 0⟩ := by show ({ a0 := x, a1 := 0, b0 := clipF (IntKind.u64.wrap y), b1 := 0, r0 := 0, r1 := 0 } : PS) = _; rw [clip_in y iy]
  obtain ⟨P, hPe⟩ : ∃ P, x * y = P := ⟨_, rfl⟩
  rw [hPe] at hP
  have hPw : IntKind.i64.wrap (x * y) = P := by rw [hPe]; exact IntWalk.i64_in _ (by omega)
  have hPw2 : wrap64 (x * y) = P := by rw [hPe]; exact w64 _ (by omega)
  have HPe := Lib.hid hPe
  have HP := Lib.hid hP
  clear hin hPe hP ix iy hn
  go_enter Try.func5, Try.ntmps5
  go_wp2_with (first
    | (go_at_call 14; refine (begun _).mono ?_; rintro e w1 ⟨rfl, hb1⟩)
    | (go_at_call 15; refine (new_c _).mono ?_; rintro e w2 ⟨g, rfl, H2, hb2', hg'⟩; have hb2 := bel_chain hb1 hb2'; have hg : W.heap.size ≤ g := Nat.le_trans hb1.size hg')
    | (go_at_call 17; with_reducible refine (store_c H2 _ _ E1).mono ?_; rintro e w3 ⟨rfl, H3, k3⟩; have hb3 := bel_g hb2 hg k3)
    | (go_at_call 17; with_reducible refine (store_c H3 _ _ E2).mono ?_; rintro e w4 ⟨rfl, H4, k4⟩; have hb4 := bel_g hb3 hg k4)
    | fail)
  go_loopw [10, 11] (fun t i wr => ∃ (k : Nat) (Q : Int), k ≤ m ∧ i = .int .i64 k ∧ t = .int .i64 Q ∧ Hid (Q = k * P) ∧ Hid (Is wr g ⟨x, 0, y, 0, Q, 0⟩) ∧ Hid (Below W.heap.size W wr)) (fun _ i _ => m - (intOf i).toNat)
  case atStart => exact ⟨0, 0, by omega, rfl, rfl, Lib.hid (by simp), Lib.hid H4, Lib.hid hb4⟩
  case round =>
    clear H4 hb4 H3 hb3 H2 hb2
    obtain ⟨k, Q, hk, rfl, rfl, HQ, HI, HB⟩ := hrel
    by_cases hkm : k < m
    · have hQ' : Q + P = ((k + 1 : Nat) : Int) * P := by rw [HQ.out]; push_cast; rw [Int.add_mul, Int.one_mul]
      have hbd := bnd (k + 1) HP.out
      rw [← hQ'] at hbd
      have hbd' : -1125899906842624 ≤ Q + P ∧ Q + P ≤ 1125899906842624 := by omega
      have E : storeF ⟨x, 0, y, 0, Q, 0⟩ 4 5 = ⟨x, 0, y, 0, Q + P, 0⟩ := by rw [sum_5 (by rw [HPe.out]; exact hbd'), HPe.out]
      have hw1 : IntKind.i64.wrap (Q + P) = Q + P := IntWalk.i64_in _ (by omega)
      have hw2 : wrap64 (Q + P) = Q + P := w64 _ (by omega)
      have HQ2 := Lib.hid hQ'
      clear hQ' hbd hbd'
      go_wp2_with (first
        | (go_at_call 17; with_reducible refine (store_c HI.out _ _ E).mono ?_; rintro e w5 ⟨rfl, H5, k5⟩; have hb5 := bel_g HB.out hg k5)
        | fail)
      go_roundw
      case rel => exact ⟨k + 1, Q + P, by omega, by go_num, rfl, HQ2, Lib.hid H5, Lib.hid hb5⟩
      case measure => simp [intOf]; omega
    · obtain rfl : k = m := by omega
      have hbd := bnd k HP.out
      rw [← HQ.out] at hbd
      have hbk := back Q (by omega)
      have L5 : IntKind.u64.wrap (loadF ⟨x, 0, y, 0, Q, 0⟩ 5) = IntKind.u64.wrap Q := rfl
      have L6 : IntKind.u64.wrap (loadF ⟨x, 0, y, 0, Q, 0⟩ 6) = 0 := rfl
      have E3 : storeF ⟨x, 0, y, 0, Q, 0⟩ 4 7 = ⟨x, 0, y, 0, 0, 0⟩ := rfl
      have E4 : storeF ⟨x, 0, y, 0, 0, 0⟩ 0 9223372036854775807 = ⟨1048576, 0, y, 0, 0, 0⟩ := by show ({ a0 := clipF 9223372036854775807, a1 := 0, b0 := y, b1 := 0, r0 := 0, r1 := 0 } : PS) = _; rw [show clipF 9223372036854775807 = 1048576 by decide +kernel]
      have E5 : storeF ⟨1048576, 0, y, 0, 0, 0⟩ 2 1099511627776 = ⟨1048576, 0, 1048576, 0, 0, 0⟩ := by show ({ a0 := 1048576, a1 := 0, b0 := clipF 1099511627776, b1 := 0, r0 := 0, r1 := 0 } : PS) = _; rw [show clipF 1099511627776 = 1048576 by decide +kernel]
      have HI' := HI.out
      have HB' := HB.out
      clear hbd HI HB
      go_wp2_with (first
        | (go_at_call 19; with_reducible refine (load_q HI' _ L5).mono ?_; rintro e w5 ⟨rfl, rfl⟩)
        | (go_at_call 19; with_reducible refine (load_q HI' _ L6).mono ?_; rintro e w5 ⟨rfl, rfl⟩)
        | (go_at_call 17; with_reducible refine (store_c HI' _ _ E3).mono ?_; rintro e w6 ⟨rfl, H6, k6⟩; have hb6 := bel_g HB' hg k6)
        | (go_at_call 17; with_reducible refine (store_c H6 _ _ E4).mono ?_; rintro e w7 ⟨rfl, H7, k7⟩; have hb7 := bel_g hb6 hg k7)
        | (go_at_call 17; with_reducible refine (store_c H7 _ _ E5).mono ?_; rintro e w8 ⟨rfl, H8, k8⟩; have hb8 := bel_g hb7 hg k8)
        | fail)
      clear HI' HB' H6 hb6 H7 hb7 hbk
      go_loopw [12] (fun i wr => ∃ (j : Nat), j ≤ 1025 ∧ i = .int .i64 ((j : Int) + 1) ∧ Hid (Is wr g ⟨1048576, 0, 1048576, 0, big j, 0⟩) ∧ Hid (Below W.heap.size W wr)) (fun i _ => (1026 - intOf i).toNat)
      case atStart => exact ⟨0, by omega, rfl, Lib.hid H8, Lib.hid hb8⟩
      case round =>
        clear H8 hb8
        obtain ⟨j, hj, rfl, HI, HB⟩ := hrel
        by_cases hj4 : j ≤ 1024
        · have E := big_5 j hj4
          by_cases hj5 : j + 1 ≤ 1024
          · have hbg : big (j + 1) = ((j : Int) + 1) * 1099511627776 := by unfold big; rw [if_pos hj5]; push_cast; rfl
            have hbk := back (((j : Int) + 1) * 1099511627776) (by omega)
            rw [hbg] at E
            have L : IntKind.u64.wrap (loadF ⟨1048576, 0, 1048576, 0, ((j : Int) + 1) * 1099511627776, 0⟩ 5) = IntKind.u64.wrap (((j : Int) + 1) * 1099511627776) := rfl
            have hw1 : IntKind.i64.wrap (((j : Int) + 1) * 1099511627776) = ((j : Int) + 1) * 1099511627776 := IntWalk.i64_in _ (by omega)
            have q1 : ((j : Int) + 1 == 1025) = false := by rw [beq_eq_false_iff_ne]; omega
            have HBG := Lib.hid hbg
            clear hbg
            go_wp2_with (first
              | (go_at_call 17; with_reducible refine (store_c HI.out _ _ E).mono ?_; rintro e w9 ⟨rfl, H9, k9⟩; have hb9 := bel_g HB.out hg k9)
              | (go_at_call 19; with_reducible refine (load_q H9 _ L).mono ?_; rintro e w5 ⟨rfl, rfl⟩)
              | fail)
            go_roundw
            case rel => exact ⟨j + 1, by omega, by go_num, Lib.hid (by rw [HBG.out]; exact H9), Lib.hid hb9⟩
            case measure => simp [intOf]; omega
          · obtain rfl : j = 1024 := by omega
            have hbg : big (1024 + 1) = 0 := rfl
            rw [hbg] at E
            have L : IntKind.u64.wrap (loadF ⟨1048576, 0, 1048576, 0, 0, 0⟩ 5) = 0 := rfl
            clear hbg
            go_wp2_with (first
              | (go_at_call 17; with_reducible refine (store_c HI.out _ _ E).mono ?_; rintro e w9 ⟨rfl, H9, k9⟩; have hb9 := bel_g HB.out hg k9)
              | (go_at_call 19; with_reducible refine (load_q H9 _ L).mono ?_; rintro e w5 ⟨rfl, rfl⟩)
              | fail)
            go_roundw
            case rel => exact ⟨1025, by omega, by go_num, Lib.hid H9, Lib.hid hb9⟩
            case measure => simp [intOf]
        · obtain rfl : j = 1025 := by omega
          have L0 : IntKind.u64.wrap (loadF ⟨1048576, 0, 1048576, 0, big 1025, 0⟩ 0) = 1048576 := rfl
          have L2 : IntKind.u64.wrap (loadF ⟨1048576, 0, 1048576, 0, big 1025, 0⟩ 2) = 1048576 := rfl
          have HI' := HI.out
          go_wp2_with (first
            | (go_at_call 19; with_reducible refine (load_q HI' _ L0).mono ?_; rintro e w5 ⟨rfl, rfl⟩)
            | (go_at_call 19; with_reducible refine (load_q HI' _ L2).mono ?_; rintro e w5 ⟨rfl, rfl⟩)
            | fail)
          go_ret
          exact ⟨rfl, HB.out⟩
end Go.Proofs.Ytbcdkhgfjdbjoaa.Pha
