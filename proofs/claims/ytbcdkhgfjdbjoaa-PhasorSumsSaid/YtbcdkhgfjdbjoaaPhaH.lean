/- Four turns are none; what is stored is as near as may be: PhasorTurns, PhasorClips walked. -/
import Derived.Test.YtbcdkhgfjdbjoaaPhaG
namespace Go.Proofs.Ytbcdkhgfjdbjoaa.Pha
open Go Go.RowKit Go.Proofs.Ytbcdkhgfjdbjoaa.Mem Go.Proofs.Ytbcdkhgfjdbjoaa.Kept Go.Proofs.Ytbcdkhgfjdbjoaa.Flt
set_option linter.unusedVariables false
set_option linter.unusedSimpArgs false
def rot (w x : Int) : Nat → Int × Int
  | 0 => (w, x)
  | k + 1 => (-(rot w x k).2, (rot w x k).1)
theorem in_neg {a : Int} (h : In20 a) : In20 (-a) := by unfold In20 at *; omega
theorem rot_in {w x : Int} (hw : In20 w) (hx : In20 x) (k : Nat) : In20 (rot w x k).1 ∧ In20 (rot w x k).2 := by
  induction k with
  | zero => exact ⟨hw, hx⟩
  | succ k ih => exact ⟨in_neg ih.2, ih.1⟩
theorem rot_4 (w x : Int) : rot w x 4 = (w, x) := by simp [rot]
theorem in_0 : In20 0 := by unfold In20; omega
theorem q_3 {w x y z : Int} (hw : In20 w) (hx : In20 x) (hy : In20 y) (hz : In20 z) : SetP w (-x) y (-z) 3 (w * y - x * z) (-(w * z + x * y)) := by
  have h := p_3 hw (in_neg hx) hy (in_neg hz)
  rw [Int.neg_mul_neg, Int.mul_neg, Int.neg_mul, ← Int.neg_add] at h
  exact h
theorem q_8 {w x : Int} (hw : In20 w) (hx : In20 x) : SetP w (-x) w x 3 (w * w + x * x) 0 := by
  have h := p_3 hw (in_neg hx) hw hx
  rw [Int.neg_mul, Int.neg_mul, Int.sub_neg, Int.mul_comm x w, Int.add_right_neg] at h
  exact h
set_option maxRecDepth 100000 in
set_option maxHeartbeats 8000000 in
theorem turns (W : World) (a b c d : Int) (ha : -2147483648 ≤ a ∧ a ≤ 2147483647) (hb : -2147483648 ≤ b ∧ b ≤ 2147483647) (hc : -2147483648 ≤ c ∧ c ≤ 2147483647) (hd : -2147483648 ≤ d ∧ d ≤ 2147483647) :
    Calls Try.prog 6 #[.int .i32 a, .int .i32 b, .int .i32 c, .int .i32 d] W fun e w' => e = .returned (.bool true) ∧ Below W.heap.size W w' := by
  obtain ⟨w, hw⟩ : ∃ w, a.tdiv 2048 = w := ⟨_, rfl⟩
  obtain ⟨x, hx⟩ : ∃ w, b.tdiv 2048 = w := ⟨_, rfl⟩
  obtain ⟨y, hy⟩ : ∃ w, c.tdiv 2048 = w := ⟨_, rfl⟩
  obtain ⟨z, hz⟩ : ∃ w, d.tdiv 2048 = w := ⟨_, rfl⟩
  have iw := div_in ha
  have ix := div_in hb
  have iy := div_in hc
  have iz := div_in hd
  rw [hw] at iw
  rw [hx] at ix
  rw [hy] at iy
  rw [hz] at iz
  have P3 := p_3 iw ix iy iz
  have P8 := p_8 iw ix iy iz
  have Q3 := q_3 iw ix iy iz
  have Q8 := q_8 iw ix
  have nx := in_neg ix
  have nz := in_neg iz
  have m2 := mul_in iw iz
  have m3 := mul_in ix iy
  have hin : (-1048576 ≤ w ∧ w ≤ 1048576) ∧ (-1048576 ≤ x ∧ x ≤ 1048576) ∧ (-1048576 ≤ y ∧ y ≤ 1048576) ∧ (-1048576 ≤ z ∧ z ≤ 1048576) := ⟨iw, ix, iy, iz⟩
  have g1 : wrap64 w = w := w64 _ (by omega)
  have g2 : wrap64 x = x := w64 _ (by omega)
  have g3 : wrap64 y = y := w64 _ (by omega)
  have g4 : wrap64 z = z := w64 _ (by omega)
  have e1 : IntKind.i64.wrap (-x) = -x := IntWalk.i64_in _ (by omega)
  have e2 : IntKind.i64.wrap (-z) = -z := IntWalk.i64_in _ (by omega)
  have e3 : IntKind.i64.wrap (-(w * z + x * y)) = -(w * z + x * y) := IntWalk.i64_in _ (by omega)
  have f1 : wrap64 (-x) = -x := w64 _ (by omega)
  have f2 : wrap64 (-z) = -z := w64 _ (by omega)
  have f3 : wrap64 (-(w * z + x * y)) = -(w * z + x * y) := w64 _ (by omega)
  clear m2 m3 hin
  go_enter Try.func6, Try.ntmps6
  go_wp2_with (first
    | (go_at_call 14; refine (begun _).mono ?_; rintro e w1 ⟨rfl, hb1⟩)
    | fail)
  simp only [g1, g2, g3, g4]
  go_loopw [13, 14, 15] (fun p q i wr => ∃ (k : Nat) (P Q : Int), k ≤ 4 ∧ i = .int .i64 k ∧ p = .int .i64 P ∧ q = .int .i64 Q ∧ Hid (rot w x k = (P, Q)) ∧ Hid (Below W.heap.size W wr)) (fun _ _ i _ => 4 - (intOf i).toNat)
  case atStart => exact ⟨0, w, x, by omega, rfl, by first | rfl | rw [g1], by first | rfl | rw [g2], Lib.hid rfl, Lib.hid hb1⟩
  case round =>
    clear hb1
    obtain ⟨k, P, Q, hk, rfl, rfl, rfl, HR, HB⟩ := hrel
    by_cases hk4 : k < 4
    · have hr := rot_in iw ix k
      rw [HR.out] at hr
      obtain ⟨ip, iq⟩ := hr
      have P6 := p_6 ip iq in_0 in_0
      go_wp2_with (first
        | (go_at_call 21; with_reducible refine (set_c _ ip iq in_0 in_0 P6).mono ?_; rintro e w2 ⟨rfl, hb2⟩; replace hb2 := bel_chain HB.out hb2)
        | fail)
      go_roundw
      case rel => exact ⟨k + 1, -Q, P, by omega, by go_num, rfl, rfl, Lib.hid (by unfold rot; rw [HR.out]), Lib.hid hb2⟩
      case measure => simp [intOf]; omega
    · obtain rfl : k = 4 := by omega
      have hr := HR.out
      rw [rot_4] at hr
      injection hr with h1 h2
      subst h1 h2
      have hb1 := HB.out
      clear HR HB
      go_wp2_with (first
        | (go_at_call 21; with_reducible refine (set_c _ iw ix iy iz P3).mono ?_; rintro e w2 ⟨rfl, hb2⟩; replace hb2 := bel_chain hb1 hb2)
        | (go_at_call 21; with_reducible refine (set_c _ iw nx iy nz Q3).mono ?_; rintro e w3 ⟨rfl, hb3⟩; replace hb3 := bel_chain hb2 hb3)
        | (go_at_call 21; with_reducible refine (set_c _ iw ix iy iz P8).mono ?_; rintro e w4 ⟨rfl, hb4⟩; replace hb4 := bel_chain hb3 hb4)
        | (go_at_call 21; with_reducible refine (set_c _ iw nx iw ix Q8).mono ?_; rintro e w5 ⟨rfl, hb5⟩; replace hb5 := bel_chain hb4 hb5)
        | fail)
      go_ret
      exact ⟨rfl, hb5⟩
theorem clip_w (v : Int) : ∃ n, IntKind.i64.wrap v = n ∧ ((n < -1048576 ∧ clipF v = -1048576) ∨ (1048576 < n ∧ clipF v = 1048576) ∨ (-1048576 ≤ n ∧ n ≤ 1048576 ∧ clipF v = n)) := by
  refine ⟨_, rfl, ?_⟩
  unfold clipF clipZ
  by_cases h1 : IntKind.i64.wrap v < -1048576
  · rw [if_pos h1]; exact .inl ⟨h1, rfl⟩
  · rw [if_neg h1]
    by_cases h2 : 1048576 < IntKind.i64.wrap v
    · rw [if_pos h2]; exact .inr (.inl ⟨h2, rfl⟩)
    · rw [if_neg h2]; exact .inr (.inr ⟨by omega, by omega, rfl⟩)
def Z6 : PS := ⟨0, 0, 0, 0, 0, 0⟩
theorem one_load {k : Nat} (hk : k < 4) (v : Int) (i : Nat) (hi : i < 8) : loadF (storeF Z6 k v) i = if i = k then clipF v else 0 := by
  have h1 : k = 0 ∨ k = 1 ∨ k = 2 ∨ k = 3 := by omega
  have h2 : i = 0 ∨ i = 1 ∨ i = 2 ∨ i = 3 ∨ i = 4 ∨ i = 5 ∨ i = 6 ∨ i = 7 := by omega
  rcases h1 with rfl | rfl | rfl | rfl <;> rcases h2 with rfl | rfl | rfl | rfl | rfl | rfl | rfl | rfl <;> simp [loadF, storeF, Z6]
theorem storeF_in {s : PS} (h : s.In) (k v : Int) : (storeF s k v).In := by
  unfold PS.In at *
  obtain ⟨h0, h1, h2, h3, h4, h5⟩ := h
  have hc := clipF_in v
  unfold storeF
  split
  · exact ⟨hc, h1, h2, h3, h4, h5⟩
  · split
    · exact ⟨h0, hc, h2, h3, h4, h5⟩
    · split
      · exact ⟨h0, h1, hc, h3, h4, h5⟩
      · split
        · exact ⟨h0, h1, h2, hc, h4, h5⟩
        · split
          · exact ⟨h0, h1, h2, h3, cutF_in _, cutF_in _⟩
          · exact ⟨h0, h1, h2, h3, h4, h5⟩
set_option maxRecDepth 100000 in
set_option maxHeartbeats 8000000 in
theorem clips (W : World) (a v : Int) (ha : 0 ≤ a ∧ a ≤ 255) (hv : 0 ≤ v ∧ v ≤ 18446744073709551615) :
    Calls Try.prog 7 #[.int .u8 a, .int .u64 v] W fun e w' => e = .returned (.bool true) ∧ Below W.heap.size W w' := by
  obtain ⟨k, hk, hk4⟩ : ∃ k : Nat, a % 4 = k ∧ k < 4 := ⟨(a % 4).toNat, by omega, by omega⟩
  have hkt : a.tmod 4 = (k : Int) := by rw [Int.tmod_eq_emod_of_nonneg ha.1]; exact hk
  obtain ⟨S, hS⟩ : ∃ S, storeF Z6 k v = S := ⟨_, rfl⟩
  have hSi : S.In := by rw [← hS]; exact storeF_in (by unfold Z6 PS.In; decide) _ _
  have E0 : storeF ⟨0, 0, 0, 0, 0, 0⟩ k v = S := hS
  have E1 : storeF S 4 9 = S := by show turnF S 9 = S; exact turn_id hSi (by decide) (by decide) (by decide) (by decide) (by decide) (by decide) (by decide) (by decide)
  have E2 : storeF S 5 1 = S := rfl
  have E3 : storeF S 7 1 = S := rfl
  have E4 : storeF S (-1) 1 = S := rfl
  have HL : Hid (∀ i : Nat, i < 8 → loadF S i = if i = k then clipF v else 0) := Lib.hid (fun i hi => by rw [← hS]; exact one_load hk4 v i hi)
  have L5 : IntKind.u64.wrap (loadF S 5) = 0 := by have := HL.out 5 (by omega); rw [if_neg (by omega)] at this; rw [show loadF S 5 = 0 from this]; rfl
  have L6 : IntKind.u64.wrap (loadF S 6) = 0 := by have := HL.out 6 (by omega); rw [if_neg (by omega)] at this; rw [show loadF S 6 = 0 from this]; rfl
  have L7 : IntKind.u64.wrap (loadF S 7) = 0 := by have := HL.out 7 (by omega); rw [if_neg (by omega)] at this; rw [show loadF S 7 = 0 from this]; rfl
  obtain ⟨n, hn, hc⟩ := clip_w v
  obtain ⟨C, hC⟩ : ∃ c, clipF v = c := ⟨_, rfl⟩
  rw [hC] at hc HL
  clear hS hC ha hv hSi
  rcases hc with ⟨h1, rfl⟩ | ⟨h1, rfl⟩ | ⟨h1, h2, rfl⟩
  · go_enter Try.func7, Try.ntmps7
    go_wp2_with (first
      | (go_at_call 14; refine (begun _).mono ?_; rintro e w1 ⟨rfl, hb1⟩)
      | (go_at_call 15; refine (new_c _).mono ?_; rintro e w2 ⟨g, rfl, H2, hb2', hg'⟩; have hb2 := bel_chain hb1 hb2'; have hg : W.heap.size ≤ g := Nat.le_trans hb1.size hg')
      | (go_at_call 17; with_reducible refine (store_c H2 _ _ E0).mono ?_; rintro e w3 ⟨rfl, H3, k3⟩; have hb3 := bel_g hb2 hg k3)
      | fail)
    clear H2 hb2 k3
    go_loopw [8] (fun i wr => ∃ (j : Nat), j ≤ 8 ∧ i = .int .i64 j ∧ wr = w3) (fun i _ => 8 - (intOf i).toNat)
    case atStart => exact ⟨0, by omega, rfl, rfl⟩
    case round =>
      obtain ⟨j, hj, rfl, rfl⟩ := hrel
      by_cases hj8 : j < 8
      · have hl := HL.out j hj8
        by_cases hjk : j = k
        · subst hjk
          rw [if_pos rfl] at hl
          have L : IntKind.u64.wrap (loadF S j) = IntKind.u64.wrap (-1048576) := by rw [hl]
          clear hl
          go_wp2_with (first
            | (go_at_call 19; with_reducible refine (load_q H3 _ L).mono ?_; rintro e w5 ⟨rfl, rfl⟩)
            | fail)
          go_roundw
          case rel => exact ⟨j + 1, by omega, by go_num, trivial⟩
          case measure => simp [intOf]; omega
        · rw [if_neg hjk] at hl
          have L : IntKind.u64.wrap (loadF S j) = 0 := by rw [hl]; rfl
          have q1 : ((j : Int) == (k : Int)) = false := by rw [beq_eq_false_iff_ne]; omega
          clear hl
          go_wp2_with (first
            | (go_at_call 19; with_reducible refine (load_q H3 _ L).mono ?_; rintro e w5 ⟨rfl, rfl⟩)
            | fail)
          go_roundw
          case rel => exact ⟨j + 1, by omega, by go_num, trivial⟩
          case measure => simp [intOf]; omega
      · obtain rfl : j = 8 := by omega
        go_wp2_with (first
          | (go_at_call 17; with_reducible refine (store_c H3 _ _ E1).mono ?_; rintro e w4 ⟨rfl, H4, k4⟩; have hb4 := bel_g hb3 hg k4)
          | (go_at_call 17; with_reducible refine (store_c H4 _ _ E2).mono ?_; rintro e w5 ⟨rfl, H5, k5⟩; have hb5 := bel_g hb4 hg k5)
          | (go_at_call 17; with_reducible refine (store_c H5 _ _ E3).mono ?_; rintro e w6 ⟨rfl, H6, k6⟩; have hb6 := bel_g hb5 hg k6)
          | (go_at_call 17; with_reducible refine (store_c H6 _ _ E4).mono ?_; rintro e w7 ⟨rfl, H7, k7⟩; have hb7 := bel_g hb6 hg k7)
          | (go_at_call 19; with_reducible refine (load_q H7 _ L5).mono ?_; rintro e w8 ⟨rfl, rfl⟩)
          | (go_at_call 19; with_reducible refine (load_q H7 _ L6).mono ?_; rintro e w8 ⟨rfl, rfl⟩)
          | (go_at_call 19; with_reducible refine (load_q H7 _ L7).mono ?_; rintro e w8 ⟨rfl, rfl⟩)
          | fail)
        go_ret
        exact ⟨rfl, hb7⟩
  · go_enter Try.func7, Try.ntmps7
    go_wp2_with (first
      | (go_at_call 14; refine (begun _).mono ?_; rintro e w1 ⟨rfl, hb1⟩)
      | (go_at_call 15; refine (new_c _).mono ?_; rintro e w2 ⟨g, rfl, H2, hb2', hg'⟩; have hb2 := bel_chain hb1 hb2'; have hg : W.heap.size ≤ g := Nat.le_trans hb1.size hg')
      | (go_at_call 17; with_reducible refine (store_c H2 _ _ E0).mono ?_; rintro e w3 ⟨rfl, H3, k3⟩; have hb3 := bel_g hb2 hg k3)
      | fail)
    clear H2 hb2 k3
    go_loopw [8] (fun i wr => ∃ (j : Nat), j ≤ 8 ∧ i = .int .i64 j ∧ wr = w3) (fun i _ => 8 - (intOf i).toNat)
    case atStart => exact ⟨0, by omega, rfl, rfl⟩
    case round =>
      obtain ⟨j, hj, rfl, rfl⟩ := hrel
      by_cases hj8 : j < 8
      · have hl := HL.out j hj8
        by_cases hjk : j = k
        · subst hjk
          rw [if_pos rfl] at hl
          have L : IntKind.u64.wrap (loadF S j) = IntKind.u64.wrap 1048576 := by rw [hl]
          clear hl
          go_wp2_with (first
            | (go_at_call 19; with_reducible refine (load_q H3 _ L).mono ?_; rintro e w5 ⟨rfl, rfl⟩)
            | fail)
          go_roundw
          case rel => exact ⟨j + 1, by omega, by go_num, trivial⟩
          case measure => simp [intOf]; omega
        · rw [if_neg hjk] at hl
          have L : IntKind.u64.wrap (loadF S j) = 0 := by rw [hl]; rfl
          have q1 : ((j : Int) == (k : Int)) = false := by rw [beq_eq_false_iff_ne]; omega
          clear hl
          go_wp2_with (first
            | (go_at_call 19; with_reducible refine (load_q H3 _ L).mono ?_; rintro e w5 ⟨rfl, rfl⟩)
            | fail)
          go_roundw
          case rel => exact ⟨j + 1, by omega, by go_num, trivial⟩
          case measure => simp [intOf]; omega
      · obtain rfl : j = 8 := by omega
        go_wp2_with (first
          | (go_at_call 17; with_reducible refine (store_c H3 _ _ E1).mono ?_; rintro e w4 ⟨rfl, H4, k4⟩; have hb4 := bel_g hb3 hg k4)
          | (go_at_call 17; with_reducible refine (store_c H4 _ _ E2).mono ?_; rintro e w5 ⟨rfl, H5, k5⟩; have hb5 := bel_g hb4 hg k5)
          | (go_at_call 17; with_reducible refine (store_c H5 _ _ E3).mono ?_; rintro e w6 ⟨rfl, H6, k6⟩; have hb6 := bel_g hb5 hg k6)
          | (go_at_call 17; with_reducible refine (store_c H6 _ _ E4).mono ?_; rintro e w7 ⟨rfl, H7, k7⟩; have hb7 := bel_g hb6 hg k7)
          | (go_at_call 19; with_reducible refine (load_q H7 _ L5).mono ?_; rintro e w8 ⟨rfl, rfl⟩)
          | (go_at_call 19; with_reducible refine (load_q H7 _ L6).mono ?_; rintro e w8 ⟨rfl, rfl⟩)
          | (go_at_call 19; with_reducible refine (load_q H7 _ L7).mono ?_; rintro e w8 ⟨rfl, rfl⟩)
          | fail)
        go_ret
        exact ⟨rfl, hb7⟩
  · go_enter Try.func7, Try.ntmps7
    go_wp2_with (first
      | (go_at_call 14; refine (begun _).mono ?_; rintro e w1 ⟨rfl, hb1⟩)
      | (go_at_call 15; refine (new_c _).mono ?_; rintro e w2 ⟨g, rfl, H2, hb2', hg'⟩; have hb2 := bel_chain hb1 hb2'; have hg : W.heap.size ≤ g := Nat.le_trans hb1.size hg')
      | (go_at_call 17; with_reducible refine (store_c H2 _ _ E0).mono ?_; rintro e w3 ⟨rfl, H3, k3⟩; have hb3 := bel_g hb2 hg k3)
      | fail)
    clear H2 hb2 k3
    go_loopw [8] (fun i wr => ∃ (j : Nat), j ≤ 8 ∧ i = .int .i64 j ∧ wr = w3) (fun i _ => 8 - (intOf i).toNat)
    case atStart => exact ⟨0, by omega, rfl, rfl⟩
    case round =>
      obtain ⟨j, hj, rfl, rfl⟩ := hrel
      by_cases hj8 : j < 8
      · have hl := HL.out j hj8
        by_cases hjk : j = k
        · subst hjk
          rw [if_pos rfl] at hl
          have L : IntKind.u64.wrap (loadF S j) = IntKind.u64.wrap C := by rw [hl]
          clear hl
          go_wp2_with (first
            | (go_at_call 19; with_reducible refine (load_q H3 _ L).mono ?_; rintro e w5 ⟨rfl, rfl⟩)
            | fail)
          go_roundw
          case rel => exact ⟨j + 1, by omega, by go_num, trivial⟩
          case measure => simp [intOf]; omega
        · rw [if_neg hjk] at hl
          have L : IntKind.u64.wrap (loadF S j) = 0 := by rw [hl]; rfl
          have q1 : ((j : Int) == (k : Int)) = false := by rw [beq_eq_false_iff_ne]; omega
          clear hl
          go_wp2_with (first
            | (go_at_call 19; with_reducible refine (load_q H3 _ L).mono ?_; rintro e w5 ⟨rfl, rfl⟩)
            | fail)
          go_roundw
          case rel => exact ⟨j + 1, by omega, by go_num, trivial⟩
          case measure => simp [intOf]; omega
      · obtain rfl : j = 8 := by omega
        go_wp2_with (first
          | (go_at_call 17; with_reducible refine (store_c H3 _ _ E1).mono ?_; rintro e w4 ⟨rfl, H4, k4⟩; have hb4 := bel_g hb3 hg k4)
          | (go_at_call 17; with_reducible refine (store_c H4 _ _ E2).mono ?_; rintro e w5 ⟨rfl, H5, k5⟩; have hb5 := bel_g hb4 hg k5)
          | (go_at_call 17; with_reducible refine (store_c H5 _ _ E3).mono ?_; rintro e w6 ⟨rfl, H6, k6⟩; have hb6 := bel_g hb5 hg k6)
          | (go_at_call 17; with_reducible refine (store_c H6 _ _ E4).mono ?_; rintro e w7 ⟨rfl, H7, k7⟩; have hb7 := bel_g hb6 hg k7)
          | (go_at_call 19; with_reducible refine (load_q H7 _ L5).mono ?_; rintro e w8 ⟨rfl, rfl⟩)
          | (go_at_call 19; with_reducible refine (load_q H7 _ L6).mono ?_; rintro e w8 ⟨rfl, rfl⟩)
          | (go_at_call 19; with_reducible refine (load_q H7 _ L7).mono ?_; rintro e w8 ⟨rfl, rfl⟩)
          | fail)
        go_ret
        exact ⟨rfl, hb7⟩
end Go.Proofs.Ytbcdkhgfjdbjoaa.Pha
