/- The statement on the order of interrupts, walked. -/
import Derived.Test.YtmhglfidggjfdaaLineD
import Derived.Laws.BitsAllLaws
namespace Go.Proofs.Ytmhglfidggjfdaa.Line
open Go.RowKit Go.Proofs.Ytmhglfidggjfdaa.Mem Go.Proofs.Ytmhglfidggjfdaa.Kept
set_option linter.unusedVariables false
set_option linter.unusedSimpArgs false

def hi (a k : Nat) : Nat := a % 16 / 2 ^ k * 2 ^ k
theorem hi_yes : ∀ a : Nat, a < 256 → ∀ n : Nat, n < 4 → a / 2 ^ n % 2 = 1 → hi a (n + 1) ||| 1 <<< n = hi a n ∧ hi a n ||| 1 <<< n = hi a n := by decide +kernel
theorem hi_no : ∀ a : Nat, a < 256 → ∀ n : Nat, n < 4 → a / 2 ^ n % 2 = 0 → hi a (n + 1) = hi a n := by decide +kernel
def lo (a o n : Nat) : Nat := a % 16 - (a &&& o) % 2 ^ n
theorem lo_16 : ∀ A : Nat, A < 16 → ∀ O : Nat, O < 16 → ∀ n : Nat, n < 4 → (A &&& O) / 2 ^ n % 2 = 1 → (A - (A &&& O) % 2 ^ n) &&& O ≠ 0 ∧ tz ((A - (A &&& O) % 2 ^ n) &&& O) = n ∧ A - (A &&& O) % 2 ^ n - 1 <<< n = A - (A &&& O) % 2 ^ (n + 1) := by decide +kernel
theorem lo_16' : ∀ A : Nat, A < 16 → ∀ O : Nat, O < 16 → ∀ n : Nat, n < 4 → (A &&& O) / 2 ^ n % 2 = 0 → A - (A &&& O) % 2 ^ n = A - (A &&& O) % 2 ^ (n + 1) := by decide +kernel
theorem lo_4 : ∀ A : Nat, A < 16 → ∀ O : Nat, O < 16 → (A - (A &&& O) % 2 ^ 4) &&& O = 0 := by decide +kernel
theorem and_16 : ∀ q : Nat, q < 16 → ∀ o : Nat, o < 256 → q &&& o = q &&& (o % 16) := by decide +kernel
theorem and_mod16 (a o : Nat) : (a &&& o) % 16 = (a % 16) &&& (o % 16) := Nat.and_mod_two_pow (n := 4)
theorem lo_eq (a o n : Nat) (hn : n ≤ 4) : lo a o n = a % 16 - ((a % 16) &&& (o % 16)) % 2 ^ n := by
  have h := and_mod16 a o
  have hn' : n = 0 ∨ n = 1 ∨ n = 2 ∨ n = 3 ∨ n = 4 := by omega
  unfold lo
  rw [← h]
  rcases hn' with rfl | rfl | rfl | rfl | rfl <;> simp only [Nat.reducePow] <;> omega
theorem bit_eq (a o n : Nat) (hn : n < 4) : (a &&& o) / 2 ^ n % 2 = ((a % 16) &&& (o % 16)) / 2 ^ n % 2 := by
  have h := and_mod16 a o
  have hn' : n = 0 ∨ n = 1 ∨ n = 2 ∨ n = 3 := by omega
  rw [← h]
  rcases hn' with rfl | rfl | rfl | rfl <;> simp only [Nat.reducePow] <;> omega
theorem lo_lt (a o n : Nat) : lo a o n < 16 := by unfold lo; omega
theorem lo_yes {a o n : Nat} (ho : o < 256) (hn : n < 4) (h : (a &&& o) / 2 ^ n % 2 = 1) : nextF [⟨0, 255, false⟩, ⟨lo a o n, o, false⟩] 1 = ((n, false, true), [⟨0, 255, false⟩, ⟨lo a o (n + 1), o, false⟩]) := by
  rw [bit_eq a o n hn] at h
  obtain ⟨h1, h2, h3⟩ := lo_16 (a % 16) (by omega) (o % 16) (by omega) n hn h
  have e1 := and_16 (lo a o n) (lo_lt _ _ _) o ho
  rw [← lo_eq a o n (by omega)] at h1 h2 h3
  rw [← lo_eq a o (n + 1) (by omega)] at h3
  rw [← e1] at h1 h2
  have e2 : nextC ⟨lo a o n, o, false⟩ = ((n, false, true), ⟨lo a o (n + 1), o, false⟩) := by
    unfold nextC
    simp only [Bool.false_eq_true, if_false, h1, h2, h3]
  unfold nextF
  show ((nextC ⟨lo a o n, o, false⟩).1, [(⟨0, 255, false⟩ : C), ⟨lo a o n, o, false⟩].set 1 (nextC ⟨lo a o n, o, false⟩).2) = _
  rw [e2]
  rfl
theorem lo_no {a o n : Nat} (hn : n < 4) (h : (a &&& o) / 2 ^ n % 2 = 0) : lo a o n = lo a o (n + 1) := by
  rw [bit_eq a o n hn] at h
  rw [lo_eq a o n (by omega), lo_eq a o (n + 1) (by omega)]
  exact lo_16' (a % 16) (by omega) (o % 16) (by omega) n hn h
theorem lo_end {a o : Nat} (ho : o < 256) : nextF [⟨0, 255, false⟩, ⟨lo a o 4, o, false⟩] 1 = ((0, false, false), [⟨0, 255, false⟩, ⟨lo a o 4, o, false⟩]) := by
  have h := lo_4 (a % 16) (by omega) (o % 16) (by omega)
  rw [← lo_eq a o 4 (by omega), ← and_16 (lo a o 4) (lo_lt _ _ _) o ho] at h
  have e2 : nextC ⟨lo a o 4, o, false⟩ = ((0, false, false), ⟨lo a o 4, o, false⟩) := by
    unfold nextC
    simp only [Bool.false_eq_true, if_false, h, if_true]
  unfold nextF
  show ((nextC ⟨lo a o 4, o, false⟩).1, [(⟨0, 255, false⟩ : C), ⟨lo a o 4, o, false⟩].set 1 (nextC ⟨lo a o 4, o, false⟩).2) = _
  rw [e2]
  rfl
def lf (a o : Nat) : Nat → Nat
  | 0 => 0
  | n + 1 => lf a o n + if a / 2 ^ n % 2 = 1 ∧ o / 2 ^ n % 2 = 0 then 1 else 0
theorem lf_le (a o n : Nat) : lf a o n ≤ n := by
  induction n with
  | zero => exact Nat.le_refl _
  | succ n ih => unfold lf; split <;> omega
theorem lf_16 : ∀ A : Nat, A < 16 → ∀ O : Nat, O < 16 → cnt (A - (A &&& O) % 2 ^ 4) = lf A O 4 := by decide +kernel
theorem lf_mod (a o : Nat) : lf (a % 16) (o % 16) 4 = lf a o 4 := by
  have : ∀ x n : Nat, n < 4 → x % 16 / 2 ^ n % 2 = x / 2 ^ n % 2 := fun x n hn => by
    have hn' : n = 0 ∨ n = 1 ∨ n = 2 ∨ n = 3 := by omega
    rcases hn' with rfl | rfl | rfl | rfl <;> simp only [Nat.reducePow] <;> omega
  simp only [lf, this _ 0 (by omega), this _ 1 (by omega), this _ 2 (by omega), this _ 3 (by omega)]
theorem left_end (a o : Nat) : waitsF [⟨0, 255, false⟩, ⟨lo a o 4, o, false⟩] 1 = lf a o 4 := by
  show cnt (lo a o 4) + 0 = _
  rw [lo_eq a o 4 (by omega), lf_16 _ (by omega) _ (by omega), lf_mod]
  rfl
theorem bit_0 : ∀ a : Nat, a < 256 → bits .and .u8 (a : Int) 1 = ((a / 2 ^ 0 % 2 : Nat) : Int) := by decide +kernel
theorem bit_1 : ∀ a : Nat, a < 256 → bits .and .u8 ((a : Int) / 2) 1 = ((a / 2 ^ 1 % 2 : Nat) : Int) := by decide +kernel
theorem bit_2 : ∀ a : Nat, a < 256 → bits .and .u8 ((a : Int) / 4) 1 = ((a / 2 ^ 2 % 2 : Nat) : Int) := by decide +kernel
theorem bit_3 : ∀ a : Nat, a < 256 → bits .and .u8 ((a : Int) / 8) 1 = ((a / 2 ^ 3 % 2 : Nat) : Int) := by decide +kernel
theorem set_c (c d e : C) : [c, d].set 1 e = [c, e] := rfl
theorem raise_2 (x : Nat) (o : Nat) (t : Bool) (n : Nat) (hn : n < 4) : raiseF [⟨0, 255, false⟩, ⟨x, o, t⟩] 1 n = (true, [⟨0, 255, false⟩, ⟨x ||| 1 <<< n, o, t⟩]) := by
  unfold raiseF
  show (if 0 ≤ (n : Int) ∧ (n : Int) < 4 then _ else _) = _
  rw [if_pos (by omega)]
  rfl
theorem raise_1 {a n k : Nat} {z : Int} (ha : a < 256) (hk : k = n + 1) (hz : z = n) (hn : n < 4) (h : a / 2 ^ n % 2 = 1) : raiseF [⟨0, 255, false⟩, ⟨hi a k, 255, false⟩] 1 z = (true, [⟨0, 255, false⟩, ⟨hi a n, 255, false⟩]) ∧ raiseF [⟨0, 255, false⟩, ⟨hi a n, 255, false⟩] 1 z = (true, [⟨0, 255, false⟩, ⟨hi a n, 255, false⟩]) := by
  subst hk hz
  obtain ⟨h1, h2⟩ := hi_yes a ha n hn h
  rw [raise_2 _ _ _ _ hn, raise_2 _ _ _ _ hn, h1, h2]
  exact ⟨rfl, rfl⟩
theorem wf_2 {x o : Nat} {t : Bool} (hx : x < 16) (ho : o < 256) : Wf [⟨0, 255, false⟩, ⟨x, o, t⟩] := by
  refine ⟨by show 2 ≤ 3; omega, fun c hc => ?_⟩
  simp only [List.mem_cons, List.not_mem_nil, or_false] at hc
  rcases hc with rfl | rfl
  · exact ⟨by decide, by decide⟩
  · exact ⟨hx, ho⟩
theorem hi_lt (a k : Nat) : hi a k < 16 := by
  unfold hi
  have := Nat.div_mul_le_self (a % 16) (2 ^ k)
  omega
set_option maxRecDepth 100000 in
set_option maxHeartbeats 8000000 in
theorem order_any (w : World) (a o : Nat) (t : Bool) (ha : a < 256) (ho : o < 256) : Calls Try.prog 4 #[.int .u8 (a : Int), .int .u8 (o : Int), .bool t] w fun e w' => e = .returned (.bool true) ∧ Below w.heap.size w w' := by
  have HA := Lib.hid ha
  have HO := Lib.hid ho
  have hao := u8_and_nat a o ha ho
  obtain ⟨m, hm⟩ : ∃ m, a &&& o = m := ⟨_, rfl⟩
  have HMl : Hid (m < 256) := Lib.hid (by rw [← hm]; exact Nat.lt_of_le_of_lt Nat.and_le_left ha)
  rw [hm] at hao
  have HM := Lib.hid hm
  have EO : (0 : Int) ≤ (o : Int) ∧ (o : Int) < 256 := by omega
  have HEO := Lib.hid EO
  clear ha ho hm EO
  cases t
  · go_enter Try.func4, Try.ntmps4
    go_wp2_with (first
      | (go_at_call 10; refine (begun _).mono ?_; rintro e w1 ⟨rfl, hb1⟩)
      | (go_at_call 11; refine (new_any _ _).mono ?_; rintro e w2 ⟨g, b, rfl, H2, hb2'⟩; have hb2 := bel_chain hb1 hb2'; have hB := hb1.size; clear hb2'; replace H2 : Is w2 _ g b [⟨0, 255, false⟩, ⟨0, 255, false⟩] := H2)
      | fail)
    go_loopw [8] (fun i wr => ∃ (k : Nat) (z : Int), k ≤ 4 ∧ z = (k : Int) - 1 ∧ i = .int .i64 z ∧ Is wr w1.heap.size g b [⟨0, 255, false⟩, ⟨hi a k, 255, false⟩] ∧ Below w.heap.size w wr) (fun i _ => (intOf i + 1).toNat)
    case atStart =>
      have h4 : hi a 4 = 0 := by unfold hi; omega
      exact ⟨4, _, by omega, by omega, rfl, by rw [h4]; exact H2, hb2⟩
    case round =>
      obtain ⟨k, z, hk, hz, rfl, H, hb⟩ := hrel
      have W := wf_2 (t := false) (hi_lt a k) (show 255 < 256 by decide)
      clear H2 hb2
      have hk' : k = 0 ∨ k = 1 ∨ k = 2 ∨ k = 3 ∨ k = 4 := by omega
      rcases hk' with rfl | rfl | rfl | rfl | rfl
      · obtain rfl : z = -1 := by omega
        clear hz hk
        have EO := HEO.out
        have hle : w.heap.size ≤ w1.heap.size := hB
        have E1 : enableF [⟨0, 255, false⟩, ⟨hi a 0, 255, false⟩] 1 (o : Int).toNat = (true, [⟨0, 255, false⟩, ⟨hi a 0, o, false⟩]) := by rw [Int.toNat_natCast]; rfl
        go_wp2_with (first
          | (go_at_call 17; with_reducible refine (enable_c H W _ _ EO E1).mono ?_; rintro e w5 ⟨rfl, H5, W5, k5⟩; have hb5 := bel_row hb H hle k5)
          | fail)

        go_loopw [12] (fun i wr => ∃ (n : Nat), n ≤ 4 ∧ i = .int .i64 n ∧ Is wr w1.heap.size g b [⟨0, 255, false⟩, ⟨lo a o n, o, false⟩] ∧ Below w.heap.size w wr) (fun i _ => (4 - intOf i).toNat)
        case atStart =>
          have h4 : hi a 0 = lo a o 0 := by unfold hi lo; omega
          exact ⟨0, by omega, rfl, by rw [← h4]; exact H5, hb5⟩
        case round =>
          obtain ⟨n, hn, rfl, J, hb⟩ := hrel
          have W := wf_2 (t := false) (lo_lt a o n) HO.out
          have hn' : n = 0 ∨ n = 1 ∨ n = 2 ∨ n = 3 ∨ n = 4 := by omega
          rcases hn' with rfl | rfl | rfl | rfl | rfl
          · have hv := bit_0 m HMl.out
            rcases Nat.mod_two_eq_zero_or_one (m / 2 ^ 0) with h0 | h0
            · have hv' : bits .and .u8 (m : Int) 1 = 0 := by rw [hv, h0]; rfl
              have hs := lo_no (a := a) (o := o) (n := 0) (by omega) (by rw [HM.out]; exact h0)
              clear hv h0
              go_wp2
              go_roundw
              case rel => exact ⟨1, by omega, by go_num, by rw [← hs]; exact J, hb⟩
              case measure => simp [intOf]
            · have hv' : bits .and .u8 (m : Int) 1 = 1 := by rw [hv, h0]; rfl
              have E := lo_yes (a := a) (o := o) (n := 0) HO.out (by omega) (by rw [HM.out]; exact h0)
              clear hv h0
              go_wp2_with (first
                | (go_at_call 19; with_reducible refine (next_c J W _ E).mono ?_; rintro e w6 ⟨rfl, H6, W6, k6⟩; have hb6 := bel_row hb J hle k6)
                | fail)
              go_roundw
              case rel => exact ⟨1, by omega, by go_num, H6, hb6⟩
              case measure => simp [intOf]
          · have hv := bit_1 m HMl.out
            rcases Nat.mod_two_eq_zero_or_one (m / 2 ^ 1) with h0 | h0
            · have hv' : bits .and .u8 ((m : Int) / 2) 1 = 0 := by rw [hv, h0]; rfl
              have hs := lo_no (a := a) (o := o) (n := 1) (by omega) (by rw [HM.out]; exact h0)
              clear hv h0
              go_wp2
              go_roundw
              case rel => exact ⟨2, by omega, by go_num, by rw [← hs]; exact J, hb⟩
              case measure => simp [intOf]
            · have hv' : bits .and .u8 ((m : Int) / 2) 1 = 1 := by rw [hv, h0]; rfl
              have E := lo_yes (a := a) (o := o) (n := 1) HO.out (by omega) (by rw [HM.out]; exact h0)
              clear hv h0
              go_wp2_with (first
                | (go_at_call 19; with_reducible refine (next_c J W _ E).mono ?_; rintro e w6 ⟨rfl, H6, W6, k6⟩; have hb6 := bel_row hb J hle k6)
                | fail)
              go_roundw
              case rel => exact ⟨2, by omega, by go_num, H6, hb6⟩
              case measure => simp [intOf]
          · have hv := bit_2 m HMl.out
            rcases Nat.mod_two_eq_zero_or_one (m / 2 ^ 2) with h0 | h0
            · have hv' : bits .and .u8 ((m : Int) / 4) 1 = 0 := by rw [hv, h0]; rfl
              have hs := lo_no (a := a) (o := o) (n := 2) (by omega) (by rw [HM.out]; exact h0)
              clear hv h0
              go_wp2
              go_roundw
              case rel => exact ⟨3, by omega, by go_num, by rw [← hs]; exact J, hb⟩
              case measure => simp [intOf]
            · have hv' : bits .and .u8 ((m : Int) / 4) 1 = 1 := by rw [hv, h0]; rfl
              have E := lo_yes (a := a) (o := o) (n := 2) HO.out (by omega) (by rw [HM.out]; exact h0)
              clear hv h0
              go_wp2_with (first
                | (go_at_call 19; with_reducible refine (next_c J W _ E).mono ?_; rintro e w6 ⟨rfl, H6, W6, k6⟩; have hb6 := bel_row hb J hle k6)
                | fail)
              go_roundw
              case rel => exact ⟨3, by omega, by go_num, H6, hb6⟩
              case measure => simp [intOf]
          · have hv := bit_3 m HMl.out
            rcases Nat.mod_two_eq_zero_or_one (m / 2 ^ 3) with h0 | h0
            · have hv' : bits .and .u8 ((m : Int) / 8) 1 = 0 := by rw [hv, h0]; rfl
              have hs := lo_no (a := a) (o := o) (n := 3) (by omega) (by rw [HM.out]; exact h0)
              clear hv h0
              go_wp2
              go_roundw
              case rel => exact ⟨4, by omega, by go_num, by rw [← hs]; exact J, hb⟩
              case measure => simp [intOf]
            · have hv' : bits .and .u8 ((m : Int) / 8) 1 = 1 := by rw [hv, h0]; rfl
              have E := lo_yes (a := a) (o := o) (n := 3) HO.out (by omega) (by rw [HM.out]; exact h0)
              clear hv h0
              go_wp2_with (first
                | (go_at_call 19; with_reducible refine (next_c J W _ E).mono ?_; rintro e w6 ⟨rfl, H6, W6, k6⟩; have hb6 := bel_row hb J hle k6)
                | fail)
              go_roundw
              case rel => exact ⟨4, by omega, by go_num, H6, hb6⟩
              case measure => simp [intOf]
          · have E := lo_end (a := a) (o := o) HO.out
            have E' : nextF [⟨0, 255, false⟩, ⟨lo a o 4, o, false⟩] 0 = ((0, false, false), [⟨0, 255, false⟩, ⟨lo a o 4, o, false⟩]) := rfl
            have E3 := left_end a o
            go_wp2_with (first
              | (go_at_call 19; with_reducible refine (next_c J W _ E).mono ?_; rintro e w6 ⟨rfl, H6, W6, k6⟩; have hb6 := bel_row hb J hle k6)
              | (go_at_call 19; with_reducible refine (next_c H6 W6 _ E').mono ?_; rintro e w7 ⟨rfl, H7, W7, k7⟩; have hb7 := bel_row hb6 H6 hle k7)
              | fail)
            go_loopw [23, 22] (fun i l wr => ∃ (n : Nat), n ≤ 4 ∧ i = .int .i64 n ∧ l = .int .i64 (lf a o n : Int) ∧ wr = w7) (fun i _ _ => (4 - intOf i).toNat)
            case atStart => exact ⟨0, by omega, rfl, rfl, rfl⟩
            case round =>
              obtain ⟨n, hn, rfl, rfl, rfl⟩ := hrel
              have hn' : n = 0 ∨ n = 1 ∨ n = 2 ∨ n = 3 ∨ n = 4 := by omega
              have hl4 := lf_le a o n
              rcases hn' with rfl | rfl | rfl | rfl | rfl
              · have hv := bit_0 a HA.out
                have hu := bit_0 o HO.out
                have hs : lf a o 1 = lf a o 0 + if a / 2 ^ 0 % 2 = 1 ∧ o / 2 ^ 0 % 2 = 0 then 1 else 0 := rfl
                rcases Nat.mod_two_eq_zero_or_one (a / 2 ^ 0) with h0 | h0
                · have hv' : bits .and .u8 (a : Int) 1 = 0 := by rw [hv, h0]; rfl
                  rw [h0, if_neg (by simp)] at hs
                  clear hv h0 hu
                  go_wp2
                  go_roundw
                  case rel => exact ⟨1, by omega, by go_num, by rw [hs]; rfl, trivial⟩
                  case measure => simp [intOf]
                · have hv' : bits .and .u8 (a : Int) 1 = 1 := by rw [hv, h0]; rfl
                  rcases Nat.mod_two_eq_zero_or_one (o / 2 ^ 0) with h1 | h1
                  · have hu' : bits .and .u8 (o : Int) 1 = 0 := by rw [hu, h1]; rfl
                    rw [h0, h1, if_pos ⟨rfl, rfl⟩] at hs
                    clear hv h0 hu h1
                    go_wp2
                    go_roundw
                    case rel => exact ⟨1, by omega, by go_num, by rw [hs]; go_num, trivial⟩
                    case measure => simp [intOf]
                  · have hu' : bits .and .u8 (o : Int) 1 = 1 := by rw [hu, h1]; rfl
                    rw [h0, h1, if_neg (by simp)] at hs
                    clear hv h0 hu h1
                    go_wp2
                    go_roundw
                    case rel => exact ⟨1, by omega, by go_num, by rw [hs]; rfl, trivial⟩
                    case measure => simp [intOf]
              · have hv := bit_1 a HA.out
                have hu := bit_1 o HO.out
                have hs : lf a o 2 = lf a o 1 + if a / 2 ^ 1 % 2 = 1 ∧ o / 2 ^ 1 % 2 = 0 then 1 else 0 := rfl
                rcases Nat.mod_two_eq_zero_or_one (a / 2 ^ 1) with h0 | h0
                · have hv' : bits .and .u8 ((a : Int) / 2) 1 = 0 := by rw [hv, h0]; rfl
                  rw [h0, if_neg (by simp)] at hs
                  clear hv h0 hu
                  go_wp2
                  go_roundw
                  case rel => exact ⟨2, by omega, by go_num, by rw [hs]; rfl, trivial⟩
                  case measure => simp [intOf]
                · have hv' : bits .and .u8 ((a : Int) / 2) 1 = 1 := by rw [hv, h0]; rfl
                  rcases Nat.mod_two_eq_zero_or_one (o / 2 ^ 1) with h1 | h1
                  · have hu' : bits .and .u8 ((o : Int) / 2) 1 = 0 := by rw [hu, h1]; rfl
                    rw [h0, h1, if_pos ⟨rfl, rfl⟩] at hs
                    clear hv h0 hu h1
                    go_wp2
                    go_roundw
                    case rel => exact ⟨2, by omega, by go_num, by rw [hs]; go_num, trivial⟩
                    case measure => simp [intOf]
                  · have hu' : bits .and .u8 ((o : Int) / 2) 1 = 1 := by rw [hu, h1]; rfl
                    rw [h0, h1, if_neg (by simp)] at hs
                    clear hv h0 hu h1
                    go_wp2
                    go_roundw
                    case rel => exact ⟨2, by omega, by go_num, by rw [hs]; rfl, trivial⟩
                    case measure => simp [intOf]
              · have hv := bit_2 a HA.out
                have hu := bit_2 o HO.out
                have hs : lf a o 3 = lf a o 2 + if a / 2 ^ 2 % 2 = 1 ∧ o / 2 ^ 2 % 2 = 0 then 1 else 0 := rfl
                rcases Nat.mod_two_eq_zero_or_one (a / 2 ^ 2) with h0 | h0
                · have hv' : bits .and .u8 ((a : Int) / 4) 1 = 0 := by rw [hv, h0]; rfl
                  rw [h0, if_neg (by simp)] at hs
                  clear hv h0 hu
                  go_wp2
                  go_roundw
                  case rel => exact ⟨3, by omega, by go_num, by rw [hs]; rfl, trivial⟩
                  case measure => simp [intOf]
                · have hv' : bits .and .u8 ((a : Int) / 4) 1 = 1 := by rw [hv, h0]; rfl
                  rcases Nat.mod_two_eq_zero_or_one (o / 2 ^ 2) with h1 | h1
                  · have hu' : bits .and .u8 ((o : Int) / 4) 1 = 0 := by rw [hu, h1]; rfl
                    rw [h0, h1, if_pos ⟨rfl, rfl⟩] at hs
                    clear hv h0 hu h1
                    go_wp2
                    go_roundw
                    case rel => exact ⟨3, by omega, by go_num, by rw [hs]; go_num, trivial⟩
                    case measure => simp [intOf]
                  · have hu' : bits .and .u8 ((o : Int) / 4) 1 = 1 := by rw [hu, h1]; rfl
                    rw [h0, h1, if_neg (by simp)] at hs
                    clear hv h0 hu h1
                    go_wp2
                    go_roundw
                    case rel => exact ⟨3, by omega, by go_num, by rw [hs]; rfl, trivial⟩
                    case measure => simp [intOf]
              · have hv := bit_3 a HA.out
                have hu := bit_3 o HO.out
                have hs : lf a o 4 = lf a o 3 + if a / 2 ^ 3 % 2 = 1 ∧ o / 2 ^ 3 % 2 = 0 then 1 else 0 := rfl
                rcases Nat.mod_two_eq_zero_or_one (a / 2 ^ 3) with h0 | h0
                · have hv' : bits .and .u8 ((a : Int) / 8) 1 = 0 := by rw [hv, h0]; rfl
                  rw [h0, if_neg (by simp)] at hs
                  clear hv h0 hu
                  go_wp2
                  go_roundw
                  case rel => exact ⟨4, by omega, by go_num, by rw [hs]; rfl, trivial⟩
                  case measure => simp [intOf]
                · have hv' : bits .and .u8 ((a : Int) / 8) 1 = 1 := by rw [hv, h0]; rfl
                  rcases Nat.mod_two_eq_zero_or_one (o / 2 ^ 3) with h1 | h1
                  · have hu' : bits .and .u8 ((o : Int) / 8) 1 = 0 := by rw [hu, h1]; rfl
                    rw [h0, h1, if_pos ⟨rfl, rfl⟩] at hs
                    clear hv h0 hu h1
                    go_wp2
                    go_roundw
                    case rel => exact ⟨4, by omega, by go_num, by rw [hs]; go_num, trivial⟩
                    case measure => simp [intOf]
                  · have hu' : bits .and .u8 ((o : Int) / 8) 1 = 1 := by rw [hu, h1]; rfl
                    rw [h0, h1, if_neg (by simp)] at hs
                    clear hv h0 hu h1
                    go_wp2
                    go_roundw
                    case rel => exact ⟨4, by omega, by go_num, by rw [hs]; rfl, trivial⟩
                    case measure => simp [intOf]
              · go_wp2_with (first
                  | (go_at_call 21; with_reducible refine (waits_c H7 W7 _ E3).mono ?_; rintro e w8 ⟨rfl, rfl⟩)
                  | fail)
                go_ret
                exact ⟨by simp, hb7⟩
      · obtain rfl : z = 0 := by omega
        clear hz hk
        have hle : w.heap.size ≤ w1.heap.size := hB
        have hv := bit_0 a HA.out
        rcases Nat.mod_two_eq_zero_or_one (a / 2 ^ 0) with h0 | h0
        · have hv' : bits .and .u8 (a : Int) 1 = 0 := by rw [hv, h0]; rfl
          have hs := hi_no a HA.out 0 (by omega) h0
          clear hv h0
          go_wp2
          go_roundw
          case rel => exact ⟨0, -1, by omega, by omega, by go_num, by rw [← hs]; exact H, hb⟩
          case measure => simp [intOf]
        · have hv' : bits .and .u8 (a : Int) 1 = 1 := by rw [hv, h0]; rfl
          obtain ⟨E1, E2⟩ := raise_1 (a := a) (n := 0) (k := 1) (z := 0) HA.out rfl (by rfl) (by omega) h0
          clear hv h0
          have W' := wf_2 (t := false) (hi_lt a 0) (show 255 < 256 by decide)
          go_wp2_with (first
            | (go_at_call 13; with_reducible refine (raise_c H W _ _ E1).mono ?_; rintro e w6 ⟨rfl, H6, W6, k6⟩; have hb6 := bel_row hb H hle k6)
            | (go_at_call 13; with_reducible refine (raise_c H6 W6 _ _ E2).mono ?_; rintro e w7 ⟨rfl, H7, W7, k7⟩; have hb7 := bel_row hb6 H6 hle k7)
            | fail)
          go_roundw
          case rel => exact ⟨0, -1, by omega, by omega, by go_num, H7, hb7⟩
          case measure => simp [intOf]
      · obtain rfl : z = 1 := by omega
        clear hz hk
        have hle : w.heap.size ≤ w1.heap.size := hB
        have hv := bit_1 a HA.out
        rcases Nat.mod_two_eq_zero_or_one (a / 2 ^ 1) with h0 | h0
        · have hv' : bits .and .u8 ((a : Int) / 2) 1 = 0 := by rw [hv, h0]; rfl
          have hs := hi_no a HA.out 1 (by omega) h0
          clear hv h0
          go_wp2
          go_roundw
          case rel => exact ⟨1, 0, by omega, by omega, by go_num, by rw [← hs]; exact H, hb⟩
          case measure => simp [intOf]
        · have hv' : bits .and .u8 ((a : Int) / 2) 1 = 1 := by rw [hv, h0]; rfl
          obtain ⟨E1, E2⟩ := raise_1 (a := a) (n := 1) (k := 2) (z := 1) HA.out rfl (by rfl) (by omega) h0
          clear hv h0
          have W' := wf_2 (t := false) (hi_lt a 1) (show 255 < 256 by decide)
          go_wp2_with (first
            | (go_at_call 13; with_reducible refine (raise_c H W _ _ E1).mono ?_; rintro e w6 ⟨rfl, H6, W6, k6⟩; have hb6 := bel_row hb H hle k6)
            | (go_at_call 13; with_reducible refine (raise_c H6 W6 _ _ E2).mono ?_; rintro e w7 ⟨rfl, H7, W7, k7⟩; have hb7 := bel_row hb6 H6 hle k7)
            | fail)
          go_roundw
          case rel => exact ⟨1, 0, by omega, by omega, by go_num, H7, hb7⟩
          case measure => simp [intOf]
      · obtain rfl : z = 2 := by omega
        clear hz hk
        have hle : w.heap.size ≤ w1.heap.size := hB
        have hv := bit_2 a HA.out
        rcases Nat.mod_two_eq_zero_or_one (a / 2 ^ 2) with h0 | h0
        · have hv' : bits .and .u8 ((a : Int) / 4) 1 = 0 := by rw [hv, h0]; rfl
          have hs := hi_no a HA.out 2 (by omega) h0
          clear hv h0
          go_wp2
          go_roundw
          case rel => exact ⟨2, 1, by omega, by omega, by go_num, by rw [← hs]; exact H, hb⟩
          case measure => simp [intOf]
        · have hv' : bits .and .u8 ((a : Int) / 4) 1 = 1 := by rw [hv, h0]; rfl
          obtain ⟨E1, E2⟩ := raise_1 (a := a) (n := 2) (k := 3) (z := 2) HA.out rfl (by rfl) (by omega) h0
          clear hv h0
          have W' := wf_2 (t := false) (hi_lt a 2) (show 255 < 256 by decide)
          go_wp2_with (first
            | (go_at_call 13; with_reducible refine (raise_c H W _ _ E1).mono ?_; rintro e w6 ⟨rfl, H6, W6, k6⟩; have hb6 := bel_row hb H hle k6)
            | (go_at_call 13; with_reducible refine (raise_c H6 W6 _ _ E2).mono ?_; rintro e w7 ⟨rfl, H7, W7, k7⟩; have hb7 := bel_row hb6 H6 hle k7)
            | fail)
          go_roundw
          case rel => exact ⟨2, 1, by omega, by omega, by go_num, H7, hb7⟩
          case measure => simp [intOf]
      · obtain rfl : z = 3 := by omega
        clear hz hk
        have hle : w.heap.size ≤ w1.heap.size := hB
        have hv := bit_3 a HA.out
        rcases Nat.mod_two_eq_zero_or_one (a / 2 ^ 3) with h0 | h0
        · have hv' : bits .and .u8 ((a : Int) / 8) 1 = 0 := by rw [hv, h0]; rfl
          have hs := hi_no a HA.out 3 (by omega) h0
          clear hv h0
          go_wp2
          go_roundw
          case rel => exact ⟨3, 2, by omega, by omega, by go_num, by rw [← hs]; exact H, hb⟩
          case measure => simp [intOf]
        · have hv' : bits .and .u8 ((a : Int) / 8) 1 = 1 := by rw [hv, h0]; rfl
          obtain ⟨E1, E2⟩ := raise_1 (a := a) (n := 3) (k := 4) (z := 3) HA.out rfl (by rfl) (by omega) h0
          clear hv h0
          have W' := wf_2 (t := false) (hi_lt a 3) (show 255 < 256 by decide)
          go_wp2_with (first
            | (go_at_call 13; with_reducible refine (raise_c H W _ _ E1).mono ?_; rintro e w6 ⟨rfl, H6, W6, k6⟩; have hb6 := bel_row hb H hle k6)
            | (go_at_call 13; with_reducible refine (raise_c H6 W6 _ _ E2).mono ?_; rintro e w7 ⟨rfl, H7, W7, k7⟩; have hb7 := bel_row hb6 H6 hle k7)
            | fail)
          go_roundw
          case rel => exact ⟨3, 2, by omega, by omega, by go_num, H7, hb7⟩
          case measure => simp [intOf]
  · go_enter Try.func4, Try.ntmps4
    go_wp2_with (first
      | (go_at_call 10; refine (begun _).mono ?_; rintro e w1 ⟨rfl, hb1⟩)
      | (go_at_call 11; refine (new_any _ _).mono ?_; rintro e w2 ⟨g, b, rfl, H2, hb2'⟩; have hb2 := bel_chain hb1 hb2'; have hB := hb1.size; clear hb2'; replace H2 : Is w2 _ g b [⟨0, 255, false⟩, ⟨0, 255, false⟩] := H2)
      | fail)
    go_loopw [8] (fun i wr => ∃ (k : Nat) (z : Int), k ≤ 4 ∧ z = (k : Int) - 1 ∧ i = .int .i64 z ∧ Is wr w1.heap.size g b [⟨0, 255, false⟩, ⟨hi a k, 255, false⟩] ∧ Below w.heap.size w wr) (fun i _ => (intOf i + 1).toNat)
    case atStart =>
      have h4 : hi a 4 = 0 := by unfold hi; omega
      exact ⟨4, _, by omega, by omega, rfl, by rw [h4]; exact H2, hb2⟩
    case round =>
      obtain ⟨k, z, hk, hz, rfl, H, hb⟩ := hrel
      have W := wf_2 (t := false) (hi_lt a k) (show 255 < 256 by decide)
      clear H2 hb2
      have hk' : k = 0 ∨ k = 1 ∨ k = 2 ∨ k = 3 ∨ k = 4 := by omega
      rcases hk' with rfl | rfl | rfl | rfl | rfl
      · obtain rfl : z = -1 := by omega
        clear hz hk
        have EO := HEO.out
        have hle : w.heap.size ≤ w1.heap.size := hB
        have E0 : tickF [⟨0, 255, false⟩, ⟨hi a 0, 255, false⟩] 1 = (true, [⟨0, 255, false⟩, ⟨hi a 0, 255, true⟩]) := rfl
        have E1 : enableF [⟨0, 255, false⟩, ⟨hi a 0, 255, true⟩] 1 (o : Int).toNat = (true, [⟨0, 255, false⟩, ⟨hi a 0, o, true⟩]) := by rw [Int.toNat_natCast]; rfl
        have E2 : nextF [⟨0, 255, false⟩, ⟨hi a 0, o, true⟩] 1 = ((0, true, true), [⟨0, 255, false⟩, ⟨hi a 0, o, false⟩]) := rfl
        go_wp2_with (first
          | (go_at_call 15; with_reducible refine (tick_c H W _ E0).mono ?_; rintro e w3 ⟨rfl, H3, W3, k3⟩; have hb3 := bel_row hb H hle k3)
          | (go_at_call 17; with_reducible refine (enable_c H3 W3 _ _ EO E1).mono ?_; rintro e w4 ⟨rfl, H4, W4, k4⟩; have hb4 := bel_row hb3 H3 hle k4)
          | (go_at_call 19; with_reducible refine (next_c H4 W4 _ E2).mono ?_; rintro e w5 ⟨rfl, H5, W5, k5⟩; have hb5 := bel_row hb4 H4 hle k5)
          | fail)

        go_loopw [12] (fun i wr => ∃ (n : Nat), n ≤ 4 ∧ i = .int .i64 n ∧ Is wr w1.heap.size g b [⟨0, 255, false⟩, ⟨lo a o n, o, false⟩] ∧ Below w.heap.size w wr) (fun i _ => (4 - intOf i).toNat)
        case atStart =>
          have h4 : hi a 0 = lo a o 0 := by unfold hi lo; omega
          exact ⟨0, by omega, rfl, by rw [← h4]; exact H5, hb5⟩
        case round =>
          obtain ⟨n, hn, rfl, J, hb⟩ := hrel
          have W := wf_2 (t := false) (lo_lt a o n) HO.out
          have hn' : n = 0 ∨ n = 1 ∨ n = 2 ∨ n = 3 ∨ n = 4 := by omega
          rcases hn' with rfl | rfl | rfl | rfl | rfl
          · have hv := bit_0 m HMl.out
            rcases Nat.mod_two_eq_zero_or_one (m / 2 ^ 0) with h0 | h0
            · have hv' : bits .and .u8 (m : Int) 1 = 0 := by rw [hv, h0]; rfl
              have hs := lo_no (a := a) (o := o) (n := 0) (by omega) (by rw [HM.out]; exact h0)
              clear hv h0
              go_wp2
              go_roundw
              case rel => exact ⟨1, by omega, by go_num, by rw [← hs]; exact J, hb⟩
              case measure => simp [intOf]
            · have hv' : bits .and .u8 (m : Int) 1 = 1 := by rw [hv, h0]; rfl
              have E := lo_yes (a := a) (o := o) (n := 0) HO.out (by omega) (by rw [HM.out]; exact h0)
              clear hv h0
              go_wp2_with (first
                | (go_at_call 19; with_reducible refine (next_c J W _ E).mono ?_; rintro e w6 ⟨rfl, H6, W6, k6⟩; have hb6 := bel_row hb J hle k6)
                | fail)
              go_roundw
              case rel => exact ⟨1, by omega, by go_num, H6, hb6⟩
              case measure => simp [intOf]
          · have hv := bit_1 m HMl.out
            rcases Nat.mod_two_eq_zero_or_one (m / 2 ^ 1) with h0 | h0
            · have hv' : bits .and .u8 ((m : Int) / 2) 1 = 0 := by rw [hv, h0]; rfl
              have hs := lo_no (a := a) (o := o) (n := 1) (by omega) (by rw [HM.out]; exact h0)
              clear hv h0
              go_wp2
              go_roundw
              case rel => exact ⟨2, by omega, by go_num, by rw [← hs]; exact J, hb⟩
              case measure => simp [intOf]
            · have hv' : bits .and .u8 ((m : Int) / 2) 1 = 1 := by rw [hv, h0]; rfl
              have E := lo_yes (a := a) (o := o) (n := 1) HO.out (by omega) (by rw [HM.out]; exact h0)
              clear hv h0
              go_wp2_with (first
                | (go_at_call 19; with_reducible refine (next_c J W _ E).mono ?_; rintro e w6 ⟨rfl, H6, W6, k6⟩; have hb6 := bel_row hb J hle k6)
                | fail)
              go_roundw
              case rel => exact ⟨2, by omega, by go_num, H6, hb6⟩
              case measure => simp [intOf]
          · have hv := bit_2 m HMl.out
            rcases Nat.mod_two_eq_zero_or_one (m / 2 ^ 2) with h0 | h0
            · have hv' : bits .and .u8 ((m : Int) / 4) 1 = 0 := by rw [hv, h0]; rfl
              have hs := lo_no (a := a) (o := o) (n := 2) (by omega) (by rw [HM.out]; exact h0)
              clear hv h0
              go_wp2
              go_roundw
              case rel => exact ⟨3, by omega, by go_num, by rw [← hs]; exact J, hb⟩
              case measure => simp [intOf]
            · have hv' : bits .and .u8 ((m : Int) / 4) 1 = 1 := by rw [hv, h0]; rfl
              have E := lo_yes (a := a) (o := o) (n := 2) HO.out (by omega) (by rw [HM.out]; exact h0)
              clear hv h0
              go_wp2_with (first
                | (go_at_call 19; with_reducible refine (next_c J W _ E).mono ?_; rintro e w6 ⟨rfl, H6, W6, k6⟩; have hb6 := bel_row hb J hle k6)
                | fail)
              go_roundw
              case rel => exact ⟨3, by omega, by go_num, H6, hb6⟩
              case measure => simp [intOf]
          · have hv := bit_3 m HMl.out
            rcases Nat.mod_two_eq_zero_or_one (m / 2 ^ 3) with h0 | h0
            · have hv' : bits .and .u8 ((m : Int) / 8) 1 = 0 := by rw [hv, h0]; rfl
              have hs := lo_no (a := a) (o := o) (n := 3) (by omega) (by rw [HM.out]; exact h0)
              clear hv h0
              go_wp2
              go_roundw
              case rel => exact ⟨4, by omega, by go_num, by rw [← hs]; exact J, hb⟩
              case measure => simp [intOf]
            · have hv' : bits .and .u8 ((m : Int) / 8) 1 = 1 := by rw [hv, h0]; rfl
              have E := lo_yes (a := a) (o := o) (n := 3) HO.out (by omega) (by rw [HM.out]; exact h0)
              clear hv h0
              go_wp2_with (first
                | (go_at_call 19; with_reducible refine (next_c J W _ E).mono ?_; rintro e w6 ⟨rfl, H6, W6, k6⟩; have hb6 := bel_row hb J hle k6)
                | fail)
              go_roundw
              case rel => exact ⟨4, by omega, by go_num, H6, hb6⟩
              case measure => simp [intOf]
          · have E := lo_end (a := a) (o := o) HO.out
            have E' : nextF [⟨0, 255, false⟩, ⟨lo a o 4, o, false⟩] 0 = ((0, false, false), [⟨0, 255, false⟩, ⟨lo a o 4, o, false⟩]) := rfl
            have E3 := left_end a o
            go_wp2_with (first
              | (go_at_call 19; with_reducible refine (next_c J W _ E).mono ?_; rintro e w6 ⟨rfl, H6, W6, k6⟩; have hb6 := bel_row hb J hle k6)
              | (go_at_call 19; with_reducible refine (next_c H6 W6 _ E').mono ?_; rintro e w7 ⟨rfl, H7, W7, k7⟩; have hb7 := bel_row hb6 H6 hle k7)
              | fail)
            go_loopw [23, 22] (fun i l wr => ∃ (n : Nat), n ≤ 4 ∧ i = .int .i64 n ∧ l = .int .i64 (lf a o n : Int) ∧ wr = w7) (fun i _ _ => (4 - intOf i).toNat)
            case atStart => exact ⟨0, by omega, rfl, rfl, rfl⟩
            case round =>
              obtain ⟨n, hn, rfl, rfl, rfl⟩ := hrel
              have hn' : n = 0 ∨ n = 1 ∨ n = 2 ∨ n = 3 ∨ n = 4 := by omega
              have hl4 := lf_le a o n
              rcases hn' with rfl | rfl | rfl | rfl | rfl
              · have hv := bit_0 a HA.out
                have hu := bit_0 o HO.out
                have hs : lf a o 1 = lf a o 0 + if a / 2 ^ 0 % 2 = 1 ∧ o / 2 ^ 0 % 2 = 0 then 1 else 0 := rfl
                rcases Nat.mod_two_eq_zero_or_one (a / 2 ^ 0) with h0 | h0
                · have hv' : bits .and .u8 (a : Int) 1 = 0 := by rw [hv, h0]; rfl
                  rw [h0, if_neg (by simp)] at hs
                  clear hv h0 hu
                  go_wp2
                  go_roundw
                  case rel => exact ⟨1, by omega, by go_num, by rw [hs]; rfl, trivial⟩
                  case measure => simp [intOf]
                · have hv' : bits .and .u8 (a : Int) 1 = 1 := by rw [hv, h0]; rfl
                  rcases Nat.mod_two_eq_zero_or_one (o / 2 ^ 0) with h1 | h1
                  · have hu' : bits .and .u8 (o : Int) 1 = 0 := by rw [hu, h1]; rfl
                    rw [h0, h1, if_pos ⟨rfl, rfl⟩] at hs
                    clear hv h0 hu h1
                    go_wp2
                    go_roundw
                    case rel => exact ⟨1, by omega, by go_num, by rw [hs]; go_num, trivial⟩
                    case measure => simp [intOf]
                  · have hu' : bits .and .u8 (o : Int) 1 = 1 := by rw [hu, h1]; rfl
                    rw [h0, h1, if_neg (by simp)] at hs
                    clear hv h0 hu h1
                    go_wp2
                    go_roundw
                    case rel => exact ⟨1, by omega, by go_num, by rw [hs]; rfl, trivial⟩
                    case measure => simp [intOf]
              · have hv := bit_1 a HA.out
                have hu := bit_1 o HO.out
                have hs : lf a o 2 = lf a o 1 + if a / 2 ^ 1 % 2 = 1 ∧ o / 2 ^ 1 % 2 = 0 then 1 else 0 := rfl
                rcases Nat.mod_two_eq_zero_or_one (a / 2 ^ 1) with h0 | h0
                · have hv' : bits .and .u8 ((a : Int) / 2) 1 = 0 := by rw [hv, h0]; rfl
                  rw [h0, if_neg (by simp)] at hs
                  clear hv h0 hu
                  go_wp2
                  go_roundw
                  case rel => exact ⟨2, by omega, by go_num, by rw [hs]; rfl, trivial⟩
                  case measure => simp [intOf]
                · have hv' : bits .and .u8 ((a : Int) / 2) 1 = 1 := by rw [hv, h0]; rfl
                  rcases Nat.mod_two_eq_zero_or_one (o / 2 ^ 1) with h1 | h1
                  · have hu' : bits .and .u8 ((o : Int) / 2) 1 = 0 := by rw [hu, h1]; rfl
                    rw [h0, h1, if_pos ⟨rfl, rfl⟩] at hs
                    clear hv h0 hu h1
                    go_wp2
                    go_roundw
                    case rel => exact ⟨2, by omega, by go_num, by rw [hs]; go_num, trivial⟩
                    case measure => simp [intOf]
                  · have hu' : bits .and .u8 ((o : Int) / 2) 1 = 1 := by rw [hu, h1]; rfl
                    rw [h0, h1, if_neg (by simp)] at hs
                    clear hv h0 hu h1
                    go_wp2
                    go_roundw
                    case rel => exact ⟨2, by omega, by go_num, by rw [hs]; rfl, trivial⟩
                    case measure => simp [intOf]
              · have hv := bit_2 a HA.out
                have hu := bit_2 o HO.out
                have hs : lf a o 3 = lf a o 2 + if a / 2 ^ 2 % 2 = 1 ∧ o / 2 ^ 2 % 2 = 0 then 1 else 0 := rfl
                rcases Nat.mod_two_eq_zero_or_one (a / 2 ^ 2) with h0 | h0
                · have hv' : bits .and .u8 ((a : Int) / 4) 1 = 0 := by rw [hv, h0]; rfl
                  rw [h0, if_neg (by simp)] at hs
                  clear hv h0 hu
                  go_wp2
                  go_roundw
                  case rel => exact ⟨3, by omega, by go_num, by rw [hs]; rfl, trivial⟩
                  case measure => simp [intOf]
                · have hv' : bits .and .u8 ((a : Int) / 4) 1 = 1 := by rw [hv, h0]; rfl
                  rcases Nat.mod_two_eq_zero_or_one (o / 2 ^ 2) with h1 | h1
                  · have hu' : bits .and .u8 ((o : Int) / 4) 1 = 0 := by rw [hu, h1]; rfl
                    rw [h0, h1, if_pos ⟨rfl, rfl⟩] at hs
                    clear hv h0 hu h1
                    go_wp2
                    go_roundw
                    case rel => exact ⟨3, by omega, by go_num, by rw [hs]; go_num, trivial⟩
                    case measure => simp [intOf]
                  · have hu' : bits .and .u8 ((o : Int) / 4) 1 = 1 := by rw [hu, h1]; rfl
                    rw [h0, h1, if_neg (by simp)] at hs
                    clear hv h0 hu h1
                    go_wp2
                    go_roundw
                    case rel => exact ⟨3, by omega, by go_num, by rw [hs]; rfl, trivial⟩
                    case measure => simp [intOf]
              · have hv := bit_3 a HA.out
                have hu := bit_3 o HO.out
                have hs : lf a o 4 = lf a o 3 + if a / 2 ^ 3 % 2 = 1 ∧ o / 2 ^ 3 % 2 = 0 then 1 else 0 := rfl
                rcases Nat.mod_two_eq_zero_or_one (a / 2 ^ 3) with h0 | h0
                · have hv' : bits .and .u8 ((a : Int) / 8) 1 = 0 := by rw [hv, h0]; rfl
                  rw [h0, if_neg (by simp)] at hs
                  clear hv h0 hu
                  go_wp2
                  go_roundw
                  case rel => exact ⟨4, by omega, by go_num, by rw [hs]; rfl, trivial⟩
                  case measure => simp [intOf]
                · have hv' : bits .and .u8 ((a : Int) / 8) 1 = 1 := by rw [hv, h0]; rfl
                  rcases Nat.mod_two_eq_zero_or_one (o / 2 ^ 3) with h1 | h1
                  · have hu' : bits .and .u8 ((o : Int) / 8) 1 = 0 := by rw [hu, h1]; rfl
                    rw [h0, h1, if_pos ⟨rfl, rfl⟩] at hs
                    clear hv h0 hu h1
                    go_wp2
                    go_roundw
                    case rel => exact ⟨4, by omega, by go_num, by rw [hs]; go_num, trivial⟩
                    case measure => simp [intOf]
                  · have hu' : bits .and .u8 ((o : Int) / 8) 1 = 1 := by rw [hu, h1]; rfl
                    rw [h0, h1, if_neg (by simp)] at hs
                    clear hv h0 hu h1
                    go_wp2
                    go_roundw
                    case rel => exact ⟨4, by omega, by go_num, by rw [hs]; rfl, trivial⟩
                    case measure => simp [intOf]
              · go_wp2_with (first
                  | (go_at_call 21; with_reducible refine (waits_c H7 W7 _ E3).mono ?_; rintro e w8 ⟨rfl, rfl⟩)
                  | fail)
                go_ret
                exact ⟨by simp, hb7⟩
      · obtain rfl : z = 0 := by omega
        clear hz hk
        have hle : w.heap.size ≤ w1.heap.size := hB
        have hv := bit_0 a HA.out
        rcases Nat.mod_two_eq_zero_or_one (a / 2 ^ 0) with h0 | h0
        · have hv' : bits .and .u8 (a : Int) 1 = 0 := by rw [hv, h0]; rfl
          have hs := hi_no a HA.out 0 (by omega) h0
          clear hv h0
          go_wp2
          go_roundw
          case rel => exact ⟨0, -1, by omega, by omega, by go_num, by rw [← hs]; exact H, hb⟩
          case measure => simp [intOf]
        · have hv' : bits .and .u8 (a : Int) 1 = 1 := by rw [hv, h0]; rfl
          obtain ⟨E1, E2⟩ := raise_1 (a := a) (n := 0) (k := 1) (z := 0) HA.out rfl (by rfl) (by omega) h0
          clear hv h0
          have W' := wf_2 (t := false) (hi_lt a 0) (show 255 < 256 by decide)
          go_wp2_with (first
            | (go_at_call 13; with_reducible refine (raise_c H W _ _ E1).mono ?_; rintro e w6 ⟨rfl, H6, W6, k6⟩; have hb6 := bel_row hb H hle k6)
            | (go_at_call 13; with_reducible refine (raise_c H6 W6 _ _ E2).mono ?_; rintro e w7 ⟨rfl, H7, W7, k7⟩; have hb7 := bel_row hb6 H6 hle k7)
            | fail)
          go_roundw
          case rel => exact ⟨0, -1, by omega, by omega, by go_num, H7, hb7⟩
          case measure => simp [intOf]
      · obtain rfl : z = 1 := by omega
        clear hz hk
        have hle : w.heap.size ≤ w1.heap.size := hB
        have hv := bit_1 a HA.out
        rcases Nat.mod_two_eq_zero_or_one (a / 2 ^ 1) with h0 | h0
        · have hv' : bits .and .u8 ((a : Int) / 2) 1 = 0 := by rw [hv, h0]; rfl
          have hs := hi_no a HA.out 1 (by omega) h0
          clear hv h0
          go_wp2
          go_roundw
          case rel => exact ⟨1, 0, by omega, by omega, by go_num, by rw [← hs]; exact H, hb⟩
          case measure => simp [intOf]
        · have hv' : bits .and .u8 ((a : Int) / 2) 1 = 1 := by rw [hv, h0]; rfl
          obtain ⟨E1, E2⟩ := raise_1 (a := a) (n := 1) (k := 2) (z := 1) HA.out rfl (by rfl) (by omega) h0
          clear hv h0
          have W' := wf_2 (t := false) (hi_lt a 1) (show 255 < 256 by decide)
          go_wp2_with (first
            | (go_at_call 13; with_reducible refine (raise_c H W _ _ E1).mono ?_; rintro e w6 ⟨rfl, H6, W6, k6⟩; have hb6 := bel_row hb H hle k6)
            | (go_at_call 13; with_reducible refine (raise_c H6 W6 _ _ E2).mono ?_; rintro e w7 ⟨rfl, H7, W7, k7⟩; have hb7 := bel_row hb6 H6 hle k7)
            | fail)
          go_roundw
          case rel => exact ⟨1, 0, by omega, by omega, by go_num, H7, hb7⟩
          case measure => simp [intOf]
      · obtain rfl : z = 2 := by omega
        clear hz hk
        have hle : w.heap.size ≤ w1.heap.size := hB
        have hv := bit_2 a HA.out
        rcases Nat.mod_two_eq_zero_or_one (a / 2 ^ 2) with h0 | h0
        · have hv' : bits .and .u8 ((a : Int) / 4) 1 = 0 := by rw [hv, h0]; rfl
          have hs := hi_no a HA.out 2 (by omega) h0
          clear hv h0
          go_wp2
          go_roundw
          case rel => exact ⟨2, 1, by omega, by omega, by go_num, by rw [← hs]; exact H, hb⟩
          case measure => simp [intOf]
        · have hv' : bits .and .u8 ((a : Int) / 4) 1 = 1 := by rw [hv, h0]; rfl
          obtain ⟨E1, E2⟩ := raise_1 (a := a) (n := 2) (k := 3) (z := 2) HA.out rfl (by rfl) (by omega) h0
          clear hv h0
          have W' := wf_2 (t := false) (hi_lt a 2) (show 255 < 256 by decide)
          go_wp2_with (first
            | (go_at_call 13; with_reducible refine (raise_c H W _ _ E1).mono ?_; rintro e w6 ⟨rfl, H6, W6, k6⟩; have hb6 := bel_row hb H hle k6)
            | (go_at_call 13; with_reducible refine (raise_c H6 W6 _ _ E2).mono ?_; rintro e w7 ⟨rfl, H7, W7, k7⟩; have hb7 := bel_row hb6 H6 hle k7)
            | fail)
          go_roundw
          case rel => exact ⟨2, 1, by omega, by omega, by go_num, H7, hb7⟩
          case measure => simp [intOf]
      · obtain rfl : z = 3 := by omega
        clear hz hk
        have hle : w.heap.size ≤ w1.heap.size := hB
        have hv := bit_3 a HA.out
        rcases Nat.mod_two_eq_zero_or_one (a / 2 ^ 3) with h0 | h0
        · have hv' : bits .and .u8 ((a : Int) / 8) 1 = 0 := by rw [hv, h0]; rfl
          have hs := hi_no a HA.out 3 (by omega) h0
          clear hv h0
          go_wp2
          go_roundw
          case rel => exact ⟨3, 2, by omega, by omega, by go_num, by rw [← hs]; exact H, hb⟩
          case measure => simp [intOf]
        · have hv' : bits .and .u8 ((a : Int) / 8) 1 = 1 := by rw [hv, h0]; rfl
          obtain ⟨E1, E2⟩ := raise_1 (a := a) (n := 3) (k := 4) (z := 3) HA.out rfl (by rfl) (by omega) h0
          clear hv h0
          have W' := wf_2 (t := false) (hi_lt a 3) (show 255 < 256 by decide)
          go_wp2_with (first
            | (go_at_call 13; with_reducible refine (raise_c H W _ _ E1).mono ?_; rintro e w6 ⟨rfl, H6, W6, k6⟩; have hb6 := bel_row hb H hle k6)
            | (go_at_call 13; with_reducible refine (raise_c H6 W6 _ _ E2).mono ?_; rintro e w7 ⟨rfl, H7, W7, k7⟩; have hb7 := bel_row hb6 H6 hle k7)
            | fail)
          go_roundw
          case rel => exact ⟨3, 2, by omega, by omega, by go_num, H7, hb7⟩
          case measure => simp [intOf]
theorem order_i (w : World) (a o : Int) (t : Bool) (ha : 0 ≤ a ∧ a ≤ 255) (ho : 0 ≤ o ∧ o ≤ 255) : Calls Try.prog 4 #[.int .u8 a, .int .u8 o, .bool t] w fun e w' => e = .returned (.bool true) ∧ Below w.heap.size w w' := by
  obtain ⟨a, rfl⟩ : ∃ k : Nat, a = k := ⟨a.toNat, by omega⟩
  obtain ⟨o, rfl⟩ : ∃ k : Nat, o = k := ⟨o.toNat, by omega⟩
  exact order_any w a o t (by omega) (by omega)
end Go.Proofs.Ytmhglfidggjfdaa.Line
