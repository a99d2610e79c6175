/- A word is eight bytes, the lowest first, and nothing else is turned: the walk. -/
import Derived.Test.YtbcdkhgfjdbjoaaRamP
namespace Go.Proofs.Ytbcdkhgfjdbjoaa.Ram
open Go.RowKit Go.Proofs.Ytbcdkhgfjdbjoaa.Mem Go.Proofs.Ytbcdkhgfjdbjoaa.Kept
open Go.Proofs.YtbcdkhgfjdbjoaaW.PrintWords (nums ReadsInt string_of_reads)
set_option linter.unusedVariables false

theorem word_byte {F : List Int} {v : Int} {f k m j : Nat} (hF : splice (List.replicate (3 * 128) (0 : Int)) (f * 128 + k * 8) (low8 v) = F) (hf : f < 3) (hk : k < 16) (hm : m < 3) (hj : j < 128) :
    (part F m 0 128).getD j 0 = if m = f ∧ j / 8 = k then (low8 v).getD (j % 8) 0 else 0 := by
  have hl : (low8 v).length = 8 := rfl
  rw [part_at _ _ _ _ _ hj, ← hF, splice_at _ _ _ _ (by rw [hl, List.length_replicate]; omega), hl]
  by_cases h : m = f ∧ j / 8 = k
  · rw [if_pos h, if_pos (by omega)]
    congr 1
    omega
  · rw [if_neg h, if_neg (by omega), List.getD_eq_getElem?_getD, List.getElem?_replicate]
    by_cases h2 : m * 128 + 0 + j < 3 * 128
    · rw [if_pos h2]; rfl
    · rw [if_neg h2]; rfl

set_option maxRecDepth 100000 in
set_option maxHeartbeats 16000000 in
theorem words_all (w : World) (fr kr v : Int) (hfr : 0 ≤ fr ∧ fr ≤ 255) (hkr : 0 ≤ kr ∧ kr ≤ 255) (hv : 0 ≤ v ∧ v ≤ 18446744073709551615) :
    Calls Try.prog 10 #[.int .u8 fr, .int .u8 kr, .int .u64 v] w fun e w' => e = .returned (.bool true) ∧ Below w.heap.size w w' := by
  have hb := Below.refl w.heap.size w
  have C4 : Hid (frames 3 = 3) := Lib.hid (by decide)
  have C2 : Hid (secures 3 0 = 0) := Lib.hid (by decide)
  obtain ⟨f, hf⟩ : ∃ f : Nat, fr % 3 = (f : Int) := ⟨(fr % 3).toNat, by omega⟩
  obtain ⟨k, hk⟩ : ∃ f : Nat, kr % 16 = (f : Int) := ⟨(kr % 16).toNat, by omega⟩
  have hf5 : f < 3 := by omega
  have hk5 : k < 16 := by omega
  have hrem : Int.tmod fr 3 = (f : Int) := by rw [Int.tmod_eq_emod_of_nonneg hfr.1, hf]
  have hrem2 : Int.tmod kr 16 = (k : Int) := by rw [Int.tmod_eq_emod_of_nonneg hkr.1, hk]
  have v1_ : IntKind.i64.wrap (f : Int) = (f : Int) := IntWalk.i64_in _ (by omega)
  have v2_ : IntKind.i64.wrap (k : Int) = (k : Int) := IntWalk.i64_in _ (by omega)
  have q5 : 0 < 3 := by omega
  obtain ⟨F, hF⟩ : ∃ F, splice (List.replicate (3 * 128) (0 : Int)) (f * 128 + k * 8) (low8 v) = F := ⟨_, rfl⟩
  have HF := Lib.hid hF
  have HZ : Hid (∀ x ∈ F, 0 ≤ x ∧ x ≤ 255) := Lib.hid (by rw [← hF]; exact mem_splice mem_zero (mem_low8 v hv.1))
  have PW : Hid (num8 (part F f (k * 8) 8) = v) := Lib.hid (by rw [← hF, part_same (n := 3) (k := 8) (l := low8 v) (by simp) hf5 (by omega) rfl]; exact num_low v hv.1 hv.2)
  have hge : (0 : Int) ≤ (f : Int) := by omega
  have HV := Lib.hid hv
  clear hF hf hk
  go_enter Try.func10, Try.ntmps10
  go_wp2_with (first
    | (go_at_call 22; (with_reducible refine (begun _).mono ?_); rintro e w1 ⟨rfl, hb1⟩; replace hb := bel_chain hb hb1; clear hb1)
    | (go_at_call 23; (with_reducible refine (new_i w1 3 0 3 0 C4.out C2.out).mono ?_); rintro e w2 ⟨g, b, rfl, H, hb2⟩; have H2 := Lib.hid H; have hB := Lib.hid hb.size; replace hb := bel_chain hb hb2; clear H hb2)
    | (go_at_call 30; (with_reducible refine (setWord_i H2.out false f k f k v rfl rfl hf5 (Or.inr hge) hk5 HV.out).mono ?_); rintro e w3 ⟨rfl, H, hk⟩; rw [HF.out] at H; have H3 := Lib.hid H; replace hb := bel_row hb H2.out hB.out q5 hk; clear H hk H2)
    | fail)
  have H3' := H3.out
  clear H3
  go_loopw [10] (fun i wr => ∃ m : Nat, m ≤ 3 ∧ i = .int .i64 m ∧ Hid (Is wr w1.heap.size g b 3 F 0) ∧ Hid (Below w.heap.size w wr)) (fun i _ => 3 - (intOf i).toNat)
  case atStart => exact ⟨0, by omega, rfl, Lib.hid H3', Lib.hid hb⟩
  case round =>
    clear H3' hb
    obtain ⟨m, hm, rfl, HI, HBel⟩ := hrel
    by_cases hm3 : m = 3
    · subst hm3
      go_wp2_with (first
        | (go_at_call 37; (with_reducible refine (get_i HI.out true f k f k v rfl rfl hf5 (Or.inl rfl) hk5 HZ.out PW.out).mono ?_); rintro e w6 ⟨rfl, rfl⟩)
        | fail)
      go_ret
      exact ⟨rfl, HBel.out⟩
    · have hm2 : m < 3 := by omega
      have hmI : (m : Int) < 3 := by omega
      have hmge : (0 : Int) ≤ (m : Int) := by omega
      go_wp2_with (first
        | (go_at_call 35; refine (read_i HI.out false m 0 128 m 0 128 rfl rfl rfl hm2 (Or.inr hmge) (by omega) rfl).mono ?_; rintro e w5 ⟨A5, c5, rfl, hc5, hr5, hb5, _⟩; have HI5 := Lib.hid (HI.out.below hb5); have HBel5 := Lib.hid (bel_chain HBel.out hb5); have R5 := Lib.hid hr5; clear hr5 hb5)
        | fail)
      obtain ⟨ad, e5, hc⟩ := R5.out.2.2 (by decide)
      subst e5
      have HC := Lib.hid hc
      clear hc R5
      go_loop [13, 14] (fun j _ => ∃ jn : Nat, jn ≤ 128 ∧ j = .int .i64 jn) (fun j _ => 128 - (intOf j).toNat)
      case atStart => exact ⟨0, by omega, rfl⟩
      case round =>
        obtain ⟨j, hj, rfl⟩ := hrel
        by_cases hj2 : j = 128
        · subst hj2
          go_wp2
          go_roundw
          case measure => simp [intOf]; omega
          case rel => exact ⟨m + 1, by omega, by go_num, HI5, HBel5⟩
        · have hj3 : j < 128 := by omega
          have hjI : (j : Int) < 128 := by omega
          have x0 := HC.out j hj3
          rw [word_byte HF.out hf5 hk5 hm2 hj3] at x0
          by_cases hmf : m = f
          · subst hmf
            by_cases hjk : j / 8 = k
            · rw [if_pos ⟨rfl, hjk⟩] at x0
              have hd : (j : Int) / 8 = (k : Int) := by omega
              have hr : j % 8 = 0 ∨ j % 8 = 1 ∨ j % 8 = 2 ∨ j % 8 = 3 ∨ j % 8 = 4 ∨ j % 8 = 5 ∨ j % 8 = 6 ∨ j % 8 = 7 := by omega
              rcases hr with hr | hr | hr | hr | hr | hr | hr | hr
              · have hm8 : (j : Int) % 8 = 0 := by omega
                rw [hr, show (low8 v).getD 0 0 = v % 256 from rfl] at x0
                clear hr
                go_wp2
                all_goals
                  go_round
                  case measure => simp [intOf]; omega
                  case rel => exact ⟨j + 1, by omega, by go_num⟩
              · have hm8 : (j : Int) % 8 = 1 := by omega
                rw [hr, show (low8 v).getD 1 0 = v / 256 % 256 from rfl] at x0
                clear hr
                go_wp2
                all_goals
                  go_round
                  case measure => simp [intOf]; omega
                  case rel => exact ⟨j + 1, by omega, by go_num⟩
              · have hm8 : (j : Int) % 8 = 2 := by omega
                rw [hr, show (low8 v).getD 2 0 = v / 65536 % 256 from rfl] at x0
                clear hr
                go_wp2
                all_goals
                  go_round
                  case measure => simp [intOf]; omega
                  case rel => exact ⟨j + 1, by omega, by go_num⟩
              · have hm8 : (j : Int) % 8 = 3 := by omega
                rw [hr, show (low8 v).getD 3 0 = v / 16777216 % 256 from rfl] at x0
                clear hr
                go_wp2
                all_goals
                  go_round
                  case measure => simp [intOf]; omega
                  case rel => exact ⟨j + 1, by omega, by go_num⟩
              · have hm8 : (j : Int) % 8 = 4 := by omega
                rw [hr, show (low8 v).getD 4 0 = v / 4294967296 % 256 from rfl] at x0
                clear hr
                go_wp2
                all_goals
                  go_round
                  case measure => simp [intOf]; omega
                  case rel => exact ⟨j + 1, by omega, by go_num⟩
              · have hm8 : (j : Int) % 8 = 5 := by omega
                rw [hr, show (low8 v).getD 5 0 = v / 1099511627776 % 256 from rfl] at x0
                clear hr
                go_wp2
                all_goals
                  go_round
                  case measure => simp [intOf]; omega
                  case rel => exact ⟨j + 1, by omega, by go_num⟩
              · have hm8 : (j : Int) % 8 = 6 := by omega
                rw [hr, show (low8 v).getD 6 0 = v / 281474976710656 % 256 from rfl] at x0
                clear hr
                go_wp2
                all_goals
                  go_round
                  case measure => simp [intOf]; omega
                  case rel => exact ⟨j + 1, by omega, by go_num⟩
              · have hm8 : (j : Int) % 8 = 7 := by omega
                rw [hr, show (low8 v).getD 7 0 = v / 72057594037927936 by show v / 72057594037927936 % 256 = _; omega] at x0
                clear hr
                go_wp2
                all_goals
                  go_round
                  case measure => simp [intOf]; omega
                  case rel => exact ⟨j + 1, by omega, by go_num⟩
            · rw [if_neg (fun h => hjk h.2)] at x0
              have hd : ((j : Int) / 8 == (k : Int)) = false := by rw [beq_eq_false_iff_ne]; omega
              go_wp2
              all_goals
                go_round
                case measure => simp [intOf]; omega
                case rel => exact ⟨j + 1, by omega, by go_num⟩
          · rw [if_neg (fun h => hmf h.1)] at x0
            have hd : ((m : Int) == (f : Int)) = false := by rw [beq_eq_false_iff_ne]; omega
            go_wp2
            all_goals
              go_round
              case measure => simp [intOf]; omega
              case rel => exact ⟨j + 1, by omega, by go_num⟩
end Go.Proofs.Ytbcdkhgfjdbjoaa.Ram
