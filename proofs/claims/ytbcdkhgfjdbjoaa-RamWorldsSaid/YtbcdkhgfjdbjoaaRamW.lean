/- The normal world reads and writes no secure frame, and the secure one all: the walk. -/
import Derived.Test.YtbcdkhgfjdbjoaaRamP
namespace Go.Proofs.Ytbcdkhgfjdbjoaa.Ram
open Go.RowKit Go.Proofs.Ytbcdkhgfjdbjoaa.Mem Go.Proofs.Ytbcdkhgfjdbjoaa.Kept
open Go.Proofs.YtbcdkhgfjdbjoaaW.PrintWords (nums ReadsInt string_of_reads)
set_option linter.unusedVariables false

set_option maxRecDepth 100000 in
set_option maxHeartbeats 8000000 in
theorem worlds_out (w : World) (fr of : Int) (A1 : Option Addr) (n1 c1 : Nat) (h : 60 < n1) :
    Calls Try.prog 9 #[.int .u8 fr, .int .u8 of, .slice A1 n1 c1] w fun e w' => e = .returned (.bool true) ∧ Below w.heap.size w w' := by
  have hb := Below.refl w.heap.size w
  have h1' : (60 : Int) < (n1 : Int) := by omega
  go_enter Try.func9, Try.ntmps9
  go_wp2_with (first
    | (go_at_call 22; (with_reducible refine (begun _).mono ?_); rintro e w1 ⟨rfl, hb1⟩; replace hb := bel_chain hb hb1; clear hb1)
    | fail)
  all_goals go_ret
  all_goals exact ⟨rfl, hb⟩
set_option maxRecDepth 100000 in
set_option maxHeartbeats 8000000 in
theorem worlds_normal (w : World) (fr of : Int) (hfr : 0 ≤ fr ∧ fr ≤ 255) (hof : 0 ≤ of ∧ of ≤ 255) (f o : Nat) (hf : fr % 10 = f) (ho : of % 64 = o) (hs : 5 ≤ f) (A1 : Option Addr) (n1 c1 : Nat) (l1 : List Int) (h1 : n1 ≤ 60) (hr1 : ReadsInt w .u8 A1 n1 l1) :
    Calls Try.prog 9 #[.int .u8 fr, .int .u8 of, .slice A1 n1 c1] w fun e w' => e = .returned (.bool true) ∧ Below w.heap.size w w' := by
  have hb := Below.refl w.heap.size w
  have C4 : Hid (frames 10 = 10) := Lib.hid (by decide)
  have C2 : Hid (secures 10 5 = 5) := Lib.hid (by decide)
  have hl1 := hr1.1
  have R1 := Lib.hid hr1
  have h1' : ¬ ((60 : Int) < (n1 : Int)) := by omega
  have hf5 : f < 10 := by omega
  have hrem : Int.tmod fr 10 = (f : Int) := by rw [Int.tmod_eq_emod_of_nonneg hfr.1, hf]
  have hrem2 : Int.tmod of 64 = (o : Int) := by rw [Int.tmod_eq_emod_of_nonneg hof.1, ho]
  have v1_ : IntKind.i64.wrap (f : Int) = (f : Int) := IntWalk.i64_in _ (by omega)
  have v2_ : IntKind.i64.wrap (o : Int) = (o : Int) := IntWalk.i64_in _ (by omega)
  have hge : (5 : Int) ≤ (f : Int) := by omega
  have hlt5 : decide ((f : Int) < 5) = false := decide_eq_false (by omega)
  have q5 : 0 < 10 := by omega
  have z1 : o + n1 ≤ 128 := by omega
  have L0 : (List.replicate (10 * 128) (0 : Int)).length = 10 * 128 := by simp
  obtain ⟨F1, hF1⟩ : ∃ F1, splice (List.replicate (10 * 128) (0 : Int)) (f * 128 + o) l1 = F1 := ⟨_, rfl⟩
  have P1 : Hid (part F1 f o n1 = l1) := Lib.hid (by rw [← hF1]; exact part_same L0 hf5 z1 hl1)
  have HF1 := Lib.hid hF1
  have S1 : Hid ((decide ((0 : Int) ≤ f) && decide ((f : Int) < 5)) = false) := Lib.hid (by rw [hlt5]; simp)
  clear hr1 hl1 L0 hF1
  go_enter Try.func9, Try.ntmps9
  go_wp2_with (first
    | (go_at_call 22; (with_reducible refine (begun _).mono ?_); rintro e w1 ⟨rfl, hb1⟩; replace hb := bel_chain hb hb1; clear hb1)
    | (go_at_call 23; (with_reducible refine (new_i w1 10 5 10 5 C4.out C2.out).mono ?_); rintro e w2 ⟨g, b, rfl, H, hb2⟩; have H2 := Lib.hid H; have hB := Lib.hid hb.size; replace hb := bel_chain hb hb2; have R12 := Lib.hid (R1.out.below hb); clear H hb2)
    | (go_at_call 27; (with_reducible refine (write_i H2.out false f o f o rfl rfl A1 n1 c1 hf5 (Or.inr hge) z1 R12.out).mono ?_); rintro e w3 ⟨rfl, H, hk⟩; rw [HF1.out] at H; have H3 := Lib.hid H; replace hb := bel_row hb H2.out hB.out q5 hk; clear H hk R12 H2)
    | (go_at_call 35; (with_reducible refine (read_i H3.out true f o n1 f o n1 rfl rfl rfl hf5 (Or.inl rfl) z1 P1.out).mono ?_); rintro e w5 ⟨A5, c5, rfl, hc5, hr5, hb5, _⟩; have H5 := Lib.hid (H3.out.below hb5); replace hb := bel_chain hb hb5; have R5 := Lib.hid hr5; clear hr5 hb5 H3)
    | (go_at_call 35; (with_reducible refine (read_i H5.out false f o n1 f o n1 rfl rfl rfl hf5 (Or.inr hge) z1 P1.out).mono ?_); rintro e w6 ⟨A6, c6, rfl, hc6, hr6, hb6, _⟩; have H6 := Lib.hid (H5.out.below hb6); replace hb := bel_chain hb hb6; have cv5 := conv (c := c5) (R5.out.below hb6); have cv6 := conv (c := c6) hr6; have cv1 := conv (c := c1) (R1.out.below hb); clear hr6 hb6 H5 R5)
    | (go_at_call 39; (with_reducible refine (secure_i H6.out f false S1.out).mono ?_); rintro e w7 ⟨rfl, rfl⟩)
    | fail)
  all_goals go_ret
  all_goals exact ⟨rfl, hb⟩
set_option maxRecDepth 100000 in
set_option maxHeartbeats 8000000 in
theorem worlds_secure (w : World) (fr of : Int) (hfr : 0 ≤ fr ∧ fr ≤ 255) (hof : 0 ≤ of ∧ of ≤ 255) (f o : Nat) (hf : fr % 10 = f) (ho : of % 64 = o) (hs : f < 5) (A1 : Option Addr) (n1 c1 : Nat) (l1 : List Int) (h1 : n1 ≤ 60) (hr1 : ReadsInt w .u8 A1 n1 l1) :
    Calls Try.prog 9 #[.int .u8 fr, .int .u8 of, .slice A1 n1 c1] w fun e w' => e = .returned (.bool true) ∧ Below w.heap.size w w' := by
  have hb := Below.refl w.heap.size w
  have C4 : Hid (frames 10 = 10) := Lib.hid (by decide)
  have C2 : Hid (secures 10 5 = 5) := Lib.hid (by decide)
  have hl1 := hr1.1
  have R1 := Lib.hid hr1
  have h1' : ¬ ((60 : Int) < (n1 : Int)) := by omega
  have hf5 : f < 10 := by omega
  have hrem : Int.tmod fr 10 = (f : Int) := by rw [Int.tmod_eq_emod_of_nonneg hfr.1, hf]
  have hrem2 : Int.tmod of 64 = (o : Int) := by rw [Int.tmod_eq_emod_of_nonneg hof.1, ho]
  have v1_ : IntKind.i64.wrap (f : Int) = (f : Int) := IntWalk.i64_in _ (by omega)
  have v2_ : IntKind.i64.wrap (o : Int) = (o : Int) := IntWalk.i64_in _ (by omega)
  have hlt5 : decide ((f : Int) < 5) = true := decide_eq_true (by omega)
  have q5 : 0 < 10 := by omega
  have z1 : o + n1 ≤ 128 := by omega
  have P1 : Hid (part (List.replicate (10 * 128) (0 : Int)) f o n1 = List.replicate n1 0) := Lib.hid (part_zero hf5 z1)
  have M : Hid (may 10 5 false f o n1 = false) := Lib.hid (by unfold may; rw [decide_eq_false (show ¬ ((5 : Int) ≤ (f : Int)) by omega)]; simp)
  have S1 : Hid ((decide ((0 : Int) ≤ f) && decide ((f : Int) < 5)) = true) := Lib.hid (by rw [hlt5]; simp)
  clear hr1 hl1
  go_enter Try.func9, Try.ntmps9
  go_wp2_with (first
    | (go_at_call 22; (with_reducible refine (begun _).mono ?_); rintro e w1 ⟨rfl, hb1⟩; replace hb := bel_chain hb hb1; clear hb1)
    | (go_at_call 23; (with_reducible refine (new_i w1 10 5 10 5 C4.out C2.out).mono ?_); rintro e w2 ⟨g, b, rfl, H, hb2⟩; have H2 := Lib.hid H; have hB := Lib.hid hb.size; replace hb := bel_chain hb hb2; clear H hb2)
    | (go_at_call 27; (with_reducible refine (write_no H2.out false f o A1 n1 c1 M.out).mono ?_); rintro e w3 ⟨rfl, rfl⟩)
    | (go_at_call 35; (with_reducible refine (read_i H2.out true f o n1 f o n1 rfl rfl rfl hf5 (Or.inl rfl) z1 P1.out).mono ?_); rintro e w5 ⟨A5, c5, rfl, hc5, hr5, hb5, _⟩; have H5 := Lib.hid (H2.out.below hb5); replace hb := bel_chain hb hb5; have R5 := Lib.hid hr5; clear hr5 hb5 H2)
    | (go_at_call 35; (with_reducible refine (read_no H5.out false f o n1 M.out).mono ?_); rintro e w6 ⟨rfl, rfl⟩)
    | (go_at_call 39; (with_reducible refine (secure_i H5.out f true S1.out).mono ?_); rintro e w7 ⟨rfl, rfl⟩)
    | fail)
  go_loop [16] (fun i => ∃ j : Nat, j ≤ n1 ∧ i = .int .i64 j) (fun i => n1 - (intOf i).toNat)
  case atStart => exact ⟨0, by omega, rfl⟩
  case round =>
    obtain ⟨j, hj, rfl⟩ := hrel
    by_cases hjn : j < n1
    · obtain ⟨ad, e5, hc⟩ := R5.out.2.2 (by omega)
      subst e5
      have x0 := hc j hjn
      have e0 : (List.replicate n1 (0 : Int)).getD j 0 = 0 := by rw [List.getD_eq_getElem?_getD, List.getElem?_replicate, if_pos hjn]; rfl
      rw [e0] at x0
      clear hc e0
      go_wp2
      go_round
      case measure => simp [intOf]; omega
      case rel => exact ⟨j + 1, by omega, by go_num⟩
    · have hjn' : j = n1 := by omega
      subst hjn'
      have R12 := Lib.hid (R1.out.below hb)
      go_wp2_with (first
        | (go_at_call 27; (with_reducible refine (write_i H5.out true f o f o rfl rfl A1 j c1 hf5 (Or.inl rfl) z1 R12.out).mono ?_); rintro e w8 ⟨rfl, H, hk⟩; replace hb := bel_row hb H5.out hB.out q5 hk; clear H hk)
        | fail)
      go_ret
      exact ⟨rfl, hb⟩
theorem worlds_all (w : World) (fr of : Int) (hfr : 0 ≤ fr ∧ fr ≤ 255) (hof : 0 ≤ of ∧ of ≤ 255) (A1 : Option Addr) (c1 : Nat) (l1 : List Int) (hr1 : ReadsInt w .u8 A1 l1.length l1) :
    Calls Try.prog 9 #[.int .u8 fr, .int .u8 of, .slice A1 l1.length c1] w fun e w' => e = .returned (.bool true) ∧ Below w.heap.size w w' := by
  by_cases h : 60 < l1.length
  · exact worlds_out w fr of A1 _ c1 h
  · obtain ⟨f, hf⟩ : ∃ f : Nat, fr % 10 = (f : Int) := ⟨(fr % 10).toNat, by omega⟩
    obtain ⟨o, ho⟩ : ∃ f : Nat, of % 64 = (f : Int) := ⟨(of % 64).toNat, by omega⟩
    by_cases hs : f < 5
    · exact worlds_secure w fr of hfr hof f o hf ho hs A1 _ c1 l1 (by omega) hr1
    · exact worlds_normal w fr of hfr hof f o hf ho (by omega) A1 _ c1 l1 (by omega) hr1
end Go.Proofs.Ytbcdkhgfjdbjoaa.Ram
