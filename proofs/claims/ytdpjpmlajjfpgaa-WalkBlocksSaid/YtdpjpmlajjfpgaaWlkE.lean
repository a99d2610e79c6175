/- A block says sixteen pages in a row, and no others. -/
import Derived.Test.YtdpjpmlajjfpgaaWlkD
namespace Go.Proofs.Ytdpjpmlajjfpgaa.Ram
open Go.RowKit Go.Proofs.Ytdpjpmlajjfpgaa.Mem Go.Proofs.Ytdpjpmlajjfpgaa.Kept Go.Proofs.Ytdpjpmlajjfpgaa.Slo Go.Proofs.Ytdpjpmlajjfpgaa.Bits
open Go.Proofs.YtdpjpmlajjfpgaaW.PrintWords (nums ReadsInt results_ct results_ctt gate_dst box_event)
set_option linter.unusedVariables false
set_option linter.unusedSimpArgs false

set_option maxRecDepth 100000 in
set_option maxHeartbeats 16000000 in
theorem blocks_all (w : World) (G P R : Int) (hG : 0 ≤ G ∧ G ≤ 255) (hP : 0 ≤ P ∧ P ≤ 255) (hR : 0 ≤ R ∧ R ≤ 255) :
    Calls Try.prog 10 #[.int .u8 G, .int .u8 P, .int .u8 R] w fun e w' => e = .returned (.bool true) ∧ Below w.heap.size w w' := by
  have hb := Below.refl w.heap.size w
  have hu51 := Try.underlying51
  have hu58 := Try.underlying58
  obtain ⟨q, hq⟩ : ∃ q, 1 + P % 7 = q := ⟨_, rfl⟩
  obtain ⟨f, hf⟩ : ∃ f, R % 50 = f := ⟨_, rfl⟩
  have t1 : Int.tmod P 7 = q - 1 := by rw [Int.tmod_eq_emod_of_nonneg hP.1]; omega
  have t2 : Int.tmod R 50 = f := by rw [Int.tmod_eq_emod_of_nonneg hR.1]; omega
  have t3 : Int.tdiv G 16 = G / 16 := Int.tdiv_eq_ediv_of_nonneg hG.1
  have t4 : Int.tmod G 16 = G % 16 := Int.tmod_eq_emod_of_nonneg hG.1
  have hq' : 1 ≤ q ∧ q ≤ 7 := by omega
  have hf' : 0 ≤ f ∧ f < 50 := by omega
  have u1 : 1 + (q - 1) = q := by omega
  have HG := Lib.hid hG
  have HQ := Lib.hid hq'
  have HF := Lib.hid hf'
  have HM := Lib.hid (show mayB 3 f q = true by unfold mayB; simp; omega)
  have HV := Lib.hid (show 0 ≤ 3 + 4 * q + 4096 * f ∧ 3 + 4 * q + 4096 * f ≤ 18446744073709551615 by omega)
  have HMem := Lib.hid (show ∀ x ∈ blkF (G / 16) (G % 16) f q, 0 ≤ x ∧ x ≤ 255 from swF_mem (swF_mem mem_zero (by decide)) (by omega))
  clear hq hf hP hR
  go_enter Try.func10, Try.ntmps10
  go_wp2_with (first
    | (go_at_call 25; (with_reducible refine (wbegun _).mono ?_); rintro e w1 ⟨rfl, hb1⟩; replace hb := bel_chain hb hb1; clear hb1)
    | (go_at_call 26; (with_reducible refine (new_i w1 60 60 60 60 (by decide) (by decide)).mono ?_); rintro e w2 ⟨g, b, rfl, H0, hb2⟩; have hB := Lib.hid hb.size; have H := Lib.hid H0; replace hb := bel_chain hb hb2; clear hb2 H0)
    | (go_at_call 28; (with_reducible refine (slot_any _ 1 2 0 8193 (by decide) (by decide)).mono ?_); rintro e w3 ⟨rfl, hb3⟩; have H3 := Lib.hid (H.out.below hb3); replace hb := bel_chain hb hb3; clear hb3 H)
    | (go_at_call 29; (with_reducible refine (setWord_any H3.out true 1 (G / 16) 8193 (by decide)).mono ?_); rintro e w4 ⟨rfl, H0, hk⟩; replace hb := bel_own hb H3.out hB.out hk; have H4 := Lib.hid H0; clear hk H0 H3)
    | (go_at_call 28; (with_reducible refine (slot_any _ 3 f q (3 + 4 * q + 4096 * f) HM.out rfl).mono ?_); rintro e w5 ⟨rfl, hb3⟩; have H5 := Lib.hid (H4.out.below hb3); replace hb := bel_chain hb hb3; clear hb3 H4)
    | (go_at_call 29; (with_reducible refine (setWord_any H5.out true 2 (G % 16) (3 + 4 * q + 4096 * f) HV.out).mono ?_); rintro e w6 ⟨rfl, H0, hk⟩; replace hb := bel_own hb H5.out hB.out hk; have H6 : Hid (Is w6 w1.heap.size g b 60 (blkF (G / 16) (G % 16) f q) 60) := Lib.hid H0; clear hk H0 H5)
    | fail)
  have HI := Lib.hid (H6.out.lower hB.out)
  have HB := Lib.hid hb
  clear H6 hb hB t1 t2 t3 t4 u1
  go_loopw [10] (fun i wr => ∃ j : Nat, j ≤ 18 ∧ i = .int .i64 ((j : Int) - 1) ∧ Hid (Is wr w.heap.size g b 60 (blkF (G / 16) (G % 16) f q) 60) ∧ Hid (Below w.heap.size w wr)) (fun i _ => 18 - (intOf i + 1).toNat)
  case atStart => exact ⟨0, by omega, rfl, HI, HB⟩
  case round =>
    clear HI HB
    obtain ⟨j, hj, rfl, HI, HB⟩ := hrel
    by_cases hj2 : j < 18
    · obtain ⟨z, hz⟩ : ∃ z, (j : Int) - 1 = z := ⟨_, rfl⟩
      have hz1 : -1 ≤ z := by omega
      have hz2 : z ≤ 16 := by omega
      rw [hz]
      have k0 : decide (z ≤ 16) = true := decide_eq_true hz2
      have m1 : wrap64 (16 * G) = 16 * G := w64_in (by have := HG.out; omega) (by have := HG.out; omega)
      have m2 : wrap64 (16 * G + z) = 16 * G + z := w64_in (by have := HG.out; omega) (by have := HG.out; omega)
      have m3 : wrap64 (f + z) = f + z := w64_in (by have := HF.out; omega) (by have := HF.out; omega)
      have m4 : wrap64 (z + 1) = z + 1 := w64_in (by omega) (by omega)
      by_cases hin : 0 ≤ z ∧ z < 16 ∧ f + z < 60
      · have HR := Lib.hid (show wk 60 60 (blkF (G / 16) (G % 16) f q) 1 (16 * G + z) = (f + z, q, 2, 0) by
          rw [blk_wk HG.out HF.out HQ.out, if_pos (by omega), show 16 * G + z - 16 * G = z by omega])
        have d1 : decide (0 ≤ z) = true := decide_eq_true hin.1
        have d2 : decide (z < 16) = true := decide_eq_true hin.2.1
        have d3 : decide (f + z < 60) = true := decide_eq_true hin.2.2
        clear hin
        go_wp2_with (first
          | (go_at_call 31; (with_reducible refine (walk_i HI.out HMem.out 1 (16 * G + z) _ _ _ _ HR.out).mono ?_); rintro e w7 ⟨rfl, hb7⟩; have H7 := Lib.hid (HI.out.below hb7); have B7 := Lib.hid (bel_chain HB.out hb7); clear hb7)
          | ((with_reducible refine gate_dst (N := 12) rfl ?_); refine box_event ?hg (N := 12) ?hd (cs := #[.int .i64 0, .int .i64 0]) (t := 58) ?hr ?_; (case hd => rfl); (case hg => rfl); (case hr => first | (go_simp; done) | (go_simp; rfl)); intro g9 hge w8 BK9 hb9; have hg9 : w7.heap.size ≤ g9 := (by rw [hge]; exact Nat.le_refl _); clear hge; obtain ⟨d0, d1, s0, s1⟩ := cells2f BK9)
          | fail)
        obtain ⟨w9, e9, _, hb10, _⟩ := store2 BK9 hb9 hg9 (.int .i64 (f + z)) (.int .i64 q)
        rw [e9]
        go_roundw
        case measure => simp [intOf]; omega
        case rel => exact ⟨j + 1, by omega, by congr 1; omega, Lib.hid (H7.out.below hb10), Lib.hid (bel_chain B7.out hb10)⟩
      · have HR := Lib.hid (show wk 60 60 (blkF (G / 16) (G % 16) f q) 1 (16 * G + z) = (0, 0, 0, -20) by
          rw [blk_wk HG.out HF.out HQ.out, if_neg (show ¬ (0 ≤ 16 * G + z - 16 * G ∧ 16 * G + z - 16 * G < 16 ∧ f + (16 * G + z - 16 * G) < 60) by omega)])
        by_cases h0 : 0 ≤ z
        · have d1 : decide (0 ≤ z) = true := decide_eq_true h0
          by_cases h1 : z < 16
          · have d2 : decide (z < 16) = true := decide_eq_true h1
            have d3 : decide (f + z < 60) = false := decide_eq_false (by omega)
            clear hin h0 h1
            go_wp2_with (first
              | (go_at_call 31; (with_reducible refine (walk_i HI.out HMem.out 1 (16 * G + z) _ _ _ _ HR.out).mono ?_); rintro e w7 ⟨rfl, hb7⟩; have H7 := Lib.hid (HI.out.below hb7); have B7 := Lib.hid (bel_chain HB.out hb7); clear hb7)
              | ((with_reducible refine gate_dst (N := 12) rfl ?_); refine box_event ?hg (N := 12) ?hd (cs := #[.int .i64 0, .int .i64 0]) (t := 58) ?hr ?_; (case hd => rfl); (case hg => rfl); (case hr => first | (go_simp; done) | (go_simp; rfl)); intro g9 hge w8 BK9 hb9; have hg9 : w7.heap.size ≤ g9 := (by rw [hge]; exact Nat.le_refl _); clear hge; obtain ⟨d0, d1, s0, s1⟩ := cells2f BK9)
              | fail)
            obtain ⟨w9, e9, _, hb10, _⟩ := store2 BK9 hb9 hg9 (.int .i64 0) (.int .i64 0)
            rw [e9]
            go_roundw
            case measure => simp [intOf]; omega
            case rel => exact ⟨j + 1, by omega, by congr 1; omega, Lib.hid (H7.out.below hb10), Lib.hid (bel_chain B7.out hb10)⟩
          · have d2 : decide (z < 16) = false := decide_eq_false h1
            clear hin h0 h1
            go_wp2_with (first
              | (go_at_call 31; (with_reducible refine (walk_i HI.out HMem.out 1 (16 * G + z) _ _ _ _ HR.out).mono ?_); rintro e w7 ⟨rfl, hb7⟩; have H7 := Lib.hid (HI.out.below hb7); have B7 := Lib.hid (bel_chain HB.out hb7); clear hb7)
              | ((with_reducible refine gate_dst (N := 12) rfl ?_); refine box_event ?hg (N := 12) ?hd (cs := #[.int .i64 0, .int .i64 0]) (t := 58) ?hr ?_; (case hd => rfl); (case hg => rfl); (case hr => first | (go_simp; done) | (go_simp; rfl)); intro g9 hge w8 BK9 hb9; have hg9 : w7.heap.size ≤ g9 := (by rw [hge]; exact Nat.le_refl _); clear hge; obtain ⟨d0, d1, s0, s1⟩ := cells2f BK9)
              | fail)
            obtain ⟨w9, e9, _, hb10, _⟩ := store2 BK9 hb9 hg9 (.int .i64 0) (.int .i64 0)
            rw [e9]
            go_roundw
            case measure => simp [intOf]; omega
            case rel => exact ⟨j + 1, by omega, by congr 1; omega, Lib.hid (H7.out.below hb10), Lib.hid (bel_chain B7.out hb10)⟩
        · have d1 : decide (0 ≤ z) = false := decide_eq_false h0
          clear hin h0
          go_wp2_with (first
            | (go_at_call 31; (with_reducible refine (walk_i HI.out HMem.out 1 (16 * G + z) _ _ _ _ HR.out).mono ?_); rintro e w7 ⟨rfl, hb7⟩; have H7 := Lib.hid (HI.out.below hb7); have B7 := Lib.hid (bel_chain HB.out hb7); clear hb7)
            | ((with_reducible refine gate_dst (N := 12) rfl ?_); refine box_event ?hg (N := 12) ?hd (cs := #[.int .i64 0, .int .i64 0]) (t := 58) ?hr ?_; (case hd => rfl); (case hg => rfl); (case hr => first | (go_simp; done) | (go_simp; rfl)); intro g9 hge w8 BK9 hb9; have hg9 : w7.heap.size ≤ g9 := (by rw [hge]; exact Nat.le_refl _); clear hge; obtain ⟨d0, d1, s0, s1⟩ := cells2f BK9)
            | fail)
          obtain ⟨w9, e9, _, hb10, _⟩ := store2 BK9 hb9 hg9 (.int .i64 0) (.int .i64 0)
          rw [e9]
          go_roundw
          case measure => simp [intOf]; omega
          case rel => exact ⟨j + 1, by omega, by congr 1; omega, Lib.hid (H7.out.below hb10), Lib.hid (bel_chain B7.out hb10)⟩
    · have hj3 : j = 18 := by omega
      subst hj3
      rw [show ((18 : Nat) : Int) - 1 = 17 by decide]
      have HB' := HB.out
      clear hj2 hj HB
      go_wp2
      go_ret
      exact ⟨rfl, HB'⟩
end Go.Proofs.Ytdpjpmlajjfpgaa.Ram
