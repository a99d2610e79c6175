/- A walk that finds no page where one is wanted is a fault, at each of its looks: the walks. -/
import Derived.Test.YtdpjpmlajjfpgaaWlkG
import Derived.Deep.RegionHeld3
namespace Go.Proofs.Ytdpjpmlajjfpgaa.Ram
open Go.RowKit Go.Proofs.Ytdpjpmlajjfpgaa.Mem Go.Proofs.Ytdpjpmlajjfpgaa.Kept Go.Proofs.Ytdpjpmlajjfpgaa.Slo Go.Proofs.Ytdpjpmlajjfpgaa.Bits
open Go.Proofs.YtdpjpmlajjfpgaaW.PrintWords (nums ReadsInt results_ct results_ctt gate_dst box_event)
set_option linter.unusedVariables false
set_option linter.unusedSimpArgs false

set_option maxRecDepth 100000 in
set_option maxHeartbeats 16000000 in
theorem faults_0a (w : World) (L Kd R P : Int) (hL : 0 ≤ L ∧ L ≤ 255) (hK : 0 ≤ Kd ∧ Kd ≤ 255) (hR : 0 ≤ R ∧ R ≤ 255) (hP : 0 ≤ P ∧ P ≤ 65535) (hk : L % 4 = 0) (hKd : Kd % 4 = 0) :
    Calls Try.prog 9 #[.int .u8 L, .int .u8 Kd, .int .u8 R, .int .u16 P] w fun e w' => e = .returned (.bool true) ∧ Below w.heap.size w w' := by
  have hb := Below.refl w.heap.size w
  have hu51 := Try.underlying51
  have hu58 := Try.underlying58
  obtain ⟨p, hp⟩ : ∃ q, P % 4096 = q := ⟨_, rfl⟩
  have hp1 : 0 ≤ p ∧ p < 4096 := by omega
  obtain ⟨a, ha⟩ : ∃ q, p / 256 = q := ⟨_, rfl⟩
  obtain ⟨b, hB⟩ : ∃ q, p / 16 % 16 = q := ⟨_, rfl⟩
  obtain ⟨c, hc⟩ : ∃ q, p % 16 = q := ⟨_, rfl⟩
  have u0 : wrap64 p = p := w64_in (by omega) (by omega)
  have t1 : Int.tmod P 4096 = p := by rw [Int.tmod_eq_emod_of_nonneg hP.1]; omega
  have t2 : Int.tdiv p 256 = a := by rw [Int.tdiv_eq_ediv_of_nonneg hp1.1]; exact ha
  have t3 : Int.tdiv p 16 = p / 16 := Int.tdiv_eq_ediv_of_nonneg hp1.1
  have t4 : Int.tmod (p / 16) 16 = b := by rw [Int.tmod_eq_emod_of_nonneg (by omega)]; exact hB
  have t5 : Int.tmod p 16 = c := by rw [Int.tmod_eq_emod_of_nonneg hp1.1]; exact hc
  have u1 : wrap64 a = a := w64_in (by omega) (by omega)
  have u2 : wrap64 (p / 16) = p / 16 := w64_in (by omega) (by omega)
  have HP := Lib.hid hp1
  have HA := Lib.hid ha
  have HB := Lib.hid hB
  have HC := Lib.hid hc
  have t6 : Int.tmod L 4 = 0 := by rw [Int.tmod_eq_emod_of_nonneg hL.1]; exact hk
  have t7 : Int.tmod Kd 4 = 0 := by rw [Int.tmod_eq_emod_of_nonneg hK.1]; exact hKd
  have HX := Lib.hid (show Bad 0 0 0 from ⟨by decide, Or.inl rfl⟩)
  clear hp ha hB hc hP hp1 hL hk
  go_enter Try.func9, Try.ntmps9
  go_wp2_with (first
    | (go_at_call 25; (with_reducible refine (wbegun _).mono ?_); rintro e w1 ⟨rfl, hb1⟩; replace hb := bel_chain hb hb1; clear hb1)
    | (go_at_call 26; (with_reducible refine (new_i w1 30 30 30 30 (by decide) (by decide)).mono ?_); rintro e w2 ⟨g, bb, rfl, H0, hb2⟩; have H := Lib.hid (H0.lower hb.size); replace hb := bel_chain hb hb2; clear hb2 H0)
    | ((with_reducible refine gate_dst (N := 18) rfl ?_); obtain ⟨W, hW⟩ : ∃ W, ((w2.alloc (.cells #[.int .i64 1, .int .i64 4, .int .i64 0, .int .i64 1, .int .i64 5, .int .i64 0, .int .i64 2, .int .i64 9, .int .i64 5] 51 (0, 0))).alloc (.cells #[.int .i64 a, .int .i64 b, .int .i64 c] 3 (0, 0))).alloc (.cells #[.int .i64 3, .int .i64 4, .int .i64 5] 3 (0, 0)) = W := ⟨_, rfl⟩; rw [hW]; have T := Lib.hid (fs_new H.out hb 1 4 0 1 5 0 2 9 5 a b c hW); clear hW H hb; refine box_event ?hg (N := 18) ?hd (cs := #[.int .i64 0, .int .i64 0, .int .i64 0]) (t := 51) ?hr ?_; (case hd => rfl); (case hg => rfl); (case hr => first | (go_simp; done) | (go_simp; rfl)); intro g18 hge w8 BK8 hb8; have hg8 : W.heap.size ≤ g18 := (by rw [hge]; exact Nat.le_refl _); clear hge; obtain ⟨⟨c0, c1, c2⟩, r0, r1, r2⟩ := cells3 BK8; have T1 := T.out.below hb8; have z0 := T1.s0; have z1 := T1.s1; have z2 := T1.s2; have y0 := blk_free T1.sl 0; have y1 := blk_free T1.sl 1; have y2 := blk_free T1.sl 2; clear T1; have n1 : g18 ≠ w2.heap.size := (by have := blk_lt T.out.sl; omega); have n2 : w2.heap.size ≠ g18 := (by have := blk_lt T.out.sl; omega))
    | fail)
  obtain ⟨V, hV⟩ : ∃ V, ((((((w8).setCell ⟨g18, 0, none⟩ (.int .i64 0)).setCell ⟨g18, 1, none⟩ (.int .i64 0)).setCell ⟨g18, 2, none⟩ (.int .i64 0)).setCell ⟨w2.heap.size, 0, none⟩ (.int .i64 0)).setCell ⟨w2.heap.size, 1, none⟩ (.int .i64 0)).setCell ⟨w2.heap.size, 2, none⟩ (.int .i64 0) = V := ⟨_, rfl⟩
  rw [hV]
  have T8 : Hid (FS w V g bb (List.replicate (30 * 128) 0) w2.heap.size (w2.heap.size + 1) (w2.heap.size + 1 + 1) 0 0 0 1 5 0 2 9 5 a b c) := Lib.hid (hV ▸ (((T.out.below (((hb8.setCell hg8 _).setCell hg8 _).setCell hg8 _)).put0 0).put1 0).put2 0)
  clear hV T BK8 hb8 hg8 c0 c1 c2 r0 r1 r2 z0 z1 z2 y0 y1 y2 n1 n2
  go_loopw [19] (fun i wr => ∃ j : Nat, j ≤ 3 ∧ i = .int .i64 j ∧ Hid (FS w wr g bb (fltR a b c (0 + 4 * 0 + 4096 * 0) 20481 36886 j) w2.heap.size (w2.heap.size + 1) (w2.heap.size + 1 + 1) 0 0 0 1 5 0 2 9 5 a b c)) (fun i _ => 3 - (intOf i).toNat)
  case atStart => exact ⟨0, by omega, rfl, T8⟩
  case round =>
    clear T8
    obtain ⟨j, hj, rfl, HT⟩ := hrel
    rcases (show j = 0 ∨ j = 1 ∨ j = 2 ∨ j = 3 by omega) with rfl | rfl | rfl | rfl
    · have T0 := HT.out.drew
      go_wp2
      go_region_held3 (fun w' => w'.cell? ⟨(w2.heap.size + 1 + 1), 0, none⟩ = some (.int .i64 3) ∧ w'.cell? ⟨(w2.heap.size + 1), 0, none⟩ = some (.int .i64 a) ∧ w'.cell? ⟨w2.heap.size, 0, none⟩ = some (.int .i64 0) ∧ w'.cell? ⟨w2.heap.size, 1, none⟩ = some (.int .i64 0) ∧ w'.cell? ⟨w2.heap.size, 2, none⟩ = some (.int .i64 0)) (first | exact ⟨T0.c3, T0.a0, T0.s0, T0.s1, T0.s2⟩ | exact ⟨T1.c3, T1.a0, T1.s0, T1.s1, T1.s2⟩ | exact ⟨T2.c3, T2.a0, T2.s0, T2.s1, T2.s2⟩) (first
        | (go_at_call 28; refine (slot_any _ 0 0 0 (0 + 4 * 0 + 4096 * 0) HX.out.1 rfl).mono ?_; rintro e w5 ⟨rfl, hb5⟩; have T1 := T0.below hb5; clear hb5)
        | (go_at_call 29; refine (setWord_any T1.p true 3 a (0 + 4 * 0 + 4096 * 0) (put_in HX.out.1)).mono ?_; rintro e w6 ⟨rfl, H6, hk6⟩; have T2 := T1.set hk6 H6; clear hk6 H6))
      go_wp2
      go_roundw
      case measure => simp [intOf]
      case rel => exact ⟨1, by omega, rfl, Lib.hid T2⟩
    · have T0 := HT.out.drew
      go_wp2
      go_region_held3 (fun w' => w'.cell? ⟨(w2.heap.size + 1 + 1), 1, none⟩ = some (.int .i64 4) ∧ w'.cell? ⟨(w2.heap.size + 1), 1, none⟩ = some (.int .i64 b) ∧ w'.cell? ⟨w2.heap.size, 3, none⟩ = some (.int .i64 1) ∧ w'.cell? ⟨w2.heap.size, 4, none⟩ = some (.int .i64 5) ∧ w'.cell? ⟨w2.heap.size, 5, none⟩ = some (.int .i64 0)) (first | exact ⟨T0.c4, T0.a1, T0.s3, T0.s4, T0.s5⟩ | exact ⟨T1.c4, T1.a1, T1.s3, T1.s4, T1.s5⟩ | exact ⟨T2.c4, T2.a1, T2.s3, T2.s4, T2.s5⟩) (first
        | (go_at_call 28; refine (slot_any _ 1 5 0 20481 (by decide) (by decide)).mono ?_; rintro e w5 ⟨rfl, hb5⟩; have T1 := T0.below hb5; clear hb5)
        | (go_at_call 29; refine (setWord_any T1.p true 4 b 20481 (by decide)).mono ?_; rintro e w6 ⟨rfl, H6, hk6⟩; have T2 := T1.set hk6 H6; clear hk6 H6))
      go_wp2
      go_roundw
      case measure => simp [intOf]
      case rel => exact ⟨2, by omega, rfl, Lib.hid T2⟩
    · have T0 := HT.out.drew
      go_wp2
      go_region_held3 (fun w' => w'.cell? ⟨(w2.heap.size + 1 + 1), 2, none⟩ = some (.int .i64 5) ∧ w'.cell? ⟨(w2.heap.size + 1), 2, none⟩ = some (.int .i64 c) ∧ w'.cell? ⟨w2.heap.size, 6, none⟩ = some (.int .i64 2) ∧ w'.cell? ⟨w2.heap.size, 7, none⟩ = some (.int .i64 9) ∧ w'.cell? ⟨w2.heap.size, 8, none⟩ = some (.int .i64 5)) (first | exact ⟨T0.c5, T0.a2, T0.s6, T0.s7, T0.s8⟩ | exact ⟨T1.c5, T1.a2, T1.s6, T1.s7, T1.s8⟩ | exact ⟨T2.c5, T2.a2, T2.s6, T2.s7, T2.s8⟩) (first
        | (go_at_call 28; refine (slot_any _ 2 9 5 36886 (by decide) (by decide)).mono ?_; rintro e w5 ⟨rfl, hb5⟩; have T1 := T0.below hb5; clear hb5)
        | (go_at_call 29; refine (setWord_any T1.p true 5 c 36886 (by decide)).mono ?_; rintro e w6 ⟨rfl, H6, hk6⟩; have T2 := T1.set hk6 H6; clear hk6 H6))
      go_wp2
      go_roundw
      case measure => simp [intOf]
      case rel => exact ⟨3, by omega, rfl, Lib.hid T2⟩
    · have T9 : Hid (FS w _ g bb (fltF a b c (0 + 4 * 0 + 4096 * 0) 20481 36886) w2.heap.size (w2.heap.size + 1) (w2.heap.size + 1 + 1) 0 0 0 1 5 0 2 9 5 a b c) := HT
      clear HT
      have HMem := Lib.hid (show ∀ x ∈ fltF a b c (0 + 4 * 0 + 4096 * 0) 20481 36886, 0 ≤ x ∧ x ≤ 255 from swF_mem (swF_mem (swF_mem mem_zero (put_in HX.out.1).1) (by decide)) (by decide))
      have HW := Lib.hid (flt_0 HP.out HA.out HB.out HC.out HX.out)
      have heq : ∀ w', (Op.equalIn 10000 58 (.agg #[.int .i64 0, .int .i64 0]) (.agg #[.int .i64 0, .int .i64 0])).run Try.prog w' = .ok true w' := fun _ => by kernel_rfl
      go_wp2_with (first
        | (go_at_call 31; (with_reducible refine (walk_i T9.out.p HMem.out 3 p _ _ _ _ HW.out).mono ?_); rintro e w7 ⟨rfl, hb7⟩; have B7 := Lib.hid (bel_chain T9.out.bel hb7); clear hb7)
        | ((with_reducible refine gate_dst (N := 20) rfl ?_); refine box_event ?hg (N := 20) ?hd (cs := #[.int .i64 0, .int .i64 0]) (t := 58) ?hr ?_; (case hd => rfl); (case hg => rfl); (case hr => first | (go_simp; done) | (go_simp; rfl)); intro g20 hge w9 BK20 hb20; have hg20 : w.heap.size ≤ g20 := (by rw [hge]; exact B7.out.size); have B9 := Lib.hid (bel_chain B7.out hb20); clear hge hb20; obtain ⟨d0, d1, s0, s1⟩ := cells2f BK20)
        | fail)
      go_ret
      exact ⟨rfl, (B9.out.setCell hg20 _).setCell hg20 _⟩
set_option maxRecDepth 100000 in
set_option maxHeartbeats 16000000 in
theorem faults_0b (w : World) (L Kd R P : Int) (hL : 0 ≤ L ∧ L ≤ 255) (hK : 0 ≤ Kd ∧ Kd ≤ 255) (hR : 0 ≤ R ∧ R ≤ 255) (hP : 0 ≤ P ∧ P ≤ 65535) (hk : L % 4 = 0) (hKd : Kd % 4 = 1) :
    Calls Try.prog 9 #[.int .u8 L, .int .u8 Kd, .int .u8 R, .int .u16 P] w fun e w' => e = .returned (.bool true) ∧ Below w.heap.size w w' := by
  have hb := Below.refl w.heap.size w
  have hu51 := Try.underlying51
  have hu58 := Try.underlying58
  obtain ⟨p, hp⟩ : ∃ q, P % 4096 = q := ⟨_, rfl⟩
  have hp1 : 0 ≤ p ∧ p < 4096 := by omega
  obtain ⟨a, ha⟩ : ∃ q, p / 256 = q := ⟨_, rfl⟩
  obtain ⟨b, hB⟩ : ∃ q, p / 16 % 16 = q := ⟨_, rfl⟩
  obtain ⟨c, hc⟩ : ∃ q, p % 16 = q := ⟨_, rfl⟩
  have u0 : wrap64 p = p := w64_in (by omega) (by omega)
  have t1 : Int.tmod P 4096 = p := by rw [Int.tmod_eq_emod_of_nonneg hP.1]; omega
  have t2 : Int.tdiv p 256 = a := by rw [Int.tdiv_eq_ediv_of_nonneg hp1.1]; exact ha
  have t3 : Int.tdiv p 16 = p / 16 := Int.tdiv_eq_ediv_of_nonneg hp1.1
  have t4 : Int.tmod (p / 16) 16 = b := by rw [Int.tmod_eq_emod_of_nonneg (by omega)]; exact hB
  have t5 : Int.tmod p 16 = c := by rw [Int.tmod_eq_emod_of_nonneg hp1.1]; exact hc
  have u1 : wrap64 a = a := w64_in (by omega) (by omega)
  have u2 : wrap64 (p / 16) = p / 16 := w64_in (by omega) (by omega)
  have HP := Lib.hid hp1
  have HA := Lib.hid ha
  have HB := Lib.hid hB
  have HC := Lib.hid hc
  have t6 : Int.tmod L 4 = 0 := by rw [Int.tmod_eq_emod_of_nonneg hL.1]; exact hk
  have t7 : Int.tmod Kd 4 = 1 := by rw [Int.tmod_eq_emod_of_nonneg hK.1]; exact hKd
  obtain ⟨r, hr⟩ : ∃ q, R % 200 = q := ⟨_, rfl⟩
  have hr1 : 0 ≤ r := by omega
  have hr2 : r ≤ 199 := by omega
  have t8 : Int.tmod R 200 = r := by rw [Int.tmod_eq_emod_of_nonneg hR.1]; omega
  clear hr
  have HX := Lib.hid (show Bad 1 (30 + r) 0 from ⟨by unfold mayB; simp; omega, Or.inr (by omega)⟩)
  clear hp ha hB hc hP hp1 hL hk
  go_enter Try.func9, Try.ntmps9
  go_wp2_with (first
    | (go_at_call 25; (with_reducible refine (wbegun _).mono ?_); rintro e w1 ⟨rfl, hb1⟩; replace hb := bel_chain hb hb1; clear hb1)
    | (go_at_call 26; (with_reducible refine (new_i w1 30 30 30 30 (by decide) (by decide)).mono ?_); rintro e w2 ⟨g, bb, rfl, H0, hb2⟩; have H := Lib.hid (H0.lower hb.size); replace hb := bel_chain hb hb2; clear hb2 H0)
    | ((with_reducible refine gate_dst (N := 18) rfl ?_); obtain ⟨W, hW⟩ : ∃ W, ((w2.alloc (.cells #[.int .i64 1, .int .i64 4, .int .i64 0, .int .i64 1, .int .i64 5, .int .i64 0, .int .i64 2, .int .i64 9, .int .i64 5] 51 (0, 0))).alloc (.cells #[.int .i64 a, .int .i64 b, .int .i64 c] 3 (0, 0))).alloc (.cells #[.int .i64 3, .int .i64 4, .int .i64 5] 3 (0, 0)) = W := ⟨_, rfl⟩; rw [hW]; have T := Lib.hid (fs_new H.out hb 1 4 0 1 5 0 2 9 5 a b c hW); clear hW H hb; refine box_event ?hg (N := 18) ?hd (cs := #[.int .i64 0, .int .i64 0, .int .i64 0]) (t := 51) ?hr ?_; (case hd => rfl); (case hg => rfl); (case hr => first | (go_simp; done) | (go_simp; rfl)); intro g18 hge w8 BK8 hb8; have hg8 : W.heap.size ≤ g18 := (by rw [hge]; exact Nat.le_refl _); clear hge; obtain ⟨⟨c0, c1, c2⟩, r0, r1, r2⟩ := cells3 BK8; have T1 := T.out.below hb8; have z0 := T1.s0; have z1 := T1.s1; have z2 := T1.s2; have y0 := blk_free T1.sl 0; have y1 := blk_free T1.sl 1; have y2 := blk_free T1.sl 2; clear T1; have n1 : g18 ≠ w2.heap.size := (by have := blk_lt T.out.sl; omega); have n2 : w2.heap.size ≠ g18 := (by have := blk_lt T.out.sl; omega))
    | ((with_reducible refine gate_dst (N := 77) rfl ?_); obtain ⟨V0, hV0⟩ : ∃ V, ((((w8).setCell ⟨g18, 0, none⟩ (.int .i64 1)).setCell ⟨g18, 1, none⟩ (.int .i64 0)).setCell ⟨g18, 2, none⟩ (.int .i64 0)).setCell ⟨g18, 1, none⟩ (.int .i64 (30 + r)) = V := ⟨_, rfl⟩; rw [hV0]; have BK9 : V0.heap[g18]? = some (.cells #[.int .i64 1, .int .i64 (30 + r), .int .i64 0] 51 (0, 0)) := (by rw [← hV0]; exact (blk_set (blk_set (blk_set (blk_set BK8 0 _) 1 _) 2 _) 1 _)); have hb9 : Below W.heap.size W V0 := (by rw [← hV0]; exact ((((hb8.setCell hg8 _).setCell hg8 _).setCell hg8 _).setCell hg8 _)); clear hV0 c0 c1 c2 r0 r1 r2 z0 z1 z2 y0 y1 y2 hb8 BK8; obtain ⟨⟨c0, c1, c2⟩, r0, r1, r2⟩ := cells3 BK9; have T1 := T.out.below hb9; have z0 := T1.s0; have z1 := T1.s1; have z2 := T1.s2; have y0 := blk_free T1.sl 0; have y1 := blk_free T1.sl 1; have y2 := blk_free T1.sl 2; clear T1)
    | fail)
  obtain ⟨V, hV⟩ : ∃ V, (((V0).setCell ⟨w2.heap.size, 0, none⟩ (.int .i64 1)).setCell ⟨w2.heap.size, 1, none⟩ (.int .i64 (30 + r))).setCell ⟨w2.heap.size, 2, none⟩ (.int .i64 0) = V := ⟨_, rfl⟩
  rw [hV]
  have T8 : Hid (FS w V g bb (List.replicate (30 * 128) 0) w2.heap.size (w2.heap.size + 1) (w2.heap.size + 1 + 1) 1 (30 + r) 0 1 5 0 2 9 5 a b c) := Lib.hid (hV ▸ (((T.out.below hb9).put0 1).put1 (30 + r)).put2 0)
  clear hV T BK9 hb9 hg8 c0 c1 c2 r0 r1 r2 z0 z1 z2 y0 y1 y2 n1 n2
  go_loopw [19] (fun i wr => ∃ j : Nat, j ≤ 3 ∧ i = .int .i64 j ∧ Hid (FS w wr g bb (fltR a b c (1 + 4 * 0 + 4096 * (30 + r)) 20481 36886 j) w2.heap.size (w2.heap.size + 1) (w2.heap.size + 1 + 1) 1 (30 + r) 0 1 5 0 2 9 5 a b c)) (fun i _ => 3 - (intOf i).toNat)
  case atStart => exact ⟨0, by omega, rfl, T8⟩
  case round =>
    clear T8
    obtain ⟨j, hj, rfl, HT⟩ := hrel
    rcases (show j = 0 ∨ j = 1 ∨ j = 2 ∨ j = 3 by omega) with rfl | rfl | rfl | rfl
    · have T0 := HT.out.drew
      go_wp2
      go_region_held3 (fun w' => w'.cell? ⟨(w2.heap.size + 1 + 1), 0, none⟩ = some (.int .i64 3) ∧ w'.cell? ⟨(w2.heap.size + 1), 0, none⟩ = some (.int .i64 a) ∧ w'.cell? ⟨w2.heap.size, 0, none⟩ = some (.int .i64 1) ∧ w'.cell? ⟨w2.heap.size, 1, none⟩ = some (.int .i64 (30 + r)) ∧ w'.cell? ⟨w2.heap.size, 2, none⟩ = some (.int .i64 0)) (first | exact ⟨T0.c3, T0.a0, T0.s0, T0.s1, T0.s2⟩ | exact ⟨T1.c3, T1.a0, T1.s0, T1.s1, T1.s2⟩ | exact ⟨T2.c3, T2.a0, T2.s0, T2.s1, T2.s2⟩) (first
        | (go_at_call 28; refine (slot_any _ 1 (30 + r) 0 (1 + 4 * 0 + 4096 * (30 + r)) HX.out.1 rfl).mono ?_; rintro e w5 ⟨rfl, hb5⟩; have T1 := T0.below hb5; clear hb5)
        | (go_at_call 29; refine (setWord_any T1.p true 3 a (1 + 4 * 0 + 4096 * (30 + r)) (put_in HX.out.1)).mono ?_; rintro e w6 ⟨rfl, H6, hk6⟩; have T2 := T1.set hk6 H6; clear hk6 H6))
      go_wp2
      go_roundw
      case measure => simp [intOf]
      case rel => exact ⟨1, by omega, rfl, Lib.hid T2⟩
    · have T0 := HT.out.drew
      go_wp2
      go_region_held3 (fun w' => w'.cell? ⟨(w2.heap.size + 1 + 1), 1, none⟩ = some (.int .i64 4) ∧ w'.cell? ⟨(w2.heap.size + 1), 1, none⟩ = some (.int .i64 b) ∧ w'.cell? ⟨w2.heap.size, 3, none⟩ = some (.int .i64 1) ∧ w'.cell? ⟨w2.heap.size, 4, none⟩ = some (.int .i64 5) ∧ w'.cell? ⟨w2.heap.size, 5, none⟩ = some (.int .i64 0)) (first | exact ⟨T0.c4, T0.a1, T0.s3, T0.s4, T0.s5⟩ | exact ⟨T1.c4, T1.a1, T1.s3, T1.s4, T1.s5⟩ | exact ⟨T2.c4, T2.a1, T2.s3, T2.s4, T2.s5⟩) (first
        | (go_at_call 28; refine (slot_any _ 1 5 0 20481 (by decide) (by decide)).mono ?_; rintro e w5 ⟨rfl, hb5⟩; have T1 := T0.below hb5; clear hb5)
        | (go_at_call 29; refine (setWord_any T1.p true 4 b 20481 (by decide)).mono ?_; rintro e w6 ⟨rfl, H6, hk6⟩; have T2 := T1.set hk6 H6; clear hk6 H6))
      go_wp2
      go_roundw
      case measure => simp [intOf]
      case rel => exact ⟨2, by omega, rfl, Lib.hid T2⟩
    · have T0 := HT.out.drew
      go_wp2
      go_region_held3 (fun w' => w'.cell? ⟨(w2.heap.size + 1 + 1), 2, none⟩ = some (.int .i64 5) ∧ w'.cell? ⟨(w2.heap.size + 1), 2, none⟩ = some (.int .i64 c) ∧ w'.cell? ⟨w2.heap.size, 6, none⟩ = some (.int .i64 2) ∧ w'.cell? ⟨w2.heap.size, 7, none⟩ = some (.int .i64 9) ∧ w'.cell? ⟨w2.heap.size, 8, none⟩ = some (.int .i64 5)) (first | exact ⟨T0.c5, T0.a2, T0.s6, T0.s7, T0.s8⟩ | exact ⟨T1.c5, T1.a2, T1.s6, T1.s7, T1.s8⟩ | exact ⟨T2.c5, T2.a2, T2.s6, T2.s7, T2.s8⟩) (first
        | (go_at_call 28; refine (slot_any _ 2 9 5 36886 (by decide) (by decide)).mono ?_; rintro e w5 ⟨rfl, hb5⟩; have T1 := T0.below hb5; clear hb5)
        | (go_at_call 29; refine (setWord_any T1.p true 5 c 36886 (by decide)).mono ?_; rintro e w6 ⟨rfl, H6, hk6⟩; have T2 := T1.set hk6 H6; clear hk6 H6))
      go_wp2
      go_roundw
      case measure => simp [intOf]
      case rel => exact ⟨3, by omega, rfl, Lib.hid T2⟩
    · have T9 : Hid (FS w _ g bb (fltF a b c (1 + 4 * 0 + 4096 * (30 + r)) 20481 36886) w2.heap.size (w2.heap.size + 1) (w2.heap.size + 1 + 1) 1 (30 + r) 0 1 5 0 2 9 5 a b c) := HT
      clear HT
      have HMem := Lib.hid (show ∀ x ∈ fltF a b c (1 + 4 * 0 + 4096 * (30 + r)) 20481 36886, 0 ≤ x ∧ x ≤ 255 from swF_mem (swF_mem (swF_mem mem_zero (put_in HX.out.1).1) (by decide)) (by decide))
      have HW := Lib.hid (flt_0 HP.out HA.out HB.out HC.out HX.out)
      have heq : ∀ w', (Op.equalIn 10000 58 (.agg #[.int .i64 0, .int .i64 0]) (.agg #[.int .i64 0, .int .i64 0])).run Try.prog w' = .ok true w' := fun _ => by kernel_rfl
      go_wp2_with (first
        | (go_at_call 31; (with_reducible refine (walk_i T9.out.p HMem.out 3 p _ _ _ _ HW.out).mono ?_); rintro e w7 ⟨rfl, hb7⟩; have B7 := Lib.hid (bel_chain T9.out.bel hb7); clear hb7)
        | ((with_reducible refine gate_dst (N := 20) rfl ?_); refine box_event ?hg (N := 20) ?hd (cs := #[.int .i64 0, .int .i64 0]) (t := 58) ?hr ?_; (case hd => rfl); (case hg => rfl); (case hr => first | (go_simp; done) | (go_simp; rfl)); intro g20 hge w9 BK20 hb20; have hg20 : w.heap.size ≤ g20 := (by rw [hge]; exact B7.out.size); have B9 := Lib.hid (bel_chain B7.out hb20); clear hge hb20; obtain ⟨d0, d1, s0, s1⟩ := cells2f BK20)
        | fail)
      go_ret
      exact ⟨rfl, (B9.out.setCell hg20 _).setCell hg20 _⟩
set_option maxRecDepth 100000 in
set_option maxHeartbeats 16000000 in
theorem faults_0c (w : World) (L Kd R P : Int) (hL : 0 ≤ L ∧ L ≤ 255) (hK : 0 ≤ Kd ∧ Kd ≤ 255) (hR : 0 ≤ R ∧ R ≤ 255) (hP : 0 ≤ P ∧ P ≤ 65535) (hk : L % 4 = 0) (K : Int) (hKd : Kd % 4 = K) (hK2 : 2 ≤ K) :
    Calls Try.prog 9 #[.int .u8 L, .int .u8 Kd, .int .u8 R, .int .u16 P] w fun e w' => e = .returned (.bool true) ∧ Below w.heap.size w w' := by
  have hb := Below.refl w.heap.size w
  have hu51 := Try.underlying51
  have hu58 := Try.underlying58
  obtain ⟨p, hp⟩ : ∃ q, P % 4096 = q := ⟨_, rfl⟩
  have hp1 : 0 ≤ p ∧ p < 4096 := by omega
  obtain ⟨a, ha⟩ : ∃ q, p / 256 = q := ⟨_, rfl⟩
  obtain ⟨b, hB⟩ : ∃ q, p / 16 % 16 = q := ⟨_, rfl⟩
  obtain ⟨c, hc⟩ : ∃ q, p % 16 = q := ⟨_, rfl⟩
  have u0 : wrap64 p = p := w64_in (by omega) (by omega)
  have t1 : Int.tmod P 4096 = p := by rw [Int.tmod_eq_emod_of_nonneg hP.1]; omega
  have t2 : Int.tdiv p 256 = a := by rw [Int.tdiv_eq_ediv_of_nonneg hp1.1]; exact ha
  have t3 : Int.tdiv p 16 = p / 16 := Int.tdiv_eq_ediv_of_nonneg hp1.1
  have t4 : Int.tmod (p / 16) 16 = b := by rw [Int.tmod_eq_emod_of_nonneg (by omega)]; exact hB
  have t5 : Int.tmod p 16 = c := by rw [Int.tmod_eq_emod_of_nonneg hp1.1]; exact hc
  have u1 : wrap64 a = a := w64_in (by omega) (by omega)
  have u2 : wrap64 (p / 16) = p / 16 := w64_in (by omega) (by omega)
  have HP := Lib.hid hp1
  have HA := Lib.hid ha
  have HB := Lib.hid hB
  have HC := Lib.hid hc
  have t6 : Int.tmod L 4 = 0 := by rw [Int.tmod_eq_emod_of_nonneg hL.1]; exact hk
  have t7 : Int.tmod Kd 4 = K := by rw [Int.tmod_eq_emod_of_nonneg hK.1]; exact hKd
  obtain ⟨r, hr⟩ : ∃ q, R % 200 = q := ⟨_, rfl⟩
  have hr1 : 0 ≤ r := by omega
  have hr2 : r ≤ 199 := by omega
  have t8 : Int.tmod R 200 = r := by rw [Int.tmod_eq_emod_of_nonneg hR.1]; omega
  clear hr
  have v1 : (K == 0) = false := beq_eq_false_iff_ne.mpr (by omega)
  have v2 : (K != 0) = true := bne_iff_ne.mpr (by omega)
  have v3 : decide (2 ≤ K) = true := decide_eq_true hK2
  have v4 : wrap64 K = K := w64_in (by omega) (by omega)
  have HX := Lib.hid (show Bad K (30 + r) 1 from ⟨by unfold mayB; rw [if_neg (by omega), if_neg (by omega), if_pos (by omega)]; simp; omega, Or.inr (by omega)⟩)
  clear hp ha hB hc hP hp1 hL hk
  go_enter Try.func9, Try.ntmps9
  go_wp2_with (first
    | (go_at_call 25; (with_reducible refine (wbegun _).mono ?_); rintro e w1 ⟨rfl, hb1⟩; replace hb := bel_chain hb hb1; clear hb1)
    | (go_at_call 26; (with_reducible refine (new_i w1 30 30 30 30 (by decide) (by decide)).mono ?_); rintro e w2 ⟨g, bb, rfl, H0, hb2⟩; have H := Lib.hid (H0.lower hb.size); replace hb := bel_chain hb hb2; clear hb2 H0)
    | ((with_reducible refine gate_dst (N := 18) rfl ?_); obtain ⟨W, hW⟩ : ∃ W, ((w2.alloc (.cells #[.int .i64 1, .int .i64 4, .int .i64 0, .int .i64 1, .int .i64 5, .int .i64 0, .int .i64 2, .int .i64 9, .int .i64 5] 51 (0, 0))).alloc (.cells #[.int .i64 a, .int .i64 b, .int .i64 c] 3 (0, 0))).alloc (.cells #[.int .i64 3, .int .i64 4, .int .i64 5] 3 (0, 0)) = W := ⟨_, rfl⟩; rw [hW]; have T := Lib.hid (fs_new H.out hb 1 4 0 1 5 0 2 9 5 a b c hW); clear hW H hb; refine box_event ?hg (N := 18) ?hd (cs := #[.int .i64 0, .int .i64 0, .int .i64 0]) (t := 51) ?hr ?_; (case hd => rfl); (case hg => rfl); (case hr => first | (go_simp; done) | (go_simp; rfl)); intro g18 hge w8 BK8 hb8; have hg8 : W.heap.size ≤ g18 := (by rw [hge]; exact Nat.le_refl _); clear hge; obtain ⟨⟨c0, c1, c2⟩, r0, r1, r2⟩ := cells3 BK8; have T1 := T.out.below hb8; have z0 := T1.s0; have z1 := T1.s1; have z2 := T1.s2; have y0 := blk_free T1.sl 0; have y1 := blk_free T1.sl 1; have y2 := blk_free T1.sl 2; clear T1; have n1 : g18 ≠ w2.heap.size := (by have := blk_lt T.out.sl; omega); have n2 : w2.heap.size ≠ g18 := (by have := blk_lt T.out.sl; omega))
    | ((with_reducible refine gate_dst (N := 77) rfl ?_); obtain ⟨V0, hV0⟩ : ∃ V, (((((w8).setCell ⟨g18, 0, none⟩ (.int .i64 K)).setCell ⟨g18, 1, none⟩ (.int .i64 0)).setCell ⟨g18, 2, none⟩ (.int .i64 0)).setCell ⟨g18, 1, none⟩ (.int .i64 (30 + r))).setCell ⟨g18, 2, none⟩ (.int .i64 1) = V := ⟨_, rfl⟩; rw [hV0]; have BK9 : V0.heap[g18]? = some (.cells #[.int .i64 K, .int .i64 (30 + r), .int .i64 1] 51 (0, 0)) := (by rw [← hV0]; exact (blk_set (blk_set (blk_set (blk_set (blk_set BK8 0 _) 1 _) 2 _) 1 _) 2 _)); have hb9 : Below W.heap.size W V0 := (by rw [← hV0]; exact (((((hb8.setCell hg8 _).setCell hg8 _).setCell hg8 _).setCell hg8 _).setCell hg8 _)); clear hV0 c0 c1 c2 r0 r1 r2 z0 z1 z2 y0 y1 y2 hb8 BK8; obtain ⟨⟨c0, c1, c2⟩, r0, r1, r2⟩ := cells3 BK9; have T1 := T.out.below hb9; have z0 := T1.s0; have z1 := T1.s1; have z2 := T1.s2; have y0 := blk_free T1.sl 0; have y1 := blk_free T1.sl 1; have y2 := blk_free T1.sl 2; clear T1)
    | fail)
  obtain ⟨V, hV⟩ : ∃ V, (((V0).setCell ⟨w2.heap.size, 0, none⟩ (.int .i64 K)).setCell ⟨w2.heap.size, 1, none⟩ (.int .i64 (30 + r))).setCell ⟨w2.heap.size, 2, none⟩ (.int .i64 1) = V := ⟨_, rfl⟩
  rw [hV]
  have T8 : Hid (FS w V g bb (List.replicate (30 * 128) 0) w2.heap.size (w2.heap.size + 1) (w2.heap.size + 1 + 1) K (30 + r) 1 1 5 0 2 9 5 a b c) := Lib.hid (hV ▸ (((T.out.below hb9).put0 K).put1 (30 + r)).put2 1)
  clear hV T BK9 hb9 hg8 c0 c1 c2 r0 r1 r2 z0 z1 z2 y0 y1 y2 n1 n2
  go_loopw [19] (fun i wr => ∃ j : Nat, j ≤ 3 ∧ i = .int .i64 j ∧ Hid (FS w wr g bb (fltR a b c (K + 4 * 1 + 4096 * (30 + r)) 20481 36886 j) w2.heap.size (w2.heap.size + 1) (w2.heap.size + 1 + 1) K (30 + r) 1 1 5 0 2 9 5 a b c)) (fun i _ => 3 - (intOf i).toNat)
  case atStart => exact ⟨0, by omega, rfl, T8⟩
  case round =>
    clear T8
    obtain ⟨j, hj, rfl, HT⟩ := hrel
    rcases (show j = 0 ∨ j = 1 ∨ j = 2 ∨ j = 3 by omega) with rfl | rfl | rfl | rfl
    · have T0 := HT.out.drew
      go_wp2
      go_region_held3 (fun w' => w'.cell? ⟨(w2.heap.size + 1 + 1), 0, none⟩ = some (.int .i64 3) ∧ w'.cell? ⟨(w2.heap.size + 1), 0, none⟩ = some (.int .i64 a) ∧ w'.cell? ⟨w2.heap.size, 0, none⟩ = some (.int .i64 K) ∧ w'.cell? ⟨w2.heap.size, 1, none⟩ = some (.int .i64 (30 + r)) ∧ w'.cell? ⟨w2.heap.size, 2, none⟩ = some (.int .i64 1)) (first | exact ⟨T0.c3, T0.a0, T0.s0, T0.s1, T0.s2⟩ | exact ⟨T1.c3, T1.a0, T1.s0, T1.s1, T1.s2⟩ | exact ⟨T2.c3, T2.a0, T2.s0, T2.s1, T2.s2⟩) (first
        | (go_at_call 28; refine (slot_any _ K (30 + r) 1 (K + 4 * 1 + 4096 * (30 + r)) HX.out.1 rfl).mono ?_; rintro e w5 ⟨rfl, hb5⟩; have T1 := T0.below hb5; clear hb5)
        | (go_at_call 29; refine (setWord_any T1.p true 3 a (K + 4 * 1 + 4096 * (30 + r)) (put_in HX.out.1)).mono ?_; rintro e w6 ⟨rfl, H6, hk6⟩; have T2 := T1.set hk6 H6; clear hk6 H6))
      go_wp2
      go_roundw
      case measure => simp [intOf]
      case rel => exact ⟨1, by omega, rfl, Lib.hid T2⟩
    · have T0 := HT.out.drew
      go_wp2
      go_region_held3 (fun w' => w'.cell? ⟨(w2.heap.size + 1 + 1), 1, none⟩ = some (.int .i64 4) ∧ w'.cell? ⟨(w2.heap.size + 1), 1, none⟩ = some (.int .i64 b) ∧ w'.cell? ⟨w2.heap.size, 3, none⟩ = some (.int .i64 1) ∧ w'.cell? ⟨w2.heap.size, 4, none⟩ = some (.int .i64 5) ∧ w'.cell? ⟨w2.heap.size, 5, none⟩ = some (.int .i64 0)) (first | exact ⟨T0.c4, T0.a1, T0.s3, T0.s4, T0.s5⟩ | exact ⟨T1.c4, T1.a1, T1.s3, T1.s4, T1.s5⟩ | exact ⟨T2.c4, T2.a1, T2.s3, T2.s4, T2.s5⟩) (first
        | (go_at_call 28; refine (slot_any _ 1 5 0 20481 (by decide) (by decide)).mono ?_; rintro e w5 ⟨rfl, hb5⟩; have T1 := T0.below hb5; clear hb5)
        | (go_at_call 29; refine (setWord_any T1.p true 4 b 20481 (by decide)).mono ?_; rintro e w6 ⟨rfl, H6, hk6⟩; have T2 := T1.set hk6 H6; clear hk6 H6))
      go_wp2
      go_roundw
      case measure => simp [intOf]
      case rel => exact ⟨2, by omega, rfl, Lib.hid T2⟩
    · have T0 := HT.out.drew
      go_wp2
      go_region_held3 (fun w' => w'.cell? ⟨(w2.heap.size + 1 + 1), 2, none⟩ = some (.int .i64 5) ∧ w'.cell? ⟨(w2.heap.size + 1), 2, none⟩ = some (.int .i64 c) ∧ w'.cell? ⟨w2.heap.size, 6, none⟩ = some (.int .i64 2) ∧ w'.cell? ⟨w2.heap.size, 7, none⟩ = some (.int .i64 9) ∧ w'.cell? ⟨w2.heap.size, 8, none⟩ = some (.int .i64 5)) (first | exact ⟨T0.c5, T0.a2, T0.s6, T0.s7, T0.s8⟩ | exact ⟨T1.c5, T1.a2, T1.s6, T1.s7, T1.s8⟩ | exact ⟨T2.c5, T2.a2, T2.s6, T2.s7, T2.s8⟩) (first
        | (go_at_call 28; refine (slot_any _ 2 9 5 36886 (by decide) (by decide)).mono ?_; rintro e w5 ⟨rfl, hb5⟩; have T1 := T0.below hb5; clear hb5)
        | (go_at_call 29; refine (setWord_any T1.p true 5 c 36886 (by decide)).mono ?_; rintro e w6 ⟨rfl, H6, hk6⟩; have T2 := T1.set hk6 H6; clear hk6 H6))
      go_wp2
      go_roundw
      case measure => simp [intOf]
      case rel => exact ⟨3, by omega, rfl, Lib.hid T2⟩
    · have T9 : Hid (FS w _ g bb (fltF a b c (K + 4 * 1 + 4096 * (30 + r)) 20481 36886) w2.heap.size (w2.heap.size + 1) (w2.heap.size + 1 + 1) K (30 + r) 1 1 5 0 2 9 5 a b c) := HT
      clear HT
      have HMem := Lib.hid (show ∀ x ∈ fltF a b c (K + 4 * 1 + 4096 * (30 + r)) 20481 36886, 0 ≤ x ∧ x ≤ 255 from swF_mem (swF_mem (swF_mem mem_zero (put_in HX.out.1).1) (by decide)) (by decide))
      have HW := Lib.hid (flt_0 HP.out HA.out HB.out HC.out HX.out)
      have heq : ∀ w', (Op.equalIn 10000 58 (.agg #[.int .i64 0, .int .i64 0]) (.agg #[.int .i64 0, .int .i64 0])).run Try.prog w' = .ok true w' := fun _ => by kernel_rfl
      go_wp2_with (first
        | (go_at_call 31; (with_reducible refine (walk_i T9.out.p HMem.out 3 p _ _ _ _ HW.out).mono ?_); rintro e w7 ⟨rfl, hb7⟩; have B7 := Lib.hid (bel_chain T9.out.bel hb7); clear hb7)
        | ((with_reducible refine gate_dst (N := 20) rfl ?_); refine box_event ?hg (N := 20) ?hd (cs := #[.int .i64 0, .int .i64 0]) (t := 58) ?hr ?_; (case hd => rfl); (case hg => rfl); (case hr => first | (go_simp; done) | (go_simp; rfl)); intro g20 hge w9 BK20 hb20; have hg20 : w.heap.size ≤ g20 := (by rw [hge]; exact B7.out.size); have B9 := Lib.hid (bel_chain B7.out hb20); clear hge hb20; obtain ⟨d0, d1, s0, s1⟩ := cells2f BK20)
        | fail)
      go_ret
      exact ⟨rfl, (B9.out.setCell hg20 _).setCell hg20 _⟩
set_option maxRecDepth 100000 in
set_option maxHeartbeats 16000000 in
theorem faults_1a (w : World) (L Kd R P : Int) (hL : 0 ≤ L ∧ L ≤ 255) (hK : 0 ≤ Kd ∧ Kd ≤ 255) (hR : 0 ≤ R ∧ R ≤ 255) (hP : 0 ≤ P ∧ P ≤ 65535) (hk : L % 4 = 1) (hKd : Kd % 4 = 0) :
    Calls Try.prog 9 #[.int .u8 L, .int .u8 Kd, .int .u8 R, .int .u16 P] w fun e w' => e = .returned (.bool true) ∧ Below w.heap.size w w' := by
  have hb := Below.refl w.heap.size w
  have hu51 := Try.underlying51
  have hu58 := Try.underlying58
  obtain ⟨p, hp⟩ : ∃ q, P % 4096 = q := ⟨_, rfl⟩
  have hp1 : 0 ≤ p ∧ p < 4096 := by omega
  obtain ⟨a, ha⟩ : ∃ q, p / 256 = q := ⟨_, rfl⟩
  obtain ⟨b, hB⟩ : ∃ q, p / 16 % 16 = q := ⟨_, rfl⟩
  obtain ⟨c, hc⟩ : ∃ q, p % 16 = q := ⟨_, rfl⟩
  have u0 : wrap64 p = p := w64_in (by omega) (by omega)
  have t1 : Int.tmod P 4096 = p := by rw [Int.tmod_eq_emod_of_nonneg hP.1]; omega
  have t2 : Int.tdiv p 256 = a := by rw [Int.tdiv_eq_ediv_of_nonneg hp1.1]; exact ha
  have t3 : Int.tdiv p 16 = p / 16 := Int.tdiv_eq_ediv_of_nonneg hp1.1
  have t4 : Int.tmod (p / 16) 16 = b := by rw [Int.tmod_eq_emod_of_nonneg (by omega)]; exact hB
  have t5 : Int.tmod p 16 = c := by rw [Int.tmod_eq_emod_of_nonneg hp1.1]; exact hc
  have u1 : wrap64 a = a := w64_in (by omega) (by omega)
  have u2 : wrap64 (p / 16) = p / 16 := w64_in (by omega) (by omega)
  have HP := Lib.hid hp1
  have HA := Lib.hid ha
  have HB := Lib.hid hB
  have HC := Lib.hid hc
  have t6 : Int.tmod L 4 = 1 := by rw [Int.tmod_eq_emod_of_nonneg hL.1]; exact hk
  have t7 : Int.tmod Kd 4 = 0 := by rw [Int.tmod_eq_emod_of_nonneg hK.1]; exact hKd
  have HX := Lib.hid (show Bad 0 0 0 from ⟨by decide, Or.inl rfl⟩)
  clear hp ha hB hc hP hp1 hL hk
  go_enter Try.func9, Try.ntmps9
  go_wp2_with (first
    | (go_at_call 25; (with_reducible refine (wbegun _).mono ?_); rintro e w1 ⟨rfl, hb1⟩; replace hb := bel_chain hb hb1; clear hb1)
    | (go_at_call 26; (with_reducible refine (new_i w1 30 30 30 30 (by decide) (by decide)).mono ?_); rintro e w2 ⟨g, bb, rfl, H0, hb2⟩; have H := Lib.hid (H0.lower hb.size); replace hb := bel_chain hb hb2; clear hb2 H0)
    | ((with_reducible refine gate_dst (N := 18) rfl ?_); obtain ⟨W, hW⟩ : ∃ W, ((w2.alloc (.cells #[.int .i64 1, .int .i64 4, .int .i64 0, .int .i64 1, .int .i64 5, .int .i64 0, .int .i64 2, .int .i64 9, .int .i64 5] 51 (0, 0))).alloc (.cells #[.int .i64 a, .int .i64 b, .int .i64 c] 3 (0, 0))).alloc (.cells #[.int .i64 3, .int .i64 4, .int .i64 5] 3 (0, 0)) = W := ⟨_, rfl⟩; rw [hW]; have T := Lib.hid (fs_new H.out hb 1 4 0 1 5 0 2 9 5 a b c hW); clear hW H hb; refine box_event ?hg (N := 18) ?hd (cs := #[.int .i64 0, .int .i64 0, .int .i64 0]) (t := 51) ?hr ?_; (case hd => rfl); (case hg => rfl); (case hr => first | (go_simp; done) | (go_simp; rfl)); intro g18 hge w8 BK8 hb8; have hg8 : W.heap.size ≤ g18 := (by rw [hge]; exact Nat.le_refl _); clear hge; obtain ⟨⟨c0, c1, c2⟩, r0, r1, r2⟩ := cells3 BK8; have T1 := T.out.below hb8; have z0 := T1.s3; have z1 := T1.s4; have z2 := T1.s5; have y0 := blk_free T1.sl 3; have y1 := blk_free T1.sl 4; have y2 := blk_free T1.sl 5; clear T1; have n1 : g18 ≠ w2.heap.size := (by have := blk_lt T.out.sl; omega); have n2 : w2.heap.size ≠ g18 := (by have := blk_lt T.out.sl; omega))
    | fail)
  obtain ⟨V, hV⟩ : ∃ V, ((((((w8).setCell ⟨g18, 0, none⟩ (.int .i64 0)).setCell ⟨g18, 1, none⟩ (.int .i64 0)).setCell ⟨g18, 2, none⟩ (.int .i64 0)).setCell ⟨w2.heap.size, 3, none⟩ (.int .i64 0)).setCell ⟨w2.heap.size, 4, none⟩ (.int .i64 0)).setCell ⟨w2.heap.size, 5, none⟩ (.int .i64 0) = V := ⟨_, rfl⟩
  rw [hV]
  have T8 : Hid (FS w V g bb (List.replicate (30 * 128) 0) w2.heap.size (w2.heap.size + 1) (w2.heap.size + 1 + 1) 1 4 0 0 0 0 2 9 5 a b c) := Lib.hid (hV ▸ (((T.out.below (((hb8.setCell hg8 _).setCell hg8 _).setCell hg8 _)).put3 0).put4 0).put5 0)
  clear hV T BK8 hb8 hg8 c0 c1 c2 r0 r1 r2 z0 z1 z2 y0 y1 y2 n1 n2
  go_loopw [19] (fun i wr => ∃ j : Nat, j ≤ 3 ∧ i = .int .i64 j ∧ Hid (FS w wr g bb (fltR a b c 16385 (0 + 4 * 0 + 4096 * 0) 36886 j) w2.heap.size (w2.heap.size + 1) (w2.heap.size + 1 + 1) 1 4 0 0 0 0 2 9 5 a b c)) (fun i _ => 3 - (intOf i).toNat)
  case atStart => exact ⟨0, by omega, rfl, T8⟩
  case round =>
    clear T8
    obtain ⟨j, hj, rfl, HT⟩ := hrel
    rcases (show j = 0 ∨ j = 1 ∨ j = 2 ∨ j = 3 by omega) with rfl | rfl | rfl | rfl
    · have T0 := HT.out.drew
      go_wp2
      go_region_held3 (fun w' => w'.cell? ⟨(w2.heap.size + 1 + 1), 0, none⟩ = some (.int .i64 3) ∧ w'.cell? ⟨(w2.heap.size + 1), 0, none⟩ = some (.int .i64 a) ∧ w'.cell? ⟨w2.heap.size, 0, none⟩ = some (.int .i64 1) ∧ w'.cell? ⟨w2.heap.size, 1, none⟩ = some (.int .i64 4) ∧ w'.cell? ⟨w2.heap.size, 2, none⟩ = some (.int .i64 0)) (first | exact ⟨T0.c3, T0.a0, T0.s0, T0.s1, T0.s2⟩ | exact ⟨T1.c3, T1.a0, T1.s0, T1.s1, T1.s2⟩ | exact ⟨T2.c3, T2.a0, T2.s0, T2.s1, T2.s2⟩) (first
        | (go_at_call 28; refine (slot_any _ 1 4 0 16385 (by decide) (by decide)).mono ?_; rintro e w5 ⟨rfl, hb5⟩; have T1 := T0.below hb5; clear hb5)
        | (go_at_call 29; refine (setWord_any T1.p true 3 a 16385 (by decide)).mono ?_; rintro e w6 ⟨rfl, H6, hk6⟩; have T2 := T1.set hk6 H6; clear hk6 H6))
      go_wp2
      go_roundw
      case measure => simp [intOf]
      case rel => exact ⟨1, by omega, rfl, Lib.hid T2⟩
    · have T0 := HT.out.drew
      go_wp2
      go_region_held3 (fun w' => w'.cell? ⟨(w2.heap.size + 1 + 1), 1, none⟩ = some (.int .i64 4) ∧ w'.cell? ⟨(w2.heap.size + 1), 1, none⟩ = some (.int .i64 b) ∧ w'.cell? ⟨w2.heap.size, 3, none⟩ = some (.int .i64 0) ∧ w'.cell? ⟨w2.heap.size, 4, none⟩ = some (.int .i64 0) ∧ w'.cell? ⟨w2.heap.size, 5, none⟩ = some (.int .i64 0)) (first | exact ⟨T0.c4, T0.a1, T0.s3, T0.s4, T0.s5⟩ | exact ⟨T1.c4, T1.a1, T1.s3, T1.s4, T1.s5⟩ | exact ⟨T2.c4, T2.a1, T2.s3, T2.s4, T2.s5⟩) (first
        | (go_at_call 28; refine (slot_any _ 0 0 0 (0 + 4 * 0 + 4096 * 0) HX.out.1 rfl).mono ?_; rintro e w5 ⟨rfl, hb5⟩; have T1 := T0.below hb5; clear hb5)
        | (go_at_call 29; refine (setWord_any T1.p true 4 b (0 + 4 * 0 + 4096 * 0) (put_in HX.out.1)).mono ?_; rintro e w6 ⟨rfl, H6, hk6⟩; have T2 := T1.set hk6 H6; clear hk6 H6))
      go_wp2
      go_roundw
      case measure => simp [intOf]
      case rel => exact ⟨2, by omega, rfl, Lib.hid T2⟩
    · have T0 := HT.out.drew
      go_wp2
      go_region_held3 (fun w' => w'.cell? ⟨(w2.heap.size + 1 + 1), 2, none⟩ = some (.int .i64 5) ∧ w'.cell? ⟨(w2.heap.size + 1), 2, none⟩ = some (.int .i64 c) ∧ w'.cell? ⟨w2.heap.size, 6, none⟩ = some (.int .i64 2) ∧ w'.cell? ⟨w2.heap.size, 7, none⟩ = some (.int .i64 9) ∧ w'.cell? ⟨w2.heap.size, 8, none⟩ = some (.int .i64 5)) (first | exact ⟨T0.c5, T0.a2, T0.s6, T0.s7, T0.s8⟩ | exact ⟨T1.c5, T1.a2, T1.s6, T1.s7, T1.s8⟩ | exact ⟨T2.c5, T2.a2, T2.s6, T2.s7, T2.s8⟩) (first
        | (go_at_call 28; refine (slot_any _ 2 9 5 36886 (by decide) (by decide)).mono ?_; rintro e w5 ⟨rfl, hb5⟩; have T1 := T0.below hb5; clear hb5)
        | (go_at_call 29; refine (setWord_any T1.p true 5 c 36886 (by decide)).mono ?_; rintro e w6 ⟨rfl, H6, hk6⟩; have T2 := T1.set hk6 H6; clear hk6 H6))
      go_wp2
      go_roundw
      case measure => simp [intOf]
      case rel => exact ⟨3, by omega, rfl, Lib.hid T2⟩
    · have T9 : Hid (FS w _ g bb (fltF a b c 16385 (0 + 4 * 0 + 4096 * 0) 36886) w2.heap.size (w2.heap.size + 1) (w2.heap.size + 1 + 1) 1 4 0 0 0 0 2 9 5 a b c) := HT
      clear HT
      have HMem := Lib.hid (show ∀ x ∈ fltF a b c 16385 (0 + 4 * 0 + 4096 * 0) 36886, 0 ≤ x ∧ x ≤ 255 from swF_mem (swF_mem (swF_mem mem_zero (by decide)) (put_in HX.out.1).1) (by decide))
      have HW := Lib.hid (flt_1 HP.out HA.out HB.out HC.out HX.out)
      have heq : ∀ w', (Op.equalIn 10000 58 (.agg #[.int .i64 0, .int .i64 0]) (.agg #[.int .i64 0, .int .i64 0])).run Try.prog w' = .ok true w' := fun _ => by kernel_rfl
      go_wp2_with (first
        | (go_at_call 31; (with_reducible refine (walk_i T9.out.p HMem.out 3 p _ _ _ _ HW.out).mono ?_); rintro e w7 ⟨rfl, hb7⟩; have B7 := Lib.hid (bel_chain T9.out.bel hb7); clear hb7)
        | ((with_reducible refine gate_dst (N := 20) rfl ?_); refine box_event ?hg (N := 20) ?hd (cs := #[.int .i64 0, .int .i64 0]) (t := 58) ?hr ?_; (case hd => rfl); (case hg => rfl); (case hr => first | (go_simp; done) | (go_simp; rfl)); intro g20 hge w9 BK20 hb20; have hg20 : w.heap.size ≤ g20 := (by rw [hge]; exact B7.out.size); have B9 := Lib.hid (bel_chain B7.out hb20); clear hge hb20; obtain ⟨d0, d1, s0, s1⟩ := cells2f BK20)
        | fail)
      go_ret
      exact ⟨rfl, (B9.out.setCell hg20 _).setCell hg20 _⟩
end Go.Proofs.Ytdpjpmlajjfpgaa.Ram
