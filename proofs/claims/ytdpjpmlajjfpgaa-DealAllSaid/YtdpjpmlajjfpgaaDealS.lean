/- DealAll walked. -/
import Derived.Test.YtdpjpmlajjfpgaaDealR
import Derived.Test.YtdpjpmlajjfpgaaRegH
import Derived.Deep.DeepCutAuto
namespace Go.Proofs.Ytdpjpmlajjfpgaa.Deal
open Go Go.RowKit Go.Proofs.Ytdpjpmlajjfpgaa.Mem Go.Proofs.Ytdpjpmlajjfpgaa.Kept Go.Proofs.Ytdpjpmlajjfpgaa.PDealK Go.Proofs.Ytdpjpmlajjfpgaa.PDealQ
open Go.Proofs.YtdpjpmlajjfpgaaW.PrintWords hiding add_at blk_alloc blk_below blk_cell blk_drewN blk_far blk_lt blk_new blk_set
set_option linter.unusedVariables false
set_option linter.unusedSimpArgs false
set_option maxRecDepth 100000 in
set_option maxHeartbeats 4000000 in
theorem all_any (W : World) (kd S : Int) (z : Bool) (A : Option Addr) (c : Nat) (rv : List RV) (B : Option Addr) (e : Nat) (sp : List SP) (A1 : Option Addr) (c1 : Nat) (l : List Int)
    (h1 : rv.length ≤ c) (h2 : Kd.C k40 W A rv.length rv) (h3 : sp.length ≤ e) (h4 : Kd.C k42 W B sp.length sp) (h5 : Kd.C (Kd.int .u8) W A1 l.length l) (h6 : l.length ≤ c1) (hby : ∀ x ∈ l, 0 ≤ x ∧ x ≤ 255) :
    Calls Try.prog 3 #[.agg #[.int .i64 kd, .int .i64 S, .bool z, .slice A rv.length c, .slice B sp.length e], .slice A1 l.length c1] W fun e w' => e = .returned (.bool true) ∧ Below W.heap.size W w' := by
  have hu25 := Try.underlying25
  have H1 := Lib.hid h1
  have H2 := Lib.hid h2
  have H3 := Lib.hid h3
  have H4 := Lib.hid h4
  have H5 := Lib.hid h5
  have H6 := Lib.hid h6
  have HBY := Lib.hid hby
  obtain ⟨n, hn⟩ : ∃ n, rv.length = n := ⟨_, rfl⟩
  obtain ⟨m, hm⟩ : ∃ m, sp.length = m := ⟨_, rfl⟩
  obtain ⟨k, hk⟩ : ∃ k, l.length = k := ⟨_, rfl⟩
  rw [hn] at H1 H2 ⊢
  rw [hm] at H3 H4 ⊢
  rw [hk] at H5 H6 ⊢
  have HN := Lib.hid hn
  have HM := Lib.hid hm
  have HK := Lib.hid hk
  have BK0 := Mem.blk_new W (.cells #[.int .i64 kd, .int .i64 S, .bool z, .slice A n c, .slice B m e] 25)
  have HBL := Lib.hid (bel_alloc (Below.refl W.heap.size W) (.cells #[.int .i64 kd, .int .i64 S, .bool z, .slice A n c, .slice B m e] 25))
  have HBK := Lib.hid BK0
  clear h1 h2 h3 h4 h5 h6 hby hn hm hk BK0
  cases hl : lightB rv sp with
  | false =>
    have HL := Lib.hid hl
    clear hl
    go_enter Try.func3, Try.ntmps3
    go_wp2_with (first
      | (go_at_call 14; (with_reducible refine (begun_any _).mono ?_); rintro e w1 ⟨rfl, b1⟩; have HB1 := Lib.hid b1; have q1 := cells5 (Mem.blk_below HBK.out b1); clear b1)
      | (go_at_call 15; (with_reducible refine (light_c _ kd S z _ HN.out HM.out (Kd.C_below H2.out (bel_chain HBL.out HB1.out)) H1.out (Kd.C_below H4.out (bel_chain HBL.out HB1.out)) H3.out HL.out).mono ?_); rintro e w2 ⟨rfl, b2⟩; have HB2 := Lib.hid b2; clear b2 q1)
      | fail)
    go_ret
    exact ⟨rfl, bel_chain (bel_chain HBL.out HB1.out) HB2.out⟩
  | true =>
    have HL0 := Lib.hid hl
    have hl' := hl
    unfold lightB at hl'
    simp only [Bool.and_eq_true, decide_eq_true_eq] at hl'
    have hn8 : n ≤ 8 := by rw [← HN.out]; exact hl'.1
    have hm12 : m ≤ 12 := by rw [← HM.out]; exact hl'.2
    clear hl hl'
    by_cases hk60 : 60 < k
    · have HK60 := Lib.hid hk60
      have d60 : decide ((k : Int) > 60) = true := decide_eq_true (by omega)
      have d60' : decide ((60 : Int) < (k : Int)) = true := decide_eq_true (by omega)
      clear hn8 hm12 hk60
      go_enter Try.func3, Try.ntmps3
      go_wp2_with (first
        | (go_at_call 14; (with_reducible refine (begun_any _).mono ?_); rintro e w1 ⟨rfl, b1⟩; have HB1 := Lib.hid b1; have q1 := cells5 (Mem.blk_below HBK.out b1); clear b1)
        | (go_at_call 15; (with_reducible refine (light_c _ kd S z _ HN.out HM.out (Kd.C_below H2.out (bel_chain HBL.out HB1.out)) H1.out (Kd.C_below H4.out (bel_chain HBL.out HB1.out)) H3.out HL0.out).mono ?_); rintro e w2 ⟨rfl, b2⟩; have HB2 := Lib.hid b2; clear b2 q1)
        | fail)
      go_ret
      exact ⟨rfl, bel_chain (bel_chain HBL.out HB1.out) HB2.out⟩
    have hk60' : k ≤ 60 := by omega
    have d60 : decide ((k : Int) > 60) = false := decide_eq_false (by omega)
    have d60' : decide ((60 : Int) < (k : Int)) = false := decide_eq_false (by omega)
    obtain ⟨p, hp⟩ : ∃ b, putD kd S z rv sp = b := ⟨_, rfl⟩
    obtain ⟨q, hq⟩ : ∃ q, p.length = q := ⟨_, rfl⟩
    obtain ⟨y, hmy⟩ : ∃ y, mayD kd S z rv sp = y := ⟨_, rfl⟩
    obtain ⟨⟨xk, xs, xz, xrv, xsp, xe⟩, ht⟩ : ∃ t, takeD l = t := ⟨_, rfl⟩
    have hsm := takeD_small l
    rw [ht] at hsm
    obtain ⟨xp, hxp⟩ : ∃ p, xrv.length = p := ⟨_, rfl⟩
    obtain ⟨xq, hxq⟩ : ∃ p, xsp.length = p := ⟨_, rfl⟩
    have HSM := Lib.hid (same_f (k := 40) xk xs xz xrv xsp (by have := hsm.1; simp only at this; omega) (by have := hsm.2; simp only at this; omega) (by have := hsm.1; have := hsm.2; simp only at *; omega))
    have HP := Lib.hid hp
    have HQ := Lib.hid hq
    have HMY := Lib.hid hmy
    have HT := Lib.hid ht
    have XP := Lib.hid hxp
    have XQ := Lib.hid hxq
    have HK6 := Lib.hid (show k ≤ 1000 by omega)
    clear hp hq hmy ht hxp hxq hsm hk60 hk60' hn8 hm12
    go_enter Try.func3, Try.ntmps3
    go_upto_region 8 with (first
      | (go_at_call 14; (with_reducible refine (begun_any _).mono ?_); rintro e w1 ⟨rfl, b1⟩; have HB1 := Lib.hid (bel_chain HBL.out b1); have HK1 := Lib.hid (Mem.blk_below HBK.out b1); have q1 := cells5 HK1.out; clear b1)
      | (go_at_call 15; (with_reducible refine (light_c _ kd S z _ HN.out HM.out (Kd.C_below H2.out HB1.out) H1.out (Kd.C_below H4.out HB1.out) H3.out HL0.out).mono ?_); rintro e w2 ⟨rfl, b2⟩; have HB2 := Lib.hid (bel_chain HB1.out b2); have HK2 := Lib.hid (Mem.blk_below HK1.out b2); clear b2 q1)
      | (go_at_call 16; (with_reducible refine (loan_c _ HK.out HK6.out (Kd.C_below H5.out HB2.out)).mono ?_); rintro e w3 ⟨gl, cl, rfl, gl1, gl2, hL, b3⟩; have GL1 := Lib.hid gl1; have GL2 := Lib.hid gl2; have HL3 := Lib.hid hL; have HB3 := Lib.hid (bel_chain HB2.out b3); have HK3 := Lib.hid (Mem.blk_below HK2.out b3); clear b3 gl1 gl2 hL)
      | (go_at_call 17; (with_reducible refine (take_c _ HK.out (lent_c HK.out HK6.out HL3.out) (by have := GL1.out; omega) HBY.out HT.out XP.out XQ.out).mono ?_); rintro e w5 ⟨A5, c5, A6, c6, rfl, g5, r5, g6, r6, b5⟩; have G5 := Lib.hid g5; have G6 := Lib.hid g6; have HR5 := Lib.hid (Kd.C_alloc r5 (.cells #[.int .i64 xk, .int .i64 xs, .bool xz, .slice A5 xp c5, .slice A6 xq c6] 25)); have HR6 := Lib.hid (Kd.C_alloc r6 (.cells #[.int .i64 xk, .int .i64 xs, .bool xz, .slice A5 xp c5, .slice A6 xq c6] 25)); have b6 := bel_chain b5 (bel_alloc (Below.refl w5.heap.size w5) (.cells #[.int .i64 xk, .int .i64 xs, .bool xz, .slice A5 xp c5, .slice A6 xq c6] 25)); have HB6 := Lib.hid (bel_chain HB3.out b6); have HK6b := Lib.hid (Mem.blk_below HK3.out b6); have HX6 := Lib.hid (Mem.blk_new w5 (.cells #[.int .i64 xk, .int .i64 xs, .bool xz, .slice A5 xp c5, .slice A6 xq c6] 25)); have HL6 := Lib.hid (Loan.Lent.below HL3.out b6); clear b5 b6 r5 r6 g5 g6)
      | (go_at_call 18; (with_reducible refine (rtake_c _ HK.out HK6.out (Kd.C_below H5.out HB6.out) H6.out HBY.out HT.out XP.out XQ.out).mono ?_); rintro e w7 ⟨A7, c7, A8, c8, rfl, g7, r7, g8, r8, b7⟩; have G7 := Lib.hid g7; have G8 := Lib.hid g8; have HR7 := Lib.hid (Kd.C_alloc r7 (.cells #[.int .i64 xk, .int .i64 xs, .bool xz, .slice A7 xp c7, .slice A8 xq c8] 25)); have HR8 := Lib.hid (Kd.C_alloc r8 (.cells #[.int .i64 xk, .int .i64 xs, .bool xz, .slice A7 xp c7, .slice A8 xq c8] 25)); have b8 := bel_chain b7 (bel_alloc (Below.refl w7.heap.size w7) (.cells #[.int .i64 xk, .int .i64 xs, .bool xz, .slice A7 xp c7, .slice A8 xq c8] 25)); have HB8 := Lib.hid (bel_chain HB6.out b8); have HK8 := Lib.hid (Mem.blk_below HK6b.out b8); have HX8 := Lib.hid (Mem.blk_below HX6.out b8); have HY8 := Lib.hid (Mem.blk_new w7 (.cells #[.int .i64 xk, .int .i64 xs, .bool xz, .slice A7 xp c7, .slice A8 xq c8] 25)); have HL8 := Lib.hid (Loan.Lent.below HL6.out b8); have HR5b := Lib.hid (Kd.C_below HR5.out b8); have HR6b := Lib.hid (Kd.C_below HR6.out b8); clear b7 b8 g7 g8 r7 r8)
      | fail)
    obtain ⟨X, hX⟩ : ∃ x, w5.heap.size = x := ⟨_, rfl⟩
    obtain ⟨Y, hY⟩ : ∃ x, w7.heap.size = x := ⟨_, rfl⟩
    obtain ⟨wz, hwz⟩ : ∃ x, w7.alloc (.cells #[.int .i64 xk, .int .i64 xs, .bool xz, .slice A7 xp c7, .slice A8 xq c8] 25) = x := ⟨_, rfl⟩
    rw [hwz] at HB8 HK8 HX8 HY8 HL8 HR5b HR6b HR7 HR8
    rw [hX] at HX8
    rw [hY] at HY8
    rw [hX, hY, hwz]
    clear hX hY hwz
    have KZ := HK8
    have KX := HX8
    have KY := HY8
    have RD1 := Lib.hid (Kd.C_below H2.out HB8.out)
    have RD2 := Lib.hid (Kd.C_below H4.out HB8.out)
    have RB := Lib.hid (Kd.C_below H5.out HB8.out)
    have RX1 := HR5b
    have RX2 := HR6b
    have RY1 := HR7
    have RY2 := HR8
    have HL := HL8
    clear HK8 HX8 HY8 HR5b HR6b HR7 HR8 HL8
    have HB0 : Below wz.heap.size wz wz.drew := Mem.bel_drew (Below.refl _ _)
    refine wp_region_noPanic ?_
    refine RegH.startH_ (n := 30) (S := fun w' => (Below wz.heap.size wz w')) #[false, false, false, false, false, false, false, false, false, false, false, false, false, false, false, false, false, false, false, false, false, false, false, false, false, false, false, false, false, false] (by kernel_rfl) rfl rfl HB0 (fun hHeld0 => ?_)
    refine RegH.takeH_ (i := 0) (N := (some 32)) (v := ?_) (a' := ?_) #[true, false, false, false, false, false, false, false, false, false, false, false, false, false, false, false, false, false, false, false, false, false, false, false, false, false, false, false, false, false] rfl rfl (by kernel_rfl) (by kernel_rfl) (by kernel_rfl) rfl (fun _ _ _ h => h) (Or.inl ⟨by rfl, ?_⟩) hHeld0 ?_ ?_
    rotate_left
    · rintro w' s0
      have q1 := cells5 (Mem.blk_below KZ.out s0); have q2 := cells5 (Mem.blk_below KX.out s0); have q3 := cells5 (Mem.blk_below KY.out s0); go_simp
      with_reducible rfl
    rotate_left
    · simp only [Act.put, List.setIfInBounds_toArray, List.set_cons_zero, List.set_cons_succ]
      rfl
    refine RegH.takeH_ (i := 2) (N := (some 34)) (v := ?_) (a' := ?_) #[true, false, true, false, false, false, false, false, false, false, false, false, false, false, false, false, false, false, false, false, false, false, false, false, false, false, false, false, false, false] rfl rfl (by kernel_rfl) (by kernel_rfl) (by kernel_rfl) rfl (fun _ _ _ h => h) (Or.inl ⟨by rfl, ?_⟩) hHeld0 ?_ ?_
    rotate_left
    · rintro w' s0
      have q1 := cells5 (Mem.blk_below KZ.out s0); have q2 := cells5 (Mem.blk_below KX.out s0); have q3 := cells5 (Mem.blk_below KY.out s0); go_simp
      with_reducible rfl
    rotate_left
    · simp only [Act.put, List.setIfInBounds_toArray, List.set_cons_zero, List.set_cons_succ]
      rfl
    refine RegH.oneH_ (i := 1) (N := (some 33)) #[true, true, true, false, false, false, false, false, false, false, false, false, false, false, false, false, false, false, false, false, false, false, false, false, false, false, false, false, false, false] rfl rfl (by kernel_rfl) rfl (fun K hK => ?_)
    refine Go.Proofs.YtdpjpmlajjfpgaaW.PrintLast.goes_ Try.func19 (by kernel_rfl) rfl #[.agg #[.int .i64 kd, .int .i64 S, .bool z, .slice A n c, .slice B m e]] (by rfl) rfl rfl (by (try simp only [List.map_toArray, List.map_cons, List.map_nil]); first | done | rfl) ?_
    refine (Deal.may_c _ kd S z _ HN.out HM.out (Kd.C_below RD1.out hHeld0) H1.out (Kd.C_below RD2.out hHeld0) H3.out HMY.out).mono ?_
    rintro e w1 ⟨rfl, b1⟩
    refine ⟨_, rfl, ?_⟩
    have b1' := bel_chain hHeld0 b1
    refine hK.out _ _ b1' (fun hHeld1 => ?_)
    clear hK K hHeld0
    simp only [Act.put, List.setIfInBounds_toArray, List.set_cons_zero, List.set_cons_succ]
    refine RegH.oneH_ (i := 3) (N := (some 35)) #[true, true, true, true, false, false, false, false, false, false, false, false, false, false, false, false, false, false, false, false, false, false, false, false, false, false, false, false, false, false] rfl rfl (by kernel_rfl) rfl (fun K hK => ?_)
    refine Go.Proofs.YtdpjpmlajjfpgaaW.PrintLast.goes_ Try.func20 (by kernel_rfl) rfl #[.agg #[.int .i64 kd, .int .i64 S, .bool z, .slice A n c, .slice B m e]] (by rfl) rfl rfl (by (try simp only [List.map_toArray, List.map_cons, List.map_nil]); first | done | rfl) ?_
    refine (rmay_c _ kd S z _ HN.out HM.out (Kd.C_below RD1.out hHeld1) H1.out (Kd.C_below RD2.out hHeld1) H3.out HMY.out).mono ?_
    rintro e w2 ⟨rfl, b2⟩
    refine ⟨_, rfl, ?_⟩
    have b2' := bel_chain hHeld1 b2
    refine hK.out _ _ b2' (fun hHeld2 => ?_)
    clear hK K hHeld1
    simp only [Act.put, List.setIfInBounds_toArray, List.set_cons_zero, List.set_cons_succ]
    refine RegH.takeH_ (i := 4) (N := (some 36)) (v := ?_) (a' := ?_) #[true, true, true, true, true, false, false, false, false, false, false, false, false, false, false, false, false, false, false, false, false, false, false, false, false, false, false, false, false, false] rfl rfl (by kernel_rfl) (by kernel_rfl) (by kernel_rfl) rfl (fun _ _ _ h => h) (Or.inl ⟨by rfl, ?_⟩) hHeld2 ?_ ?_
    rotate_left
    · rintro w' s0
      have q1 := cells5 (Mem.blk_below KZ.out s0); have q2 := cells5 (Mem.blk_below KX.out s0); have q3 := cells5 (Mem.blk_below KY.out s0); go_simp
      with_reducible rfl
    rotate_left
    · simp only [Act.put, List.setIfInBounds_toArray, List.set_cons_zero, List.set_cons_succ]
      rfl
    refine RegH.takeH_ (i := 5) (N := (some 37)) (v := ?_) (a' := ?_) #[true, true, true, true, true, true, false, false, false, false, false, false, false, false, false, false, false, false, false, false, false, false, false, false, false, false, false, false, false, false] rfl rfl (by kernel_rfl) (by kernel_rfl) (by kernel_rfl) rfl (fun _ _ _ h => h) (Or.inl ⟨by rfl, ?_⟩) hHeld2 ?_ ?_
    rotate_left
    · rintro w' s0
      have q1 := cells5 (Mem.blk_below KZ.out s0); have q2 := cells5 (Mem.blk_below KX.out s0); have q3 := cells5 (Mem.blk_below KY.out s0); go_simp
      with_reducible rfl
    rotate_left
    · simp only [Act.put, List.setIfInBounds_toArray, List.set_cons_zero, List.set_cons_succ]
      rfl
    refine RegH.takeH_ (i := 6) (N := (some 38)) (v := ?_) (a' := ?_) #[true, true, true, true, true, true, true, false, false, false, false, false, false, false, false, false, false, false, false, false, false, false, false, false, false, false, false, false, false, false] rfl rfl (by kernel_rfl) (by kernel_rfl) (by kernel_rfl) rfl (fun _ _ _ h => h) (Or.inl ⟨by rfl, ?_⟩) hHeld2 ?_ ?_
    rotate_left
    · rintro w' s0
      have q1 := cells5 (Mem.blk_below KZ.out s0); have q2 := cells5 (Mem.blk_below KX.out s0); have q3 := cells5 (Mem.blk_below KY.out s0); go_simp
      with_reducible rfl
    rotate_left
    · simp only [Act.put, List.setIfInBounds_toArray, List.set_cons_zero, List.set_cons_succ]
      rfl
    refine RegH.takeH_ (i := 9) (N := (some 41)) (v := ?_) (a' := ?_) #[true, true, true, true, true, true, true, false, false, true, false, false, false, false, false, false, false, false, false, false, false, false, false, false, false, false, false, false, false, false] rfl rfl (by kernel_rfl) (by kernel_rfl) (by kernel_rfl) rfl (fun _ _ _ h => h) (Or.inl ⟨by rfl, ?_⟩) hHeld2 ?_ ?_
    rotate_left
    · rintro w' s0
      have q1 := cells5 (Mem.blk_below KZ.out s0); have q2 := cells5 (Mem.blk_below KX.out s0); have q3 := cells5 (Mem.blk_below KY.out s0); go_simp
      with_reducible rfl
    rotate_left
    · simp only [Act.put, List.setIfInBounds_toArray, List.set_cons_zero, List.set_cons_succ]
      rfl
    refine RegH.oneH_ (i := 7) (N := (some 39)) #[true, true, true, true, true, true, true, true, false, true, false, false, false, false, false, false, false, false, false, false, false, false, false, false, false, false, false, false, false, false] rfl rfl (by kernel_rfl) rfl (fun K hK => ?_)
    refine Go.Proofs.YtdpjpmlajjfpgaaW.PrintLast.goes_ Try.func21 (by kernel_rfl) rfl #[.agg #[.int .i64 kd, .int .i64 S, .bool z, .slice A n c, .slice B m e]] (by rfl) rfl rfl (by (try simp only [List.map_toArray, List.map_cons, List.map_nil]); first | done | rfl) ?_
    refine (put_c _ kd S z HN.out HM.out (Kd.C_below RD1.out hHeld2) H1.out (Kd.C_below RD2.out hHeld2) H3.out HP.out HQ.out).mono ?_
    rintro e w3 ⟨AP, cP, rfl, gP, rP, b3⟩
    refine ⟨_, rfl, ?_⟩
    have b3' := bel_chain hHeld2 b3
    refine hK.out _ _ b3' (fun hHeld3 => ?_)
    clear hK K hHeld2
    refine RegH.heldMono (S' := fun w' => (Below wz.heap.size wz w') ∧ ((convert 26 9 (.slice AP q cP)).run Try.prog w' = .ok (.string (strOfNums p)) w')) (fun w' ⟨s0, s1⟩ => s0) _ _ _ _ ?_
    have h_0 := hHeld3
    have hHeld4 := And.intro h_0 ((conv_c (c := cP) HQ.out rP))
    clear h_0
    simp only [Act.put, List.setIfInBounds_toArray, List.set_cons_zero, List.set_cons_succ]
    refine RegH.takeH_ (i := 8) (N := (some 40)) (v := ?_) (a' := ?_) #[true, true, true, true, true, true, true, true, true, true, false, false, false, false, false, false, false, false, false, false, false, false, false, false, false, false, false, false, false, false] rfl rfl (by kernel_rfl) (by kernel_rfl) (by kernel_rfl) rfl (fun _ _ _ h => h) (Or.inl ⟨by rfl, ?_⟩) hHeld4 ?_ ?_
    rotate_left
    · rintro w' ⟨s0, s1⟩
      have q1 := cells5 (Mem.blk_below KZ.out s0); have q2 := cells5 (Mem.blk_below KX.out s0); have q3 := cells5 (Mem.blk_below KY.out s0); go_simp
      with_reducible rfl
    rotate_left
    · simp only [Act.put, List.setIfInBounds_toArray, List.set_cons_zero, List.set_cons_succ]
      rfl
    refine RegH.oneH_ (i := 10) (N := (some 42)) #[true, true, true, true, true, true, true, true, true, true, true, false, false, false, false, false, false, false, false, false, false, false, false, false, false, false, false, false, false, false] rfl rfl (by kernel_rfl) rfl (fun K hK => ?_)
    refine Go.Proofs.YtdpjpmlajjfpgaaW.PrintLast.goes_ Try.func22 (by kernel_rfl) rfl #[.agg #[.int .i64 kd, .int .i64 S, .bool z, .slice A n c, .slice B m e]] (by rfl) rfl rfl (by (try simp only [List.map_toArray, List.map_cons, List.map_nil]); first | done | rfl) ?_
    refine (rput_c _ kd S z HN.out HM.out (Kd.C_below RD1.out hHeld4.1) H1.out (Kd.C_below RD2.out hHeld4.1) H3.out HP.out HQ.out).mono ?_
    rintro e w4 ⟨AR, cR, rfl, gR, rR, b4⟩
    refine ⟨_, rfl, ?_⟩
    have b4' := bel_chain hHeld4.1 b4
    have rP4 := Kd.C_below rP b4
    refine hK.out _ _ ⟨b4', conv_c HQ.out rP4⟩ (fun hHeld5 => ?_)
    clear hK K hHeld4
    refine RegH.heldMono (S' := fun w' => (Below wz.heap.size wz w') ∧ ((convert 26 9 (.slice AP q cP)).run Try.prog w' = .ok (.string (strOfNums p)) w') ∧ ((convert 26 9 (.slice AR q cR)).run Try.prog w' = .ok (.string (strOfNums p)) w')) (fun w' ⟨s0, s1, s2⟩ => ⟨s0, s1⟩) _ _ _ _ ?_
    obtain ⟨h_0, h_1⟩ := hHeld5
    have hHeld6 := And.intro h_0 (And.intro (h_1) ((conv_c (c := cR) HQ.out rR)))
    clear h_0 h_1
    simp only [Act.put, List.setIfInBounds_toArray, List.set_cons_zero, List.set_cons_succ]
    refine RegH.takeH_ (i := 11) (N := (some 43)) (v := ?_) (a' := ?_) #[true, true, true, true, true, true, true, true, true, true, true, true, false, false, false, false, false, false, false, false, false, false, false, false, false, false, false, false, false, false] rfl rfl (by kernel_rfl) (by kernel_rfl) (by kernel_rfl) rfl (fun _ _ _ h => h) (Or.inl ⟨by rfl, ?_⟩) hHeld6 ?_ ?_
    rotate_left
    · rintro w' ⟨s0, s1, s2⟩
      have q1 := cells5 (Mem.blk_below KZ.out s0); have q2 := cells5 (Mem.blk_below KX.out s0); have q3 := cells5 (Mem.blk_below KY.out s0); go_simp
      with_reducible rfl
    rotate_left
    · simp only [Act.put, List.setIfInBounds_toArray, List.set_cons_zero, List.set_cons_succ]
      rfl
    refine RegH.takeH_ (i := 12) (N := (some 44)) (v := ?_) (a' := ?_) #[true, true, true, true, true, true, true, true, true, true, true, true, true, false, false, false, false, false, false, false, false, false, false, false, false, false, false, false, false, false] rfl rfl (by kernel_rfl) (by kernel_rfl) (by kernel_rfl) rfl (fun _ _ _ h => h) (Or.inl ⟨by rfl, ?_⟩) hHeld6 ?_ ?_
    rotate_left
    · rintro w' ⟨s0, s1, s2⟩
      have q1 := cells5 (Mem.blk_below KZ.out s0); have q2 := cells5 (Mem.blk_below KX.out s0); have q3 := cells5 (Mem.blk_below KY.out s0); go_simp
      with_reducible rfl
    rotate_left
    · simp only [Act.put, List.setIfInBounds_toArray, List.set_cons_zero, List.set_cons_succ]
      rfl
    refine RegH.takeH_ (i := 13) (N := (some 45)) (v := ?_) (a' := ?_) #[true, true, true, true, true, true, true, true, true, true, true, true, true, true, false, false, false, false, false, false, false, false, false, false, false, false, false, false, false, false] rfl rfl (by kernel_rfl) (by kernel_rfl) (by kernel_rfl) rfl (fun _ _ _ h => h) (Or.inl ⟨by rfl, ?_⟩) hHeld6 ?_ ?_
    rotate_left
    · rintro w' ⟨s0, s1, s2⟩
      have q1 := cells5 (Mem.blk_below KZ.out s0); have q2 := cells5 (Mem.blk_below KX.out s0); have q3 := cells5 (Mem.blk_below KY.out s0); go_simp
      with_reducible rfl
    rotate_left
    · simp only [Act.put, List.setIfInBounds_toArray, List.set_cons_zero, List.set_cons_succ]
      rfl
    refine RegH.takeH_ (i := 14) (N := (some 46)) (v := ?_) (a' := ?_) #[true, true, true, true, true, true, true, true, true, true, true, true, true, true, true, false, false, false, false, false, false, false, false, false, false, false, false, false, false, false] rfl rfl (by kernel_rfl) (by kernel_rfl) (by kernel_rfl) rfl (fun _ _ _ h => h) (Or.inl ⟨by rfl, ?_⟩) hHeld6 ?_ ?_
    rotate_left
    · rintro w' ⟨s0, s1, s2⟩
      have q1 := cells5 (Mem.blk_below KZ.out s0); have q2 := cells5 (Mem.blk_below KX.out s0); have q3 := cells5 (Mem.blk_below KY.out s0); go_simp
      with_reducible rfl
    rotate_left
    · simp only [Act.put, List.setIfInBounds_toArray, List.set_cons_zero, List.set_cons_succ]
      rfl
    refine RegH.takeH_ (i := 15) (N := (some 47)) (v := ?_) (a' := ?_) #[true, true, true, true, true, true, true, true, true, true, true, true, true, true, true, true, false, false, false, false, false, false, false, false, false, false, false, false, false, false] rfl rfl (by kernel_rfl) (by kernel_rfl) (by kernel_rfl) rfl (fun _ _ _ h => h) (Or.inl ⟨by rfl, ?_⟩) hHeld6 ?_ ?_
    rotate_left
    · rintro w' ⟨s0, s1, s2⟩
      have q1 := cells5 (Mem.blk_below KZ.out s0); have q2 := cells5 (Mem.blk_below KX.out s0); have q3 := cells5 (Mem.blk_below KY.out s0); go_simp
      with_reducible rfl
    rotate_left
    · simp only [Act.put, List.setIfInBounds_toArray, List.set_cons_zero, List.set_cons_succ]
      rfl
    refine RegH.takeH_ (i := 16) (N := (some 48)) (v := ?_) (a' := ?_) #[true, true, true, true, true, true, true, true, true, true, true, true, true, true, true, true, true, false, false, false, false, false, false, false, false, false, false, false, false, false] rfl rfl (by kernel_rfl) (by kernel_rfl) (by kernel_rfl) rfl (fun _ _ _ h => h) (Or.inl ⟨by rfl, ?_⟩) hHeld6 ?_ ?_
    rotate_left
    · rintro w' ⟨s0, s1, s2⟩
      have q1 := cells5 (Mem.blk_below KZ.out s0); have q2 := cells5 (Mem.blk_below KX.out s0); have q3 := cells5 (Mem.blk_below KY.out s0); go_simp
      with_reducible rfl
    rotate_left
    · simp only [Act.put, List.setIfInBounds_toArray, List.set_cons_zero, List.set_cons_succ]
      rfl
    refine RegH.takeH_ (i := 17) (N := (some 49)) (v := ?_) (a' := ?_) #[true, true, true, true, true, true, true, true, true, true, true, true, true, true, true, true, true, true, false, false, false, false, false, false, false, false, false, false, false, false] rfl rfl (by kernel_rfl) (by kernel_rfl) (by kernel_rfl) rfl (fun _ _ _ h => h) (Or.inl ⟨by rfl, ?_⟩) hHeld6 ?_ ?_
    rotate_left
    · rintro w' ⟨s0, s1, s2⟩
      have q1 := cells5 (Mem.blk_below KZ.out s0); have q2 := cells5 (Mem.blk_below KX.out s0); have q3 := cells5 (Mem.blk_below KY.out s0); go_simp
      with_reducible rfl
    rotate_left
    · simp only [Act.put, List.setIfInBounds_toArray, List.set_cons_zero, List.set_cons_succ]
      rfl
    refine RegH.takeH_ (i := 18) (N := (some 50)) (v := ?_) (a' := ?_) #[true, true, true, true, true, true, true, true, true, true, true, true, true, true, true, true, true, true, true, false, false, false, false, false, false, false, false, false, false, false] rfl rfl (by kernel_rfl) (by kernel_rfl) (by kernel_rfl) rfl (fun _ _ _ h => h) (Or.inl ⟨by rfl, ?_⟩) hHeld6 ?_ ?_
    rotate_left
    · rintro w' ⟨s0, s1, s2⟩
      have q1 := cells5 (Mem.blk_below KZ.out s0); have q2 := cells5 (Mem.blk_below KX.out s0); have q3 := cells5 (Mem.blk_below KY.out s0); go_simp
      with_reducible rfl
    rotate_left
    · simp only [Act.put, List.setIfInBounds_toArray, List.set_cons_zero, List.set_cons_succ]
      rfl
    refine RegH.takeH_ (i := 19) (N := (some 51)) (v := ?_) (a' := ?_) #[true, true, true, true, true, true, true, true, true, true, true, true, true, true, true, true, true, true, true, true, false, false, false, false, false, false, false, false, false, false] rfl rfl (by kernel_rfl) (by kernel_rfl) (by kernel_rfl) rfl (fun _ _ _ h => h) (Or.inl ⟨by rfl, ?_⟩) hHeld6 ?_ ?_
    rotate_left
    · rintro w' ⟨s0, s1, s2⟩
      have q1 := cells5 (Mem.blk_below KZ.out s0); have q2 := cells5 (Mem.blk_below KX.out s0); have q3 := cells5 (Mem.blk_below KY.out s0); go_simp
      with_reducible rfl
    rotate_left
    · simp only [Act.put, List.setIfInBounds_toArray, List.set_cons_zero, List.set_cons_succ]
      rfl
    refine RegH.takeH_ (i := 20) (N := (some 52)) (v := ?_) (a' := ?_) #[true, true, true, true, true, true, true, true, true, true, true, true, true, true, true, true, true, true, true, true, true, false, false, false, false, false, false, false, false, false] rfl rfl (by kernel_rfl) (by kernel_rfl) (by kernel_rfl) rfl (fun _ _ _ h => h) (Or.inl ⟨by rfl, ?_⟩) hHeld6 ?_ ?_
    rotate_left
    · rintro w' ⟨s0, s1, s2⟩
      have q1 := cells5 (Mem.blk_below KZ.out s0); have q2 := cells5 (Mem.blk_below KX.out s0); have q3 := cells5 (Mem.blk_below KY.out s0); go_simp
      with_reducible rfl
    rotate_left
    · simp only [Act.put, List.setIfInBounds_toArray, List.set_cons_zero, List.set_cons_succ]
      rfl
    refine RegH.takeH_ (i := 21) (N := (some 53)) (v := ?_) (a' := ?_) #[true, true, true, true, true, true, true, true, true, true, true, true, true, true, true, true, true, true, true, true, true, true, false, false, false, false, false, false, false, false] rfl rfl (by kernel_rfl) (by kernel_rfl) (by kernel_rfl) rfl (fun _ _ _ h => h) (Or.inl ⟨by rfl, ?_⟩) hHeld6 ?_ ?_
    rotate_left
    · rintro w' ⟨s0, s1, s2⟩
      have q1 := cells5 (Mem.blk_below KZ.out s0); have q2 := cells5 (Mem.blk_below KX.out s0); have q3 := cells5 (Mem.blk_below KY.out s0); go_simp
      with_reducible rfl
    rotate_left
    · simp only [Act.put, List.setIfInBounds_toArray, List.set_cons_zero, List.set_cons_succ]
      rfl
    refine RegH.oneH_ (i := 22) (N := (some 54)) #[true, true, true, true, true, true, true, true, true, true, true, true, true, true, true, true, true, true, true, true, true, true, true, false, false, false, false, false, false, false] rfl rfl (by kernel_rfl) rfl (fun K hK => ?_)
    refine Go.Proofs.YtdpjpmlajjfpgaaW.PrintLast.goes_ Try.func23 (by kernel_rfl) rfl #[.agg #[.int .i64 xk, .int .i64 xs, .bool xz, .slice A5 xp c5, .slice A6 xq c6], .agg #[.int .i64 xk, .int .i64 xs, .bool xz, .slice A7 xp c7, .slice A8 xq c8]] (by rfl) rfl rfl (by (try simp only [List.map_toArray, List.map_cons, List.map_nil]); first | done | rfl) ?_
    refine (same_c _ xk xs xk xs xz xz _ 40 XP.out XQ.out (Kd.C_below RX1.out hHeld6.1) G5.out (Kd.C_below RX2.out hHeld6.1) G6.out XP.out XQ.out (Kd.C_below RY1.out hHeld6.1) G7.out (Kd.C_below RY2.out hHeld6.1) G8.out HSM.out).mono ?_
    rintro e w5 ⟨rfl, b5⟩
    refine ⟨_, rfl, ?_⟩
    have b5' := bel_chain hHeld6.1 b5
    have rP5 := Kd.C_below rP4 b5
    have rR5 := Kd.C_below rR b5
    refine hK.out _ _ ⟨b5', conv_c HQ.out rP5, conv_c HQ.out rR5⟩ (fun hHeld7 => ?_)
    clear hK K hHeld6
    simp only [Act.put, List.setIfInBounds_toArray, List.set_cons_zero, List.set_cons_succ]
    refine RegH.takeH_ (i := 23) (N := (some 55)) (v := ?_) (a' := ?_) #[true, true, true, true, true, true, true, true, true, true, true, true, true, true, true, true, true, true, true, true, true, true, true, true, false, false, false, false, false, false] rfl rfl (by kernel_rfl) (by kernel_rfl) (by kernel_rfl) rfl (fun _ _ _ h => h) (Or.inl ⟨by rfl, ?_⟩) hHeld7 ?_ ?_
    rotate_left
    · rintro w' ⟨s0, s1, s2⟩
      have q1 := cells5 (Mem.blk_below KZ.out s0); have q2 := cells5 (Mem.blk_below KX.out s0); have q3 := cells5 (Mem.blk_below KY.out s0); go_simp
      with_reducible rfl
    rotate_left
    · simp only [Act.put, List.setIfInBounds_toArray, List.set_cons_zero, List.set_cons_succ]
      rfl
    refine RegH.takeH_ (i := 24) (N := (some 56)) (v := ?_) (a' := ?_) #[true, true, true, true, true, true, true, true, true, true, true, true, true, true, true, true, true, true, true, true, true, true, true, true, true, false, false, false, false, false] rfl rfl (by kernel_rfl) (by kernel_rfl) (by kernel_rfl) rfl (fun _ _ _ h => h) (Or.inl ⟨by rfl, ?_⟩) hHeld7 ?_ ?_
    rotate_left
    · rintro w' ⟨s0, s1, s2⟩
      have q1 := cells5 (Mem.blk_below KZ.out s0); have q2 := cells5 (Mem.blk_below KX.out s0); have q3 := cells5 (Mem.blk_below KY.out s0); go_simp
      with_reducible rfl
    rotate_left
    · simp only [Act.put, List.setIfInBounds_toArray, List.set_cons_zero, List.set_cons_succ]
      rfl
    refine RegH.takeH_ (i := 25) (N := (some 57)) (v := ?_) (a' := ?_) #[true, true, true, true, true, true, true, true, true, true, true, true, true, true, true, true, true, true, true, true, true, true, true, true, true, true, false, false, false, false] rfl rfl (by kernel_rfl) (by kernel_rfl) (by kernel_rfl) rfl (fun _ _ _ h => h) (Or.inl ⟨by rfl, ?_⟩) hHeld7 ?_ ?_
    rotate_left
    · rintro w' ⟨s0, s1, s2⟩
      have q1 := cells5 (Mem.blk_below KZ.out s0); have q2 := cells5 (Mem.blk_below KX.out s0); have q3 := cells5 (Mem.blk_below KY.out s0); go_simp
      with_reducible rfl
    rotate_left
    · simp only [Act.put, List.setIfInBounds_toArray, List.set_cons_zero, List.set_cons_succ]
      rfl
    refine RegH.takeH_ (i := 26) (N := (some 58)) (v := ?_) (a' := ?_) #[true, true, true, true, true, true, true, true, true, true, true, true, true, true, true, true, true, true, true, true, true, true, true, true, true, true, true, false, false, false] rfl rfl (by kernel_rfl) (by kernel_rfl) (by kernel_rfl) rfl (fun _ _ _ h => h) (Or.inl ⟨by rfl, ?_⟩) hHeld7 ?_ ?_
    rotate_left
    · rintro w' ⟨s0, s1, s2⟩
      have q1 := cells5 (Mem.blk_below KZ.out s0); have q2 := cells5 (Mem.blk_below KX.out s0); have q3 := cells5 (Mem.blk_below KY.out s0); go_simp
      with_reducible rfl
    rotate_left
    · simp only [Act.put, List.setIfInBounds_toArray, List.set_cons_zero, List.set_cons_succ]
      rfl
    refine RegH.oneH_ (i := 27) (N := (some 59)) #[true, true, true, true, true, true, true, true, true, true, true, true, true, true, true, true, true, true, true, true, true, true, true, true, true, true, true, true, false, false] rfl rfl (by kernel_rfl) rfl (fun K hK => ?_)
    refine Go.Proofs.YtdpjpmlajjfpgaaW.PrintLast.goes_ Try.func24 (by kernel_rfl) rfl #[.slice (some ⟨gl, 0, none⟩) k cl, .slice A1 k c1] (by rfl) rfl rfl (by (try simp only [List.map_toArray, List.map_cons, List.map_nil]); first | done | rfl) ?_
    refine (lsame_c _ HK.out HK6.out GL1.out GL2.out (Loan.Lent.below HL.out hHeld7.1) (Kd.C_below RB.out hHeld7.1)).mono ?_
    rintro e w6 ⟨rfl, b6⟩
    refine ⟨_, rfl, ?_⟩
    have b6' := bel_chain hHeld7.1 b6
    refine hK.out _ _ ⟨b6', conv_c HQ.out (Kd.C_below rP5 b6), conv_c HQ.out (Kd.C_below rR5 b6)⟩ (fun hHeld8 => ?_)
    clear hK K hHeld7
    simp only [Act.put, List.setIfInBounds_toArray, List.set_cons_zero, List.set_cons_succ]
    refine RegH.takeH_ (i := 28) (N := (some 60)) (v := ?_) (a' := ?_) #[true, true, true, true, true, true, true, true, true, true, true, true, true, true, true, true, true, true, true, true, true, true, true, true, true, true, true, true, true, false] rfl rfl (by kernel_rfl) (by kernel_rfl) (by kernel_rfl) rfl (fun _ _ _ h => h) (Or.inl ⟨by rfl, ?_⟩) hHeld8 ?_ ?_
    rotate_left
    · rintro w' ⟨s0, s1, s2⟩
      have q1 := cells5 (Mem.blk_below KZ.out s0); have q2 := cells5 (Mem.blk_below KX.out s0); have q3 := cells5 (Mem.blk_below KY.out s0); go_simp
      with_reducible rfl
    rotate_left
    · simp only [Act.put, List.setIfInBounds_toArray, List.set_cons_zero, List.set_cons_succ]
      rfl
    refine RegH.takeH_ (i := 29) (N := (some 4)) (v := ?_) (a' := ?_) #[true, true, true, true, true, true, true, true, true, true, true, true, true, true, true, true, true, true, true, true, true, true, true, true, true, true, true, true, true, true] rfl rfl (by kernel_rfl) (by kernel_rfl) (by kernel_rfl) rfl (fun _ _ _ h => h) (Or.inl ⟨by rfl, ?_⟩) hHeld8 ?_ ?_
    rotate_left
    · rintro w' ⟨s0, s1, s2⟩
      have q1 := cells5 (Mem.blk_below KZ.out s0); have q2 := cells5 (Mem.blk_below KX.out s0); have q3 := cells5 (Mem.blk_below KY.out s0); go_simp
      with_reducible rfl
    rotate_left
    · simp only [Act.put, List.setIfInBounds_toArray, List.set_cons_zero, List.set_cons_succ]
      rfl
    refine RegH.doneH_ (by kernel_rfl) ?_
    refine NoPanic.normal ?_
    go_wp2
    go_ret
    exact ⟨rfl, bel_chain HB8.out b6'⟩
end Go.Proofs.Ytdpjpmlajjfpgaa.Deal
