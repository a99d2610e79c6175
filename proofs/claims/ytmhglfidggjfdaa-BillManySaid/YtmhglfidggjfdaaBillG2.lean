/- A number that does not fit is refused: BillMany walked, the other cases. -/
import Derived.Test.YtmhglfidggjfdaaBillG
namespace Go.Proofs.Ytmhglfidggjfdaa.Bill
open Go Go.RowKit Go.Proofs.YtmhglfidggjfdaaW.PrintWords
open Go.Proofs.Ytmhglfidggjfdaa.PBillBack (S60 z60 k60 rd_T60 at_T60 k60_mkM)
set_option linter.unusedVariables false
set_option linter.unusedSimpArgs false
set_option maxRecDepth 100000 in
set_option maxHeartbeats 400000 in
theorem many4 (w : World) (a n p : Int) (hr : a % 7 = 4) (hn : -9223372036854775808 ≤ n ∧ n ≤ 9223372036854775807) (ha : 0 ≤ a ∧ a ≤ 255) (hp : 0 ≤ p ∧ p ≤ 65535) : Calls Try.prog 8 #[.int .u8 a, .int .i64 n, .int .u16 p] w fun e w' => e = .returned (.bool true) ∧ Below w.heap.size w w' := by
  have hu44 := Try.underlying44
  have hu60 := Try.underlying60
  have hm2 := made2
  obtain ⟨m, hm⟩ : ∃ m : Nat, p % 300 = (m : Int) := ⟨(p % 300).toNat, by omega⟩
  have hm3 : m < 300 := by omega
  have e1 : IntKind.i64.wrap (m : Int) = m := IntWalk.i64_in _ (by omega)
  go_enter Try.func8, Try.ntmps8
  go_upto_region 4 with (first
    | (go_at_call 23; (with_reducible refine (begun7 _).mono ?_); rintro e w1 ⟨rfl, B1⟩; have HB1 := Lib.hid B1; clear B1)
    | fail)
  obtain ⟨gp, hgp⟩ : ∃ g, w1.heap.size = g := ⟨_, rfl⟩
  have es1 : ∀ o, (w1.alloc o).heap.size = gp + 1 := fun o => by rw [← hgp]; exact sz _ _
  have hwp : w.heap.size ≤ gp := by rw [← hgp]; exact HB1.out.size
  have HKp0 : ((w1.alloc (.cells z18 60)).alloc (.cells #[.int .i64 0, .int .i64 0, .int .i64 0, .int .i64 0, .slice (some ⟨gp, 0, none⟩) 2 2] 44)).heap[gp]? = some (.cells z18 60 (0, 0)) := Mem.blk_alloc (by have h := Mem.blk_new w1 (.cells z18 60); rw [hgp] at h; exact h) _
  have HKb0 : ((w1.alloc (.cells z18 60)).alloc (.cells #[.int .i64 0, .int .i64 0, .int .i64 0, .int .i64 0, .slice (some ⟨gp, 0, none⟩) 2 2] 44)).heap[gp + 1]? = some (.cells #[.int .i64 0, .int .i64 0, .int .i64 0, .int .i64 0, .slice (some ⟨gp, 0, none⟩) 2 2] 44 (0, 0)) := by have h := Mem.blk_new (w1.alloc (.cells z18 60)) (.cells #[.int .i64 0, .int .i64 0, .int .i64 0, .int .i64 0, .slice (some ⟨gp, 0, none⟩) 2 2] 44); rw [es1] at h; exact h
  have HBY0 := Mem.bel_alloc (Mem.bel_alloc HB1.out (.cells z18 60)) (.cells #[.int .i64 0, .int .i64 0, .int .i64 0, .int .i64 0, .slice (some ⟨gp, 0, none⟩) 2 2] 44)
  rw [hgp]
  generalize hY : (w1.alloc (.cells z18 60)).alloc (.cells #[.int .i64 0, .int .i64 0, .int .i64 0, .int .i64 0, .slice (some ⟨gp, 0, none⟩) 2 2] 44) = Y at HKp0 HKb0 HBY0 ⊢
  clear hY es1 hgp HB1 hm2
  obtain ⟨gb, hgb⟩ : ∃ g, gp + 1 = g := ⟨_, rfl⟩
  rw [hgb] at HKb0 ⊢
  have hne : gb ≠ gp := by omega
  have hwb : w.heap.size ≤ gb := by omega
  clear hgb w1
  have hc5 := Mem.cells5 HKb0
  have hf5 := Mem.blk_free HKb0
  have hfp := Mem.blk_free HKp0
  have hcp : Y.cell? ⟨gp, 15, none⟩ = some (.int .i64 0) := by rw [Mem.blk_cell HKp0]; rfl
  have HKp := Lib.hid HKp0
  have HKb := Lib.hid HKb0
  have HBY := Lib.hid HBY0
  clear HKp0 HKb0 HBY0
  go_upto_region 18 with (fail)
  have XB : (Y.setCell ⟨gp, 15, none⟩ (.int .i64 n)).heap[gb]? = some (.cells #[.int .i64 0, .int .i64 0, .int .i64 0, .int .i64 0, .slice (some ⟨gp, 0, none⟩) 2 2] 44 (0, 0)) := Mem.blk_far HKb.out hne _
  have XP : (Y.setCell ⟨gp, 15, none⟩ (.int .i64 n)).heap[gp]? = some (.cells #[.bool false, .bool false, .bool false, .bool false, .bool false, .int .u32 0, .int .i64 0, .int .i64 0, .int .i64 0, .bool false, .bool false, .bool false, .bool false, .bool false, .int .u32 0, .int .i64 n, .int .i64 0, .int .i64 0] 60 (0, 0)) := Mem.blk_set HKp.out 15 _
  have XR : PR (Y.setCell ⟨gp, 15, none⟩ (.int .i64 n)) (some ⟨gp, 0, none⟩) 2 [(⟨false, false, false, false, false, 0, 0, 0, 0⟩ : S60), ⟨false, false, false, false, false, 0, n, 0, 0⟩] := pr_two (p := ⟨false, false, false, false, false, 0, 0, 0, 0⟩) (q := ⟨false, false, false, false, false, 0, n, 0, 0⟩) XP
  have XW := Mem.bel_set HBY.out (g := gp) hwp 15 (.int .i64 n)
  generalize hX : Y.setCell ⟨gp, 15, none⟩ (.int .i64 n) = X at XB XP XR XW ⊢
  clear hX XP hc5 hf5 hfp hcp HKp HKb HBY
  have HXB := Lib.hid XB
  have HXR := Lib.hid XR
  have HXW := Lib.hid XW
  clear XB XR XW
  go_upto_region 19 with (first
    | (at_make; refine Kd.R_make k60 (w0 := X) X.heap.size 60 rfl rfl 42 (.tmp 52) (.tmp 52) rfl (m : Int) rfl rfl Try.underlying42 (.agg #[.bool false, .bool false, .bool false, .bool false, .bool false, .int .u32 0, .int .i64 0, .int .i64 0, .int .i64 0]) 40 (by kernel_rfl) rfl (by decide) (by decide) z60 (ok := fun _ => True) (okp := fun _ => False) (k60_mkM _ _ _ z60) (fun k h => h.elim) trivial (by omega) (by rw [Int.toNat_natCast]; omega) (Below.refl _ _) (Nat.le_refl _) ?_; intro v1 w2 R B2 _ _; rw [Int.toNat_natCast] at R; obtain ⟨A1, c1, rfl⟩ := Kd.R_slice R; have HPR := Lib.hid (show PR w2 A1 c1 (List.replicate m z60) from ⟨(Kd.R_reads' R).2.2, (Kd.R_reads' R).2.1⟩); have HB2 := Lib.hid B2; clear R B2; rw [List.length_replicate])
    | fail)
  have bz := Mem.bel_alloc HB2.out (.cells #[.int .i64 0, .int .i64 0, .int .i64 0, .int .i64 0, .slice A1 m c1] 44)
  have HZW := Lib.hid (Mem.bel_chain HXW.out bz)
  have HZB := Lib.hid (Mem.blk_below HXB.out bz)
  have HZR := Lib.hid (HXR.out.below bz)
  have HZM := Lib.hid (Mem.blk_new w2 (.cells #[.int .i64 0, .int .i64 0, .int .i64 0, .int .i64 0, .slice A1 m c1] 44))
  have HZP := Lib.hid (HPR.out.below (Mem.bel_alloc (Below.refl _ _) (.cells #[.int .i64 0, .int .i64 0, .int .i64 0, .int .i64 0, .slice A1 m c1] 44)))
  generalize hZ : w2.alloc (.cells #[.int .i64 0, .int .i64 0, .int .i64 0, .int .i64 0, .slice A1 m c1] 44) = Z at HZW HZB HZR HZM HZP ⊢
  generalize hg8 : w2.heap.size = g8 at HZM ⊢
  clear hZ hg8 bz HB2 HXW HXB HXR HPR
  have ha := Mem.cells5 HZB.out
  have hc := Mem.cells5 HZM.out
  have kM := fun W h => put_call (F := 0) (T := 0) (S := 0) (C := 0) HZP.out (wf_rep m) (len_many m) W h
  simp only [List.length_replicate] at kM
  obtain ⟨L, hL⟩ : ∃ L, (if m ≤ 255 then 7 + 8 * m else 0) = L := ⟨_, rfl⟩
  rw [hL] at kM
  have HKM := Lib.hid kM
  clear kM
  have hS : ∃ (y1 y2 y3 y4 : Bool) (K : Nat), decide (0 ≤ n) = y1 ∧ decide (n ≤ 255) = y2 ∧ decide (n < 0) = y3 ∧ decide (255 < n) = y4 ∧ (putB 0 0 0 0 [(⟨false, false, false, false, false, 0, 0, 0, 0⟩ : S60), ⟨false, false, false, false, false, 0, n, 0, 0⟩]).length = K ∧ ((y1 = true ∧ y2 = true ∧ y3 = false ∧ y4 = false ∧ K = 23) ∨ (y1 = false ∧ y2 = true ∧ y3 = true ∧ y4 = false ∧ K = 0) ∨ (y1 = true ∧ y2 = false ∧ y3 = false ∧ y4 = true ∧ K = 0)) := by
    refine ⟨_, _, _, _, _, rfl, rfl, rfl, rfl, rfl, ?_⟩
    by_cases h0 : 0 ≤ n
    · by_cases h1 : n ≤ 255
      · refine Or.inl ⟨decide_eq_true h0, decide_eq_true h1, decide_eq_false (by omega), decide_eq_false (by omega), ?_⟩
        have := by_in h0 h1
        simp [putB, hdB, fitP, byB, headL, rowP, h0, h1]
      · refine Or.inr (Or.inr ⟨decide_eq_true h0, decide_eq_false h1, decide_eq_false (by omega), decide_eq_true (by omega), ?_⟩)
        simp [putB, hdB, fitP, byB, headL, rowP, h0, h1]
    · refine Or.inr (Or.inl ⟨decide_eq_false h0, decide_eq_true (by omega), decide_eq_true (by omega), decide_eq_false (by omega), ?_⟩)
      simp [putB, hdB, fitP, byB, headL, rowP, h0]
  obtain ⟨y1, y2, y3, y4, K, q1, q2, q3, q4, hK, hcs⟩ := hS
  have kK := fun W h => put_call (F := 0) (T := 0) (S := 0) (C := 0) HZR.out (wf_two rfl rfl) hK W h
  have HKK := Lib.hid (show ∀ W : World, Below Z.heap.size Z W → Calls Try.prog 27 #[.agg #[.int .i64 0, .int .i64 0, .int .i64 0, .int .i64 0, .slice (some ⟨gp, 0, none⟩) 2 2]] W fun e w' => ∃ A1 c1, e = .returned (.slice A1 K c1) ∧ Below W.heap.size W w' from kK)
  clear kK hK HZR HZP
  have hmL : ∃ z1 : Bool, decide ((m : Int) ≤ 255) = z1 ∧ decide (0 < L) = z1 := by
    refine ⟨_, rfl, ?_⟩
    rw [← hL]
    by_cases h : m ≤ 255
    · rw [if_pos h, decide_eq_true (by omega), decide_eq_true (by omega)]
    · rw [if_neg h, decide_eq_false (by omega), decide_eq_false (by omega)]
  obtain ⟨z1, s1, s2⟩ := hmL
  clear hL hm3
  rcases hcs with ⟨rfl, rfl, rfl, rfl, rfl⟩ | ⟨rfl, rfl, rfl, rfl, rfl⟩ | ⟨rfl, rfl, rfl, rfl, rfl⟩
  all_goals
    go_wp2_with (first
      | (go_at_call 27; (with_reducible refine (HKK.out _ (Below.refl _ _)).mono ?_); rintro e w5 ⟨A5, c5, rfl, B5⟩; have HB5 := Lib.hid B5; clear B5 ha hc; have ha := Mem.cells5 (Mem.blk_below HZB.out HB5.out); have hc := Mem.cells5 (Mem.blk_below HZM.out HB5.out))
      | (go_at_call 27; (with_reducible refine (HKK.out _ HB5.out).mono ?_); rintro e w6 ⟨A6, c6, rfl, B6⟩; have HB6 := Lib.hid (Mem.bel_chain HB5.out B6); clear B6 ha hc; have hc := Mem.cells5 (Mem.blk_below HZM.out HB6.out))
      | (go_at_call 27; (with_reducible refine (HKM.out _ HB6.out).mono ?_); rintro e w7 ⟨A7, c7, rfl, B7⟩; have HB7 := Lib.hid (Mem.bel_chain HB6.out B7); clear B7 hc)
      | fail)
    go_ret
    exact ⟨rfl, Mem.bel_chain HZW.out HB7.out⟩
set_option maxRecDepth 100000 in
set_option maxHeartbeats 400000 in
theorem many5 (w : World) (a n p : Int) (hr : a % 7 = 5) (hn : -9223372036854775808 ≤ n ∧ n ≤ 9223372036854775807) (ha : 0 ≤ a ∧ a ≤ 255) (hp : 0 ≤ p ∧ p ≤ 65535) : Calls Try.prog 8 #[.int .u8 a, .int .i64 n, .int .u16 p] w fun e w' => e = .returned (.bool true) ∧ Below w.heap.size w w' := by
  have hu44 := Try.underlying44
  have hu60 := Try.underlying60
  have hm2 := made2
  obtain ⟨m, hm⟩ : ∃ m : Nat, p % 300 = (m : Int) := ⟨(p % 300).toNat, by omega⟩
  have hm3 : m < 300 := by omega
  have e1 : IntKind.i64.wrap (m : Int) = m := IntWalk.i64_in _ (by omega)
  go_enter Try.func8, Try.ntmps8
  go_upto_region 4 with (first
    | (go_at_call 23; (with_reducible refine (begun7 _).mono ?_); rintro e w1 ⟨rfl, B1⟩; have HB1 := Lib.hid B1; clear B1)
    | fail)
  obtain ⟨gp, hgp⟩ : ∃ g, w1.heap.size = g := ⟨_, rfl⟩
  have es1 : ∀ o, (w1.alloc o).heap.size = gp + 1 := fun o => by rw [← hgp]; exact sz _ _
  have hwp : w.heap.size ≤ gp := by rw [← hgp]; exact HB1.out.size
  have HKp0 : ((w1.alloc (.cells z18 60)).alloc (.cells #[.int .i64 0, .int .i64 0, .int .i64 0, .int .i64 0, .slice (some ⟨gp, 0, none⟩) 2 2] 44)).heap[gp]? = some (.cells z18 60 (0, 0)) := Mem.blk_alloc (by have h := Mem.blk_new w1 (.cells z18 60); rw [hgp] at h; exact h) _
  have HKb0 : ((w1.alloc (.cells z18 60)).alloc (.cells #[.int .i64 0, .int .i64 0, .int .i64 0, .int .i64 0, .slice (some ⟨gp, 0, none⟩) 2 2] 44)).heap[gp + 1]? = some (.cells #[.int .i64 0, .int .i64 0, .int .i64 0, .int .i64 0, .slice (some ⟨gp, 0, none⟩) 2 2] 44 (0, 0)) := by have h := Mem.blk_new (w1.alloc (.cells z18 60)) (.cells #[.int .i64 0, .int .i64 0, .int .i64 0, .int .i64 0, .slice (some ⟨gp, 0, none⟩) 2 2] 44); rw [es1] at h; exact h
  have HBY0 := Mem.bel_alloc (Mem.bel_alloc HB1.out (.cells z18 60)) (.cells #[.int .i64 0, .int .i64 0, .int .i64 0, .int .i64 0, .slice (some ⟨gp, 0, none⟩) 2 2] 44)
  rw [hgp]
  generalize hY : (w1.alloc (.cells z18 60)).alloc (.cells #[.int .i64 0, .int .i64 0, .int .i64 0, .int .i64 0, .slice (some ⟨gp, 0, none⟩) 2 2] 44) = Y at HKp0 HKb0 HBY0 ⊢
  clear hY es1 hgp HB1 hm2
  obtain ⟨gb, hgb⟩ : ∃ g, gp + 1 = g := ⟨_, rfl⟩
  rw [hgb] at HKb0 ⊢
  have hne : gb ≠ gp := by omega
  have hwb : w.heap.size ≤ gb := by omega
  clear hgb w1
  have hc5 := Mem.cells5 HKb0
  have hf5 := Mem.blk_free HKb0
  have hfp := Mem.blk_free HKp0
  have hcp : Y.cell? ⟨gp, 7, none⟩ = some (.int .i64 0) := by rw [Mem.blk_cell HKp0]; rfl
  have HKp := Lib.hid HKp0
  have HKb := Lib.hid HKb0
  have HBY := Lib.hid HBY0
  clear HKp0 HKb0 HBY0
  go_upto_region 18 with (fail)
  have XB : (Y.setCell ⟨gp, 7, none⟩ (.int .i64 n)).heap[gb]? = some (.cells #[.int .i64 0, .int .i64 0, .int .i64 0, .int .i64 0, .slice (some ⟨gp, 0, none⟩) 2 2] 44 (0, 0)) := Mem.blk_far HKb.out hne _
  have XP : (Y.setCell ⟨gp, 7, none⟩ (.int .i64 n)).heap[gp]? = some (.cells #[.bool false, .bool false, .bool false, .bool false, .bool false, .int .u32 0, .int .i64 0, .int .i64 n, .int .i64 0, .bool false, .bool false, .bool false, .bool false, .bool false, .int .u32 0, .int .i64 0, .int .i64 0, .int .i64 0] 60 (0, 0)) := Mem.blk_set HKp.out 7 _
  have XR : PR (Y.setCell ⟨gp, 7, none⟩ (.int .i64 n)) (some ⟨gp, 0, none⟩) 2 [(⟨false, false, false, false, false, 0, 0, n, 0⟩ : S60), ⟨false, false, false, false, false, 0, 0, 0, 0⟩] := pr_two (p := ⟨false, false, false, false, false, 0, 0, n, 0⟩) (q := ⟨false, false, false, false, false, 0, 0, 0, 0⟩) XP
  have XW := Mem.bel_set HBY.out (g := gp) hwp 7 (.int .i64 n)
  generalize hX : Y.setCell ⟨gp, 7, none⟩ (.int .i64 n) = X at XB XP XR XW ⊢
  clear hX XP hc5 hf5 hfp hcp HKp HKb HBY
  have HXB := Lib.hid XB
  have HXR := Lib.hid XR
  have HXW := Lib.hid XW
  clear XB XR XW
  go_upto_region 19 with (first
    | (at_make; refine Kd.R_make k60 (w0 := X) X.heap.size 60 rfl rfl 42 (.tmp 52) (.tmp 52) rfl (m : Int) rfl rfl Try.underlying42 (.agg #[.bool false, .bool false, .bool false, .bool false, .bool false, .int .u32 0, .int .i64 0, .int .i64 0, .int .i64 0]) 40 (by kernel_rfl) rfl (by decide) (by decide) z60 (ok := fun _ => True) (okp := fun _ => False) (k60_mkM _ _ _ z60) (fun k h => h.elim) trivial (by omega) (by rw [Int.toNat_natCast]; omega) (Below.refl _ _) (Nat.le_refl _) ?_; intro v1 w2 R B2 _ _; rw [Int.toNat_natCast] at R; obtain ⟨A1, c1, rfl⟩ := Kd.R_slice R; have HPR := Lib.hid (show PR w2 A1 c1 (List.replicate m z60) from ⟨(Kd.R_reads' R).2.2, (Kd.R_reads' R).2.1⟩); have HB2 := Lib.hid B2; clear R B2; rw [List.length_replicate])
    | fail)
  have bz := Mem.bel_alloc HB2.out (.cells #[.int .i64 0, .int .i64 0, .int .i64 0, .int .i64 0, .slice A1 m c1] 44)
  have HZW := Lib.hid (Mem.bel_chain HXW.out bz)
  have HZB := Lib.hid (Mem.blk_below HXB.out bz)
  have HZR := Lib.hid (HXR.out.below bz)
  have HZM := Lib.hid (Mem.blk_new w2 (.cells #[.int .i64 0, .int .i64 0, .int .i64 0, .int .i64 0, .slice A1 m c1] 44))
  have HZP := Lib.hid (HPR.out.below (Mem.bel_alloc (Below.refl _ _) (.cells #[.int .i64 0, .int .i64 0, .int .i64 0, .int .i64 0, .slice A1 m c1] 44)))
  generalize hZ : w2.alloc (.cells #[.int .i64 0, .int .i64 0, .int .i64 0, .int .i64 0, .slice A1 m c1] 44) = Z at HZW HZB HZR HZM HZP ⊢
  generalize hg8 : w2.heap.size = g8 at HZM ⊢
  clear hZ hg8 bz HB2 HXW HXB HXR HPR
  have ha := Mem.cells5 HZB.out
  have hc := Mem.cells5 HZM.out
  have kM := fun W h => put_call (F := 0) (T := 0) (S := 0) (C := 0) HZP.out (wf_rep m) (len_many m) W h
  simp only [List.length_replicate] at kM
  obtain ⟨L, hL⟩ : ∃ L, (if m ≤ 255 then 7 + 8 * m else 0) = L := ⟨_, rfl⟩
  rw [hL] at kM
  have HKM := Lib.hid kM
  clear kM
  have hS : ∃ (y1 y2 y3 y4 : Bool) (K : Nat), decide (0 ≤ n) = y1 ∧ decide (n ≤ 255) = y2 ∧ decide (n < 0) = y3 ∧ decide (255 < n) = y4 ∧ (putB 0 0 0 0 [(⟨false, false, false, false, false, 0, 0, n, 0⟩ : S60), ⟨false, false, false, false, false, 0, 0, 0, 0⟩]).length = K ∧ ((y1 = true ∧ y2 = true ∧ y3 = false ∧ y4 = false ∧ K = 23) ∨ (y1 = false ∧ y2 = true ∧ y3 = true ∧ y4 = false ∧ K = 0) ∨ (y1 = true ∧ y2 = false ∧ y3 = false ∧ y4 = true ∧ K = 0)) := by
    refine ⟨_, _, _, _, _, rfl, rfl, rfl, rfl, rfl, ?_⟩
    by_cases h0 : 0 ≤ n
    · by_cases h1 : n ≤ 255
      · refine Or.inl ⟨decide_eq_true h0, decide_eq_true h1, decide_eq_false (by omega), decide_eq_false (by omega), ?_⟩
        have := by_in h0 h1
        simp [putB, hdB, fitP, byB, headL, rowP, h0, h1]
      · refine Or.inr (Or.inr ⟨decide_eq_true h0, decide_eq_false h1, decide_eq_false (by omega), decide_eq_true (by omega), ?_⟩)
        simp [putB, hdB, fitP, byB, headL, rowP, h0, h1]
    · refine Or.inr (Or.inl ⟨decide_eq_false h0, decide_eq_true (by omega), decide_eq_true (by omega), decide_eq_false (by omega), ?_⟩)
      simp [putB, hdB, fitP, byB, headL, rowP, h0]
  obtain ⟨y1, y2, y3, y4, K, q1, q2, q3, q4, hK, hcs⟩ := hS
  have kK := fun W h => put_call (F := 0) (T := 0) (S := 0) (C := 0) HZR.out (wf_two rfl rfl) hK W h
  have HKK := Lib.hid (show ∀ W : World, Below Z.heap.size Z W → Calls Try.prog 27 #[.agg #[.int .i64 0, .int .i64 0, .int .i64 0, .int .i64 0, .slice (some ⟨gp, 0, none⟩) 2 2]] W fun e w' => ∃ A1 c1, e = .returned (.slice A1 K c1) ∧ Below W.heap.size W w' from kK)
  clear kK hK HZR HZP
  have hmL : ∃ z1 : Bool, decide ((m : Int) ≤ 255) = z1 ∧ decide (0 < L) = z1 := by
    refine ⟨_, rfl, ?_⟩
    rw [← hL]
    by_cases h : m ≤ 255
    · rw [if_pos h, decide_eq_true (by omega), decide_eq_true (by omega)]
    · rw [if_neg h, decide_eq_false (by omega), decide_eq_false (by omega)]
  obtain ⟨z1, s1, s2⟩ := hmL
  clear hL hm3
  rcases hcs with ⟨rfl, rfl, rfl, rfl, rfl⟩ | ⟨rfl, rfl, rfl, rfl, rfl⟩ | ⟨rfl, rfl, rfl, rfl, rfl⟩
  all_goals
    go_wp2_with (first
      | (go_at_call 27; (with_reducible refine (HKK.out _ (Below.refl _ _)).mono ?_); rintro e w5 ⟨A5, c5, rfl, B5⟩; have HB5 := Lib.hid B5; clear B5 ha hc; have ha := Mem.cells5 (Mem.blk_below HZB.out HB5.out); have hc := Mem.cells5 (Mem.blk_below HZM.out HB5.out))
      | (go_at_call 27; (with_reducible refine (HKK.out _ HB5.out).mono ?_); rintro e w6 ⟨A6, c6, rfl, B6⟩; have HB6 := Lib.hid (Mem.bel_chain HB5.out B6); clear B6 ha hc; have hc := Mem.cells5 (Mem.blk_below HZM.out HB6.out))
      | (go_at_call 27; (with_reducible refine (HKM.out _ HB6.out).mono ?_); rintro e w7 ⟨A7, c7, rfl, B7⟩; have HB7 := Lib.hid (Mem.bel_chain HB6.out B7); clear B7 hc)
      | fail)
    go_ret
    exact ⟨rfl, Mem.bel_chain HZW.out HB7.out⟩
set_option maxRecDepth 100000 in
set_option maxHeartbeats 400000 in
theorem many6 (w : World) (a n p : Int) (hr : a % 7 = 6) (hn : -9223372036854775808 ≤ n ∧ n ≤ 9223372036854775807) (ha : 0 ≤ a ∧ a ≤ 255) (hp : 0 ≤ p ∧ p ≤ 65535) : Calls Try.prog 8 #[.int .u8 a, .int .i64 n, .int .u16 p] w fun e w' => e = .returned (.bool true) ∧ Below w.heap.size w w' := by
  have hu44 := Try.underlying44
  have hu60 := Try.underlying60
  have hm2 := made2
  obtain ⟨m, hm⟩ : ∃ m : Nat, p % 300 = (m : Int) := ⟨(p % 300).toNat, by omega⟩
  have hm3 : m < 300 := by omega
  have e1 : IntKind.i64.wrap (m : Int) = m := IntWalk.i64_in _ (by omega)
  go_enter Try.func8, Try.ntmps8
  go_upto_region 4 with (first
    | (go_at_call 23; (with_reducible refine (begun7 _).mono ?_); rintro e w1 ⟨rfl, B1⟩; have HB1 := Lib.hid B1; clear B1)
    | fail)
  obtain ⟨gp, hgp⟩ : ∃ g, w1.heap.size = g := ⟨_, rfl⟩
  have es1 : ∀ o, (w1.alloc o).heap.size = gp + 1 := fun o => by rw [← hgp]; exact sz _ _
  have hwp : w.heap.size ≤ gp := by rw [← hgp]; exact HB1.out.size
  have HKp0 : ((w1.alloc (.cells z18 60)).alloc (.cells #[.int .i64 0, .int .i64 0, .int .i64 0, .int .i64 0, .slice (some ⟨gp, 0, none⟩) 2 2] 44)).heap[gp]? = some (.cells z18 60 (0, 0)) := Mem.blk_alloc (by have h := Mem.blk_new w1 (.cells z18 60); rw [hgp] at h; exact h) _
  have HKb0 : ((w1.alloc (.cells z18 60)).alloc (.cells #[.int .i64 0, .int .i64 0, .int .i64 0, .int .i64 0, .slice (some ⟨gp, 0, none⟩) 2 2] 44)).heap[gp + 1]? = some (.cells #[.int .i64 0, .int .i64 0, .int .i64 0, .int .i64 0, .slice (some ⟨gp, 0, none⟩) 2 2] 44 (0, 0)) := by have h := Mem.blk_new (w1.alloc (.cells z18 60)) (.cells #[.int .i64 0, .int .i64 0, .int .i64 0, .int .i64 0, .slice (some ⟨gp, 0, none⟩) 2 2] 44); rw [es1] at h; exact h
  have HBY0 := Mem.bel_alloc (Mem.bel_alloc HB1.out (.cells z18 60)) (.cells #[.int .i64 0, .int .i64 0, .int .i64 0, .int .i64 0, .slice (some ⟨gp, 0, none⟩) 2 2] 44)
  rw [hgp]
  generalize hY : (w1.alloc (.cells z18 60)).alloc (.cells #[.int .i64 0, .int .i64 0, .int .i64 0, .int .i64 0, .slice (some ⟨gp, 0, none⟩) 2 2] 44) = Y at HKp0 HKb0 HBY0 ⊢
  clear hY es1 hgp HB1 hm2
  obtain ⟨gb, hgb⟩ : ∃ g, gp + 1 = g := ⟨_, rfl⟩
  rw [hgb] at HKb0 ⊢
  have hne : gb ≠ gp := by omega
  have hwb : w.heap.size ≤ gb := by omega
  clear hgb w1
  have hc5 := Mem.cells5 HKb0
  have hf5 := Mem.blk_free HKb0
  have hfp := Mem.blk_free HKp0
  have hcp : Y.cell? ⟨gp, 17, none⟩ = some (.int .i64 0) := by rw [Mem.blk_cell HKp0]; rfl
  have HKp := Lib.hid HKp0
  have HKb := Lib.hid HKb0
  have HBY := Lib.hid HBY0
  clear HKp0 HKb0 HBY0
  go_upto_region 18 with (fail)
  have XB : (Y.setCell ⟨gp, 17, none⟩ (.int .i64 n)).heap[gb]? = some (.cells #[.int .i64 0, .int .i64 0, .int .i64 0, .int .i64 0, .slice (some ⟨gp, 0, none⟩) 2 2] 44 (0, 0)) := Mem.blk_far HKb.out hne _
  have XP : (Y.setCell ⟨gp, 17, none⟩ (.int .i64 n)).heap[gp]? = some (.cells #[.bool false, .bool false, .bool false, .bool false, .bool false, .int .u32 0, .int .i64 0, .int .i64 0, .int .i64 0, .bool false, .bool false, .bool false, .bool false, .bool false, .int .u32 0, .int .i64 0, .int .i64 0, .int .i64 n] 60 (0, 0)) := Mem.blk_set HKp.out 17 _
  have XR : PR (Y.setCell ⟨gp, 17, none⟩ (.int .i64 n)) (some ⟨gp, 0, none⟩) 2 [(⟨false, false, false, false, false, 0, 0, 0, 0⟩ : S60), ⟨false, false, false, false, false, 0, 0, 0, n⟩] := pr_two (p := ⟨false, false, false, false, false, 0, 0, 0, 0⟩) (q := ⟨false, false, false, false, false, 0, 0, 0, n⟩) XP
  have XW := Mem.bel_set HBY.out (g := gp) hwp 17 (.int .i64 n)
  generalize hX : Y.setCell ⟨gp, 17, none⟩ (.int .i64 n) = X at XB XP XR XW ⊢
  clear hX XP hc5 hf5 hfp hcp HKp HKb HBY
  have HXB := Lib.hid XB
  have HXR := Lib.hid XR
  have HXW := Lib.hid XW
  clear XB XR XW
  go_upto_region 19 with (first
    | (at_make; refine Kd.R_make k60 (w0 := X) X.heap.size 60 rfl rfl 42 (.tmp 52) (.tmp 52) rfl (m : Int) rfl rfl Try.underlying42 (.agg #[.bool false, .bool false, .bool false, .bool false, .bool false, .int .u32 0, .int .i64 0, .int .i64 0, .int .i64 0]) 40 (by kernel_rfl) rfl (by decide) (by decide) z60 (ok := fun _ => True) (okp := fun _ => False) (k60_mkM _ _ _ z60) (fun k h => h.elim) trivial (by omega) (by rw [Int.toNat_natCast]; omega) (Below.refl _ _) (Nat.le_refl _) ?_; intro v1 w2 R B2 _ _; rw [Int.toNat_natCast] at R; obtain ⟨A1, c1, rfl⟩ := Kd.R_slice R; have HPR := Lib.hid (show PR w2 A1 c1 (List.replicate m z60) from ⟨(Kd.R_reads' R).2.2, (Kd.R_reads' R).2.1⟩); have HB2 := Lib.hid B2; clear R B2; rw [List.length_replicate])
    | fail)
  have bz := Mem.bel_alloc HB2.out (.cells #[.int .i64 0, .int .i64 0, .int .i64 0, .int .i64 0, .slice A1 m c1] 44)
  have HZW := Lib.hid (Mem.bel_chain HXW.out bz)
  have HZB := Lib.hid (Mem.blk_below HXB.out bz)
  have HZR := Lib.hid (HXR.out.below bz)
  have HZM := Lib.hid (Mem.blk_new w2 (.cells #[.int .i64 0, .int .i64 0, .int .i64 0, .int .i64 0, .slice A1 m c1] 44))
  have HZP := Lib.hid (HPR.out.below (Mem.bel_alloc (Below.refl _ _) (.cells #[.int .i64 0, .int .i64 0, .int .i64 0, .int .i64 0, .slice A1 m c1] 44)))
  generalize hZ : w2.alloc (.cells #[.int .i64 0, .int .i64 0, .int .i64 0, .int .i64 0, .slice A1 m c1] 44) = Z at HZW HZB HZR HZM HZP ⊢
  generalize hg8 : w2.heap.size = g8 at HZM ⊢
  clear hZ hg8 bz HB2 HXW HXB HXR HPR
  have ha := Mem.cells5 HZB.out
  have hc := Mem.cells5 HZM.out
  have kM := fun W h => put_call (F := 0) (T := 0) (S := 0) (C := 0) HZP.out (wf_rep m) (len_many m) W h
  simp only [List.length_replicate] at kM
  obtain ⟨L, hL⟩ : ∃ L, (if m ≤ 255 then 7 + 8 * m else 0) = L := ⟨_, rfl⟩
  rw [hL] at kM
  have HKM := Lib.hid kM
  clear kM
  have hS : ∃ (y1 y2 y3 y4 : Bool) (K : Nat), decide (0 ≤ n) = y1 ∧ decide (n ≤ 255) = y2 ∧ decide (n < 0) = y3 ∧ decide (255 < n) = y4 ∧ (putB 0 0 0 0 [(⟨false, false, false, false, false, 0, 0, 0, 0⟩ : S60), ⟨false, false, false, false, false, 0, 0, 0, n⟩]).length = K ∧ ((y1 = true ∧ y2 = true ∧ y3 = false ∧ y4 = false ∧ K = 23) ∨ (y1 = false ∧ y2 = true ∧ y3 = true ∧ y4 = false ∧ K = 0) ∨ (y1 = true ∧ y2 = false ∧ y3 = false ∧ y4 = true ∧ K = 0)) := by
    refine ⟨_, _, _, _, _, rfl, rfl, rfl, rfl, rfl, ?_⟩
    by_cases h0 : 0 ≤ n
    · by_cases h1 : n ≤ 255
      · refine Or.inl ⟨decide_eq_true h0, decide_eq_true h1, decide_eq_false (by omega), decide_eq_false (by omega), ?_⟩
        have := by_in h0 h1
        simp [putB, hdB, fitP, byB, headL, rowP, h0, h1]
      · refine Or.inr (Or.inr ⟨decide_eq_true h0, decide_eq_false h1, decide_eq_false (by omega), decide_eq_true (by omega), ?_⟩)
        simp [putB, hdB, fitP, byB, headL, rowP, h0, h1]
    · refine Or.inr (Or.inl ⟨decide_eq_false h0, decide_eq_true (by omega), decide_eq_true (by omega), decide_eq_false (by omega), ?_⟩)
      simp [putB, hdB, fitP, byB, headL, rowP, h0]
  obtain ⟨y1, y2, y3, y4, K, q1, q2, q3, q4, hK, hcs⟩ := hS
  have kK := fun W h => put_call (F := 0) (T := 0) (S := 0) (C := 0) HZR.out (wf_two rfl rfl) hK W h
  have HKK := Lib.hid (show ∀ W : World, Below Z.heap.size Z W → Calls Try.prog 27 #[.agg #[.int .i64 0, .int .i64 0, .int .i64 0, .int .i64 0, .slice (some ⟨gp, 0, none⟩) 2 2]] W fun e w' => ∃ A1 c1, e = .returned (.slice A1 K c1) ∧ Below W.heap.size W w' from kK)
  clear kK hK HZR HZP
  have hmL : ∃ z1 : Bool, decide ((m : Int) ≤ 255) = z1 ∧ decide (0 < L) = z1 := by
    refine ⟨_, rfl, ?_⟩
    rw [← hL]
    by_cases h : m ≤ 255
    · rw [if_pos h, decide_eq_true (by omega), decide_eq_true (by omega)]
    · rw [if_neg h, decide_eq_false (by omega), decide_eq_false (by omega)]
  obtain ⟨z1, s1, s2⟩ := hmL
  clear hL hm3
  rcases hcs with ⟨rfl, rfl, rfl, rfl, rfl⟩ | ⟨rfl, rfl, rfl, rfl, rfl⟩ | ⟨rfl, rfl, rfl, rfl, rfl⟩
  all_goals
    go_wp2_with (first
      | (go_at_call 27; (with_reducible refine (HKK.out _ (Below.refl _ _)).mono ?_); rintro e w5 ⟨A5, c5, rfl, B5⟩; have HB5 := Lib.hid B5; clear B5 ha hc; have ha := Mem.cells5 (Mem.blk_below HZB.out HB5.out); have hc := Mem.cells5 (Mem.blk_below HZM.out HB5.out))
      | (go_at_call 27; (with_reducible refine (HKK.out _ HB5.out).mono ?_); rintro e w6 ⟨A6, c6, rfl, B6⟩; have HB6 := Lib.hid (Mem.bel_chain HB5.out B6); clear B6 ha hc; have hc := Mem.cells5 (Mem.blk_below HZM.out HB6.out))
      | (go_at_call 27; (with_reducible refine (HKM.out _ HB6.out).mono ?_); rintro e w7 ⟨A7, c7, rfl, B7⟩; have HB7 := Lib.hid (Mem.bel_chain HB6.out B7); clear B7 hc)
      | fail)
    go_ret
    exact ⟨rfl, Mem.bel_chain HZW.out HB7.out⟩
theorem many (w : World) (a n p : Int) (hn : -9223372036854775808 ≤ n ∧ n ≤ 9223372036854775807) (ha : 0 ≤ a ∧ a ≤ 255) (hp : 0 ≤ p ∧ p ≤ 65535) : Calls Try.prog 8 #[.int .u8 a, .int .i64 n, .int .u16 p] w fun e w' => e = .returned (.bool true) ∧ Below w.heap.size w w' := by
  have h : a % 7 = 0 ∨ a % 7 = 1 ∨ a % 7 = 2 ∨ a % 7 = 3 ∨ a % 7 = 4 ∨ a % 7 = 5 ∨ a % 7 = 6 := by omega
  rcases h with h | h | h | h | h | h | h
  · exact many0 w a n p h hn ha hp
  · exact many1 w a n p h hn ha hp
  · exact many2 w a n p h hn ha hp
  · exact many3 w a n p h hn ha hp
  · exact many4 w a n p h hn ha hp
  · exact many5 w a n p h hn ha hp
  · exact many6 w a n p h hn ha hp
end Go.Proofs.Ytmhglfidggjfdaa.Bill
