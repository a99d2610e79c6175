/- A number that does not fit is refused: BillMany walked. -/
import Derived.Test.YtmhglfidggjfdaaBillA
namespace Go.Proofs.Ytmhglfidggjfdaa.Bill
open Go Go.RowKit Go.Proofs.YtmhglfidggjfdaaW.PrintWords
open Go.Proofs.Ytmhglfidggjfdaa.PBillBack (S60 z60 k60 rd_T60 at_T60 k60_mkM)
set_option linter.unusedVariables false
set_option linter.unusedSimpArgs false
def z18 : Array Value := #[.bool false, .bool false, .bool false, .bool false, .bool false, .int .u32 0, .int .i64 0, .int .i64 0, .int .i64 0, .bool false, .bool false, .bool false, .bool false, .bool false, .int .u32 0, .int .i64 0, .int .i64 0, .int .i64 0]
theorem made2 (w : World) : (Instr.makeSlice 42 (.int .i64 2) (.int .i64 2)).run Try.prog w = .ok (.slice (some ⟨w.heap.size, 0, none⟩) 2 2) (w.alloc (.cells z18 60)) := by kernel_rfl
theorem pr_two {X : World} {g : Nat} {p q : S60} (h : X.heap[g]? = some (.cells #[.bool p.f0, .bool p.f1, .bool p.f2, .bool p.f3, .bool p.f4, .int .u32 p.f5, .int .i64 p.f6, .int .i64 p.f7, .int .i64 p.f8, .bool q.f0, .bool q.f1, .bool q.f2, .bool q.f3, .bool q.f4, .int .u32 q.f5, .int .i64 q.f6, .int .i64 q.f7, .int .i64 q.f8] 60 (0, 0))) : PR X (some ⟨g, 0, Option.none⟩) 2 [p, q] := by
  refine ⟨⟨rfl, by simp, fun _ => ⟨_, rfl, fun j x hj => ?_⟩⟩, Nat.le_refl _⟩
  rcases j with _ | _ | j
  · injection hj with hj
    subst hj
    refine ⟨_, rfl, Go.Proofs.Ytmhglfidggjfdaa.PBillBack.k60_mk _ _, fun i u hi => ?_⟩
    rw [Kept.add_at, Mem.blk_cell h]
    rcases i with _ | _ | _ | _ | _ | _ | _ | _ | _ | i <;> simp [show k60.sz = 9 from rfl] at hi ⊢ <;> exact hi
  · injection hj with hj
    subst hj
    refine ⟨_, rfl, Go.Proofs.Ytmhglfidggjfdaa.PBillBack.k60_mk _ _, fun i u hi => ?_⟩
    rw [Kept.add_at, Mem.blk_cell h]
    rcases i with _ | _ | _ | _ | _ | _ | _ | _ | _ | i <;> simp [show k60.sz = 9 from rfl] at hi ⊢ <;> exact hi
  · simp at hj
theorem wf_two {p q : S60} (hp : p.f5 = 0) (hq : q.f5 = 0) : WfL [p, q] := by
  intro x hx
  rcases List.mem_cons.1 hx with rfl | hx
  · rw [hp]; decide
  · rw [List.mem_singleton.1 hx, hq]; decide
theorem wf_rep (m : Nat) : WfL (List.replicate m z60) := by
  intro p hp; rw [List.eq_of_mem_replicate hp]; decide
theorem len_many (m : Nat) : (putB 0 0 0 0 (List.replicate m z60)).length = if m ≤ 255 then 7 + 8 * m else 0 := by
  have ha : (List.replicate m z60).all fitP = true := by rw [List.all_eq_true]; intro p hp; rw [List.eq_of_mem_replicate hp]; decide
  unfold putB hdB
  rw [ha, List.length_replicate]
  by_cases h : m ≤ 255
  · have e : byB (m : Int) = true := by simp [byB]; omega
    rw [e, if_pos h, if_pos (by decide), List.length_append, rows_len, List.length_replicate]; rfl
  · have e : byB (m : Int) = false := by simp [byB]; omega
    rw [e, if_neg h, if_neg (by decide)]; rfl
theorem by_in {n : Int} (h0 : 0 ≤ n) (h1 : n ≤ 255) : byB n = true := by simp [byB]; omega
theorem by_out {n : Int} (h : n < 0 ∨ 255 < n) : byB n = false := by simp [byB]; omega
theorem put_call {Z : World} {F T S C : Int} {A : Option Addr} {c : Nat} {l : List S60} (h : PR Z A c l) (hw : WfL l) {L : Nat} (e : (putB F T S C l).length = L) (W : World) (hW : Below Z.heap.size Z W) : Calls Try.prog 27 #[.agg #[.int .i64 F, .int .i64 T, .int .i64 S, .int .i64 C, .slice A l.length c]] W fun e w' => ∃ A1 c1, e = .returned (.slice A1 L c1) ∧ Below W.heap.size W w' := by
  refine (put_eq (h.below hW) hw rfl).mono ?_
  rintro e w' ⟨A1, c1, rfl, R, B⟩
  rw [e]
  exact ⟨A1, c1, rfl, B⟩
set_option maxRecDepth 100000 in
set_option maxHeartbeats 400000 in
theorem many0 (w : World) (a n p : Int) (hr : a % 7 = 0) (hn : -9223372036854775808 ≤ n ∧ n ≤ 9223372036854775807) (ha : 0 ≤ a ∧ a ≤ 255) (hp : 0 ≤ p ∧ p ≤ 65535) : Calls Try.prog 8 #[.int .u8 a, .int .i64 n, .int .u16 p] w fun e w' => e = .returned (.bool true) ∧ Below w.heap.size w w' := by
  have hu44 := Try.underlying44
  have hu60 := Try.underlying60
  have hm2 := made2
  obtain ⟨m, hm⟩ : ∃ m : Nat, p % 300 = (m : Int) := ⟨(p % 300).toNat, by omega⟩
  have hm3 : m < 300 := by omega
  have e1 : IntKind.i64.wrap (m : Int) = m := IntWalk.i64_in _ (by omega)
  go_enter Try.func8, Try.ntmps8
  go_upto_region 4 with (first
    | (go_at_call 23; (with_reducible refine (begun7 _).mono ?_); rintro e w1 ⟨rfl, B1⟩; have HB1 := Lib.hid B1; clear B1)
    | fail)
  obtain ⟨gp, hgp⟩ : ∃ g, w1.heap.size = g := ⟨_, rfl⟩
  have es1 : ∀ o, (w1.alloc o).heap.size = gp + 1 := fun o => by rw [← hgp]; exact sz _ _
  have hwp : w.heap.size ≤ gp := by rw [← hgp]; exact HB1.out.size
  have HKp0 : ((w1.alloc (.cells z18 60)).alloc (.cells #[.int .i64 0, .int .i64 0, .int .i64 0, .int .i64 0, .slice (some ⟨gp, 0, none⟩) 2 2] 44)).heap[gp]? = some (.cells z18 60 (0, 0)) := Mem.blk_alloc (by have h := Mem.blk_new w1 (.cells z18 60); rw [hgp] at h; exact h) _
  have HKb0 : ((w1.alloc (.cells z18 60)).alloc (.cells #[.int .i64 0, .int .i64 0, .int .i64 0, .int .i64 0, .slice (some ⟨gp, 0, none⟩) 2 2] 44)).heap[gp + 1]? = some (.cells #[.int .i64 0, .int .i64 0, .int .i64 0, .int .i64 0, .slice (some ⟨gp, 0, none⟩) 2 2] 44 (0, 0)) := by have h := Mem.blk_new (w1.alloc (.cells z18 60)) (.cells #[.int .i64 0, .int .i64 0, .int .i64 0, .int .i64 0, .slice (some ⟨gp, 0, none⟩) 2 2] 44); rw [es1] at h; exact h
  have HBY0 := Mem.bel_alloc (Mem.bel_alloc HB1.out (.cells z18 60)) (.cells #[.int .i64 0, .int .i64 0, .int .i64 0, .int .i64 0, .slice (some ⟨gp, 0, none⟩) 2 2] 44)
  rw [hgp]
  generalize hY : (w1.alloc (.cells z18 60)).alloc (.cells #[.int .i64 0, .int .i64 0, .int .i64 0, .int .i64 0, .slice (some ⟨gp, 0, none⟩) 2 2] 44) = Y at HKp0 HKb0 HBY0 ⊢
  clear hY es1 hgp HB1 hm2
  obtain ⟨gb, hgb⟩ : ∃ g, gp + 1 = g := ⟨_, rfl⟩
  rw [hgb] at HKb0 ⊢
  have hne : gb ≠ gp := by omega
  have hwb : w.heap.size ≤ gb := by omega
  clear hgb w1
  have hc5 := Mem.cells5 HKb0
  have hf5 := Mem.blk_free HKb0
  have hfp := Mem.blk_free HKp0
  have hcp : Y.cell? ⟨gp, 15, none⟩ = some (.int .i64 0) := by rw [Mem.blk_cell HKp0]; rfl
  have HKp := Lib.hid HKp0
  have HKb := Lib.hid HKb0
  have HBY := Lib.hid HBY0
  clear HKp0 HKb0 HBY0
  go_upto_region 18 with (fail)
  have XB : (Y.setCell ⟨gb, 0, none⟩ (.int .i64 n)).heap[gb]? = some (.cells #[.int .i64 n, .int .i64 0, .int .i64 0, .int .i64 0, .slice (some ⟨gp, 0, none⟩) 2 2] 44 (0, 0)) := Mem.blk_set HKb.out 0 _
  have XP : (Y.setCell ⟨gb, 0, none⟩ (.int .i64 n)).heap[gp]? = some (.cells #[.bool false, .bool false, .bool false, .bool false, .bool false, .int .u32 0, .int .i64 0, .int .i64 0, .int .i64 0, .bool false, .bool false, .bool false, .bool false, .bool false, .int .u32 0, .int .i64 0, .int .i64 0, .int .i64 0] 60 (0, 0)) := Mem.blk_far HKp.out (show gp ≠ gb from fun h => hne h.symm) _
  have XR : PR (Y.setCell ⟨gb, 0, none⟩ (.int .i64 n)) (some ⟨gp, 0, none⟩) 2 [(⟨false, false, false, false, false, 0, 0, 0, 0⟩ : S60), ⟨false, false, false, false, false, 0, 0, 0, 0⟩] := pr_two (p := ⟨false, false, false, false, false, 0, 0, 0, 0⟩) (q := ⟨false, false, false, false, false, 0, 0, 0, 0⟩) XP
  have XW := Mem.bel_set HBY.out (g := gb) hwb 0 (.int .i64 n)
  generalize hX : Y.setCell ⟨gb, 0, none⟩ (.int .i64 n) = X at XB XP XR XW ⊢
  clear hX XP hc5 hf5 hfp hcp HKp HKb HBY
  have HXB := Lib.hid XB
  have HXR := Lib.hid XR
  have HXW := Lib.hid XW
  clear XB XR XW
  go_upto_region 19 with (first
    | (at_make; refine Kd.R_make k60 (w0 := X) X.heap.size 60 rfl rfl 42 (.tmp 52) (.tmp 52) rfl (m : Int) rfl rfl Try.underlying42 (.agg #[.bool false, .bool false, .bool false, .bool false, .bool false, .int .u32 0, .int .i64 0, .int .i64 0, .int .i64 0]) 40 (by kernel_rfl) rfl (by decide) (by decide) z60 (ok := fun _ => True) (okp := fun _ => False) (k60_mkM _ _ _ z60) (fun k h => h.elim) trivial (by omega) (by rw [Int.toNat_natCast]; omega) (Below.refl _ _) (Nat.le_refl _) ?_; intro v1 w2 R B2 _ _; rw [Int.toNat_natCast] at R; obtain ⟨A1, c1, rfl⟩ := Kd.R_slice R; have HPR := Lib.hid (show PR w2 A1 c1 (List.replicate m z60) from ⟨(Kd.R_reads' R).2.2, (Kd.R_reads' R).2.1⟩); have HB2 := Lib.hid B2; clear R B2; rw [List.length_replicate])
    | fail)
  have bz := Mem.bel_alloc HB2.out (.cells #[.int .i64 0, .int .i64 0, .int .i64 0, .int .i64 0, .slice A1 m c1] 44)
  have HZW := Lib.hid (Mem.bel_chain HXW.out bz)
  have HZB := Lib.hid (Mem.blk_below HXB.out bz)
  have HZR := Lib.hid (HXR.out.below bz)
  have HZM := Lib.hid (Mem.blk_new w2 (.cells #[.int .i64 0, .int .i64 0, .int .i64 0, .int .i64 0, .slice A1 m c1] 44))
  have HZP := Lib.hid (HPR.out.below (Mem.bel_alloc (Below.refl _ _) (.cells #[.int .i64 0, .int .i64 0, .int .i64 0, .int .i64 0, .slice A1 m c1] 44)))
  generalize hZ : w2.alloc (.cells #[.int .i64 0, .int .i64 0, .int .i64 0, .int .i64 0, .slice A1 m c1] 44) = Z at HZW HZB HZR HZM HZP ⊢
  generalize hg8 : w2.heap.size = g8 at HZM ⊢
  clear hZ hg8 bz HB2 HXW HXB HXR HPR
  have ha := Mem.cells5 HZB.out
  have hc := Mem.cells5 HZM.out
  have kM := fun W h => put_call (F := 0) (T := 0) (S := 0) (C := 0) HZP.out (wf_rep m) (len_many m) W h
  simp only [List.length_replicate] at kM
  obtain ⟨L, hL⟩ : ∃ L, (if m ≤ 255 then 7 + 8 * m else 0) = L := ⟨_, rfl⟩
  rw [hL] at kM
  have HKM := Lib.hid kM
  clear kM
  have hS : ∃ (y1 y2 y3 y4 : Bool) (K : Nat), decide (0 ≤ n) = y1 ∧ decide (n ≤ 255) = y2 ∧ decide (n < 0) = y3 ∧ decide (255 < n) = y4 ∧ (putB n 0 0 0 [(⟨false, false, false, false, false, 0, 0, 0, 0⟩ : S60), ⟨false, false, false, false, false, 0, 0, 0, 0⟩]).length = K ∧ ((y1 = true ∧ y2 = true ∧ y3 = false ∧ y4 = false ∧ K = 23) ∨ (y1 = false ∧ y2 = true ∧ y3 = true ∧ y4 = false ∧ K = 0) ∨ (y1 = true ∧ y2 = false ∧ y3 = false ∧ y4 = true ∧ K = 0)) := by
    refine ⟨_, _, _, _, _, rfl, rfl, rfl, rfl, rfl, ?_⟩
    by_cases h0 : 0 ≤ n
    · by_cases h1 : n ≤ 255
      · refine Or.inl ⟨decide_eq_true h0, decide_eq_true h1, decide_eq_false (by omega), decide_eq_false (by omega), ?_⟩
        have := by_in h0 h1
        simp [putB, hdB, fitP, byB, headL, rowP, h0, h1]
      · refine Or.inr (Or.inr ⟨decide_eq_true h0, decide_eq_false h1, decide_eq_false (by omega), decide_eq_true (by omega), ?_⟩)
        simp [putB, hdB, fitP, byB, headL, rowP, h0, h1]
    · refine Or.inr (Or.inl ⟨decide_eq_false h0, decide_eq_true (by omega), decide_eq_true (by omega), decide_eq_false (by omega), ?_⟩)
      simp [putB, hdB, fitP, byB, headL, rowP, h0]
  obtain ⟨y1, y2, y3, y4, K, q1, q2, q3, q4, hK, hcs⟩ := hS
  have kK := fun W h => put_call (F := n) (T := 0) (S := 0) (C := 0) HZR.out (wf_two rfl rfl) hK W h
  have HKK := Lib.hid (show ∀ W : World, Below Z.heap.size Z W → Calls Try.prog 27 #[.agg #[.int .i64 n, .int .i64 0, .int .i64 0, .int .i64 0, .slice (some ⟨gp, 0, none⟩) 2 2]] W fun e w' => ∃ A1 c1, e = .returned (.slice A1 K c1) ∧ Below W.heap.size W w' from kK)
  clear kK hK HZR HZP
  have hmL : ∃ z1 : Bool, decide ((m : Int) ≤ 255) = z1 ∧ decide (0 < L) = z1 := by
    refine ⟨_, rfl, ?_⟩
    rw [← hL]
    by_cases h : m ≤ 255
    · rw [if_pos h, decide_eq_true (by omega), decide_eq_true (by omega)]
    · rw [if_neg h, decide_eq_false (by omega), decide_eq_false (by omega)]
  obtain ⟨z1, s1, s2⟩ := hmL
  clear hL hm3
  rcases hcs with ⟨rfl, rfl, rfl, rfl, rfl⟩ | ⟨rfl, rfl, rfl, rfl, rfl⟩ | ⟨rfl, rfl, rfl, rfl, rfl⟩
  all_goals
    go_wp2_with (first
      | (go_at_call 27; (with_reducible refine (HKK.out _ (Below.refl _ _)).mono ?_); rintro e w5 ⟨A5, c5, rfl, B5⟩; have HB5 := Lib.hid B5; clear B5 ha hc; have ha := Mem.cells5 (Mem.blk_below HZB.out HB5.out); have hc := Mem.cells5 (Mem.blk_below HZM.out HB5.out))
      | (go_at_call 27; (with_reducible refine (HKK.out _ HB5.out).mono ?_); rintro e w6 ⟨A6, c6, rfl, B6⟩; have HB6 := Lib.hid (Mem.bel_chain HB5.out B6); clear B6 ha hc; have hc := Mem.cells5 (Mem.blk_below HZM.out HB6.out))
      | (go_at_call 27; (with_reducible refine (HKM.out _ HB6.out).mono ?_); rintro e w7 ⟨A7, c7, rfl, B7⟩; have HB7 := Lib.hid (Mem.bel_chain HB6.out B7); clear B7 hc)
      | fail)
    go_ret
    exact ⟨rfl, Mem.bel_chain HZW.out HB7.out⟩
set_option maxRecDepth 100000 in
set_option maxHeartbeats 400000 in
theorem many1 (w : World) (a n p : Int) (hr : a % 7 = 1) (hn : -9223372036854775808 ≤ n ∧ n ≤ 9223372036854775807) (ha : 0 ≤ a ∧ a ≤ 255) (hp : 0 ≤ p ∧ p ≤ 65535) : Calls Try.prog 8 #[.int .u8 a, .int .i64 n, .int .u16 p] w fun e w' => e = .returned (.bool true) ∧ Below w.heap.size w w' := by
  have hu44 := Try.underlying44
  have hu60 := Try.underlying60
  have hm2 := made2
  obtain ⟨m, hm⟩ : ∃ m : Nat, p % 300 = (m : Int) := ⟨(p % 300).toNat, by omega⟩
  have hm3 : m < 300 := by omega
  have e1 : IntKind.i64.wrap (m : Int) = m := IntWalk.i64_in _ (by omega)
  go_enter Try.func8, Try.ntmps8
  go_upto_region 4 with (first
    | (go_at_call 23; (with_reducible refine (begun7 _).mono ?_); rintro e w1 ⟨rfl, B1⟩; have HB1 := Lib.hid B1; clear B1)
    | fail)
  obtain ⟨gp, hgp⟩ : ∃ g, w1.heap.size = g := ⟨_, rfl⟩
  have es1 : ∀ o, (w1.alloc o).heap.size = gp + 1 := fun o => by rw [← hgp]; exact sz _ _
  have hwp : w.heap.size ≤ gp := by rw [← hgp]; exact HB1.out.size
  have HKp0 : ((w1.alloc (.cells z18 60)).alloc (.cells #[.int .i64 0, .int .i64 0, .int .i64 0, .int .i64 0, .slice (some ⟨gp, 0, none⟩) 2 2] 44)).heap[gp]? = some (.cells z18 60 (0, 0)) := Mem.blk_alloc (by have h := Mem.blk_new w1 (.cells z18 60); rw [hgp] at h; exact h) _
  have HKb0 : ((w1.alloc (.cells z18 60)).alloc (.cells #[.int .i64 0, .int .i64 0, .int .i64 0, .int .i64 0, .slice (some ⟨gp, 0, none⟩) 2 2] 44)).heap[gp + 1]? = some (.cells #[.int .i64 0, .int .i64 0, .int .i64 0, .int .i64 0, .slice (some ⟨gp, 0, none⟩) 2 2] 44 (0, 0)) := by have h := Mem.blk_new (w1.alloc (.cells z18 60)) (.cells #[.int .i64 0, .int .i64 0, .int .i64 0, .int .i64 0, .slice (some ⟨gp, 0, none⟩) 2 2] 44); rw [es1] at h; exact h
  have HBY0 := Mem.bel_alloc (Mem.bel_alloc HB1.out (.cells z18 60)) (.cells #[.int .i64 0, .int .i64 0, .int .i64 0, .int .i64 0, .slice (some ⟨gp, 0, none⟩) 2 2] 44)
  rw [hgp]
  generalize hY : (w1.alloc (.cells z18 60)).alloc (.cells #[.int .i64 0, .int .i64 0, .int .i64 0, .int .i64 0, .slice (some ⟨gp, 0, none⟩) 2 2] 44) = Y at HKp0 HKb0 HBY0 ⊢
  clear hY es1 hgp HB1 hm2
  obtain ⟨gb, hgb⟩ : ∃ g, gp + 1 = g := ⟨_, rfl⟩
  rw [hgb] at HKb0 ⊢
  have hne : gb ≠ gp := by omega
  have hwb : w.heap.size ≤ gb := by omega
  clear hgb w1
  have hc5 := Mem.cells5 HKb0
  have hf5 := Mem.blk_free HKb0
  have hfp := Mem.blk_free HKp0
  have hcp : Y.cell? ⟨gp, 15, none⟩ = some (.int .i64 0) := by rw [Mem.blk_cell HKp0]; rfl
  have HKp := Lib.hid HKp0
  have HKb := Lib.hid HKb0
  have HBY := Lib.hid HBY0
  clear HKp0 HKb0 HBY0
  go_upto_region 18 with (fail)
  have XB : (Y.setCell ⟨gb, 1, none⟩ (.int .i64 n)).heap[gb]? = some (.cells #[.int .i64 0, .int .i64 n, .int .i64 0, .int .i64 0, .slice (some ⟨gp, 0, none⟩) 2 2] 44 (0, 0)) := Mem.blk_set HKb.out 1 _
  have XP : (Y.setCell ⟨gb, 1, none⟩ (.int .i64 n)).heap[gp]? = some (.cells #[.bool false, .bool false, .bool false, .bool false, .bool false, .int .u32 0, .int .i64 0, .int .i64 0, .int .i64 0, .bool false, .bool false, .bool false, .bool false, .bool false, .int .u32 0, .int .i64 0, .int .i64 0, .int .i64 0] 60 (0, 0)) := Mem.blk_far HKp.out (show gp ≠ gb from fun h => hne h.symm) _
  have XR : PR (Y.setCell ⟨gb, 1, none⟩ (.int .i64 n)) (some ⟨gp, 0, none⟩) 2 [(⟨false, false, false, false, false, 0, 0, 0, 0⟩ : S60), ⟨false, false, false, false, false, 0, 0, 0, 0⟩] := pr_two (p := ⟨false, false, false, false, false, 0, 0, 0, 0⟩) (q := ⟨false, false, false, false, false, 0, 0, 0, 0⟩) XP
  have XW := Mem.bel_set HBY.out (g := gb) hwb 1 (.int .i64 n)
  generalize hX : Y.setCell ⟨gb, 1, none⟩ (.int .i64 n) = X at XB XP XR XW ⊢
  clear hX XP hc5 hf5 hfp hcp HKp HKb HBY
  have HXB := Lib.hid XB
  have HXR := Lib.hid XR
  have HXW := Lib.hid XW
  clear XB XR XW
  go_upto_region 19 with (first
    | (at_make; refine Kd.R_make k60 (w0 := X) X.heap.size 60 rfl rfl 42 (.tmp 52) (.tmp 52) rfl (m : Int) rfl rfl Try.underlying42 (.agg #[.bool false, .bool false, .bool false, .bool false, .bool false, .int .u32 0, .int .i64 0, .int .i64 0, .int .i64 0]) 40 (by kernel_rfl) rfl (by decide) (by decide) z60 (ok := fun _ => True) (okp := fun _ => False) (k60_mkM _ _ _ z60) (fun k h => h.elim) trivial (by omega) (by rw [Int.toNat_natCast]; omega) (Below.refl _ _) (Nat.le_refl _) ?_; intro v1 w2 R B2 _ _; rw [Int.toNat_natCast] at R; obtain ⟨A1, c1, rfl⟩ := Kd.R_slice R; have HPR := Lib.hid (show PR w2 A1 c1 (List.replicate m z60) from ⟨(Kd.R_reads' R).2.2, (Kd.R_reads' R).2.1⟩); have HB2 := Lib.hid B2; clear R B2; rw [List.length_replicate])
    | fail)
  have bz := Mem.bel_alloc HB2.out (.cells #[.int .i64 0, .int .i64 0, .int .i64 0, .int .i64 0, .slice A1 m c1] 44)
  have HZW := Lib.hid (Mem.bel_chain HXW.out bz)
  have HZB := Lib.hid (Mem.blk_below HXB.out bz)
  have HZR := Lib.hid (HXR.out.below bz)
  have HZM := Lib.hid (Mem.blk_new w2 (.cells #[.int .i64 0, .int .i64 0, .int .i64 0, .int .i64 0, .slice A1 m c1] 44))
  have HZP := Lib.hid (HPR.out.below (Mem.bel_alloc (Below.refl _ _) (.cells #[.int .i64 0, .int .i64 0, .int .i64 0, .int .i64 0, .slice A1 m c1] 44)))
  generalize hZ : w2.alloc (.cells #[.int .i64 0, .int .i64 0, .int .i64 0, .int .i64 0, .slice A1 m c1] 44) = Z at HZW HZB HZR HZM HZP ⊢
  generalize hg8 : w2.heap.size = g8 at HZM ⊢
  clear hZ hg8 bz HB2 HXW HXB HXR HPR
  have ha := Mem.cells5 HZB.out
  have hc := Mem.cells5 HZM.out
  have kM := fun W h => put_call (F := 0) (T := 0) (S := 0) (C := 0) HZP.out (wf_rep m) (len_many m) W h
  simp only [List.length_replicate] at kM
  obtain ⟨L, hL⟩ : ∃ L, (if m ≤ 255 then 7 + 8 * m else 0) = L := ⟨_, rfl⟩
  rw [hL] at kM
  have HKM := Lib.hid kM
  clear kM
  have hS : ∃ (y1 y2 y3 y4 : Bool) (K : Nat), decide (0 ≤ n) = y1 ∧ decide (n ≤ 255) = y2 ∧ decide (n < 0) = y3 ∧ decide (255 < n) = y4 ∧ (putB 0 n 0 0 [(⟨false, false, false, false, false, 0, 0, 0, 0⟩ : S60), ⟨false, false, false, false, false, 0, 0, 0, 0⟩]).length = K ∧ ((y1 = true ∧ y2 = true ∧ y3 = false ∧ y4 = false ∧ K = 23) ∨ (y1 = false ∧ y2 = true ∧ y3 = true ∧ y4 = false ∧ K = 0) ∨ (y1 = true ∧ y2 = false ∧ y3 = false ∧ y4 = true ∧ K = 0)) := by
    refine ⟨_, _, _, _, _, rfl, rfl, rfl, rfl, rfl, ?_⟩
    by_cases h0 : 0 ≤ n
    · by_cases h1 : n ≤ 255
      · refine Or.inl ⟨decide_eq_true h0, decide_eq_true h1, decide_eq_false (by omega), decide_eq_false (by omega), ?_⟩
        have := by_in h0 h1
        simp [putB, hdB, fitP, byB, headL, rowP, h0, h1]
      · refine Or.inr (Or.inr ⟨decide_eq_true h0, decide_eq_false h1, decide_eq_false (by omega), decide_eq_true (by omega), ?_⟩)
        simp [putB, hdB, fitP, byB, headL, rowP, h0, h1]
    · refine Or.inr (Or.inl ⟨decide_eq_false h0, decide_eq_true (by omega), decide_eq_true (by omega), decide_eq_false (by omega), ?_⟩)
      simp [putB, hdB, fitP, byB, headL, rowP, h0]
  obtain ⟨y1, y2, y3, y4, K, q1, q2, q3, q4, hK, hcs⟩ := hS
  have kK := fun W h => put_call (F := 0) (T := n) (S := 0) (C := 0) HZR.out (wf_two rfl rfl) hK W h
  have HKK := Lib.hid (show ∀ W : World, Below Z.heap.size Z W → Calls Try.prog 27 #[.agg #[.int .i64 0, .int .i64 n, .int .i64 0, .int .i64 0, .slice (some ⟨gp, 0, none⟩) 2 2]] W fun e w' => ∃ A1 c1, e = .returned (.slice A1 K c1) ∧ Below W.heap.size W w' from kK)
  clear kK hK HZR HZP
  have hmL : ∃ z1 : Bool, decide ((m : Int) ≤ 255) = z1 ∧ decide (0 < L) = z1 := by
    refine ⟨_, rfl, ?_⟩
    rw [← hL]
    by_cases h : m ≤ 255
    · rw [if_pos h, decide_eq_true (by omega), decide_eq_true (by omega)]
    · rw [if_neg h, decide_eq_false (by omega), decide_eq_false (by omega)]
  obtain ⟨z1, s1, s2⟩ := hmL
  clear hL hm3
  rcases hcs with ⟨rfl, rfl, rfl, rfl, rfl⟩ | ⟨rfl, rfl, rfl, rfl, rfl⟩ | ⟨rfl, rfl, rfl, rfl, rfl⟩
  all_goals
    go_wp2_with (first
      | (go_at_call 27; (with_reducible refine (HKK.out _ (Below.refl _ _)).mono ?_); rintro e w5 ⟨A5, c5, rfl, B5⟩; have HB5 := Lib.hid B5; clear B5 ha hc; have ha := Mem.cells5 (Mem.blk_below HZB.out HB5.out); have hc := Mem.cells5 (Mem.blk_below HZM.out HB5.out))
      | (go_at_call 27; (with_reducible refine (HKK.out _ HB5.out).mono ?_); rintro e w6 ⟨A6, c6, rfl, B6⟩; have HB6 := Lib.hid (Mem.bel_chain HB5.out B6); clear B6 ha hc; have hc := Mem.cells5 (Mem.blk_below HZM.out HB6.out))
      | (go_at_call 27; (with_reducible refine (HKM.out _ HB6.out).mono ?_); rintro e w7 ⟨A7, c7, rfl, B7⟩; have HB7 := Lib.hid (Mem.bel_chain HB6.out B7); clear B7 hc)
      | fail)
    go_ret
    exact ⟨rfl, Mem.bel_chain HZW.out HB7.out⟩
set_option maxRecDepth 100000 in
set_option maxHeartbeats 400000 in
theorem many2 (w : World) (a n p : Int) (hr : a % 7 = 2) (hn : -9223372036854775808 ≤ n ∧ n ≤ 9223372036854775807) (ha : 0 ≤ a ∧ a ≤ 255) (hp : 0 ≤ p ∧ p ≤ 65535) : Calls Try.prog 8 #[.int .u8 a, .int .i64 n, .int .u16 p] w fun e w' => e = .returned (.bool true) ∧ Below w.heap.size w w' := by
  have hu44 := Try.underlying44
  have hu60 := Try.underlying60
  have hm2 := made2
  obtain ⟨m, hm⟩ : ∃ m : Nat, p % 300 = (m : Int) := ⟨(p % 300).toNat, by omega⟩
  have hm3 : m < 300 := by omega
  have e1 : IntKind.i64.wrap (m : Int) = m := IntWalk.i64_in _ (by omega)
  go_enter Try.func8, Try.ntmps8
  go_upto_region 4 with (first
    | (go_at_call 23; (with_reducible refine (begun7 _).mono ?_); rintro e w1 ⟨rfl, B1⟩; have HB1 := Lib.hid B1; clear B1)
    | fail)
  obtain ⟨gp, hgp⟩ : ∃ g, w1.heap.size = g := ⟨_, rfl⟩
  have es1 : ∀ o, (w1.alloc o).heap.size = gp + 1 := fun o => by rw [← hgp]; exact sz _ _
  have hwp : w.heap.size ≤ gp := by rw [← hgp]; exact HB1.out.size
  have HKp0 : ((w1.alloc (.cells z18 60)).alloc (.cells #[.int .i64 0, .int .i64 0, .int .i64 0, .int .i64 0, .slice (some ⟨gp, 0, none⟩) 2 2] 44)).heap[gp]? = some (.cells z18 60 (0, 0)) := Mem.blk_alloc (by have h := Mem.blk_new w1 (.cells z18 60); rw [hgp] at h; exact h) _
  have HKb0 : ((w1.alloc (.cells z18 60)).alloc (.cells #[.int .i64 0, .int .i64 0, .int .i64 0, .int .i64 0, .slice (some ⟨gp, 0, none⟩) 2 2] 44)).heap[gp + 1]? = some (.cells #[.int .i64 0, .int .i64 0, .int .i64 0, .int .i64 0, .slice (some ⟨gp, 0, none⟩) 2 2] 44 (0, 0)) := by have h := Mem.blk_new (w1.alloc (.cells z18 60)) (.cells #[.int .i64 0, .int .i64 0, .int .i64 0, .int .i64 0, .slice (some ⟨gp, 0, none⟩) 2 2] 44); rw [es1] at h; exact h
  have HBY0 := Mem.bel_alloc (Mem.bel_alloc HB1.out (.cells z18 60)) (.cells #[.int .i64 0, .int .i64 0, .int .i64 0, .int .i64 0, .slice (some ⟨gp, 0, none⟩) 2 2] 44)
  rw [hgp]
  generalize hY : (w1.alloc (.cells z18 60)).alloc (.cells #[.int .i64 0, .int .i64 0, .int .i64 0, .int .i64 0, .slice (some ⟨gp, 0, none⟩) 2 2] 44) = Y at HKp0 HKb0 HBY0 ⊢
  clear hY es1 hgp HB1 hm2
  obtain ⟨gb, hgb⟩ : ∃ g, gp + 1 = g := ⟨_, rfl⟩
  rw [hgb] at HKb0 ⊢
  have hne : gb ≠ gp := by omega
  have hwb : w.heap.size ≤ gb := by omega
  clear hgb w1
  have hc5 := Mem.cells5 HKb0
  have hf5 := Mem.blk_free HKb0
  have hfp := Mem.blk_free HKp0
  have hcp : Y.cell? ⟨gp, 15, none⟩ = some (.int .i64 0) := by rw [Mem.blk_cell HKp0]; rfl
  have HKp := Lib.hid HKp0
  have HKb := Lib.hid HKb0
  have HBY := Lib.hid HBY0
  clear HKp0 HKb0 HBY0
  go_upto_region 18 with (fail)
  have XB : (Y.setCell ⟨gb, 2, none⟩ (.int .i64 n)).heap[gb]? = some (.cells #[.int .i64 0, .int .i64 0, .int .i64 n, .int .i64 0, .slice (some ⟨gp, 0, none⟩) 2 2] 44 (0, 0)) := Mem.blk_set HKb.out 2 _
  have XP : (Y.setCell ⟨gb, 2, none⟩ (.int .i64 n)).heap[gp]? = some (.cells #[.bool false, .bool false, .bool false, .bool false, .bool false, .int .u32 0, .int .i64 0, .int .i64 0, .int .i64 0, .bool false, .bool false, .bool false, .bool false, .bool false, .int .u32 0, .int .i64 0, .int .i64 0, .int .i64 0] 60 (0, 0)) := Mem.blk_far HKp.out (show gp ≠ gb from fun h => hne h.symm) _
  have XR : PR (Y.setCell ⟨gb, 2, none⟩ (.int .i64 n)) (some ⟨gp, 0, none⟩) 2 [(⟨false, false, false, false, false, 0, 0, 0, 0⟩ : S60), ⟨false, false, false, false, false, 0, 0, 0, 0⟩] := pr_two (p := ⟨false, false, false, false, false, 0, 0, 0, 0⟩) (q := ⟨false, false, false, false, false, 0, 0, 0, 0⟩) XP
  have XW := Mem.bel_set HBY.out (g := gb) hwb 2 (.int .i64 n)
  generalize hX : Y.setCell ⟨gb, 2, none⟩ (.int .i64 n) = X at XB XP XR XW ⊢
  clear hX XP hc5 hf5 hfp hcp HKp HKb HBY
  have HXB := Lib.hid XB
  have HXR := Lib.hid XR
  have HXW := Lib.hid XW
  clear XB XR XW
  go_upto_region 19 with (first
    | (at_make; refine Kd.R_make k60 (w0 := X) X.heap.size 60 rfl rfl 42 (.tmp 52) (.tmp 52) rfl (m : Int) rfl rfl Try.underlying42 (.agg #[.bool false, .bool false, .bool false, .bool false, .bool false, .int .u32 0, .int .i64 0, .int .i64 0, .int .i64 0]) 40 (by kernel_rfl) rfl (by decide) (by decide) z60 (ok := fun _ => True) (okp := fun _ => False) (k60_mkM _ _ _ z60) (fun k h => h.elim) trivial (by omega) (by rw [Int.toNat_natCast]; omega) (Below.refl _ _) (Nat.le_refl _) ?_; intro v1 w2 R B2 _ _; rw [Int.toNat_natCast] at R; obtain ⟨A1, c1, rfl⟩ := Kd.R_slice R; have HPR := Lib.hid (show PR w2 A1 c1 (List.replicate m z60) from ⟨(Kd.R_reads' R).2.2, (Kd.R_reads' R).2.1⟩); have HB2 := Lib.hid B2; clear R B2; rw [List.length_replicate])
    | fail)
  have bz := Mem.bel_alloc HB2.out (.cells #[.int .i64 0, .int .i64 0, .int .i64 0, .int .i64 0, .slice A1 m c1] 44)
  have HZW := Lib.hid (Mem.bel_chain HXW.out bz)
  have HZB := Lib.hid (Mem.blk_below HXB.out bz)
  have HZR := Lib.hid (HXR.out.below bz)
  have HZM := Lib.hid (Mem.blk_new w2 (.cells #[.int .i64 0, .int .i64 0, .int .i64 0, .int .i64 0, .slice A1 m c1] 44))
  have HZP := Lib.hid (HPR.out.below (Mem.bel_alloc (Below.refl _ _) (.cells #[.int .i64 0, .int .i64 0, .int .i64 0, .int .i64 0, .slice A1 m c1] 44)))
  generalize hZ : w2.alloc (.cells #[.int .i64 0, .int .i64 0, .int .i64 0, .int .i64 0, .slice A1 m c1] 44) = Z at HZW HZB HZR HZM HZP ⊢
  generalize hg8 : w2.heap.size = g8 at HZM ⊢
  clear hZ hg8 bz HB2 HXW HXB HXR HPR
  have ha := Mem.cells5 HZB.out
  have hc := Mem.cells5 HZM.out
  have kM := fun W h => put_call (F := 0) (T := 0) (S := 0) (C := 0) HZP.out (wf_rep m) (len_many m) W h
  simp only [List.length_replicate] at kM
  obtain ⟨L, hL⟩ : ∃ L, (if m ≤ 255 then 7 + 8 * m else 0) = L := ⟨_, rfl⟩
  rw [hL] at kM
  have HKM := Lib.hid kM
  clear kM
  have hS : ∃ (y1 y2 y3 y4 : Bool) (K : Nat), decide (0 ≤ n) = y1 ∧ decide (n ≤ 255) = y2 ∧ decide (n < 0) = y3 ∧ decide (255 < n) = y4 ∧ (putB 0 0 n 0 [(⟨false, false, false, false, false, 0, 0, 0, 0⟩ : S60), ⟨false, false, false, false, false, 0, 0, 0, 0⟩]).length = K ∧ ((y1 = true ∧ y2 = true ∧ y3 = false ∧ y4 = false ∧ K = 23) ∨ (y1 = false ∧ y2 = true ∧ y3 = true ∧ y4 = false ∧ K = 0) ∨ (y1 = true ∧ y2 = false ∧ y3 = false ∧ y4 = true ∧ K = 0)) := by
    refine ⟨_, _, _, _, _, rfl, rfl, rfl, rfl, rfl, ?_⟩
    by_cases h0 : 0 ≤ n
    · by_cases h1 : n ≤ 255
      · refine Or.inl ⟨decide_eq_true h0, decide_eq_true h1, decide_eq_false (by omega), decide_eq_false (by omega), ?_⟩
        have := by_in h0 h1
        simp [putB, hdB, fitP, byB, headL, rowP, h0, h1]
      · refine Or.inr (Or.inr ⟨decide_eq_true h0, decide_eq_false h1, decide_eq_false (by omega), decide_eq_true (by omega), ?_⟩)
        simp [putB, hdB, fitP, byB, headL, rowP, h0, h1]
    · refine Or.inr (Or.inl ⟨decide_eq_false h0, decide_eq_true (by omega), decide_eq_true (by omega), decide_eq_false (by omega), ?_⟩)
      simp [putB, hdB, fitP, byB, headL, rowP, h0]
  obtain ⟨y1, y2, y3, y4, K, q1, q2, q3, q4, hK, hcs⟩ := hS
  have kK := fun W h => put_call (F := 0) (T := 0) (S := n) (C := 0) HZR.out (wf_two rfl rfl) hK W h
  have HKK := Lib.hid (show ∀ W : World, Below Z.heap.size Z W → Calls Try.prog 27 #[.agg #[.int .i64 0, .int .i64 0, .int .i64 n, .int .i64 0, .slice (some ⟨gp, 0, none⟩) 2 2]] W fun e w' => ∃ A1 c1, e = .returned (.slice A1 K c1) ∧ Below W.heap.size W w' from kK)
  clear kK hK HZR HZP
  have hmL : ∃ z1 : Bool, decide ((m : Int) ≤ 255) = z1 ∧ decide (0 < L) = z1 := by
    refine ⟨_, rfl, ?_⟩
    rw [← hL]
    by_cases h : m ≤ 255
    · rw [if_pos h, decide_eq_true (by omega), decide_eq_true (by omega)]
    · rw [if_neg h, decide_eq_false (by omega), decide_eq_false (by omega)]
  obtain ⟨z1, s1, s2⟩ := hmL
  clear hL hm3
  rcases hcs with ⟨rfl, rfl, rfl, rfl, rfl⟩ | ⟨rfl, rfl, rfl, rfl, rfl⟩ | ⟨rfl, rfl, rfl, rfl, rfl⟩
  all_goals
    go_wp2_with (first
      | (go_at_call 27; (with_reducible refine (HKK.out _ (Below.refl _ _)).mono ?_); rintro e w5 ⟨A5, c5, rfl, B5⟩; have HB5 := Lib.hid B5; clear B5 ha hc; have ha := Mem.cells5 (Mem.blk_below HZB.out HB5.out); have hc := Mem.cells5 (Mem.blk_below HZM.out HB5.out))
      | (go_at_call 27; (with_reducible refine (HKK.out _ HB5.out).mono ?_); rintro e w6 ⟨A6, c6, rfl, B6⟩; have HB6 := Lib.hid (Mem.bel_chain HB5.out B6); clear B6 ha hc; have hc := Mem.cells5 (Mem.blk_below HZM.out HB6.out))
      | (go_at_call 27; (with_reducible refine (HKM.out _ HB6.out).mono ?_); rintro e w7 ⟨A7, c7, rfl, B7⟩; have HB7 := Lib.hid (Mem.bel_chain HB6.out B7); clear B7 hc)
      | fail)
    go_ret
    exact ⟨rfl, Mem.bel_chain HZW.out HB7.out⟩
set_option maxRecDepth 100000 in
set_option maxHeartbeats 400000 in
theorem many3 (w : World) (a n p : Int) (hr : a % 7 = 3) (hn : -9223372036854775808 ≤ n ∧ n ≤ 9223372036854775807) (ha : 0 ≤ a ∧ a ≤ 255) (hp : 0 ≤ p ∧ p ≤ 65535) : Calls Try.prog 8 #[.int .u8 a, .int .i64 n, .int .u16 p] w fun e w' => e = .returned (.bool true) ∧ Below w.heap.size w w' := by
  have hu44 := Try.underlying44
  have hu60 := Try.underlying60
  have hm2 := made2
  obtain ⟨m, hm⟩ : ∃ m : Nat, p % 300 = (m : Int) := ⟨(p % 300).toNat, by omega⟩
  have hm3 : m < 300 := by omega
  have e1 : IntKind.i64.wrap (m : Int) = m := IntWalk.i64_in _ (by omega)
  go_enter Try.func8, Try.ntmps8
  go_upto_region 4 with (first
    | (go_at_call 23; (with_reducible refine (begun7 _).mono ?_); rintro e w1 ⟨rfl, B1⟩; have HB1 := Lib.hid B1; clear B1)
    | fail)
  obtain ⟨gp, hgp⟩ : ∃ g, w1.heap.size = g := ⟨_, rfl⟩
  have es1 : ∀ o, (w1.alloc o).heap.size = gp + 1 := fun o => by rw [← hgp]; exact sz _ _
  have hwp : w.heap.size ≤ gp := by rw [← hgp]; exact HB1.out.size
  have HKp0 : ((w1.alloc (.cells z18 60)).alloc (.cells #[.int .i64 0, .int .i64 0, .int .i64 0, .int .i64 0, .slice (some ⟨gp, 0, none⟩) 2 2] 44)).heap[gp]? = some (.cells z18 60 (0, 0)) := Mem.blk_alloc (by have h := Mem.blk_new w1 (.cells z18 60); rw [hgp] at h; exact h) _
  have HKb0 : ((w1.alloc (.cells z18 60)).alloc (.cells #[.int .i64 0, .int .i64 0, .int .i64 0, .int .i64 0, .slice (some ⟨gp, 0, none⟩) 2 2] 44)).heap[gp + 1]? = some (.cells #[.int .i64 0, .int .i64 0, .int .i64 0, .int .i64 0, .slice (some ⟨gp, 0, none⟩) 2 2] 44 (0, 0)) := by have h := Mem.blk_new (w1.alloc (.cells z18 60)) (.cells #[.int .i64 0, .int .i64 0, .int .i64 0, .int .i64 0, .slice (some ⟨gp, 0, none⟩) 2 2] 44); rw [es1] at h; exact h
  have HBY0 := Mem.bel_alloc (Mem.bel_alloc HB1.out (.cells z18 60)) (.cells #[.int .i64 0, .int .i64 0, .int .i64 0, .int .i64 0, .slice (some ⟨gp, 0, none⟩) 2 2] 44)
  rw [hgp]
  generalize hY : (w1.alloc (.cells z18 60)).alloc (.cells #[.int .i64 0, .int .i64 0, .int .i64 0, .int .i64 0, .slice (some ⟨gp, 0, none⟩) 2 2] 44) = Y at HKp0 HKb0 HBY0 ⊢
  clear hY es1 hgp HB1 hm2
  obtain ⟨gb, hgb⟩ : ∃ g, gp + 1 = g := ⟨_, rfl⟩
  rw [hgb] at HKb0 ⊢
  have hne : gb ≠ gp := by omega
  have hwb : w.heap.size ≤ gb := by omega
  clear hgb w1
  have hc5 := Mem.cells5 HKb0
  have hf5 := Mem.blk_free HKb0
  have hfp := Mem.blk_free HKp0
  have hcp : Y.cell? ⟨gp, 15, none⟩ = some (.int .i64 0) := by rw [Mem.blk_cell HKp0]; rfl
  have HKp := Lib.hid HKp0
  have HKb := Lib.hid HKb0
  have HBY := Lib.hid HBY0
  clear HKp0 HKb0 HBY0
  go_upto_region 18 with (fail)
  have XB : (Y.setCell ⟨gb, 3, none⟩ (.int .i64 n)).heap[gb]? = some (.cells #[.int .i64 0, .int .i64 0, .int .i64 0, .int .i64 n, .slice (some ⟨gp, 0, none⟩) 2 2] 44 (0, 0)) := Mem.blk_set HKb.out 3 _
  have XP : (Y.setCell ⟨gb, 3, none⟩ (.int .i64 n)).heap[gp]? = some (.cells #[.bool false, .bool false, .bool false, .bool false, .bool false, .int .u32 0, .int .i64 0, .int .i64 0, .int .i64 0, .bool false, .bool false, .bool false, .bool false, .bool false, .int .u32 0, .int .i64 0, .int .i64 0, .int .i64 0] 60 (0, 0)) := Mem.blk_far HKp.out (show gp ≠ gb from fun h => hne h.symm) _
  have XR : PR (Y.setCell ⟨gb, 3, none⟩ (.int .i64 n)) (some ⟨gp, 0, none⟩) 2 [(⟨false, false, false, false, false, 0, 0, 0, 0⟩ : S60), ⟨false, false, false, false, false, 0, 0, 0, 0⟩] := pr_two (p := ⟨false, false, false, false, false, 0, 0, 0, 0⟩) (q := ⟨false, false, false, false, false, 0, 0, 0, 0⟩) XP
  have XW := Mem.bel_set HBY.out (g := gb) hwb 3 (.int .i64 n)
  generalize hX : Y.setCell ⟨gb, 3, none⟩ (.int .i64 n) = X at XB XP XR XW ⊢
  clear hX XP hc5 hf5 hfp hcp HKp HKb HBY
  have HXB := Lib.hid XB
  have HXR := Lib.hid XR
  have HXW := Lib.hid XW
  clear XB XR XW
  go_upto_region 19 with (first
    | (at_make; refine Kd.R_make k60 (w0 := X) X.heap.size 60 rfl rfl 42 (.tmp 52) (.tmp 52) rfl (m : Int) rfl rfl Try.underlying42 (.agg #[.bool false, .bool false, .bool false, .bool false, .bool false, .int .u32 0, .int .i64 0, .int .i64 0, .int .i64 0]) 40 (by kernel_rfl) rfl (by decide) (by decide) z60 (ok := fun _ => True) (okp := fun _ => False) (k60_mkM _ _ _ z60) (fun k h => h.elim) trivial (by omega) (by rw [Int.toNat_natCast]; omega) (Below.refl _ _) (Nat.le_refl _) ?_; intro v1 w2 R B2 _ _; rw [Int.toNat_natCast] at R; obtain ⟨A1, c1, rfl⟩ := Kd.R_slice R; have HPR := Lib.hid (show PR w2 A1 c1 (List.replicate m z60) from ⟨(Kd.R_reads' R).2.2, (Kd.R_reads' R).2.1⟩); have HB2 := Lib.hid B2; clear R B2; rw [List.length_replicate])
    | fail)
  have bz := Mem.bel_alloc HB2.out (.cells #[.int .i64 0, .int .i64 0, .int .i64 0, .int .i64 0, .slice A1 m c1] 44)
  have HZW := Lib.hid (Mem.bel_chain HXW.out bz)
  have HZB := Lib.hid (Mem.blk_below HXB.out bz)
  have HZR := Lib.hid (HXR.out.below bz)
  have HZM := Lib.hid (Mem.blk_new w2 (.cells #[.int .i64 0, .int .i64 0, .int .i64 0, .int .i64 0, .slice A1 m c1] 44))
  have HZP := Lib.hid (HPR.out.below (Mem.bel_alloc (Below.refl _ _) (.cells #[.int .i64 0, .int .i64 0, .int .i64 0, .int .i64 0, .slice A1 m c1] 44)))
  generalize hZ : w2.alloc (.cells #[.int .i64 0, .int .i64 0, .int .i64 0, .int .i64 0, .slice A1 m c1] 44) = Z at HZW HZB HZR HZM HZP ⊢
  generalize hg8 : w2.heap.size = g8 at HZM ⊢
  clear hZ hg8 bz HB2 HXW HXB HXR HPR
  have ha := Mem.cells5 HZB.out
  have hc := Mem.cells5 HZM.out
  have kM := fun W h => put_call (F := 0) (T := 0) (S := 0) (C := 0) HZP.out (wf_rep m) (len_many m) W h
  simp only [List.length_replicate] at kM
  obtain ⟨L, hL⟩ : ∃ L, (if m ≤ 255 then 7 + 8 * m else 0) = L := ⟨_, rfl⟩
  rw [hL] at kM
  have HKM := Lib.hid kM
  clear kM
  have hS : ∃ (y1 y2 y3 y4 : Bool) (K : Nat), decide (0 ≤ n) = y1 ∧ decide (n ≤ 255) = y2 ∧ decide (n < 0) = y3 ∧ decide (255 < n) = y4 ∧ (putB 0 0 0 n [(⟨false, false, false, false, false, 0, 0, 0, 0⟩ : S60), ⟨false, false, false, false, false, 0, 0, 0, 0⟩]).length = K ∧ ((y1 = true ∧ y2 = true ∧ y3 = false ∧ y4 = false ∧ K = 23) ∨ (y1 = false ∧ y2 = true ∧ y3 = true ∧ y4 = false ∧ K = 0) ∨ (y1 = true ∧ y2 = false ∧ y3 = false ∧ y4 = true ∧ K = 0)) := by
    refine ⟨_, _, _, _, _, rfl, rfl, rfl, rfl, rfl, ?_⟩
    by_cases h0 : 0 ≤ n
    · by_cases h1 : n ≤ 255
      · refine Or.inl ⟨decide_eq_true h0, decide_eq_true h1, decide_eq_false (by omega), decide_eq_false (by omega), ?_⟩
        have := by_in h0 h1
        simp [putB, hdB, fitP, byB, headL, rowP, h0, h1]
      · refine Or.inr (Or.inr ⟨decide_eq_true h0, decide_eq_false h1, decide_eq_false (by omega), decide_eq_true (by omega), ?_⟩)
        simp [putB, hdB, fitP, byB, headL, rowP, h0, h1]
    · refine Or.inr (Or.inl ⟨decide_eq_false h0, decide_eq_true (by omega), decide_eq_true (by omega), decide_eq_false (by omega), ?_⟩)
      simp [putB, hdB, fitP, byB, headL, rowP, h0]
  obtain ⟨y1, y2, y3, y4, K, q1, q2, q3, q4, hK, hcs⟩ := hS
  have kK := fun W h => put_call (F := 0) (T := 0) (S := 0) (C := n) HZR.out (wf_two rfl rfl) hK W h
  have HKK := Lib.hid (show ∀ W : World, Below Z.heap.size Z W → Calls Try.prog 27 #[.agg #[.int .i64 0, .int .i64 0, .int .i64 0, .int .i64 n, .slice (some ⟨gp, 0, none⟩) 2 2]] W fun e w' => ∃ A1 c1, e = .returned (.slice A1 K c1) ∧ Below W.heap.size W w' from kK)
  clear kK hK HZR HZP
  have hmL : ∃ z1 : Bool, decide ((m : Int) ≤ 255) = z1 ∧ decide (0 < L) = z1 := by
    refine ⟨_, rfl, ?_⟩
    rw [← hL]
    by_cases h : m ≤ 255
    · rw [if_pos h, decide_eq_true (by omega), decide_eq_true (by omega)]
    · rw [if_neg h, decide_eq_false (by omega), decide_eq_false (by omega)]
  obtain ⟨z1, s1, s2⟩ := hmL
  clear hL hm3
  rcases hcs with ⟨rfl, rfl, rfl, rfl, rfl⟩ | ⟨rfl, rfl, rfl, rfl, rfl⟩ | ⟨rfl, rfl, rfl, rfl, rfl⟩
  all_goals
    go_wp2_with (first
      | (go_at_call 27; (with_reducible refine (HKK.out _ (Below.refl _ _)).mono ?_); rintro e w5 ⟨A5, c5, rfl, B5⟩; have HB5 := Lib.hid B5; clear B5 ha hc; have ha := Mem.cells5 (Mem.blk_below HZB.out HB5.out); have hc := Mem.cells5 (Mem.blk_below HZM.out HB5.out))
      | (go_at_call 27; (with_reducible refine (HKK.out _ HB5.out).mono ?_); rintro e w6 ⟨A6, c6, rfl, B6⟩; have HB6 := Lib.hid (Mem.bel_chain HB5.out B6); clear B6 ha hc; have hc := Mem.cells5 (Mem.blk_below HZM.out HB6.out))
      | (go_at_call 27; (with_reducible refine (HKM.out _ HB6.out).mono ?_); rintro e w7 ⟨A7, c7, rfl, B7⟩; have HB7 := Lib.hid (Mem.bel_chain HB6.out B7); clear B7 hc)
      | fail)
    go_ret
    exact ⟨rfl, Mem.bel_chain HZW.out HB7.out⟩
end Go.Proofs.Ytmhglfidggjfdaa.Bill
