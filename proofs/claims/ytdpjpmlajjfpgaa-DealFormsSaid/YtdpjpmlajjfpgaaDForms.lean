/- DealForms walked. -/
import Derived.Test.YtdpjpmlajjfpgaaDFormR
namespace Go.Proofs.Ytdpjpmlajjfpgaa.Deal
open Go Go.RowKit Go.Proofs.Ytdpjpmlajjfpgaa.Mem Go.Proofs.Ytdpjpmlajjfpgaa.Kept Go.Proofs.Ytdpjpmlajjfpgaa.PDealK Go.Proofs.Ytdpjpmlajjfpgaa.PDealQ
open Go.Proofs.YtdpjpmlajjfpgaaW.PrintWords hiding add_at blk_alloc blk_below blk_cell blk_drewN blk_far blk_lt blk_new blk_set
set_option linter.unusedVariables false
set_option linter.unusedSimpArgs false

theorem wp_region_eq {P : Program} {id : Nat} {ops ops' : Array Oper} {r : Bool} {Q : Exit → Act → World → Prop} {a : Act} {w : World} (h : ops = ops') (hw : (Code.region id ops' r).wp P Q a w) : (Code.region id ops r).wp P Q a w := by
  rw [h]; exact hw
theorem seven_far {b : Nat → Value} {n m : Nat} (h : m < n ∨ n + 5 ≤ m) (u v a0 a1 a2 a3 a4 : Value) : (if m = n + 4 then u else if m = n + 3 then v else if m = n + 4 then a4 else if m = n + 3 then a3 else if m = n + 2 then a2 else if m = n + 1 then a1 else if m = n then a0 else b m) = b m := by
  rw [if_neg (by omega), if_neg (by omega), if_neg (by omega), if_neg (by omega), if_neg (by omega), if_neg (by omega), if_neg (by omega)]
set_option maxRecDepth 100000 in
set_option maxHeartbeats 16000000 in
theorem forms_any (w : World) : Calls Try.prog 6 #[] w fun e w' => e = .returned (.bool true) ∧ Below w.heap.size w w' := by
  have hu25 := Try.underlying25
  have hu40 := Try.underlying40
  have hu42 := Try.underlying42
  have hm13 := made13
  suffices hgoal : True from ?_
  · go_enter Try.func6, Try.ntmps6
    go_upto_region 6 with (first
      | (go_at_call 14; (with_reducible refine (begun_any _).mono ?_); rintro e W ⟨rfl, hb1⟩; have HB1 := Lib.hid hb1; clear hb1)
      | fail)
    obtain ⟨gp, hgp⟩ : ∃ g, W.heap.size = g := ⟨_, rfl⟩
    have es1 : ∀ o, (W.alloc o).heap.size = gp + 1 := fun o => by rw [← hgp]; show (W.heap.push _).size = _; simp
    have es2 : ∀ o o', ((W.alloc o).alloc o').heap.size = gp + 2 := fun o o' => by show ((W.alloc o).heap.push _).size = _; rw [Array.size_push, es1]
    have es3 : ∀ o o' o'', (((W.alloc o).alloc o').alloc o'').heap.size = gp + 3 := fun o o' o'' => by show (((W.alloc o).alloc o').heap.push _).size = _; rw [Array.size_push, es2]
    have HI0 := (show FI w ((((W.alloc (.cells #[.int .i64 0, .int .i64 7, .int .i64 2, .int .i64 1] 40)).alloc (.cells #[.int .i64 9, .int .i64 2] 42)).alloc (.cells #[.int .i64 2, .int .i64 1, .bool true, .slice (some ⟨gp, 0, none⟩) 2 2, .slice (some ⟨gp + 1, 0, none⟩) 1 1] 25)).alloc (.cells z65 25)) (gp + 2) gp (gp + 1) (gp + 3) 0 0 (fun _ => ⟨0, 0, [], 0, 0, []⟩) (fun _ => 0) (fun i => z65.getD i undef) from
      ⟨bel_alloc (bel_alloc (bel_alloc (bel_alloc HB1.out _) _) _) _,
        Mem.blk_alloc (by have h := Mem.blk_new ((W.alloc (.cells #[.int .i64 0, .int .i64 7, .int .i64 2, .int .i64 1] 40)).alloc (.cells #[.int .i64 9, .int .i64 2] 42)) (.cells #[.int .i64 2, .int .i64 1, .bool true, .slice (some ⟨gp, 0, none⟩) 2 2, .slice (some ⟨gp + 1, 0, none⟩) 1 1] 25); rw [es2] at h; exact h) _,
        Mem.blk_alloc (Mem.blk_alloc (Mem.blk_alloc (by have h := Mem.blk_new W (.cells #[.int .i64 0, .int .i64 7, .int .i64 2, .int .i64 1] 40); rw [hgp] at h; exact h) _) _) _,
        Mem.blk_alloc (Mem.blk_alloc (by have h := Mem.blk_new (W.alloc (.cells #[.int .i64 0, .int .i64 7, .int .i64 2, .int .i64 1] 40)) (.cells #[.int .i64 9, .int .i64 2] 42); rw [es1] at h; exact h) _) _,
        by have h := BArr.new (((W.alloc (.cells #[.int .i64 0, .int .i64 7, .int .i64 2, .int .i64 1] 40)).alloc (.cells #[.int .i64 9, .int .i64 2] 42)).alloc (.cells #[.int .i64 2, .int .i64 1, .bool true, .slice (some ⟨gp, 0, none⟩) 2 2, .slice (some ⟨gp + 1, 0, none⟩) 1 1] 25)); rw [es3] at h; exact h,
        fun i hi => by omega, fun i hi => by omega, fun i hi => by omega, fun i hi => by omega, rfl, rfl, rfl, rfl⟩)
    have hwp : w.heap.size ≤ gp := by rw [← hgp]; exact HB1.out.size
    simp only [es1, es2, es3, hgp, Nat.add_assoc, Nat.reduceAdd]
    obtain ⟨Y0, hY0⟩ : ∃ Y, ((((W.alloc (.cells #[.int .i64 0, .int .i64 7, .int .i64 2, .int .i64 1] 40)).alloc (.cells #[.int .i64 9, .int .i64 2] 42)).alloc (.cells #[.int .i64 2, .int .i64 1, .bool true, .slice (some ⟨gp, 0, none⟩) 2 2, .slice (some ⟨gp + 1, 0, none⟩) 1 1] 25)).alloc (.cells z65 25)) = Y := ⟨_, rfl⟩
    rw [hY0] at HI0 ⊢
    have HI := Lib.hid HI0
    clear hY0 HI0 es1 es2 es3 hm13 hgp HB1 W
    go_loopw [3] (fun i wr => ∃ k : Nat, k ≤ 13 ∧ i = .int .i64 k ∧ ∃ D tag b, FI w wr (gp + 2) gp (gp + 1) (gp + 3) k k D tag b ∧ ∀ j, j < k → (D j).rv = okR ∧ (D j).sp = okS ∧ b (5 * j) = .int .i64 2 ∧ b (5 * j + 1) = .int .i64 1 ∧ b (5 * j + 2) = .bool true ∧ b (5 * j + 3) = .slice (some ⟨(D j).ra, 0, none⟩) 2 (D j).rc ∧ b (5 * j + 4) = .slice (some ⟨(D j).sa, 0, none⟩) 1 (D j).sc) (fun i _ => 13 - (intOf i).toNat)
    case atStart => exact ⟨0, by omega, rfl, _, _, _, HI.out, fun j hj => by omega⟩
    case round =>
      obtain ⟨k, hk, rfl, D, tag, b, RI, RB⟩ := hrel
      clear HI
      by_cases hkt : k < 13
      · have hc5 := cells5 RI.box
        have HRI := Lib.hid RI
        have HRB := Lib.hid RB
        clear RI RB
        go_upto_region 9 with (first
          | ((with_reducible refine gate_ (.store 25 (.tmp 30) (.tmp 29)) rfl ?_); refine wp_store5 rfl rfl 25 (.tmp 30) (.tmp 29) rfl HRI.out.arr (n := k * 5) (by omega) rfl rfl (by kernel_rfl) (by simp [Value.oneCell']) ?_)
          | fail)
        obtain ⟨W1, hW1⟩ : ∃ W1, World.setCells wr (gp + 3) (k * 5) [.int .i64 2, .int .i64 1, .bool true, .slice (some ⟨gp, 0, none⟩) 2 2, .slice (some ⟨gp + 1, 0, none⟩) 1 1] = W1 := ⟨_, rfl⟩
        have R1 := HRI.out.put5 (by omega) (by omega) (by omega) (by omega) (k * 5) (.int .i64 2) (.int .i64 1) (.bool true) (.slice (some ⟨gp, 0, none⟩) 2 2) (.slice (some ⟨gp + 1, 0, none⟩) 1 1)
        rw [hW1] at R1 ⊢
        clear hW1 hc5
        have hc5 := cells5a R1.box
        have HR1 := Lib.hid R1
        clear R1
        go_upto_region 10 with (first
          | (at_builtin; refine Kd.R_append_rows k40 (w0 := w) w.heap.size rfl (.tmp 33) (.tmp 35) 22 40 (.agg #[.int .i64 0, .int .i64 0]) 16 rfl Try.underlying22 (by kernel_rfl) rfl (by decide) (by omega) _ [] okR (some ⟨gp, 0, none⟩) 2 2 (fun _ => True) (fun _ => False) rfl rfl (row_empty40 W1 w.heap.size HR1.out.bel.size) (c_okR (Mem.blk_alloc HR1.out.prt _)) (fun x cs h => by rw [k40_open h]; exact k40_mkM _ _ _ _) (fun _ h => h.elim) (fun _ _ => trivial) (bel_alloc HR1.out.bel _) (by have := bel_alloc HR1.out.bel (.cells #[] 40); exact this.size) (by decide) ?_; intro v2 W2 R2 B2 G2 A2; obtain ⟨gr, cp2, rfl, hgr0, hgr1, _⟩ := Kd.R_form R2 (by decide); rw [show (([] : List RV) ++ okR).length = 2 from rfl] at R2 ⊢; rw [show (([] : List RV) ++ okR) = okR from rfl] at R2; have Hgr := Lib.hid (own_ge A2 (bel_alloc (Below.refl W1.heap.size W1) (.cells #[] 40)).size); have HBW2 := Lib.hid ((bel_alloc (Below.refl W1.heap.size W1) (.cells #[] 40)).grown G2 (bel_alloc (Below.refl W1.heap.size W1) (.cells #[] 40)).size (fun x hx => by injection hx with hx; have hx : W1.heap.size = x := hx; omega)); have HOW2 := Lib.hid (row_own40 R2); clear R2 B2 G2 A2 hgr0 hgr1; have R3 := HR1.out.more HBW2.out Hgr.out HOW2.out; have hcell := R3.arr.at (i := k * 5 + 3) (by omega); have hfr := R3.arr.free (k * 5 + 3); have HR3 := Lib.hid R3; clear R3 hc5)
          | fail)
        obtain ⟨W3, hW3⟩ : ∃ W3, W2.setCell ⟨gp + 3, k * 5 + 3, none⟩ (.slice (some ⟨gr, 0, none⟩) 2 cp2) = W3 := ⟨_, rfl⟩
        have R4 := HR3.out.put (by omega) (by omega) (by omega) (by omega) (k * 5 + 3) (.slice (some ⟨gr, 0, none⟩) 2 cp2)
        rw [hW3] at R4 ⊢
        clear hW3 HR3 hcell hfr HBW2 HOW2 Hgr
        have hc5 := cells5a R4.box
        have HR4 := Lib.hid R4
        clear R4
        go_wp2_with (first
          | (at_builtin; refine Kd.R_append_rows k42 (w0 := w) w.heap.size rfl (.tmp 41) (.tmp 43) 23 42 (.agg #[.int .i64 0, .int .i64 0]) 16 rfl Try.underlying23 (by kernel_rfl) rfl (by decide) (by omega) _ [] okS (some ⟨(gp + 1), 0, none⟩) 1 1 (fun _ => True) (fun _ => False) rfl rfl (row_empty42 W3 w.heap.size HR4.out.bel.size) (c_okS (Mem.blk_alloc HR4.out.spt _)) (fun x cs h => by rw [k42_open h]; exact k42_mkM _ _ _ _) (fun _ h => h.elim) (fun _ _ => trivial) (bel_alloc HR4.out.bel _) (by have := bel_alloc HR4.out.bel (.cells #[] 42); exact this.size) (by decide) ?_; intro v4 W4 R2 B2 G2 A2; obtain ⟨gq, cq, rfl, hgr0, hgr1, _⟩ := Kd.R_form R2 (by decide); rw [show (([] : List SP) ++ okS).length = 1 from rfl] at R2 ⊢; rw [show (([] : List SP) ++ okS) = okS from rfl] at R2; have Hgq := Lib.hid (own_ge A2 (bel_alloc (Below.refl W3.heap.size W3) (.cells #[] 42)).size); have HBW4 := Lib.hid ((bel_alloc (Below.refl W3.heap.size W3) (.cells #[] 42)).grown G2 (bel_alloc (Below.refl W3.heap.size W3) (.cells #[] 42)).size (fun x hx => by injection hx with hx; have hx : W3.heap.size = x := hx; omega)); have HOW4 := Lib.hid (row_own42 R2); clear R2 B2 G2 A2 hgr0 hgr1; have R5 := HR4.out.span HBW4.out Hgq.out HOW4.out; have hcell := R5.arr.at (i := k * 5 + 4) (by omega); have hfr := R5.arr.free (k * 5 + 4); have HR5 := Lib.hid R5; clear R5 hc5)
          | fail)
        go_roundw
        case measure => simp [intOf]; omega
        case rel =>
          refine ⟨k + 1, by omega, by go_num, _, _, _, HR5.out.put (by omega) (by omega) (by omega) (by omega) (k * 5 + 4) (.slice (some ⟨gq, 0, none⟩) 1 cq), fun j hj => ?_⟩
          by_cases e : j = k
          · subst e
            rw [show 5 * j = j * 5 by omega]
            simp
          · obtain ⟨b0, b1, b2, b3, b4, b5, b6⟩ := HRB.out j (by omega)
            simp only [if_neg e]
            exact ⟨b0, b1, (seven_far (by omega) _ _ _ _ _ _ _).trans b2, (seven_far (by omega) _ _ _ _ _ _ _).trans b3, (seven_far (by omega) _ _ _ _ _ _ _).trans b4, (seven_far (by omega) _ _ _ _ _ _ _).trans b5, (seven_far (by omega) _ _ _ _ _ _ _).trans b6⟩
      · have hkt2 : k = 13 := by omega
        subst hkt2
        rw [show ((13 : Nat) : Int) = 13 from rfl]
        obtain ⟨Y, hY⟩ : ∃ Y, wr = Y := ⟨_, rfl⟩
        rw [hY] at RI ⊢
        clear hY
        have HRB := Lib.hid RB
        clear RB
        have c0 := RI.arr.at (i := 0) (by decide)
        have f0 := RI.arr.free 0
        have HRI := Lib.hid RI
        clear RI
        go_upto_region 12 with (fail)
        have RI := HRI.out.put (by omega) (by omega) (by omega) (by omega) 0 (.int .i64 0)
        obtain ⟨Y11, hY⟩ : ∃ Z, Y.setCell ⟨gp + 3, 0, none⟩ (.int .i64 0) = Z := ⟨_, rfl⟩
        rw [hY] at RI ⊢
        clear hY HRI c0 f0
        have c0 := RI.arr.at (i := 5) (by decide)
        have f0 := RI.arr.free 5
        have HRI := Lib.hid RI
        clear RI
        go_upto_region 13 with (fail)
        have RI := HRI.out.put (by omega) (by omega) (by omega) (by omega) 5 (.int .i64 4)
        obtain ⟨Y12, hY⟩ : ∃ Z, Y11.setCell ⟨gp + 3, 5, none⟩ (.int .i64 4) = Z := ⟨_, rfl⟩
        rw [hY] at RI ⊢
        clear hY HRI c0 f0
        have c0 := RI.arr.at (i := 11) (by decide)
        have f0 := RI.arr.free 11
        have HRI := Lib.hid RI
        clear RI
        go_upto_region 14 with (fail)
        have RI := HRI.out.put (by omega) (by omega) (by omega) (by omega) 11 (.int .i64 (-1))
        obtain ⟨Y13, hY⟩ : ∃ Z, Y12.setCell ⟨gp + 3, 11, none⟩ (.int .i64 (-1)) = Z := ⟨_, rfl⟩
        rw [hY] at RI ⊢
        clear hY HRI c0 f0
        have c0 := RI.arr.at (i := 16) (by decide)
        have f0 := RI.arr.free 16
        have HRI := Lib.hid RI
        clear RI
        go_upto_region 15 with (fail)
        have RI := HRI.out.put (by omega) (by omega) (by omega) (by omega) 16 (.int .i64 6)
        obtain ⟨Y14, hY⟩ : ∃ Z, Y13.setCell ⟨gp + 3, 16, none⟩ (.int .i64 6) = Z := ⟨_, rfl⟩
        rw [hY] at RI ⊢
        clear hY HRI c0 f0
        have c0 := RI.arr.at (i := 23) (by decide)
        have f0 := RI.arr.free 23
        have HRI := Lib.hid RI
        clear RI
        go_upto_region 16 with (fail)
        have RI := HRI.out.put (by omega) (by omega) (by omega) (by omega) 23 (.slice none 0 0)
        obtain ⟨Y15, hY⟩ : ∃ Z, Y14.setCell ⟨gp + 3, 23, none⟩ (.slice none 0 0) = Z := ⟨_, rfl⟩
        rw [hY] at RI ⊢
        clear hY HRI c0 f0
        obtain ⟨lx, ly, _, _, _, qx, qy⟩ := HRB.out 5 (by decide)
        have hv : Y15.cell? ⟨gp + 3, 28, none⟩ = some (.slice (some ⟨(D 5).ra, 0, none⟩) 2 (D 5).rc) := (RI.arr.at (i := 28) (by decide)).trans (congrArg some qx)
        have hR : Kd.R k40 40 Y15 w.heap.size (fun x => x = (D 5).ra) (.slice (some ⟨(D 5).ra, 0, none⟩) 2 (D 5).rc) (D 5).rv := RI.row 5 (by decide)
        rw [lx] at hR
        obtain ⟨c9, hcl, hM, hcc, hfz⟩ := Kd.R_elem hR (⟨0, 0⟩ : RV) 0 (by decide) (by decide)
        obtain rfl := k40_openM hM
        have HRI := Lib.hid RI
        have HRc := Lib.hid hR
        have HCC := Lib.hid hcc
        clear RI hR hcc hM hfz lx ly qx qy
        go_upto_region 17 with (first
          | ((with_reducible refine gate_ (.store 3 (.tmp 67) (.const (.int .i64 1))) rfl ?_); refine Kd.R_store k40 (w0 := Y15) w.heap.size rfl rfl 3 (.tmp 67) (.const (.int .i64 1)) rfl 40 (0 : Int) 0 okR (⟨1, 7⟩ : RV) (.int .i64 1) [.int .i64 1] _ (fun x => x = (D 5).ra) (fun _ => False) rfl rfl rfl rfl (by kernel_rfl) (fun q hq => by rw [List.mem_singleton.1 hq]; rfl) HRc.out (by decide) (by decide) hcl HCC.out (by decide) (k40_mkM _ _ _ (⟨1, 7⟩ : RV)) (fun _ h => h.elim) (Below.refl _ _) ?_; intro Y16 R1 _ G1)
          | fail)
        have RI := HRI.out.rcv HRI.out.bel.size (i := 5) (by decide) (Kd.R_base HRc.out _ rfl) R1 G1
        clear HRI HRc HCC hcl hv R1 G1
        obtain ⟨lx, ly, _, _, _, qx, qy⟩ := HRB.out 6 (by decide)
        have hv : Y16.cell? ⟨gp + 3, 33, none⟩ = some (.slice (some ⟨(D 6).ra, 0, none⟩) 2 (D 6).rc) := (RI.arr.at (i := 33) (by decide)).trans (congrArg some qx)
        have hR : Kd.R k40 40 Y16 w.heap.size (fun x => x = (D 6).ra) (.slice (some ⟨(D 6).ra, 0, none⟩) 2 (D 6).rc) (D 6).rv := RI.row 6 (by decide)
        rw [lx] at hR
        obtain ⟨c9, hcl, hM, hcc, hfz⟩ := Kd.R_elem hR (⟨0, 0⟩ : RV) 0 (by decide) (by decide)
        obtain rfl := k40_openM hM
        have HRI := Lib.hid RI
        have HRc := Lib.hid hR
        have HCC := Lib.hid hcc
        clear RI hR hcc hM hfz lx ly qx qy
        go_upto_region 18 with (first
          | ((with_reducible refine gate_ (.store 3 (.tmp 73) (.const (.int .i64 2))) rfl ?_); refine Kd.R_store k40 (w0 := Y16) w.heap.size rfl rfl 3 (.tmp 73) (.const (.int .i64 2)) rfl 40 (0 : Int) 0 okR (⟨2, 7⟩ : RV) (.int .i64 2) [.int .i64 2] _ (fun x => x = (D 6).ra) (fun _ => False) rfl rfl rfl rfl (by kernel_rfl) (fun q hq => by rw [List.mem_singleton.1 hq]; rfl) HRc.out (by decide) (by decide) hcl HCC.out (by decide) (k40_mkM _ _ _ (⟨2, 7⟩ : RV)) (fun _ h => h.elim) (Below.refl _ _) ?_; intro Y17 R1 _ G1)
          | fail)
        have RI := HRI.out.rcv HRI.out.bel.size (i := 6) (by decide) (Kd.R_base HRc.out _ rfl) R1 G1
        clear HRI HRc HCC hcl hv R1 G1
        obtain ⟨lx, ly, _, _, _, qx, qy⟩ := HRB.out 7 (by decide)
        have hv : Y17.cell? ⟨gp + 3, 38, none⟩ = some (.slice (some ⟨(D 7).ra, 0, none⟩) 2 (D 7).rc) := (RI.arr.at (i := 38) (by decide)).trans (congrArg some qx)
        have hR : Kd.R k40 40 Y17 w.heap.size (fun x => x = (D 7).ra) (.slice (some ⟨(D 7).ra, 0, none⟩) 2 (D 7).rc) (D 7).rv := RI.row 7 (by decide)
        rw [lx] at hR
        obtain ⟨c9, hcl, hM, hcc, hfz⟩ := Kd.R_elem hR (⟨0, 0⟩ : RV) 0 (by decide) (by decide)
        obtain rfl := k40_openM hM
        have HRI := Lib.hid RI
        have HRc := Lib.hid hR
        have HCC := Lib.hid hcc
        clear RI hR hcc hM hfz lx ly qx qy
        go_upto_region 19 with (first
          | ((with_reducible refine gate_ (.store 3 (.tmp 79) (.const (.int .i64 0))) rfl ?_); refine Kd.R_store k40 (w0 := Y17) w.heap.size rfl rfl 3 (.tmp 79) (.const (.int .i64 0)) rfl 40 (0 : Int) 1 okR (⟨0, 0⟩ : RV) (.int .i64 0) [.int .i64 0] _ (fun x => x = (D 7).ra) (fun _ => False) rfl rfl rfl rfl (by kernel_rfl) (fun q hq => by rw [List.mem_singleton.1 hq]; rfl) HRc.out (by decide) (by decide) hcl HCC.out (by decide) (k40_mkM _ _ _ (⟨0, 0⟩ : RV)) (fun _ h => h.elim) (Below.refl _ _) ?_; intro Y18 R1 _ G1)
          | fail)
        have RI := HRI.out.rcv HRI.out.bel.size (i := 7) (by decide) (Kd.R_base HRc.out _ rfl) R1 G1
        clear HRI HRc HCC hcl hv R1 G1
        obtain ⟨lx, ly, _, _, _, qx, qy⟩ := HRB.out 8 (by decide)
        have hv : Y18.cell? ⟨gp + 3, 43, none⟩ = some (.slice (some ⟨(D 8).ra, 0, none⟩) 2 (D 8).rc) := (RI.arr.at (i := 43) (by decide)).trans (congrArg some qx)
        have hR : Kd.R k40 40 Y18 w.heap.size (fun x => x = (D 8).ra) (.slice (some ⟨(D 8).ra, 0, none⟩) 2 (D 8).rc) (D 8).rv := RI.row 8 (by decide)
        rw [lx] at hR
        obtain ⟨c9, hcl, hM, hcc, hfz⟩ := Kd.R_elem hR (⟨0, 0⟩ : RV) 1 (by decide) (by decide)
        obtain rfl := k40_openM hM
        have HRI := Lib.hid RI
        have HRc := Lib.hid hR
        have HCC := Lib.hid hcc
        clear RI hR hcc hM hfz lx ly qx qy
        go_upto_region 20 with (first
          | ((with_reducible refine gate_ (.store 3 (.tmp 85) (.const (.int .i64 8))) rfl ?_); refine Kd.R_store k40 (w0 := Y18) w.heap.size rfl rfl 3 (.tmp 85) (.const (.int .i64 8)) rfl 40 (1 : Int) 1 okR (⟨2, 8⟩ : RV) (.int .i64 8) [.int .i64 8] _ (fun x => x = (D 8).ra) (fun _ => False) rfl rfl rfl rfl (by kernel_rfl) (fun q hq => by rw [List.mem_singleton.1 hq]; rfl) HRc.out (by decide) (by decide) hcl HCC.out (by decide) (k40_mkM _ _ _ (⟨2, 8⟩ : RV)) (fun _ h => h.elim) (Below.refl _ _) ?_; intro Y19 R1 _ G1)
          | fail)
        have RI := HRI.out.rcv HRI.out.bel.size (i := 8) (by decide) (Kd.R_base HRc.out _ rfl) R1 G1
        clear HRI HRc HCC hcl hv R1 G1
        have c0 := RI.arr.at (i := 45) (by decide)
        have f0 := RI.arr.free 45
        have HRI := Lib.hid RI
        clear RI
        go_upto_region 21 with (fail)
        have RI := HRI.out.put (by omega) (by omega) (by omega) (by omega) 45 (.int .i64 1)
        obtain ⟨Y20, hY⟩ : ∃ Z, Y19.setCell ⟨gp + 3, 45, none⟩ (.int .i64 1) = Z := ⟨_, rfl⟩
        rw [hY] at RI ⊢
        clear hY HRI c0 f0
        have c0 := RI.arr.at (i := 50) (by decide)
        have f0 := RI.arr.free 50
        have HRI := Lib.hid RI
        clear RI
        go_upto_region 22 with (fail)
        have RI := HRI.out.put (by omega) (by omega) (by omega) (by omega) 50 (.int .i64 3)
        obtain ⟨Y21, hY⟩ : ∃ Z, Y20.setCell ⟨gp + 3, 50, none⟩ (.int .i64 3) = Z := ⟨_, rfl⟩
        rw [hY] at RI ⊢
        clear hY HRI c0 f0
        have c0 := RI.arr.at (i := 59) (by decide)
        have f0 := RI.arr.free 59
        have HRI := Lib.hid RI
        clear RI
        go_upto_region 23 with (fail)
        have RI := HRI.out.put (by omega) (by omega) (by omega) (by omega) 59 (.slice none 0 0)
        obtain ⟨Y22, hY⟩ : ∃ Z, Y21.setCell ⟨gp + 3, 59, none⟩ (.slice none 0 0) = Z := ⟨_, rfl⟩
        rw [hY] at RI ⊢
        clear hY HRI c0 f0
        obtain ⟨lx, ly, _, _, _, qx, qy⟩ := HRB.out 12 (by decide)
        have hv : Y22.cell? ⟨gp + 3, 64, none⟩ = some (.slice (some ⟨(D 12).sa, 0, none⟩) 1 (D 12).sc) := (RI.arr.at (i := 64) (by decide)).trans (congrArg some qy)
        have hR : Kd.R k42 42 Y22 w.heap.size (fun x => x = (D 12).sa) (.slice (some ⟨(D 12).sa, 0, none⟩) 1 (D 12).sc) (D 12).sp := RI.row2 12 (by decide)
        rw [ly] at hR
        obtain ⟨c9, hcl, hM, hcc, hfz⟩ := Kd.R_elem hR (⟨0, 0⟩ : SP) 0 (by decide) (by decide)
        obtain rfl := k42_openM hM
        have HRI := Lib.hid RI
        have HRc := Lib.hid hR
        have HCC := Lib.hid hcc
        clear RI hR hcc hM hfz lx ly qx qy
        go_upto_region 24 with (first
          | ((with_reducible refine gate_ (.store 3 (.tmp 100) (.const (.int .i64 41))) rfl ?_); refine Kd.R_store k42 (w0 := Y22) w.heap.size rfl rfl 3 (.tmp 100) (.const (.int .i64 41)) rfl 42 (0 : Int) 1 okS (⟨9, 41⟩ : SP) (.int .i64 41) [.int .i64 41] _ (fun x => x = (D 12).sa) (fun _ => False) rfl rfl rfl rfl (by kernel_rfl) (fun q hq => by rw [List.mem_singleton.1 hq]; rfl) HRc.out (by decide) (by decide) hcl HCC.out (by decide) (k42_mkM _ _ _ (⟨9, 41⟩ : SP)) (fun _ h => h.elim) (Below.refl _ _) ?_; intro Y23 R1 _ G1)
          | fail)
        have RI := HRI.out.spn HRI.out.bel.size (i := 12) (by decide) (Kd.R_base HRc.out _ rfl) R1 G1
        clear HRI HRc HCC hcl hv R1 G1
        have HT : ∀ i, i < 13 → ∃ (K S : Int) (A : Option Addr) (n c : Nat) (rv : List RV) (B : Option Addr) (m e : Nat) (sp : List SP), Y23.cell? ⟨gp + 3, i * 5, none⟩ = some (.int .i64 K) ∧ Y23.cell? ⟨gp + 3, i * 5 + 1, none⟩ = some (.int .i64 S) ∧ Y23.cell? ⟨gp + 3, i * 5 + 2, none⟩ = some (.bool true) ∧ Y23.cell? ⟨gp + 3, i * 5 + 3, none⟩ = some (.slice A n c) ∧ Y23.cell? ⟨gp + 3, i * 5 + 4, none⟩ = some (.slice B m e) ∧
            rv.length = n ∧ n ≤ c ∧ Kd.C k40 Y23 A n rv ∧ sp.length = m ∧ m ≤ e ∧ Kd.C k42 Y23 B m sp ∧ mayD K S true rv sp = false := by
          intro i hi
          rcases (show i = 0 ∨ i = 1 ∨ i = 2 ∨ i = 3 ∨ i = 4 ∨ i = 5 ∨ i = 6 ∨ i = 7 ∨ i = 8 ∨ i = 9 ∨ i = 10 ∨ i = 11 ∨ i = 12 by omega) with rfl | rfl | rfl | rfl | rfl | rfl | rfl | rfl | rfl | rfl | rfl | rfl | rfl
          · obtain ⟨lx, ly, q0, q1, q2, q3, q4⟩ := HRB.out 0 (by decide)
            refine ⟨(0), (1), (some ⟨(D 0).ra, 0, none⟩), 2, (D 0).rc, okR, (some ⟨(D 0).sa, 0, none⟩), 1, (D 0).sc, okS, ?_, ?_, ?_, ?_, ?_, rfl, ?_, ?_, rfl, ?_, ?_, by decide +kernel⟩
            · exact (RI.arr.at (i := 0) (by decide)).trans (congrArg some (by simp))
            · exact (RI.arr.at (i := 1) (by decide)).trans (congrArg some (by simp; exact q1))
            · exact (RI.arr.at (i := 2) (by decide)).trans (congrArg some (by simp; exact q2))
            · exact (RI.arr.at (i := 3) (by decide)).trans (congrArg some (by simp; exact q3))
            · exact (RI.arr.at (i := 4) (by decide)).trans (congrArg some (by simp; exact q4))
            · exact (show 2 ≤ (D 0).rc from (Kd.R_reads' (RI.row 0 (by decide))).2.1)
            · have hr : Kd.C k40 Y23 (some ⟨(D 0).ra, 0, none⟩) (D 0).rv.length (D 0).rv := (Kd.R_reads' (RI.row 0 (by decide))).2.2
              rw [lx] at hr
              exact hr
            · exact (show 1 ≤ (D 0).sc from (Kd.R_reads' (RI.row2 0 (by decide))).2.1)
            · have hr : Kd.C k42 Y23 (some ⟨(D 0).sa, 0, none⟩) (D 0).sp.length (D 0).sp := (Kd.R_reads' (RI.row2 0 (by decide))).2.2
              rw [ly] at hr
              exact hr
          · obtain ⟨lx, ly, q0, q1, q2, q3, q4⟩ := HRB.out 1 (by decide)
            refine ⟨(4), (1), (some ⟨(D 1).ra, 0, none⟩), 2, (D 1).rc, okR, (some ⟨(D 1).sa, 0, none⟩), 1, (D 1).sc, okS, ?_, ?_, ?_, ?_, ?_, rfl, ?_, ?_, rfl, ?_, ?_, by decide +kernel⟩
            · exact (RI.arr.at (i := 5) (by decide)).trans (congrArg some (by simp))
            · exact (RI.arr.at (i := 6) (by decide)).trans (congrArg some (by simp; exact q1))
            · exact (RI.arr.at (i := 7) (by decide)).trans (congrArg some (by simp; exact q2))
            · exact (RI.arr.at (i := 8) (by decide)).trans (congrArg some (by simp; exact q3))
            · exact (RI.arr.at (i := 9) (by decide)).trans (congrArg some (by simp; exact q4))
            · exact (show 2 ≤ (D 1).rc from (Kd.R_reads' (RI.row 1 (by decide))).2.1)
            · have hr : Kd.C k40 Y23 (some ⟨(D 1).ra, 0, none⟩) (D 1).rv.length (D 1).rv := (Kd.R_reads' (RI.row 1 (by decide))).2.2
              rw [lx] at hr
              exact hr
            · exact (show 1 ≤ (D 1).sc from (Kd.R_reads' (RI.row2 1 (by decide))).2.1)
            · have hr : Kd.C k42 Y23 (some ⟨(D 1).sa, 0, none⟩) (D 1).sp.length (D 1).sp := (Kd.R_reads' (RI.row2 1 (by decide))).2.2
              rw [ly] at hr
              exact hr
          · obtain ⟨lx, ly, q0, q1, q2, q3, q4⟩ := HRB.out 2 (by decide)
            refine ⟨(2), (-1), (some ⟨(D 2).ra, 0, none⟩), 2, (D 2).rc, okR, (some ⟨(D 2).sa, 0, none⟩), 1, (D 2).sc, okS, ?_, ?_, ?_, ?_, ?_, rfl, ?_, ?_, rfl, ?_, ?_, by decide +kernel⟩
            · exact (RI.arr.at (i := 10) (by decide)).trans (congrArg some (by simp; exact q0))
            · exact (RI.arr.at (i := 11) (by decide)).trans (congrArg some (by simp))
            · exact (RI.arr.at (i := 12) (by decide)).trans (congrArg some (by simp; exact q2))
            · exact (RI.arr.at (i := 13) (by decide)).trans (congrArg some (by simp; exact q3))
            · exact (RI.arr.at (i := 14) (by decide)).trans (congrArg some (by simp; exact q4))
            · exact (show 2 ≤ (D 2).rc from (Kd.R_reads' (RI.row 2 (by decide))).2.1)
            · have hr : Kd.C k40 Y23 (some ⟨(D 2).ra, 0, none⟩) (D 2).rv.length (D 2).rv := (Kd.R_reads' (RI.row 2 (by decide))).2.2
              rw [lx] at hr
              exact hr
            · exact (show 1 ≤ (D 2).sc from (Kd.R_reads' (RI.row2 2 (by decide))).2.1)
            · have hr : Kd.C k42 Y23 (some ⟨(D 2).sa, 0, none⟩) (D 2).sp.length (D 2).sp := (Kd.R_reads' (RI.row2 2 (by decide))).2.2
              rw [ly] at hr
              exact hr
          · obtain ⟨lx, ly, q0, q1, q2, q3, q4⟩ := HRB.out 3 (by decide)
            refine ⟨(2), (6), (some ⟨(D 3).ra, 0, none⟩), 2, (D 3).rc, okR, (some ⟨(D 3).sa, 0, none⟩), 1, (D 3).sc, okS, ?_, ?_, ?_, ?_, ?_, rfl, ?_, ?_, rfl, ?_, ?_, by decide +kernel⟩
            · exact (RI.arr.at (i := 15) (by decide)).trans (congrArg some (by simp; exact q0))
            · exact (RI.arr.at (i := 16) (by decide)).trans (congrArg some (by simp))
            · exact (RI.arr.at (i := 17) (by decide)).trans (congrArg some (by simp; exact q2))
            · exact (RI.arr.at (i := 18) (by decide)).trans (congrArg some (by simp; exact q3))
            · exact (RI.arr.at (i := 19) (by decide)).trans (congrArg some (by simp; exact q4))
            · exact (show 2 ≤ (D 3).rc from (Kd.R_reads' (RI.row 3 (by decide))).2.1)
            · have hr : Kd.C k40 Y23 (some ⟨(D 3).ra, 0, none⟩) (D 3).rv.length (D 3).rv := (Kd.R_reads' (RI.row 3 (by decide))).2.2
              rw [lx] at hr
              exact hr
            · exact (show 1 ≤ (D 3).sc from (Kd.R_reads' (RI.row2 3 (by decide))).2.1)
            · have hr : Kd.C k42 Y23 (some ⟨(D 3).sa, 0, none⟩) (D 3).sp.length (D 3).sp := (Kd.R_reads' (RI.row2 3 (by decide))).2.2
              rw [ly] at hr
              exact hr
          · obtain ⟨lx, ly, q0, q1, q2, q3, q4⟩ := HRB.out 4 (by decide)
            refine ⟨(2), (1), none, 0, 0, [], (some ⟨(D 4).sa, 0, none⟩), 1, (D 4).sc, okS, ?_, ?_, ?_, ?_, ?_, rfl, ?_, ?_, rfl, ?_, ?_, by decide +kernel⟩
            · exact (RI.arr.at (i := 20) (by decide)).trans (congrArg some (by simp; exact q0))
            · exact (RI.arr.at (i := 21) (by decide)).trans (congrArg some (by simp; exact q1))
            · exact (RI.arr.at (i := 22) (by decide)).trans (congrArg some (by simp; exact q2))
            · exact (RI.arr.at (i := 23) (by decide)).trans (congrArg some (by simp))
            · exact (RI.arr.at (i := 24) (by decide)).trans (congrArg some (by simp; exact q4))
            · exact Nat.le_refl _
            · exact Kd.C_nil _ _
            · exact (show 1 ≤ (D 4).sc from (Kd.R_reads' (RI.row2 4 (by decide))).2.1)
            · have hr : Kd.C k42 Y23 (some ⟨(D 4).sa, 0, none⟩) (D 4).sp.length (D 4).sp := (Kd.R_reads' (RI.row2 4 (by decide))).2.2
              rw [ly] at hr
              exact hr
          · obtain ⟨lx, ly, q0, q1, q2, q3, q4⟩ := HRB.out 5 (by decide)
            refine ⟨(2), (1), (some ⟨(D 5).ra, 0, none⟩), 2, (D 5).rc, (okR.set (0 : Int).toNat ⟨1, 7⟩), (some ⟨(D 5).sa, 0, none⟩), 1, (D 5).sc, okS, ?_, ?_, ?_, ?_, ?_, rfl, ?_, ?_, rfl, ?_, ?_, by decide +kernel⟩
            · exact (RI.arr.at (i := 25) (by decide)).trans (congrArg some (by simp; exact q0))
            · exact (RI.arr.at (i := 26) (by decide)).trans (congrArg some (by simp; exact q1))
            · exact (RI.arr.at (i := 27) (by decide)).trans (congrArg some (by simp; exact q2))
            · exact (RI.arr.at (i := 28) (by decide)).trans (congrArg some (by simp; exact q3))
            · exact (RI.arr.at (i := 29) (by decide)).trans (congrArg some (by simp; exact q4))
            · exact (show 2 ≤ (D 5).rc from (Kd.R_reads' (RI.row 5 (by decide))).2.1)
            · exact (Kd.R_reads' (RI.row 5 (by decide))).2.2
            · exact (show 1 ≤ (D 5).sc from (Kd.R_reads' (RI.row2 5 (by decide))).2.1)
            · have hr : Kd.C k42 Y23 (some ⟨(D 5).sa, 0, none⟩) (D 5).sp.length (D 5).sp := (Kd.R_reads' (RI.row2 5 (by decide))).2.2
              rw [ly] at hr
              exact hr
          · obtain ⟨lx, ly, q0, q1, q2, q3, q4⟩ := HRB.out 6 (by decide)
            refine ⟨(2), (1), (some ⟨(D 6).ra, 0, none⟩), 2, (D 6).rc, (okR.set (0 : Int).toNat ⟨2, 7⟩), (some ⟨(D 6).sa, 0, none⟩), 1, (D 6).sc, okS, ?_, ?_, ?_, ?_, ?_, rfl, ?_, ?_, rfl, ?_, ?_, by decide +kernel⟩
            · exact (RI.arr.at (i := 30) (by decide)).trans (congrArg some (by simp; exact q0))
            · exact (RI.arr.at (i := 31) (by decide)).trans (congrArg some (by simp; exact q1))
            · exact (RI.arr.at (i := 32) (by decide)).trans (congrArg some (by simp; exact q2))
            · exact (RI.arr.at (i := 33) (by decide)).trans (congrArg some (by simp; exact q3))
            · exact (RI.arr.at (i := 34) (by decide)).trans (congrArg some (by simp; exact q4))
            · exact (show 2 ≤ (D 6).rc from (Kd.R_reads' (RI.row 6 (by decide))).2.1)
            · exact (Kd.R_reads' (RI.row 6 (by decide))).2.2
            · exact (show 1 ≤ (D 6).sc from (Kd.R_reads' (RI.row2 6 (by decide))).2.1)
            · have hr : Kd.C k42 Y23 (some ⟨(D 6).sa, 0, none⟩) (D 6).sp.length (D 6).sp := (Kd.R_reads' (RI.row2 6 (by decide))).2.2
              rw [ly] at hr
              exact hr
          · obtain ⟨lx, ly, q0, q1, q2, q3, q4⟩ := HRB.out 7 (by decide)
            refine ⟨(2), (1), (some ⟨(D 7).ra, 0, none⟩), 2, (D 7).rc, (okR.set (0 : Int).toNat ⟨0, 0⟩), (some ⟨(D 7).sa, 0, none⟩), 1, (D 7).sc, okS, ?_, ?_, ?_, ?_, ?_, rfl, ?_, ?_, rfl, ?_, ?_, by decide +kernel⟩
            · exact (RI.arr.at (i := 35) (by decide)).trans (congrArg some (by simp; exact q0))
            · exact (RI.arr.at (i := 36) (by decide)).trans (congrArg some (by simp; exact q1))
            · exact (RI.arr.at (i := 37) (by decide)).trans (congrArg some (by simp; exact q2))
            · exact (RI.arr.at (i := 38) (by decide)).trans (congrArg some (by simp; exact q3))
            · exact (RI.arr.at (i := 39) (by decide)).trans (congrArg some (by simp; exact q4))
            · exact (show 2 ≤ (D 7).rc from (Kd.R_reads' (RI.row 7 (by decide))).2.1)
            · exact (Kd.R_reads' (RI.row 7 (by decide))).2.2
            · exact (show 1 ≤ (D 7).sc from (Kd.R_reads' (RI.row2 7 (by decide))).2.1)
            · have hr : Kd.C k42 Y23 (some ⟨(D 7).sa, 0, none⟩) (D 7).sp.length (D 7).sp := (Kd.R_reads' (RI.row2 7 (by decide))).2.2
              rw [ly] at hr
              exact hr
          · obtain ⟨lx, ly, q0, q1, q2, q3, q4⟩ := HRB.out 8 (by decide)
            refine ⟨(2), (1), (some ⟨(D 8).ra, 0, none⟩), 2, (D 8).rc, (okR.set (1 : Int).toNat ⟨2, 8⟩), (some ⟨(D 8).sa, 0, none⟩), 1, (D 8).sc, okS, ?_, ?_, ?_, ?_, ?_, rfl, ?_, ?_, rfl, ?_, ?_, by decide +kernel⟩
            · exact (RI.arr.at (i := 40) (by decide)).trans (congrArg some (by simp; exact q0))
            · exact (RI.arr.at (i := 41) (by decide)).trans (congrArg some (by simp; exact q1))
            · exact (RI.arr.at (i := 42) (by decide)).trans (congrArg some (by simp; exact q2))
            · exact (RI.arr.at (i := 43) (by decide)).trans (congrArg some (by simp; exact q3))
            · exact (RI.arr.at (i := 44) (by decide)).trans (congrArg some (by simp; exact q4))
            · exact (show 2 ≤ (D 8).rc from (Kd.R_reads' (RI.row 8 (by decide))).2.1)
            · exact (Kd.R_reads' (RI.row 8 (by decide))).2.2
            · exact (show 1 ≤ (D 8).sc from (Kd.R_reads' (RI.row2 8 (by decide))).2.1)
            · have hr : Kd.C k42 Y23 (some ⟨(D 8).sa, 0, none⟩) (D 8).sp.length (D 8).sp := (Kd.R_reads' (RI.row2 8 (by decide))).2.2
              rw [ly] at hr
              exact hr
          · obtain ⟨lx, ly, q0, q1, q2, q3, q4⟩ := HRB.out 9 (by decide)
            refine ⟨(1), (1), (some ⟨(D 9).ra, 0, none⟩), 2, (D 9).rc, okR, (some ⟨(D 9).sa, 0, none⟩), 1, (D 9).sc, okS, ?_, ?_, ?_, ?_, ?_, rfl, ?_, ?_, rfl, ?_, ?_, by decide +kernel⟩
            · exact (RI.arr.at (i := 45) (by decide)).trans (congrArg some (by simp))
            · exact (RI.arr.at (i := 46) (by decide)).trans (congrArg some (by simp; exact q1))
            · exact (RI.arr.at (i := 47) (by decide)).trans (congrArg some (by simp; exact q2))
            · exact (RI.arr.at (i := 48) (by decide)).trans (congrArg some (by simp; exact q3))
            · exact (RI.arr.at (i := 49) (by decide)).trans (congrArg some (by simp; exact q4))
            · exact (show 2 ≤ (D 9).rc from (Kd.R_reads' (RI.row 9 (by decide))).2.1)
            · have hr : Kd.C k40 Y23 (some ⟨(D 9).ra, 0, none⟩) (D 9).rv.length (D 9).rv := (Kd.R_reads' (RI.row 9 (by decide))).2.2
              rw [lx] at hr
              exact hr
            · exact (show 1 ≤ (D 9).sc from (Kd.R_reads' (RI.row2 9 (by decide))).2.1)
            · have hr : Kd.C k42 Y23 (some ⟨(D 9).sa, 0, none⟩) (D 9).sp.length (D 9).sp := (Kd.R_reads' (RI.row2 9 (by decide))).2.2
              rw [ly] at hr
              exact hr
          · obtain ⟨lx, ly, q0, q1, q2, q3, q4⟩ := HRB.out 10 (by decide)
            refine ⟨(3), (1), (some ⟨(D 10).ra, 0, none⟩), 2, (D 10).rc, okR, (some ⟨(D 10).sa, 0, none⟩), 1, (D 10).sc, okS, ?_, ?_, ?_, ?_, ?_, rfl, ?_, ?_, rfl, ?_, ?_, by decide +kernel⟩
            · exact (RI.arr.at (i := 50) (by decide)).trans (congrArg some (by simp))
            · exact (RI.arr.at (i := 51) (by decide)).trans (congrArg some (by simp; exact q1))
            · exact (RI.arr.at (i := 52) (by decide)).trans (congrArg some (by simp; exact q2))
            · exact (RI.arr.at (i := 53) (by decide)).trans (congrArg some (by simp; exact q3))
            · exact (RI.arr.at (i := 54) (by decide)).trans (congrArg some (by simp; exact q4))
            · exact (show 2 ≤ (D 10).rc from (Kd.R_reads' (RI.row 10 (by decide))).2.1)
            · have hr : Kd.C k40 Y23 (some ⟨(D 10).ra, 0, none⟩) (D 10).rv.length (D 10).rv := (Kd.R_reads' (RI.row 10 (by decide))).2.2
              rw [lx] at hr
              exact hr
            · exact (show 1 ≤ (D 10).sc from (Kd.R_reads' (RI.row2 10 (by decide))).2.1)
            · have hr : Kd.C k42 Y23 (some ⟨(D 10).sa, 0, none⟩) (D 10).sp.length (D 10).sp := (Kd.R_reads' (RI.row2 10 (by decide))).2.2
              rw [ly] at hr
              exact hr
          · obtain ⟨lx, ly, q0, q1, q2, q3, q4⟩ := HRB.out 11 (by decide)
            refine ⟨(2), (1), (some ⟨(D 11).ra, 0, none⟩), 2, (D 11).rc, okR, none, 0, 0, [], ?_, ?_, ?_, ?_, ?_, rfl, ?_, ?_, rfl, ?_, ?_, by decide +kernel⟩
            · exact (RI.arr.at (i := 55) (by decide)).trans (congrArg some (by simp; exact q0))
            · exact (RI.arr.at (i := 56) (by decide)).trans (congrArg some (by simp; exact q1))
            · exact (RI.arr.at (i := 57) (by decide)).trans (congrArg some (by simp; exact q2))
            · exact (RI.arr.at (i := 58) (by decide)).trans (congrArg some (by simp; exact q3))
            · exact (RI.arr.at (i := 59) (by decide)).trans (congrArg some (by simp))
            · exact (show 2 ≤ (D 11).rc from (Kd.R_reads' (RI.row 11 (by decide))).2.1)
            · have hr : Kd.C k40 Y23 (some ⟨(D 11).ra, 0, none⟩) (D 11).rv.length (D 11).rv := (Kd.R_reads' (RI.row 11 (by decide))).2.2
              rw [lx] at hr
              exact hr
            · exact Nat.le_refl _
            · exact Kd.C_nil _ _
          · obtain ⟨lx, ly, q0, q1, q2, q3, q4⟩ := HRB.out 12 (by decide)
            refine ⟨(2), (1), (some ⟨(D 12).ra, 0, none⟩), 2, (D 12).rc, okR, (some ⟨(D 12).sa, 0, none⟩), 1, (D 12).sc, (okS.set (0 : Int).toNat ⟨9, 41⟩), ?_, ?_, ?_, ?_, ?_, rfl, ?_, ?_, rfl, ?_, ?_, by decide +kernel⟩
            · exact (RI.arr.at (i := 60) (by decide)).trans (congrArg some (by simp; exact q0))
            · exact (RI.arr.at (i := 61) (by decide)).trans (congrArg some (by simp; exact q1))
            · exact (RI.arr.at (i := 62) (by decide)).trans (congrArg some (by simp; exact q2))
            · exact (RI.arr.at (i := 63) (by decide)).trans (congrArg some (by simp; exact q3))
            · exact (RI.arr.at (i := 64) (by decide)).trans (congrArg some (by simp; exact q4))
            · exact (show 2 ≤ (D 12).rc from (Kd.R_reads' (RI.row 12 (by decide))).2.1)
            · have hr : Kd.C k40 Y23 (some ⟨(D 12).ra, 0, none⟩) (D 12).rv.length (D 12).rv := (Kd.R_reads' (RI.row 12 (by decide))).2.2
              rw [lx] at hr
              exact hr
            · exact (show 1 ≤ (D 12).sc from (Kd.R_reads' (RI.row2 12 (by decide))).2.1)
            · exact (Kd.R_reads' (RI.row2 12 (by decide))).2.2
        have HT2 := Lib.hid HT
        have HBX := Lib.hid RI.box
        have HPR := Lib.hid RI.prt
        have HSP := Lib.hid RI.spt
        have HBL := Lib.hid RI.bel
        have hsz : gp + 3 < Y23.heap.size := RI.arr.lt
        clear HRB HT RI
        have hokl : okR.length = 2 := rfl
        have hosl : okS.length = 1 := rfl
        have HOM := Lib.hid (show mayD 2 1 true okR okS = true by decide +kernel)
        have HOP := Lib.hid (show putD 2 1 true okR okS = [2, 1, 1, 2, 0, 7, 2, 1, 1, 9, 0, 2] by decide +kernel)
        have HOR := Lib.hid hokl
        have HOS := Lib.hid hosl
        clear hokl hosl
        go_wp2
        go_loopw [4] (fun i wr => ∃ k : Nat, k ≤ 13 ∧ i = .int .i64 k ∧ Below Y23.heap.size Y23 wr) (fun i _ => 13 - (intOf i).toNat)
        case atStart => exact ⟨0, by omega, rfl, Below.refl _ _⟩
        case round =>
          obtain ⟨k, hk, rfl, RB2⟩ := hrel
          have HB2 := Lib.hid RB2
          clear RB2
          by_cases hkt : k < 13
          · obtain ⟨K, S, A, n, c, rv, B, m, e, sp, q0, q1, q2, q3, q4, ql, qc, qC, rl, rc, rC, qM⟩ := HT2.out k hkt
            replace q0 := (HB2.out.cell (p := ⟨gp + 3, k * 5, none⟩) hsz).trans q0
            replace q1 := (HB2.out.cell (p := ⟨gp + 3, k * 5 + 1, none⟩) hsz).trans q1
            replace q2 := (HB2.out.cell (p := ⟨gp + 3, k * 5 + 2, none⟩) hsz).trans q2
            replace q3 := (HB2.out.cell (p := ⟨gp + 3, k * 5 + 3, none⟩) hsz).trans q3
            replace q4 := (HB2.out.cell (p := ⟨gp + 3, k * 5 + 4, none⟩) hsz).trans q4
            have QL := Lib.hid ql
            have QC := Lib.hid qc
            have QCC := Lib.hid (Kd.C_below qC HB2.out)
            have RL := Lib.hid rl
            have RC := Lib.hid rc
            have RCC := Lib.hid (Kd.C_below rC HB2.out)
            have QM := Lib.hid qM
            have QP := Lib.hid (show putD K S true rv sp = [] by unfold putD; rw [if_neg (by rw [qM]; decide)])
            have hsz2 : gp + 3 < wr.heap.size := Nat.lt_of_lt_of_le hsz HB2.out.size
            clear ql qc qC rl rc rC qM
            go_wp2_with (first
              | (go_at_call 19; (with_reducible refine (Deal.may_c _ K S true _ QL.out RL.out QCC.out QC.out RCC.out RC.out QM.out).mono ?_); rintro e w5 ⟨rfl, hb5⟩; have HB5 := Lib.hid hb5; replace q0 := (hb5.cell (p := ⟨gp + 3, k * 5, none⟩) hsz2).trans q0; replace q1 := (hb5.cell (p := ⟨gp + 3, k * 5 + 1, none⟩) hsz2).trans q1; replace q2 := (hb5.cell (p := ⟨gp + 3, k * 5 + 2, none⟩) hsz2).trans q2; replace q3 := (hb5.cell (p := ⟨gp + 3, k * 5 + 3, none⟩) hsz2).trans q3; replace q4 := (hb5.cell (p := ⟨gp + 3, k * 5 + 4, none⟩) hsz2).trans q4; clear hb5)
              | (go_at_call 21; (with_reducible refine (put_c _ K S true QL.out RL.out (Kd.C_below QCC.out HB5.out) QC.out (Kd.C_below RCC.out HB5.out) RC.out QP.out (q := 0) rfl).mono ?_); rintro e w6 ⟨A6, c6, rfl, g6, r6, hb6⟩; have HB6 := Lib.hid hb6; clear hb6 r6 g6)
              | fail)
            go_roundw
            case measure => simp [intOf]; omega
            case rel => exact ⟨k + 1, by omega, by go_num, bel_then (bel_then HB2.out HB2.out.size HB5.out) (bel_then HB2.out HB2.out.size HB5.out).size HB6.out⟩
          · have hkt2 : k = 13 := by omega
            subst hkt2
            have hc5 := cells5 (Mem.blk_below HBX.out HB2.out)
            go_upto_region 30 with (first
              | (go_at_call 21; (with_reducible refine (put_c _ 2 1 true HOR.out HOS.out (c_okR (Mem.blk_below HPR.out HB2.out)) (Nat.le_refl _) (c_okS (Mem.blk_below HSP.out HB2.out)) (Nat.le_refl _) HOP.out (q := 12) rfl).mono ?_); rintro e Z ⟨A3, c3, rfl, g3, r3, b3⟩; have G3 := Lib.hid g3; have HR3 := Lib.hid r3; have HBZ := Lib.hid (bel_then HB2.out HB2.out.size b3); clear b3 r3 g3)
              | fail)
            obtain ⟨b0, hb0⟩ : ∃ b : List Int, [2, 1, 1, 2, 0, 7, 2, 1, 1, 9, 0, 2] = b := ⟨_, rfl⟩
            rw [hb0] at HR3
            have HKZ := Lib.hid (Mem.blk_below HBX.out HBZ.out)
            have HPZ := Lib.hid (Mem.blk_below HPR.out HBZ.out)
            have HSZ := Lib.hid (Mem.blk_below HSP.out HBZ.out)
            have HWZ := Lib.hid (bel_then HBL.out HBL.out.size HBZ.out)
            have HLB := Lib.hid (show b0.length = 12 by rw [← hb0]; rfl)
            have HYB := Lib.hid (show ∀ x ∈ b0, 0 ≤ x ∧ x ≤ 255 by rw [← hb0]; decide)
            have HTK := Lib.hid (show ∀ i, i < 12 → takeD (b0.take i ++ b0.drop (i + 1)) = (0, 0, false, [], [], -2) from fun i hi => takeD_no ((show ∀ i, i < 12 → okB (b0.take i ++ b0.drop (i + 1)) = false by rw [← hb0]; decide +kernel) i hi))
            have HT2' := Lib.hid (show takeD (b0.set 2 2) = (0, 0, false, [], [], -2) from takeD_no (by rw [← hb0]; decide +kernel))
            have HST := Lib.hid (show strOfNums b0 = ⟨#[2, 1, 1, 2, 0, 7, 2, 1, 1, 9, 0, 2]⟩ by rw [← hb0]; decide +kernel)
            clear hb0 hc5 HT2 HB2 HBX HPR HSP HBL hsz
            go_wp2
            go_loopw [6] (fun i wr => ∃ k : Nat, k ≤ 12 ∧ i = .int .i64 k ∧ Below Z.heap.size Z wr) (fun i _ => 12 - (intOf i).toNat)
            case atStart => exact ⟨0, by omega, rfl, Below.refl _ _⟩
            case round =>
              obtain ⟨k, hk, rfl, RB3⟩ := hrel
              have HB3 := Lib.hid RB3
              clear RB3
              by_cases hkt : k < 12
              · go_upto_region 33 with (fail)
                refine wp_region_eq (ops' := Go.Proofs.YtdpjpmlajjfpgaaW.PrintLast.opsOf Try.f6 33) (by kernel_rfl) ?_
                refine reg33 (b := b0) (Kd.C_below HR3.out HB3.out) HLB.out G3.out hkt HYB.out (HTK.out k hkt) (fun w' y7 y129 y130 y131 y132 y133 y134 y135 y136 y137 y138 y139 y140 y141 y142 hB => ?_)
                have HB4 := Lib.hid (bel_then HB3.out HB3.out.size hB)
                clear hB
                go_wp2
                go_roundw
                case measure => simp [intOf]; omega
                case rel => exact ⟨k + 1, by omega, by go_num, HB4.out⟩
              · have hkt2 : k = 12 := by omega
                subst hkt2
                go_upto_region 36 with (fail)
                obtain ⟨X, hX⟩ : ∃ X, wr = X := ⟨_, rfl⟩
                rw [hX] at HB3 ⊢
                clear hX
                have HBW := Lib.hid (bel_then HWZ.out HWZ.out.size HB3.out)
                have HRX := Lib.hid (Kd.C_alloc (Kd.C_below HR3.out HB3.out) (.cells #[] 5))
                have HKX := Lib.hid (Mem.blk_below HKZ.out HB3.out)
                have HE := Lib.hid (own_lit X X.heap.size 5 .u8 [] (Nat.le_refl _) (by simp))
                have HBE := Lib.hid (bel_alloc (Below.refl X.heap.size X) (.cells #[] 5))
                go_upto_region 39 with (first
                  | (at_builtin; refine print_append_row (w0 := X) X.heap.size rfl (.tmp 145) (.tmp 146) 26 5 .u8 1 rfl Try.underlying26 infoB (by decide) _ [] b0 A3 12 c3 rfl rfl HE.out (reads_f HLB.out HRX.out) HBE.out HBE.out.size (by decide) ?_; intro v1 w9 ho1 hb1 hg1 hat1; clear hg1 hat1; have HO9 := Lib.hid (show w9.ownsRow X.heap.size 5 1 v1 b0.length (nums .u8 b0) from ho1); have HBF := Lib.hid hb1; clear ho1 hb1; obtain ⟨g, c9, rfl, hg9, hl9, hc9⟩ := own_row12 HO9.out HLB.out)
                  | fail)
                have HO12 := Lib.hid (show w9.ownsRow X.heap.size 5 1 (.slice (some ⟨g, 0, none⟩) 12 c9) 12 (nums .u8 b0) by have h := HO9.out; rw [HLB.out] at h; exact h)
                have c0 : w9.cell? ⟨g, 2, none⟩ = _ := (own_at HO12.out 2 (by decide) (by decide)).1
                have f0 : w9.frozen? ⟨g, 2, none⟩ = false := (own_at HO12.out 2 (by decide) (by decide)).2
                go_upto_region 40 with (fail)
                obtain ⟨w10, hw10⟩ : ∃ z, w9.setCell ⟨g, 2, none⟩ (.int .u8 2) = z := ⟨_, rfl⟩
                have R10 := own_c12 (own_store HO12.out 2 2).1
                have B10 := bel_set HBF.out hg9 2 (.int .u8 2)
                rw [show (2 : Int).toNat = 2 from rfl, hw10] at R10
                rw [hw10] at B10 ⊢
                have HL10 := Lib.hid R10.1
                have HR10 := Lib.hid R10.2
                have HB10 := Lib.hid B10
                have HY10 := Lib.hid (show ∀ x ∈ b0.set 2 2, 0 ≤ x ∧ x ≤ 255 from fun x hx => by rcases List.mem_or_eq_of_mem_set hx with hx | rfl; exact HYB.out x hx; decide)
                have HC9 := Lib.hid hc9
                clear hw10 R10 B10 c0 f0 HO12 HO9 hg9 hl9 hc9
                go_wp2_with (first
                  | (go_at_call 17; (with_reducible refine (take_c _ HL10.out HR10.out HC9.out HY10.out HT2'.out (p := 0) (q := 0) rfl rfl).mono ?_); rintro e w11 ⟨A11, c11, A12, c12, rfl, _, _, _, _, b11⟩; have HB12 := Lib.hid (bel_then HB10.out HB10.out.size (bel_chain b11 (bel_alloc (Below.refl w11.heap.size w11) (.cells #[.int .i64 0, .int .i64 0, .bool false, .slice A11 0 c11, .slice A12 0 c12] 25)))); have HB13 := Lib.hid (bel_then HB3.out HB3.out.size HB12.out); have hc5 := cells5 (Mem.blk_below HKZ.out HB13.out); clear b11)
                  | (go_at_call 19; (with_reducible refine (Deal.may_c _ 2 1 true _ HOR.out HOS.out (c_okR (Mem.blk_below HPZ.out HB13.out)) (Nat.le_refl _) (c_okS (Mem.blk_below HSZ.out HB13.out)) (Nat.le_refl _) HOM.out).mono ?_); rintro e w14 ⟨rfl, b14⟩; have HB14 := Lib.hid (bel_then HB13.out HB13.out.size b14); clear b14; have hcv := conv_c (c := c3) HLB.out (Kd.C_below HR3.out HB14.out); rw [HST.out] at hcv)
                  | fail)
                go_ret
                exact ⟨rfl, bel_then HWZ.out HWZ.out.size HB14.out⟩
  · trivial
end Go.Proofs.Ytdpjpmlajjfpgaa.Deal
