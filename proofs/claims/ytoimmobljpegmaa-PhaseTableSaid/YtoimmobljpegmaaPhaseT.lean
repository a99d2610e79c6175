/- The table of phases, all of it: a closed statement. -/
import Derived.Test.YtoimmobljpegmaaPhaseW
namespace Go.Proofs.Ytoimmobljpegmaa.Phase
open Go.RowKit Go.Proofs.Ytoimmobljpegmaa.Mem Go.Maps
set_option linter.unusedVariables false

theorem size_alloc (w : World) (o : Obj) : (w.alloc o).heap.size = w.heap.size + 1 := by show (w.heap.push _).size = _; simp
theorem blk_at {w : World} {o : Obj} {g : Nat} (h : w.heap.size = g) : (w.alloc o).heap[g]? = some o := by subst h; exact blk_new _ _
theorem want_laid (w W : World) (hW : W = (((((w.alloc (.cells #[.int .i64 2, .int .i64 0, .int .i64 2, .int .i64 0, .int .i64 0, .int .i64 0, .int .i64 0, .int .i64 0] 3)).alloc (.cells #[.int .i64 0, .int .i64 3, .int .i64 0, .int .i64 1, .int .i64 0, .int .i64 5, .int .i64 1, .int .i64 4] 3)).alloc (.cells #[.int .i64 0, .int .i64 0, .int .i64 0, .int .i64 0, .int .i64 2, .int .i64 0, .int .i64 0, .int .i64 3] 3)).alloc (.cells #[.int .i64 2, .int .i64 0, .int .i64 0, .int .i64 0, .int .i64 0, .int .i64 0, .int .i64 0, .int .i64 0] 3)).alloc (.cells #[.int .i64 2, .int .i64 0, .int .i64 0, .int .i64 0, .int .i64 0, .int .i64 0, .int .i64 0, .int .i64 0] 3)).alloc (.cells #[.slice (some ⟨w.heap.size, 0, none⟩) 8 8, .slice (some ⟨w.heap.size + 1, 0, none⟩) 8 8, .slice (some ⟨w.heap.size + 1 + 1, 0, none⟩) 8 8, .slice (some ⟨w.heap.size + 1 + 1 + 1, 0, none⟩) 8 8, .slice (some ⟨w.heap.size + 1 + 1 + 1 + 1, 0, none⟩) 8 8] 22)) : Below w.heap.size w W ∧ ∀ i j : Nat, i < 5 → j < 8 →
    W.cell? ⟨w.heap.size + 1 + 1 + 1 + 1 + 1, i, none⟩ = some (.slice (some ⟨w.heap.size + i, 0, none⟩) 8 8) ∧ W.cell? ⟨w.heap.size + i, j, none⟩ = some (.int .i64 (nx (i + 1) (j + 1))) := by
  subst hW
  refine ⟨bel_alloc (bel_alloc (bel_alloc (bel_alloc (bel_alloc (bel_alloc (Below.refl _ _) _) _) _) _) _) _, fun i j hi hj => ?_⟩
  have hi' : i = 0 ∨ i = 1 ∨ i = 2 ∨ i = 3 ∨ i = 4 := by omega
  have hj' : j = 0 ∨ j = 1 ∨ j = 2 ∨ j = 3 ∨ j = 4 ∨ j = 5 ∨ j = 6 ∨ j = 7 := by omega
  have b0 := blk_alloc (blk_alloc (blk_alloc (blk_alloc (blk_alloc (blk_new w (.cells #[.int .i64 2, .int .i64 0, .int .i64 2, .int .i64 0, .int .i64 0, .int .i64 0, .int .i64 0, .int .i64 0] 3)) (.cells #[.int .i64 0, .int .i64 3, .int .i64 0, .int .i64 1, .int .i64 0, .int .i64 5, .int .i64 1, .int .i64 4] 3)) (.cells #[.int .i64 0, .int .i64 0, .int .i64 0, .int .i64 0, .int .i64 2, .int .i64 0, .int .i64 0, .int .i64 3] 3)) (.cells #[.int .i64 2, .int .i64 0, .int .i64 0, .int .i64 0, .int .i64 0, .int .i64 0, .int .i64 0, .int .i64 0] 3)) (.cells #[.int .i64 2, .int .i64 0, .int .i64 0, .int .i64 0, .int .i64 0, .int .i64 0, .int .i64 0, .int .i64 0] 3)) (.cells #[.slice (some ⟨w.heap.size, 0, none⟩) 8 8, .slice (some ⟨w.heap.size + 1, 0, none⟩) 8 8, .slice (some ⟨w.heap.size + 1 + 1, 0, none⟩) 8 8, .slice (some ⟨w.heap.size + 1 + 1 + 1, 0, none⟩) 8 8, .slice (some ⟨w.heap.size + 1 + 1 + 1 + 1, 0, none⟩) 8 8] 22)
  have b1 := blk_alloc (blk_alloc (blk_alloc (blk_alloc (blk_at (w := w.alloc (.cells #[.int .i64 2, .int .i64 0, .int .i64 2, .int .i64 0, .int .i64 0, .int .i64 0, .int .i64 0, .int .i64 0] 3)) (o := (.cells #[.int .i64 0, .int .i64 3, .int .i64 0, .int .i64 1, .int .i64 0, .int .i64 5, .int .i64 1, .int .i64 4] 3)) (size_alloc _ _)) (.cells #[.int .i64 0, .int .i64 0, .int .i64 0, .int .i64 0, .int .i64 2, .int .i64 0, .int .i64 0, .int .i64 3] 3)) (.cells #[.int .i64 2, .int .i64 0, .int .i64 0, .int .i64 0, .int .i64 0, .int .i64 0, .int .i64 0, .int .i64 0] 3)) (.cells #[.int .i64 2, .int .i64 0, .int .i64 0, .int .i64 0, .int .i64 0, .int .i64 0, .int .i64 0, .int .i64 0] 3)) (.cells #[.slice (some ⟨w.heap.size, 0, none⟩) 8 8, .slice (some ⟨w.heap.size + 1, 0, none⟩) 8 8, .slice (some ⟨w.heap.size + 1 + 1, 0, none⟩) 8 8, .slice (some ⟨w.heap.size + 1 + 1 + 1, 0, none⟩) 8 8, .slice (some ⟨w.heap.size + 1 + 1 + 1 + 1, 0, none⟩) 8 8] 22)
  have b2 := blk_alloc (blk_alloc (blk_alloc (blk_at (w := ((w.alloc (.cells #[.int .i64 2, .int .i64 0, .int .i64 2, .int .i64 0, .int .i64 0, .int .i64 0, .int .i64 0, .int .i64 0] 3)).alloc (.cells #[.int .i64 0, .int .i64 3, .int .i64 0, .int .i64 1, .int .i64 0, .int .i64 5, .int .i64 1, .int .i64 4] 3))) (o := (.cells #[.int .i64 0, .int .i64 0, .int .i64 0, .int .i64 0, .int .i64 2, .int .i64 0, .int .i64 0, .int .i64 3] 3)) (by rw [size_alloc, size_alloc])) (.cells #[.int .i64 2, .int .i64 0, .int .i64 0, .int .i64 0, .int .i64 0, .int .i64 0, .int .i64 0, .int .i64 0] 3)) (.cells #[.int .i64 2, .int .i64 0, .int .i64 0, .int .i64 0, .int .i64 0, .int .i64 0, .int .i64 0, .int .i64 0] 3)) (.cells #[.slice (some ⟨w.heap.size, 0, none⟩) 8 8, .slice (some ⟨w.heap.size + 1, 0, none⟩) 8 8, .slice (some ⟨w.heap.size + 1 + 1, 0, none⟩) 8 8, .slice (some ⟨w.heap.size + 1 + 1 + 1, 0, none⟩) 8 8, .slice (some ⟨w.heap.size + 1 + 1 + 1 + 1, 0, none⟩) 8 8] 22)
  have b3 := blk_alloc (blk_alloc (blk_at (w := (((w.alloc (.cells #[.int .i64 2, .int .i64 0, .int .i64 2, .int .i64 0, .int .i64 0, .int .i64 0, .int .i64 0, .int .i64 0] 3)).alloc (.cells #[.int .i64 0, .int .i64 3, .int .i64 0, .int .i64 1, .int .i64 0, .int .i64 5, .int .i64 1, .int .i64 4] 3)).alloc (.cells #[.int .i64 0, .int .i64 0, .int .i64 0, .int .i64 0, .int .i64 2, .int .i64 0, .int .i64 0, .int .i64 3] 3))) (o := (.cells #[.int .i64 2, .int .i64 0, .int .i64 0, .int .i64 0, .int .i64 0, .int .i64 0, .int .i64 0, .int .i64 0] 3)) (by rw [size_alloc, size_alloc, size_alloc])) (.cells #[.int .i64 2, .int .i64 0, .int .i64 0, .int .i64 0, .int .i64 0, .int .i64 0, .int .i64 0, .int .i64 0] 3)) (.cells #[.slice (some ⟨w.heap.size, 0, none⟩) 8 8, .slice (some ⟨w.heap.size + 1, 0, none⟩) 8 8, .slice (some ⟨w.heap.size + 1 + 1, 0, none⟩) 8 8, .slice (some ⟨w.heap.size + 1 + 1 + 1, 0, none⟩) 8 8, .slice (some ⟨w.heap.size + 1 + 1 + 1 + 1, 0, none⟩) 8 8] 22)
  have b4 := blk_alloc (blk_at (w := ((((w.alloc (.cells #[.int .i64 2, .int .i64 0, .int .i64 2, .int .i64 0, .int .i64 0, .int .i64 0, .int .i64 0, .int .i64 0] 3)).alloc (.cells #[.int .i64 0, .int .i64 3, .int .i64 0, .int .i64 1, .int .i64 0, .int .i64 5, .int .i64 1, .int .i64 4] 3)).alloc (.cells #[.int .i64 0, .int .i64 0, .int .i64 0, .int .i64 0, .int .i64 2, .int .i64 0, .int .i64 0, .int .i64 3] 3)).alloc (.cells #[.int .i64 2, .int .i64 0, .int .i64 0, .int .i64 0, .int .i64 0, .int .i64 0, .int .i64 0, .int .i64 0] 3))) (o := (.cells #[.int .i64 2, .int .i64 0, .int .i64 0, .int .i64 0, .int .i64 0, .int .i64 0, .int .i64 0, .int .i64 0] 3)) (by rw [size_alloc, size_alloc, size_alloc, size_alloc])) (.cells #[.slice (some ⟨w.heap.size, 0, none⟩) 8 8, .slice (some ⟨w.heap.size + 1, 0, none⟩) 8 8, .slice (some ⟨w.heap.size + 1 + 1, 0, none⟩) 8 8, .slice (some ⟨w.heap.size + 1 + 1 + 1, 0, none⟩) 8 8, .slice (some ⟨w.heap.size + 1 + 1 + 1 + 1, 0, none⟩) 8 8] 22)
  have b5 := blk_at (w := (((((w.alloc (.cells #[.int .i64 2, .int .i64 0, .int .i64 2, .int .i64 0, .int .i64 0, .int .i64 0, .int .i64 0, .int .i64 0] 3)).alloc (.cells #[.int .i64 0, .int .i64 3, .int .i64 0, .int .i64 1, .int .i64 0, .int .i64 5, .int .i64 1, .int .i64 4] 3)).alloc (.cells #[.int .i64 0, .int .i64 0, .int .i64 0, .int .i64 0, .int .i64 2, .int .i64 0, .int .i64 0, .int .i64 3] 3)).alloc (.cells #[.int .i64 2, .int .i64 0, .int .i64 0, .int .i64 0, .int .i64 0, .int .i64 0, .int .i64 0, .int .i64 0] 3)).alloc (.cells #[.int .i64 2, .int .i64 0, .int .i64 0, .int .i64 0, .int .i64 0, .int .i64 0, .int .i64 0, .int .i64 0] 3))) (o := (.cells #[.slice (some ⟨w.heap.size, 0, none⟩) 8 8, .slice (some ⟨w.heap.size + 1, 0, none⟩) 8 8, .slice (some ⟨w.heap.size + 1 + 1, 0, none⟩) 8 8, .slice (some ⟨w.heap.size + 1 + 1 + 1, 0, none⟩) 8 8, .slice (some ⟨w.heap.size + 1 + 1 + 1 + 1, 0, none⟩) 8 8] 22)) (by rw [size_alloc, size_alloc, size_alloc, size_alloc, size_alloc])
  refine ⟨?_, ?_⟩
  · rw [blk_cell b5]
    rcases hi' with rfl | rfl | rfl | rfl | rfl <;> rfl
  · rcases hi' with rfl | rfl | rfl | rfl | rfl
    · rw [show w.heap.size + 0 = w.heap.size from rfl, blk_cell b0]
      rcases hj' with rfl | rfl | rfl | rfl | rfl | rfl | rfl | rfl <;> rfl
    · rw [blk_cell b1]
      rcases hj' with rfl | rfl | rfl | rfl | rfl | rfl | rfl | rfl <;> rfl
    · rw [show w.heap.size + 2 = w.heap.size + 1 + 1 from rfl, blk_cell b2]
      rcases hj' with rfl | rfl | rfl | rfl | rfl | rfl | rfl | rfl <;> rfl
    · rw [show w.heap.size + 3 = w.heap.size + 1 + 1 + 1 from rfl, blk_cell b3]
      rcases hj' with rfl | rfl | rfl | rfl | rfl | rfl | rfl | rfl <;> rfl
    · rw [show w.heap.size + 4 = w.heap.size + 1 + 1 + 1 + 1 from rfl, blk_cell b4]
      rcases hj' with rfl | rfl | rfl | rfl | rfl | rfl | rfl | rfl <;> rfl
theorem nx_out {p e : Int} (h : ¬ (1 ≤ p ∧ p ≤ 5 ∧ 1 ≤ e ∧ e ≤ 8)) : nx p e = 0 := by
  refine nx_none (fun j hj => ?_)
  have hin : ∀ r ∈ tab, 1 ≤ r.2.1 ∧ r.2.1 ≤ 5 ∧ 1 ≤ r.2.2.1 ∧ r.2.2.1 ≤ 8 := by decide
  have hl : tab.length = 11 := rfl
  have := hin (tab.getD j (0, 0, 0, 0)) (by rw [List.getD_eq_getElem?_getD, List.getElem?_eq_getElem (by omega)]; exact List.getElem_mem _)
  rintro ⟨rfl, rfl⟩
  exact h this
theorem next_nm {x y n : Int} {c : Bool} (w : World) (hx : (Lit.int .i64 x).wf = true) (hy : (Lit.int .i64 y).wf = true) (h : nx x y = n) (hc : decide (0 < n) = c) :
    Calls Try.prog 16 #[.int .i64 x, .int .i64 y] w fun e w' => e = .returned (.tuple #[.int .i64 n, .bool c]) ∧ Below w.heap.size w w' := by
  subst h hc; exact next_any w x y hx hy

set_option maxRecDepth 100000 in
set_option maxHeartbeats 8000000 in
theorem table (w : World) : Calls Try.prog 4 #[] w fun e w' => e = .returned (.bool true) ∧ Below w.heap.size w w' := by
  have hb := Below.refl w.heap.size w
  go_enter Try.func4, Try.ntmps4
  go_wp2_with (first
    | (go_at_call 15; refine (begun _).mono ?_; rintro e w1 ⟨rfl, hb1⟩; replace hb := bel_chain hb hb1; clear hb1)
    | fail)
  generalize hW : (((((w1.alloc (.cells #[.int .i64 2, .int .i64 0, .int .i64 2, .int .i64 0, .int .i64 0, .int .i64 0, .int .i64 0, .int .i64 0] 3)).alloc (.cells #[.int .i64 0, .int .i64 3, .int .i64 0, .int .i64 1, .int .i64 0, .int .i64 5, .int .i64 1, .int .i64 4] 3)).alloc (.cells #[.int .i64 0, .int .i64 0, .int .i64 0, .int .i64 0, .int .i64 2, .int .i64 0, .int .i64 0, .int .i64 3] 3)).alloc (.cells #[.int .i64 2, .int .i64 0, .int .i64 0, .int .i64 0, .int .i64 0, .int .i64 0, .int .i64 0, .int .i64 0] 3)).alloc (.cells #[.int .i64 2, .int .i64 0, .int .i64 0, .int .i64 0, .int .i64 0, .int .i64 0, .int .i64 0, .int .i64 0] 3)).alloc (.cells #[.slice (some ⟨w1.heap.size, 0, none⟩) 8 8, .slice (some ⟨w1.heap.size + 1, 0, none⟩) 8 8, .slice (some ⟨w1.heap.size + 1 + 1, 0, none⟩) 8 8, .slice (some ⟨w1.heap.size + 1 + 1 + 1, 0, none⟩) 8 8, .slice (some ⟨w1.heap.size + 1 + 1 + 1 + 1, 0, none⟩) 8 8] 22) = W
  obtain ⟨hbW, hcell⟩ := want_laid w1 W hW.symm
  replace hb := bel_chain hb hbW
  have HC := Lib.hid hcell
  have hsz : w1.heap.size + 6 ≤ W.heap.size := by rw [← hW]; simp only [size_alloc]; omega
  clear hW hcell hbW
  go_loopw [2] (fun t2 wr => ∃ (i : Nat), i ≤ 9 ∧ t2 = .int .i64 ((i : Int) - 1) ∧ Below W.heap.size W wr) (fun t2 _ => (8 - intOf t2).toNat)
  case atStart => exact ⟨0, by omega, rfl, Below.refl _ _⟩
  case round =>
    obtain ⟨i, hi, rfl, hbi⟩ := hrel
    by_cases hlt : (i : Int) - 1 ≤ 7
    · go_wp2
      go_loopw [3] (fun t3 wr => ∃ (j : Nat), j ≤ 12 ∧ t3 = .int .i64 ((j : Int) - 1) ∧ Below W.heap.size W wr) (fun t3 _ => (11 - intOf t3).toNat)
      case atStart => exact ⟨0, by omega, rfl, hbi⟩
      case round =>
        obtain ⟨j, hj, rfl, hbj⟩ := hrel
        obtain ⟨p, hp⟩ : ∃ p : Int, (i : Int) - 1 = p := ⟨_, rfl⟩
        obtain ⟨e, he⟩ : ∃ e : Int, (j : Int) - 1 = e := ⟨_, rfl⟩
        simp only [hp, he]
        by_cases hlt2 : e ≤ 10
        · obtain ⟨n, hn⟩ : ∃ n, nx p e = n := ⟨_, rfl⟩
          have hpw : (Lit.int .i64 p).wf = true := wf_in (by omega)
          have hew : (Lit.int .i64 e).wf = true := wf_in (by omega)
          have hwi : IntKind.i64.wrap (e + 1) = e + 1 := IntWalk.i64_in _ (by omega)
          by_cases hin : 1 ≤ p ∧ p ≤ 5 ∧ 1 ≤ e ∧ e ≤ 8
          · obtain ⟨i2, hi2⟩ : ∃ i2 : Nat, p - 1 = (i2 : Int) := ⟨(p - 1).toNat, by omega⟩
            obtain ⟨j2, hj2⟩ : ∃ j2 : Nat, e - 1 = (j2 : Int) := ⟨(e - 1).toNat, by omega⟩
            obtain ⟨c1, c2⟩ := HC.out i2 j2 (by omega) (by omega)
            rw [show ((i2 : Int) + 1) = p by omega, show ((j2 : Int) + 1) = e by omega, hn] at c2
            have d1 := (hbj.cell (p := ⟨w1.heap.size + 1 + 1 + 1 + 1 + 1, i2, none⟩) (show w1.heap.size + 1 + 1 + 1 + 1 + 1 < W.heap.size by omega)).trans c1
            have d2 := (hbj.cell (p := ⟨w1.heap.size + i2, j2, none⟩) (show w1.heap.size + i2 < W.heap.size by omega)).trans c2
            have hw1 : IntKind.i64.wrap (p - 1) = (i2 : Int) := by rw [← hi2]; exact IntWalk.i64_in _ (by omega)
            have hw2 : IntKind.i64.wrap (e - 1) = (j2 : Int) := by rw [← hj2]; exact IntWalk.i64_in _ (by omega)
            have b1 : (0 : Int) ≤ (i2 : Int) := by omega
            have b2 : (i2 : Int) < 5 := by omega
            have b3 : (0 : Int) ≤ (j2 : Int) := by omega
            have b4 : (j2 : Int) < 8 := by omega
            have HP := Lib.hid (show (i : Int) - 1 = p ∧ (j : Int) - 1 = e ∧ nx p e = n ∧ p - 1 = (i2 : Int) ∧ e - 1 = (j2 : Int) from ⟨hp, he, hn, hi2, hj2⟩)
            clear hp he hn c1 c2 hi2 hj2
            obtain ⟨hin1, hin2, hin3, hin4⟩ := hin
            go_wp2_with (first
              | (go_at_call 16; (with_reducible refine (next_nm _ hpw hew HP.out.2.2.1 rfl).mono ?_); rintro e w2 ⟨rfl, hb2⟩; replace hbj := bel_then hbj hbj.size hb2; clear hb2)
              | fail)
            go_roundw
            case rel => exact ⟨j + 1, by have := HP.out.2.1; omega, by have := HP.out.2.1; go_num, hbj⟩
            case measure => have := HP.out.2.1; simp [intOf]; omega
          · have hn0 := nx_out hin
            rw [hn] at hn0
            subst hn0
            have hi3 := hin
            by_cases q1 : 1 ≤ p <;> by_cases q2 : p ≤ 5 <;> by_cases q3 : 1 ≤ e <;> by_cases q4 : e ≤ 8
            all_goals first
              | (exfalso; exact hin ⟨q1, q2, q3, q4⟩)
              | (have HP := Lib.hid (show (i : Int) - 1 = p ∧ (j : Int) - 1 = e ∧ nx p e = 0 from ⟨hp, he, hn⟩)
                 clear hp he hn hi3 hin
                 go_wp2_with (first
                   | (go_at_call 16; (with_reducible refine (next_nm (c := false) _ hpw hew HP.out.2.2 rfl).mono ?_); rintro e w2 ⟨rfl, hb2⟩; replace hbj := bel_then hbj hbj.size hb2; clear hb2)
                   | fail)
                 go_roundw
                 case rel => exact ⟨j + 1, by have := HP.out.2.1; omega, by have := HP.out.2.1; go_num, hbj⟩
                 case measure => have := HP.out.2.1; simp [intOf]; omega)
        · have hwi : IntKind.i64.wrap (p + 1) = p + 1 := IntWalk.i64_in _ (by omega)
          go_wp2
          go_roundw
          case rel => exact ⟨i + 1, by omega, by go_num, hbj⟩
          case measure => simp [intOf]; omega
    · go_wp2
      go_ret
      exact ⟨rfl, bel_then hb hb.size hbi⟩
end Go.Proofs.Ytoimmobljpegmaa.Phase
