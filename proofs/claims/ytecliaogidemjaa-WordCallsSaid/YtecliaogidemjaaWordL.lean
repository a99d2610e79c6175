/- Which calls there are, and which may be wide: a closed statement. -/
import Derived.Test.YtecliaogidemjaaWordD
namespace Go.Proofs.Ytecliaogidemjaa.Word
open Go.RowKit Go.Proofs.Ytecliaogidemjaa.Mem
set_option linter.unusedVariables false

def allL : List Int := [99, 100, 101, 102, 103, 104, 105, 107, 108, 109, 111, 112, 113, 114, 115, 116, 118, 119, 123, 125, 126, 127, 128, 129, 130, 131, 133, 134]
def widL : List Int := [102, 111, 112, 113, 114, 115, 116, 118, 119, 123, 127, 128, 129, 131]
def cntK (n : Nat) : Nat := ((List.range n).filter fun (i : Nat) => isIn narrowL (2214592512 + (i : Int))).length
def cntW (n : Nat) : Nat := ((List.range n).filter fun (i : Nat) => isIn wideL (3288334336 + (i : Int) - 1073741824)).length
theorem cntK_yes {n : Nat} (h : isIn narrowL (2214592512 + (n : Int)) = true) : cntK (n + 1) = cntK n + 1 := by simp [cntK, List.range_succ, h]
theorem cntK_no {n : Nat} (h : isIn narrowL (2214592512 + (n : Int)) = false) : cntK (n + 1) = cntK n := by simp [cntK, List.range_succ, h]
theorem cntW_yes {n : Nat} (h : isIn wideL (3288334336 + (n : Int) - 1073741824) = true) : cntW (n + 1) = cntW n + 1 := by simp [cntW, List.range_succ, h]
theorem cntW_no {n : Nat} (h : isIn wideL (3288334336 + (n : Int) - 1073741824) = false) : cntW (n + 1) = cntW n := by simp [cntW, List.range_succ, h]
theorem cntK_le (n : Nat) : cntK n ≤ n := by unfold cntK; exact Nat.le_trans (List.length_filter_le _ _) (by simp)
theorem cntW_le (n : Nat) : cntW n ≤ n := by unfold cntW; exact Nat.le_trans (List.length_filter_le _ _) (by simp)
theorem cntK_all : cntK 256 = 28 := by kernel_rfl
theorem cntW_all : cntW 256 = 14 := by kernel_rfl
theorem no_wide_narrow : ∀ v : Int, 3288334336 ≤ v → isIn narrowL v = false := by
  intro v hv
  have h : ∀ x ∈ narrowL, x < 3288334336 := by decide
  cases hc : isIn narrowL v with
  | false => rfl
  | true => rw [isIn_true] at hc; exact absurd (h v hc) (by omega)
theorem all_in (i : Nat) (hi : i < 28) : isIn narrowL (2214592512 + allL.getD i 0) = true ∧ 0 ≤ allL.getD i 0 ∧ allL.getD i 0 < 256 := by
  have h : ∀ j ∈ List.range 28, isIn narrowL (2214592512 + allL.getD j 0) = true ∧ 0 ≤ allL.getD j 0 ∧ allL.getD j 0 < 256 := by decide
  exact h i (List.mem_range.2 hi)
theorem wid_in (i : Nat) (hi : i < 14) : isIn wideL (3288334336 + widL.getD i 0 - 1073741824) = true ∧ 0 ≤ widL.getD i 0 ∧ widL.getD i 0 < 256 := by
  have h : ∀ j ∈ List.range 14, isIn wideL (3288334336 + widL.getD j 0 - 1073741824) = true ∧ 0 ≤ widL.getD j 0 ∧ widL.getD j 0 < 256 := by decide
  exact h i (List.mem_range.2 hi)

theorem bel_alloc2 {B : Nat} {w W : World} (h : Below B w W) (hB : B ≤ W.heap.size) (o : Obj) : Below B w (W.alloc o) := h.alloc hB o

set_option maxRecDepth 100000 in
set_option maxHeartbeats 8000000 in
theorem list_word (w : World) : Calls Try.prog 4 #[] w fun e w' => e = .returned (.bool true) ∧ Below w.heap.size w w' := by
  have hu := Try.underlying25
  have hb := Below.refl w.heap.size w
  go_enter Try.func4, Try.ntmps4
  go_wp2_with (first
    | (go_at_call 13; refine (begun _).mono ?_; rintro e w1 ⟨rfl, hb1⟩; replace hb := bel_chain hb hb1; clear hb1)
    | fail)
  have bA : ((w1.alloc (.cells #[.int .i64 99, .int .i64 100, .int .i64 101, .int .i64 102, .int .i64 103, .int .i64 104, .int .i64 105, .int .i64 107, .int .i64 108, .int .i64 109, .int .i64 111, .int .i64 112, .int .i64 113, .int .i64 114, .int .i64 115, .int .i64 116, .int .i64 118, .int .i64 119, .int .i64 123, .int .i64 125, .int .i64 126, .int .i64 127, .int .i64 128, .int .i64 129, .int .i64 130, .int .i64 131, .int .i64 133, .int .i64 134] 3)).alloc (.cells #[.int .i64 102, .int .i64 111, .int .i64 112, .int .i64 113, .int .i64 114, .int .i64 115, .int .i64 116, .int .i64 118, .int .i64 119, .int .i64 123, .int .i64 127, .int .i64 128, .int .i64 129, .int .i64 131] 3)).heap[w1.heap.size]? = some (.cells (allL.map (Value.int .i64)).toArray 3 (0, 0)) := blk_alloc (blk_new w1 _) _
  have hs1 : (w1.alloc (.cells #[.int .i64 99, .int .i64 100, .int .i64 101, .int .i64 102, .int .i64 103, .int .i64 104, .int .i64 105, .int .i64 107, .int .i64 108, .int .i64 109, .int .i64 111, .int .i64 112, .int .i64 113, .int .i64 114, .int .i64 115, .int .i64 116, .int .i64 118, .int .i64 119, .int .i64 123, .int .i64 125, .int .i64 126, .int .i64 127, .int .i64 128, .int .i64 129, .int .i64 130, .int .i64 131, .int .i64 133, .int .i64 134] 3)).heap.size = w1.heap.size + 1 := by show (w1.heap.push _).size = _; simp
  have bW : ((w1.alloc (.cells #[.int .i64 99, .int .i64 100, .int .i64 101, .int .i64 102, .int .i64 103, .int .i64 104, .int .i64 105, .int .i64 107, .int .i64 108, .int .i64 109, .int .i64 111, .int .i64 112, .int .i64 113, .int .i64 114, .int .i64 115, .int .i64 116, .int .i64 118, .int .i64 119, .int .i64 123, .int .i64 125, .int .i64 126, .int .i64 127, .int .i64 128, .int .i64 129, .int .i64 130, .int .i64 131, .int .i64 133, .int .i64 134] 3)).alloc (.cells #[.int .i64 102, .int .i64 111, .int .i64 112, .int .i64 113, .int .i64 114, .int .i64 115, .int .i64 116, .int .i64 118, .int .i64 119, .int .i64 123, .int .i64 127, .int .i64 128, .int .i64 129, .int .i64 131] 3)).heap[w1.heap.size + 1]? = some (.cells (widL.map (Value.int .i64)).toArray 3 (0, 0)) := by rw [← hs1]; exact blk_new _ _
  replace hb : Below w.heap.size w ((w1.alloc (.cells #[.int .i64 99, .int .i64 100, .int .i64 101, .int .i64 102, .int .i64 103, .int .i64 104, .int .i64 105, .int .i64 107, .int .i64 108, .int .i64 109, .int .i64 111, .int .i64 112, .int .i64 113, .int .i64 114, .int .i64 115, .int .i64 116, .int .i64 118, .int .i64 119, .int .i64 123, .int .i64 125, .int .i64 126, .int .i64 127, .int .i64 128, .int .i64 129, .int .i64 130, .int .i64 131, .int .i64 133, .int .i64 134] 3)).alloc (.cells #[.int .i64 102, .int .i64 111, .int .i64 112, .int .i64 113, .int .i64 114, .int .i64 115, .int .i64 116, .int .i64 118, .int .i64 119, .int .i64 123, .int .i64 127, .int .i64 128, .int .i64 129, .int .i64 131] 3)) := bel_alloc (bel_alloc hb _) _
  generalize hW : (w1.alloc (.cells #[.int .i64 99, .int .i64 100, .int .i64 101, .int .i64 102, .int .i64 103, .int .i64 104, .int .i64 105, .int .i64 107, .int .i64 108, .int .i64 109, .int .i64 111, .int .i64 112, .int .i64 113, .int .i64 114, .int .i64 115, .int .i64 116, .int .i64 118, .int .i64 119, .int .i64 123, .int .i64 125, .int .i64 126, .int .i64 127, .int .i64 128, .int .i64 129, .int .i64 130, .int .i64 131, .int .i64 133, .int .i64 134] 3)).alloc (.cells #[.int .i64 102, .int .i64 111, .int .i64 112, .int .i64 113, .int .i64 114, .int .i64 115, .int .i64 116, .int .i64 118, .int .i64 119, .int .i64 123, .int .i64 127, .int .i64 128, .int .i64 129, .int .i64 131] 3) = W at bA bW hb ⊢
  have hl1 := blk_lt bA
  have hl2 := blk_lt bW
  have HA := Lib.hid (blk_cells_int bA)
  have HW := Lib.hid (blk_cells_int bW)
  clear hW hs1 bA bW
  go_loopw [3, 4, 5] (fun t3 t4 t5 wr => ∃ n : Nat, n ≤ 256 ∧ t3 = .int .i64 (cntK n : Nat) ∧ t4 = .int .i64 (cntW n : Nat) ∧ t5 = .int .i64 n ∧ Below W.heap.size W wr) (fun _ _ t5 _ => 256 - (intOf t5).toNat)
  case atStart => exact ⟨0, by omega, rfl, rfl, rfl, Below.refl _ _⟩
  case round =>
    obtain ⟨n, hn, rfl, rfl, rfl, hr⟩ := hrel
    have hk1 := cntK_le n
    have hk2 := cntW_le n
    by_cases hlt : (n : Int) < 256
    · obtain ⟨a, ha⟩ : ∃ a : Int, 2214592512 + (n : Int) = a := ⟨_, rfl⟩
      obtain ⟨z, hz⟩ : ∃ z : Int, 3288334336 + (n : Int) = z := ⟨_, rfl⟩
      have hzn := no_wide_narrow z (by omega)
      have hz0 : 0 ≤ z ∧ z < 4294967296 := by omega
      have w1_ : IntKind.i64.wrap (2214592512 + (n : Int)) = a := by rw [← ha]; exact IntWalk.i64_in _ (by omega)
      have w2_ : IntKind.u64.wrap (n : Int) = (n : Int) := IntWalk.u64_in _ (by omega)
      have w3_ : IntKind.u64.wrap (3288334336 + (n : Int)) = z := by rw [← hz]; exact IntWalk.u64_in _ (by omega)
      obtain ⟨k, hk⟩ : ∃ k, cntK n = k := ⟨_, rfl⟩
      obtain ⟨m, hm⟩ : ∃ m, cntW n = m := ⟨_, rfl⟩
      rw [hk] at hk1 ⊢
      rw [hm] at hk2 ⊢
      have w4_ : IntKind.i64.wrap ((k : Int) + 1) = (k : Int) + 1 := IntWalk.i64_in _ (by omega)
      have w5_ : IntKind.i64.wrap ((m : Int) + 1) = (m : Int) + 1 := IntWalk.i64_in _ (by omega)
      have HAz := Lib.hid (show 2214592512 + (n : Int) = a ∧ 3288334336 + (n : Int) = z ∧ cntK n = k ∧ cntW n = m from ⟨ha, hz, hk, hm⟩)
      clear ha hz hk hm
      cases hc : isIn narrowL a <;> cases hd : isIn wideL (z - 1073741824)
      all_goals
        have HC := Lib.hid hc
        have HD := Lib.hid hd
        have HZ := Lib.hid hzn
        clear hc hd hzn
        go_wp2_with (first
          | (go_at_call 15; (with_reducible refine (known_val _ HC.out).mono ?_); rintro e w2 ⟨rfl, hb2⟩; replace hr := bel_then hr hr.size hb2; clear hb2)
          | (go_at_call 14; (with_reducible refine (call_wide _ z 0 0 0 0 0 0 0 hz0 HZ.out HD.out).mono ?_); rintro e w3 ⟨rfl, hb3⟩; replace hr := bel_alloc2 (bel_then hr hr.size hb3) (Nat.le_trans hr.size hb3.size); clear hb3)
          | (go_at_call 14; (with_reducible refine (call_none_lo _ z 0 0 0 0 0 0 0 hz0 HZ.out HD.out).mono ?_); rintro e w3 ⟨rfl, hb3⟩; replace hr := bel_alloc2 (bel_then hr hr.size hb3) (Nat.le_trans hr.size hb3.size); clear hb3)
          | fail)
        go_roundw
        case rel =>
          obtain ⟨e1, e2, e3, e4⟩ := HAz.out
          have hc := HC.out
          have hd := HD.out
          rw [← e1] at hc
          rw [← e2] at hd
          refine ⟨n + 1, by omega, ?_, ?_, by go_num, hr _⟩
          · first | rw [cntK_yes hc, e3]; go_num | rw [cntK_no hc, e3]
          · first | rw [cntW_yes hd, e4]; go_num | rw [cntW_no hd, e4]
        case measure => simp [intOf]; omega
    · obtain rfl : n = 256 := by omega
      rw [cntK_all, cntW_all]
      clear hk1 hk2
      go_wp2
      go_loopw [10] (fun t10 w2 => ∃ i : Nat, i ≤ 28 ∧ t10 = .int .i64 i ∧ Below W.heap.size W w2) (fun t10 _ => 28 - (intOf t10).toNat)
      case atStart => exact ⟨0, by omega, rfl, hr⟩
      case round =>
        obtain ⟨i, hi, rfl, hr⟩ := hrel
        by_cases hlt : (i : Int) < 28
        · obtain ⟨h1, h2, h3⟩ := all_in i (by omega)
          have hcell := (hr.cell (p := ⟨w1.heap.size, 0 + i, none⟩) hl1).trans (HA.out i (by show i < 28; omega))
          rw [Nat.zero_add] at hcell
          obtain ⟨x, hx⟩ : ∃ x, allL.getD i 0 = x := ⟨_, rfl⟩
          rw [hx] at h1 h2 h3 hcell
          have hi0 : (0 : Int) ≤ (i : Int) := by omega
          have w1_ : IntKind.i64.wrap (2214592512 + x) = 2214592512 + x := IntWalk.i64_in _ (by omega)
          have HX := Lib.hid h1
          clear hx h1
          go_wp2_with (first
            | (go_at_call 15; (with_reducible refine (known_val _ HX.out).mono ?_); rintro e w2 ⟨rfl, hb2⟩; replace hr := bel_then hr hr.size hb2; clear hb2)
            | fail)
          go_roundw
          case rel => exact ⟨i + 1, by omega, by go_num, hr⟩
          case measure => simp [intOf]; omega
        · obtain rfl : i = 28 := by omega
          go_wp2
          go_loopw [11] (fun t11 w2 => ∃ i : Nat, i ≤ 14 ∧ t11 = .int .i64 i ∧ Below W.heap.size W w2) (fun t11 _ => 14 - (intOf t11).toNat)
          case atStart => exact ⟨0, by omega, rfl, hr⟩
          case round =>
            obtain ⟨i, hi, rfl, hr⟩ := hrel
            by_cases hlt : (i : Int) < 14
            · obtain ⟨h1, h2, h3⟩ := wid_in i (by omega)
              have hcell := (hr.cell (p := ⟨w1.heap.size + 1, 0 + i, none⟩) hl2).trans (HW.out i (by show i < 14; omega))
              rw [Nat.zero_add] at hcell
              obtain ⟨x, hx⟩ : ∃ x, widL.getD i 0 = x := ⟨_, rfl⟩
              rw [hx] at h1 h2 h3 hcell
              have hi0 : (0 : Int) ≤ (i : Int) := by omega
              obtain ⟨z, hz⟩ : ∃ z : Int, 3288334336 + x = z := ⟨_, rfl⟩
              have w1_ : IntKind.u64.wrap x = x := IntWalk.u64_in _ (by omega)
              have w2_ : IntKind.u64.wrap (3288334336 + x) = z := by rw [← hz]; exact IntWalk.u64_in _ (by omega)
              have hz0 : 0 ≤ z ∧ z < 4294967296 := by omega
              rw [hz] at h1
              have HX := Lib.hid h1
              have HZ := Lib.hid (no_wide_narrow z (by omega))
              clear hx h1 hz
              go_wp2_with (first
                | (go_at_call 14; (with_reducible refine (call_wide _ z 0 0 0 0 0 0 0 hz0 HZ.out HX.out).mono ?_); rintro e w3 ⟨rfl, hb3⟩; replace hr := bel_alloc2 (bel_then hr hr.size hb3) (Nat.le_trans hr.size hb3.size); clear hb3)
                | fail)
              go_roundw
              case rel => exact ⟨i + 1, by omega, by go_num, hr _⟩
              case measure => simp [intOf]; omega
            · obtain rfl : i = 14 := by omega
              go_wp2
              go_ret
              exact ⟨rfl, bel_then hb hb.size hr⟩
end Go.Proofs.Ytecliaogidemjaa.Word
