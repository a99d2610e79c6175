/- An answer's words stand where they are looked for, and an error is its number with its sign. -/
import Derived.Test.YtecliaogidemjaaWordD
namespace Go.Proofs.Ytecliaogidemjaa.Word
open Go.RowKit Go.Proofs.Ytecliaogidemjaa.Mem
set_option linter.unusedVariables false

theorem done_len {y0 y1 y2 y3 y4 y5 y6 y7 : Int} {n : Nat} (a : Option Addr) (b off cap : Nat) (vs : List Int) (w : World) (hn : vs.length = n) (hl : n ≤ 6) (hy : doneL vs = [y0, y1, y2, y3, y4, y5, y6, y7]) (ha : 0 < n → a = some ⟨b, off, none⟩) (hblt : 0 < n → b < w.heap.size)
    (hc : ∀ i, i < n → w.cell? ⟨b, off + i, none⟩ = some (.int .u64 (vs.getD i 0))) :
    Calls Try.prog 16 #[.slice a n cap] w fun r w' => r = .returned (.agg #[.int .u64 y0, .int .u64 y1, .int .u64 y2, .int .u64 y3, .int .u64 y4, .int .u64 y5, .int .u64 y6, .int .u64 y7]) ∧ Below w.heap.size w w' := by
  subst hn
  exact done_any a b off cap vs w hl hy ha hblt hc
theorem done_names (vs : List Int) (h : vs.length ≤ 6) : ∃ y2 y3 y4 y5 y6 y7, doneL vs = [2214592609, 0, y2, y3, y4, y5, y6, y7] := by
  match vs, h with
  | [], _ => exact ⟨_, _, _, _, _, _, rfl⟩
  | [_], _ => exact ⟨_, _, _, _, _, _, rfl⟩
  | [_, _], _ => exact ⟨_, _, _, _, _, _, rfl⟩
  | [_, _, _], _ => exact ⟨_, _, _, _, _, _, rfl⟩
  | [_, _, _, _], _ => exact ⟨_, _, _, _, _, _, rfl⟩
  | [_, _, _, _, _], _ => exact ⟨_, _, _, _, _, _, rfl⟩
  | [_, _, _, _, _, _], _ => exact ⟨_, _, _, _, _, _, rfl⟩
  | _ :: _ :: _ :: _ :: _ :: _ :: _ :: _, h => simp at h
theorem cell_l {w : World} {g : Nat} {t : TypeId} {l : List Int} (h : w.heap[g]? = some (.cells (nums8 l) t (0, 0))) (i : Nat) (hi : i < l.length) : w.cell? ⟨g, i, none⟩ = some (.int .u64 (l.getD i 0)) := by
  rw [blk_cell h]
  simp [nums8, List.getElem?_map, List.getElem?_eq_getElem hi, List.getD_eq_getElem?_getD]
theorem done_at (xs : List Int) (n i : Nat) (ha : xs.length = 6) (hn : n ≤ 6) (hi : i < 6) : (doneL (xs.take n)).getD (i + 2) 0 = if i < n then xs.getD i 0 else 0 := by
  have hl : (xs.take n).length = n := by rw [List.length_take]; omega
  simp only [doneL, List.getD_cons_succ]
  rw [List.getD_eq_getElem?_getD, List.getD_eq_getElem?_getD, hl]
  split
  · rename_i h
    rw [List.getElem?_append_left (by omega), List.getElem?_take, if_pos h]
  · rename_i h
    rw [List.getElem?_append_right (by omega), hl, List.getElem?_replicate]
    split <;> rfl

set_option maxRecDepth 100000 in
set_option maxHeartbeats 8000000 in
theorem answers (w : World) (a0 a1 a2 a3 a4 a5 e : Int) (he : -32768 ≤ e ∧ e ≤ 32767) :
    Calls Try.prog 5 #[.agg #[.int .u64 a0, .int .u64 a1, .int .u64 a2, .int .u64 a3, .int .u64 a4, .int .u64 a5], .int .i16 e] w fun e w' => e = .returned (.bool true) ∧ Below w.heap.size w w' := by
  have hu := Try.underlying25
  have bA : (w.alloc (.cells #[.int .u64 a0, .int .u64 a1, .int .u64 a2, .int .u64 a3, .int .u64 a4, .int .u64 a5] 32)).heap[w.heap.size]? = some (.cells (nums8 [a0, a1, a2, a3, a4, a5]) 32 (0, 0)) := blk_new _ _
  have hb : Below w.heap.size w (w.alloc (.cells #[.int .u64 a0, .int .u64 a1, .int .u64 a2, .int .u64 a3, .int .u64 a4, .int .u64 a5] 32)) := bel_alloc (Below.refl _ _) _
  have hwe : IntKind.i64.wrap e = e := IntWalk.i64_in _ (by omega)
  obtain ⟨z, hz⟩ : ∃ z, IntKind.u64.wrap e = z := ⟨_, rfl⟩
  have hzw : IntKind.i64.wrap z = e := by rw [← hz, IntKind.wrap_u64, IntKind.wrap_i64]; omega
  have HZ := Lib.hid hz
  have D1 : Hid ((0 : Int) ≤ 2214592608 ∧ (2214592608 : Int) < 4294967296) := Lib.hid (by decide)
  have D2 : Hid (isIn narrowL 2214592608 = false) := Lib.hid (by decide)
  have D3 : Hid (isIn wideL (2214592608 - 1073741824) = false) := Lib.hid (by decide)
  clear hz
  go_enter Try.func5, Try.ntmps5
  go_wp2_with (first
    | (go_at_call 13; refine (begun _).mono ?_; rintro e w1 ⟨rfl, hb1⟩; have bA1 := blk_below bA hb1; replace hb := bel_chain hb hb1; clear hb1 bA)
    | fail)
  have hAl := blk_lt bA1
  have HA := Lib.hid (fun i hi => cell_l bA1 i hi)
  clear bA1
  go_loopw [5] (fun t5 wr => ∃ n : Nat, n ≤ 7 ∧ t5 = .int .i64 n ∧ Below w1.heap.size w1 wr) (fun t5 _ => 7 - (intOf t5).toNat)
  case atStart => exact ⟨0, by omega, rfl, Below.refl _ _⟩
  case round =>
    obtain ⟨n, hn, rfl, hr⟩ := hrel
    by_cases hlt : (n : Int) ≤ 6
    · have hn0 : (0 : Int) ≤ (n : Int) := by omega
      have hlen : ([a0, a1, a2, a3, a4, a5].take n).length = n := by rw [List.length_take]; show min n 6 = n; omega
      obtain ⟨y2, y3, y4, y5, y6, y7, hy⟩ := done_names ([a0, a1, a2, a3, a4, a5].take n) (by omega)
      have HY := Lib.hid hy
      have HL := Lib.hid hlen
      have hcells : ∀ i, i < n → wr.cell? ⟨w.heap.size, 0 + i, none⟩ = some (.int .u64 (([a0, a1, a2, a3, a4, a5].take n).getD i 0)) := by
        intro i hi
        have h1 : wr.cell? ⟨w.heap.size, i, none⟩ = some (.int .u64 ([a0, a1, a2, a3, a4, a5].getD i 0)) := (hr.cell (p := ⟨w.heap.size, i, none⟩) hAl).trans (HA.out i (by show i < 6; omega))
        rw [Nat.zero_add, h1]
        simp only [List.getD_eq_getElem?_getD, List.getElem?_take, if_pos hi]
      have HC := Lib.hid hcells
      clear hy hlen hcells
      go_wp2_with (first
        | (go_at_call 16; refine (done_len (some ⟨w.heap.size, 0, none⟩) w.heap.size 0 6 _ _ HL.out (by omega) HY.out (fun _ => rfl) (fun _ => Nat.lt_of_lt_of_le hAl hr.size) HC.out).mono ?_; rintro e w3 ⟨rfl, hb3⟩; have bY := blk_new w3 (.cells #[.int .u64 2214592609, .int .u64 0, .int .u64 y2, .int .u64 y3, .int .u64 y4, .int .u64 y5, .int .u64 y6, .int .u64 y7] 25); obtain ⟨k0, k1, _, _, _, _, _, _⟩ := cells8 bY; have hrY := (bel_then hr hr.size hb3).alloc (Nat.le_trans hr.size hb3.size) (.cells #[.int .u64 2214592609, .int .u64 0, .int .u64 y2, .int .u64 y3, .int .u64 y4, .int .u64 y5, .int .u64 y6, .int .u64 y7] 25))
        | fail)
      have bY2 : (w3.alloc (.cells #[.int .u64 2214592609, .int .u64 0, .int .u64 y2, .int .u64 y3, .int .u64 y4, .int .u64 y5, .int .u64 y6, .int .u64 y7] 25)).heap[w3.heap.size]? = some (.cells (nums8 (doneL ([a0, a1, a2, a3, a4, a5].take n))) 25 (0, 0)) := by rw [HY.out]; exact bY
      clear bY k0 k1
      generalize hG : w3.alloc (.cells #[.int .u64 2214592609, .int .u64 0, .int .u64 y2, .int .u64 y3, .int .u64 y4, .int .u64 y5, .int .u64 y6, .int .u64 y7] 25) = G at bY2 hrY ⊢
      clear hG
      go_loop [7, 8] (fun t7 t8 => ∃ (i : Nat) (u : Value), i ≤ 6 ∧ t7 = .int .i64 i ∧ t8 = u) (fun t7 _ => 6 - (intOf t7).toNat)
      case atStart => exact ⟨0, _, by omega, rfl, rfl⟩
      case round =>
        obtain ⟨i, u, hi, rfl, rfl⟩ := hrel
        by_cases hlt2 : (i : Int) < 6
        · have hi0 : (0 : Int) ≤ (i : Int) := by omega
          have hw2 : IntKind.i64.wrap (2 + (i : Int)) = ((i + 2 : Nat) : Int) := by rw [IntWalk.i64_in _ (by omega)]; omega
          have hj0 : (0 : Int) ≤ ((i + 2 : Nat) : Int) := by omega
          have hj1 : ((i + 2 : Nat) : Int) < 8 := by omega
          have hd := cell_l bY2 (i + 2) (by rw [HY.out]; show i + 2 < 8; omega)
          rw [done_at _ n i rfl (by omega) (by omega)] at hd
          have hai := (hrY.cell (p := ⟨w.heap.size, i, none⟩) hAl).trans (HA.out i (by show i < 6; omega))
          obtain ⟨x, hx⟩ : ∃ x, [a0, a1, a2, a3, a4, a5].getD i 0 = x := ⟨_, rfl⟩
          rw [hx] at hd hai
          clear hx
          by_cases hin : i < n
          · rw [if_pos hin] at hd
            go_wp2
            go_round
            case rel => exact ⟨i + 1, _, by omega, by go_num, rfl⟩
            case measure => simp [intOf]; omega
          · rw [if_neg hin] at hd
            go_wp2
            go_round
            case rel => exact ⟨i + 1, _, by omega, by go_num, rfl⟩
            case measure => simp [intOf]; omega
        · obtain rfl : i = 6 := by omega
          go_wp2
          go_roundw
          case rel => exact ⟨n + 1, by omega, by go_num, hrY⟩
          case measure => simp [intOf]; omega
    · obtain rfl : n = 7 := by omega
      have hbr := bel_then hb hb.size hr
      go_wp2_with (first
        | (go_at_call 17; refine (fail_any e z _ HZ.out).mono ?_; rintro e w5 ⟨rfl, hb5⟩; have bF := blk_new w5 (.cells #[.int .u64 2214592608, .int .u64 0, .int .u64 z, .int .u64 0, .int .u64 0, .int .u64 0, .int .u64 0, .int .u64 0] 25); obtain ⟨k0, k1, k2, k3, k4, k5, k6, k7⟩ := cells8 bF; have hbf := bel_alloc (bel_chain hbr hb5) (.cells #[.int .u64 2214592608, .int .u64 0, .int .u64 z, .int .u64 0, .int .u64 0, .int .u64 0, .int .u64 0, .int .u64 0] 25); clear hb5)
        | (go_at_call 14; (with_reducible refine (call_none_lo _ 2214592608 0 z 0 0 0 0 0 D1.out D2.out D3.out).mono ?_); rintro e w6 ⟨rfl, hb6⟩; have bF6 := blk_alloc (blk_below bF hb6) (.cells #[.int .u64 0, .int .u64 0, .int .u64 0, .int .u64 0, .int .u64 0, .int .u64 0, .int .u64 0, .int .u64 0] 25); obtain ⟨j0, j1, j2, j3, j4, j5, j6, j7⟩ := cells8 bF6; have hbg := bel_alloc (bel_chain hbf hb6) (.cells #[.int .u64 0, .int .u64 0, .int .u64 0, .int .u64 0, .int .u64 0, .int .u64 0, .int .u64 0, .int .u64 0] 25); clear hb6 k0 k1 k2 k3 k4 k5 k6 k7 bF bF6)
        | fail)
      go_ret
      exact ⟨rfl, hbg⟩
end Go.Proofs.Ytecliaogidemjaa.Word
