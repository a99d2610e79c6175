/- Contracts of package word: a narrow call. -/
import Derived.Test.YtecliaogidemjaaWord
namespace Go.Proofs.Ytecliaogidemjaa.Word
open Go.RowKit Go.Proofs.Ytecliaogidemjaa.Mem
set_option linter.unusedVariables false

set_option maxRecDepth 100000 in
set_option maxHeartbeats 4000000 in
theorem call_narrow (w : World) (r0 r1 r2 r3 r4 r5 r6 r7 : Int) (h0 : 0 ≤ r0 ∧ r0 < 4294967296) (hn : isIn narrowL r0 = true) :
    Calls Try.prog 14 #[.agg #[.int .u64 r0, .int .u64 r1, .int .u64 r2, .int .u64 r3, .int .u64 r4, .int .u64 r5, .int .u64 r6, .int .u64 r7]] w fun r w' => r = .returned (.tuple #[.int .i64 r0, .agg #[.int .u64 0, .int .u64 (r1 % 4294967296), .int .u64 (r2 % 4294967296), .int .u64 (r3 % 4294967296), .int .u64 (r4 % 4294967296), .int .u64 (r5 % 4294967296), .int .u64 (r6 % 4294967296), .int .u64 (r7 % 4294967296)], .bool false, .bool true]) ∧ Below w.heap.size w w' := by
  have hu := Try.underlying25
  obtain ⟨R, hR⟩ : ∃ R, R = w.heap.size := ⟨_, rfl⟩
  have bR := blk_alloc (blk_new w (.cells #[.int .u64 r0, .int .u64 r1, .int .u64 r2, .int .u64 r3, .int .u64 r4, .int .u64 r5, .int .u64 r6, .int .u64 r7] 25)) (.cells #[.int .u64 0, .int .u64 0, .int .u64 0, .int .u64 0, .int .u64 0, .int .u64 0, .int .u64 0, .int .u64 0] 25)
  have bA := blk_new (w.alloc (.cells #[.int .u64 r0, .int .u64 r1, .int .u64 r2, .int .u64 r3, .int .u64 r4, .int .u64 r5, .int .u64 r6, .int .u64 r7] 25)) (.cells #[.int .u64 0, .int .u64 0, .int .u64 0, .int .u64 0, .int .u64 0, .int .u64 0, .int .u64 0, .int .u64 0] 25)
  have hsz : (w.alloc (.cells #[.int .u64 r0, .int .u64 r1, .int .u64 r2, .int .u64 r3, .int .u64 r4, .int .u64 r5, .int .u64 r6, .int .u64 r7] 25)).heap.size = R + 1 := by rw [hR]; show (w.heap.push _).size = _; simp
  have hb : Below w.heap.size w ((w.alloc (.cells #[.int .u64 r0, .int .u64 r1, .int .u64 r2, .int .u64 r3, .int .u64 r4, .int .u64 r5, .int .u64 r6, .int .u64 r7] 25)).alloc (.cells #[.int .u64 0, .int .u64 0, .int .u64 0, .int .u64 0, .int .u64 0, .int .u64 0, .int .u64 0, .int .u64 0] 25)) := bel_alloc (bel_alloc (Below.refl _ _) _) _
  have hRA : w.heap.size ≤ R + 1 := by omega
  rw [hsz] at bA
  go_enter Try.func14, Try.ntmps14
  go_wp2
  simp only [← hR] at bR ⊢
  generalize hW : (w.alloc (.cells #[.int .u64 r0, .int .u64 r1, .int .u64 r2, .int .u64 r3, .int .u64 r4, .int .u64 r5, .int .u64 r6, .int .u64 r7] 25)).alloc (.cells #[.int .u64 0, .int .u64 0, .int .u64 0, .int .u64 0, .int .u64 0, .int .u64 0, .int .u64 0, .int .u64 0] 25) = W at bR bA hb ⊢
  clear hW hsz
  have HR := Lib.hid hR
  clear hR
  obtain ⟨c0, c1, c2, c3, c4, c5, c6, c7⟩ := cells8 bR
  refine wp_scope_jumps 1 (fun a' w' => Below w.heap.size w w' ∧ w'.heap[R]? = some (.cells #[.int .u64 r0, .int .u64 r1, .int .u64 r2, .int .u64 r3, .int .u64 r4, .int .u64 r5, .int .u64 r6, .int .u64 r7] 25 (0, 0)) ∧ w'.heap[R + 1]? = some (.cells #[.int .u64 0, .int .u64 0, .int .u64 0, .int .u64 0, .int .u64 0, .int .u64 0, .int .u64 0, .int .u64 0] 25 (0, 0)) ∧
      ∃ (u0 u6 u7 u8 u9 u10 u11 u12 u13 u14 u15 u16 u17 u18 u19 u20 u21 u22 u23 u24 u25 u26 u27 u28 u29 u30 u31 u32 u33 u34 u35 u36 u37 u38 u39 u40 : Value), a' = { tmps := #[u0, .pointer (some ⟨R, 0, none⟩), .int .i64 r0, .pointer (some ⟨R + 1, 0, none⟩), .bool false, .bool false, u6, u7, u8, u9, u10, u11, u12, u13, u14, u15, u16, u17, u18, u19, u20, u21, u22, u23, u24, u25, u26, u27, u28, u29, u30, u31, u32, u33, u34, u35, u36, u37, u38, u39, u40], defers := [] })
    (fun _ _ => 0) rfl ?_ ?_
  · go_wp2_with (first
      | (go_at_call 15; refine (known_any _ _).mono ?_; rintro e w1 ⟨rfl, hb1⟩; rw [hn])
      | fail)
    go_step3
    exact ⟨rfl, bel_then hb hb.size hb1, blk_below bR hb1, blk_below bA hb1, _, _, _, _, _, _, _, _, _, _, _, _, _, _, _, _, _, _, _, _, _, _, _, _, _, _, _, _, _, _, _, _, _, _, _, _, rfl⟩
  · clear c0 c1 c2 c3 c4 c5 c6 c7 bR bA hb
    rintro a' w' ⟨hb, bR, bA, u0, u6, u7, u8, u9, u10, u11, u12, u13, u14, u15, u16, u17, u18, u19, u20, u21, u22, u23, u24, u25, u26, u27, u28, u29, u30, u31, u32, u33, u34, u35, u36, u37, u38, u39, u40, rfl⟩
    obtain ⟨c0, c1, c2, c3, c4, c5, c6, c7⟩ := cells8 bR
    obtain ⟨d0, d1, d2, d3, d4, d5, d6, d7⟩ := cells8 bA
    have f0 := blk_free bA 0
    have f1 := blk_free bA 1
    have f2 := blk_free bA 2
    have f3 := blk_free bA 3
    have f4 := blk_free bA 4
    have f5 := blk_free bA 5
    have f6 := blk_free bA 6
    have f7 := blk_free bA 7
    go_wp2
    have bB := blk_set (blk_set (blk_set (blk_set (blk_set (blk_set (blk_set (blk_set (blk_set bA 0 (.int .u64 r0)) 1 (.int .u64 r1)) 2 (.int .u64 r2)) 3 (.int .u64 r3)) 4 (.int .u64 r4)) 5 (.int .u64 r5)) 6 (.int .u64 r6)) 7 (.int .u64 r7)) 0 (.int .u64 0)
    have hbB := bel_set (bel_set (bel_set (bel_set (bel_set (bel_set (bel_set (bel_set (bel_set hb hRA 0 (.int .u64 r0)) hRA 1 (.int .u64 r1)) hRA 2 (.int .u64 r2)) hRA 3 (.int .u64 r3)) hRA 4 (.int .u64 r4)) hRA 5 (.int .u64 r5)) hRA 6 (.int .u64 r6)) hRA 7 (.int .u64 r7)) hRA 0 (.int .u64 0)
    generalize hW2 : (((((((((w'.setCell ⟨R + 1, 0, none⟩ (.int .u64 r0)).setCell ⟨R + 1, 1, none⟩ (.int .u64 r1)).setCell ⟨R + 1, 2, none⟩ (.int .u64 r2)).setCell ⟨R + 1, 3, none⟩ (.int .u64 r3)).setCell ⟨R + 1, 4, none⟩ (.int .u64 r4)).setCell ⟨R + 1, 5, none⟩ (.int .u64 r5)).setCell ⟨R + 1, 6, none⟩ (.int .u64 r6)).setCell ⟨R + 1, 7, none⟩ (.int .u64 r7)).setCell ⟨R + 1, 0, none⟩ (.int .u64 0)) = W2 at bB hbB ⊢
    clear hW2 c0 c1 c2 c3 c4 c5 c6 c7 d0 d1 d2 d3 d4 d5 d6 d7 f0 f1 f2 f3 f4 f5 f6 f7 bA hb bR
    replace bB : W2.heap[R + 1]? = some (.cells (nums8 (mixed [0, r1, r2, r3, r4, r5, r6, r7] 0)) 25 (0, 0)) := bB
    go_loopw [24] (fun t24 wr => ∃ i : Nat, i ≤ 8 ∧ t24 = .int .i64 i ∧ Below w.heap.size w wr ∧ wr.heap[R + 1]? = some (.cells (nums8 (mixed [0, r1, r2, r3, r4, r5, r6, r7] i)) 25 (0, 0))) (fun t24 _ => 8 - (intOf t24).toNat)
    case atStart => exact ⟨0, by omega, rfl, hbB, bB⟩
    case round =>
      obtain ⟨i, hi, rfl, hbr, bC⟩ := hrel
      by_cases hlt : (i : Int) < 8
      · obtain ⟨x, hx⟩ : ∃ x, x = [0, r1, r2, r3, r4, r5, r6, r7].getD i 0 := ⟨_, rfl⟩
        have hcell := mixed_cell bC (show i < 8 by omega) rfl
        rw [← hx] at hcell
        have hfr := blk_free bC i
        have hi0 : (0 : Int) ≤ (i : Int) := by omega
        have hx1 : IntKind.u32.wrap x = x % 4294967296 := by rw [IntKind.wrap_u32]
        have hx2 : IntKind.u64.wrap (x % 4294967296) = x % 4294967296 := IntWalk.u64_in _ (by omega)
        have HX := Lib.hid hx
        clear hx
        go_wp2
        go_roundw
        case rel => exact ⟨i + 1, by omega, by go_num, bel_set hbr hRA _ _, by rw [HX.out]; exact mixed_set bC (show i < 8 by omega) rfl⟩
        case measure => simp [intOf]; omega
      · obtain rfl : i = 8 := by omega
        replace bC : wr.heap[R + 1]? = some (.cells #[.int .u64 (0 % 4294967296), .int .u64 (r1 % 4294967296), .int .u64 (r2 % 4294967296), .int .u64 (r3 % 4294967296), .int .u64 (r4 % 4294967296), .int .u64 (r5 % 4294967296), .int .u64 (r6 % 4294967296), .int .u64 (r7 % 4294967296)] 25 (0, 0)) := bC
        rw [show (0 : Int) % 4294967296 = 0 from rfl] at bC
        obtain ⟨d0, d1, d2, d3, d4, d5, d6, d7⟩ := cells8 bC
        have f0 := blk_free bC 0
        have f1 := blk_free bC 1
        have f2 := blk_free bC 2
        have f3 := blk_free bC 3
        have f4 := blk_free bC 4
        have f5 := blk_free bC 5
        have f6 := blk_free bC 6
        have f7 := blk_free bC 7
        go_wp2
        go_region
        go_wp2
        have bE := (blk_set (blk_set (blk_set (blk_set (blk_set (blk_set (blk_set (blk_set bC 0 (.int .u64 (0))) 1 (.int .u64 (r1 % 4294967296))) 2 (.int .u64 (r2 % 4294967296))) 3 (.int .u64 (r3 % 4294967296))) 4 (.int .u64 (r4 % 4294967296))) 5 (.int .u64 (r5 % 4294967296))) 6 (.int .u64 (r6 % 4294967296))) 7 (.int .u64 (r7 % 4294967296)))
        have hbE := (bel_set (bel_set (bel_set (bel_set (bel_set (bel_set (bel_set (bel_set hbr hRA 0 (.int .u64 (0))) hRA 1 (.int .u64 (r1 % 4294967296))) hRA 2 (.int .u64 (r2 % 4294967296))) hRA 3 (.int .u64 (r3 % 4294967296))) hRA 4 (.int .u64 (r4 % 4294967296))) hRA 5 (.int .u64 (r5 % 4294967296))) hRA 6 (.int .u64 (r6 % 4294967296))) hRA 7 (.int .u64 (r7 % 4294967296)))
        generalize hW3 : ((((((((wr.setCell ⟨R + 1, 0, none⟩ (.int .u64 (0))).setCell ⟨R + 1, 1, none⟩ (.int .u64 (r1 % 4294967296))).setCell ⟨R + 1, 2, none⟩ (.int .u64 (r2 % 4294967296))).setCell ⟨R + 1, 3, none⟩ (.int .u64 (r3 % 4294967296))).setCell ⟨R + 1, 4, none⟩ (.int .u64 (r4 % 4294967296))).setCell ⟨R + 1, 5, none⟩ (.int .u64 (r5 % 4294967296))).setCell ⟨R + 1, 6, none⟩ (.int .u64 (r6 % 4294967296))).setCell ⟨R + 1, 7, none⟩ (.int .u64 (r7 % 4294967296))) = W3 at bE hbE ⊢
        have bE2 : W3.drew.heap[R + 1]? = some (.cells #[.int .u64 (0), .int .u64 (r1 % 4294967296), .int .u64 (r2 % 4294967296), .int .u64 (r3 % 4294967296), .int .u64 (r4 % 4294967296), .int .u64 (r5 % 4294967296), .int .u64 (r6 % 4294967296), .int .u64 (r7 % 4294967296)] 25 (0, 0)) := bE
        simp only [Exit.jump]
        exact bodyPost_ret (call_res rfl bE2 rfl rfl rfl rfl) rfl ⟨rfl, bel_drew hbE⟩

end Go.Proofs.Ytecliaogidemjaa.Word
