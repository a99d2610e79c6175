/- Contracts of package word: registers that are no call. -/
import Derived.Test.YtecliaogidemjaaWord
namespace Go.Proofs.Ytecliaogidemjaa.Word
open Go.RowKit Go.Proofs.Ytecliaogidemjaa.Mem
set_option linter.unusedVariables false

set_option maxRecDepth 100000 in
set_option maxHeartbeats 4000000 in
theorem call_none_hi (w : World) (r0 r1 r2 r3 r4 r5 r6 r7 : Int) (h0 : 4294967296 ≤ r0 ∧ r0 ≤ 18446744073709551615) :
    Calls Try.prog 14 #[.agg #[.int .u64 r0, .int .u64 r1, .int .u64 r2, .int .u64 r3, .int .u64 r4, .int .u64 r5, .int .u64 r6, .int .u64 r7]] w fun r w' => r = .returned (.tuple #[.int .i64 0, .agg #[.int .u64 0, .int .u64 0, .int .u64 0, .int .u64 0, .int .u64 0, .int .u64 0, .int .u64 0, .int .u64 0], .bool false, .bool false]) ∧ Below w.heap.size w w' := by
  have hu := Try.underlying25
  obtain ⟨R, hR⟩ : ∃ R, R = w.heap.size := ⟨_, rfl⟩
  have bR := blk_alloc (blk_new w (.cells #[.int .u64 r0, .int .u64 r1, .int .u64 r2, .int .u64 r3, .int .u64 r4, .int .u64 r5, .int .u64 r6, .int .u64 r7] 25)) (.cells #[.int .u64 0, .int .u64 0, .int .u64 0, .int .u64 0, .int .u64 0, .int .u64 0, .int .u64 0, .int .u64 0] 25)
  have bA := blk_new (w.alloc (.cells #[.int .u64 r0, .int .u64 r1, .int .u64 r2, .int .u64 r3, .int .u64 r4, .int .u64 r5, .int .u64 r6, .int .u64 r7] 25)) (.cells #[.int .u64 0, .int .u64 0, .int .u64 0, .int .u64 0, .int .u64 0, .int .u64 0, .int .u64 0, .int .u64 0] 25)
  have hsz : (w.alloc (.cells #[.int .u64 r0, .int .u64 r1, .int .u64 r2, .int .u64 r3, .int .u64 r4, .int .u64 r5, .int .u64 r6, .int .u64 r7] 25)).heap.size = R + 1 := by rw [hR]; show (w.heap.push _).size = _; simp
  have hb : Below w.heap.size w ((w.alloc (.cells #[.int .u64 r0, .int .u64 r1, .int .u64 r2, .int .u64 r3, .int .u64 r4, .int .u64 r5, .int .u64 r6, .int .u64 r7] 25)).alloc (.cells #[.int .u64 0, .int .u64 0, .int .u64 0, .int .u64 0, .int .u64 0, .int .u64 0, .int .u64 0, .int .u64 0] 25)) := bel_alloc (bel_alloc (Below.refl _ _) _) _
  have hRA : w.heap.size ≤ R + 1 := by omega
  rw [hsz] at bA
  go_enter Try.func14, Try.ntmps14
  go_wp2
  simp only [← hR] at bR ⊢
  generalize hW : (w.alloc (.cells #[.int .u64 r0, .int .u64 r1, .int .u64 r2, .int .u64 r3, .int .u64 r4, .int .u64 r5, .int .u64 r6, .int .u64 r7] 25)).alloc (.cells #[.int .u64 0, .int .u64 0, .int .u64 0, .int .u64 0, .int .u64 0, .int .u64 0, .int .u64 0, .int .u64 0] 25) = W at bR bA hb ⊢
  clear hW hsz
  have HR := Lib.hid hR
  clear hR
  obtain ⟨c0, c1, c2, c3, c4, c5, c6, c7⟩ := cells8 bR

  refine wp_scope_jumps 0 (fun a' w' => Below w.heap.size w w' ∧ w'.heap[R + 1]? = some (.cells #[.int .u64 0, .int .u64 0, .int .u64 0, .int .u64 0, .int .u64 0, .int .u64 0, .int .u64 0, .int .u64 0] 25 (0, 0)) ∧
      ∃ (u1 u2 u4 u5 u0 u6 u7 u8 u9 u10 u11 u12 u13 u14 u15 u16 u17 u18 u19 u20 u21 u22 u23 u24 u25 u26 u27 u28 u29 u30 u31 u32 u33 u34 u35 u36 u37 u38 u39 u40 : Value), a' = { tmps := #[u0, u1, u2, .pointer (some ⟨R + 1, 0, none⟩), u4, u5, u6, u7, u8, u9, u10, u11, u12, u13, u14, u15, u16, u17, u18, u19, u20, u21, u22, u23, u24, u25, u26, u27, u28, u29, u30, u31, u32, u33, u34, u35, u36, u37, u38, u39, u40], defers := [] })
    (fun _ _ => 0) rfl ?_ ?_
  · go_wp2
    go_step3
    exact ⟨rfl, hb, bA, _, _, _, _, _, _, _, _, _, _, _, _, _, _, _, _, _, _, _, _, _, _, _, _, _, _, _, _, _, _, _, _, _, _, _, _, _, _, _, _, rfl⟩
  · clear c0 c1 c2 c3 c4 c5 c6 c7 bR bA hb
    rintro a' w' ⟨hb, bA, u1, u2, u4, u5, u0, u6, u7, u8, u9, u10, u11, u12, u13, u14, u15, u16, u17, u18, u19, u20, u21, u22, u23, u24, u25, u26, u27, u28, u29, u30, u31, u32, u33, u34, u35, u36, u37, u38, u39, u40, rfl⟩
    obtain ⟨d0, d1, d2, d3, d4, d5, d6, d7⟩ := cells8 bA
    have f0 := blk_free bA 0
    have f1 := blk_free bA 1
    have f2 := blk_free bA 2
    have f3 := blk_free bA 3
    have f4 := blk_free bA 4
    have f5 := blk_free bA 5
    have f6 := blk_free bA 6
    have f7 := blk_free bA 7
    go_wp2
    have bE := (blk_set (blk_set (blk_set (blk_set (blk_set (blk_set (blk_set (blk_set bA 0 (.int .u64 0)) 1 (.int .u64 0)) 2 (.int .u64 0)) 3 (.int .u64 0)) 4 (.int .u64 0)) 5 (.int .u64 0)) 6 (.int .u64 0)) 7 (.int .u64 0))
    have hbE := (bel_set (bel_set (bel_set (bel_set (bel_set (bel_set (bel_set (bel_set hb hRA 0 (.int .u64 0)) hRA 1 (.int .u64 0)) hRA 2 (.int .u64 0)) hRA 3 (.int .u64 0)) hRA 4 (.int .u64 0)) hRA 5 (.int .u64 0)) hRA 6 (.int .u64 0)) hRA 7 (.int .u64 0))
    generalize hW3 : ((((((((w'.setCell ⟨R + 1, 0, none⟩ (.int .u64 0)).setCell ⟨R + 1, 1, none⟩ (.int .u64 0)).setCell ⟨R + 1, 2, none⟩ (.int .u64 0)).setCell ⟨R + 1, 3, none⟩ (.int .u64 0)).setCell ⟨R + 1, 4, none⟩ (.int .u64 0)).setCell ⟨R + 1, 5, none⟩ (.int .u64 0)).setCell ⟨R + 1, 6, none⟩ (.int .u64 0)).setCell ⟨R + 1, 7, none⟩ (.int .u64 0)) = W3 at bE hbE ⊢
    have bE2 : W3.heap[R + 1]? = some (.cells #[.int .u64 0, .int .u64 0, .int .u64 0, .int .u64 0, .int .u64 0, .int .u64 0, .int .u64 0, .int .u64 0] 25 (0, 0)) := bE
    simp only [Exit.jump]
    exact bodyPost_ret (call_res rfl bE2 rfl rfl rfl rfl) rfl ⟨rfl, hbE⟩

set_option maxRecDepth 100000 in
set_option maxHeartbeats 4000000 in
theorem call_none_lo (w : World) (r0 r1 r2 r3 r4 r5 r6 r7 : Int) (h0 : 0 ≤ r0 ∧ r0 < 4294967296) (hn : isIn narrowL r0 = false) (hw : isIn wideL (r0 - 1073741824) = false) :
    Calls Try.prog 14 #[.agg #[.int .u64 r0, .int .u64 r1, .int .u64 r2, .int .u64 r3, .int .u64 r4, .int .u64 r5, .int .u64 r6, .int .u64 r7]] w fun r w' => r = .returned (.tuple #[.int .i64 0, .agg #[.int .u64 0, .int .u64 0, .int .u64 0, .int .u64 0, .int .u64 0, .int .u64 0, .int .u64 0, .int .u64 0], .bool false, .bool false]) ∧ Below w.heap.size w w' := by
  have hu := Try.underlying25
  obtain ⟨R, hR⟩ : ∃ R, R = w.heap.size := ⟨_, rfl⟩
  have bR := blk_alloc (blk_new w (.cells #[.int .u64 r0, .int .u64 r1, .int .u64 r2, .int .u64 r3, .int .u64 r4, .int .u64 r5, .int .u64 r6, .int .u64 r7] 25)) (.cells #[.int .u64 0, .int .u64 0, .int .u64 0, .int .u64 0, .int .u64 0, .int .u64 0, .int .u64 0, .int .u64 0] 25)
  have bA := blk_new (w.alloc (.cells #[.int .u64 r0, .int .u64 r1, .int .u64 r2, .int .u64 r3, .int .u64 r4, .int .u64 r5, .int .u64 r6, .int .u64 r7] 25)) (.cells #[.int .u64 0, .int .u64 0, .int .u64 0, .int .u64 0, .int .u64 0, .int .u64 0, .int .u64 0, .int .u64 0] 25)
  have hsz : (w.alloc (.cells #[.int .u64 r0, .int .u64 r1, .int .u64 r2, .int .u64 r3, .int .u64 r4, .int .u64 r5, .int .u64 r6, .int .u64 r7] 25)).heap.size = R + 1 := by rw [hR]; show (w.heap.push _).size = _; simp
  have hb : Below w.heap.size w ((w.alloc (.cells #[.int .u64 r0, .int .u64 r1, .int .u64 r2, .int .u64 r3, .int .u64 r4, .int .u64 r5, .int .u64 r6, .int .u64 r7] 25)).alloc (.cells #[.int .u64 0, .int .u64 0, .int .u64 0, .int .u64 0, .int .u64 0, .int .u64 0, .int .u64 0, .int .u64 0] 25)) := bel_alloc (bel_alloc (Below.refl _ _) _) _
  have hRA : w.heap.size ≤ R + 1 := by omega
  rw [hsz] at bA
  go_enter Try.func14, Try.ntmps14
  go_wp2
  simp only [← hR] at bR ⊢
  generalize hW : (w.alloc (.cells #[.int .u64 r0, .int .u64 r1, .int .u64 r2, .int .u64 r3, .int .u64 r4, .int .u64 r5, .int .u64 r6, .int .u64 r7] 25)).alloc (.cells #[.int .u64 0, .int .u64 0, .int .u64 0, .int .u64 0, .int .u64 0, .int .u64 0, .int .u64 0, .int .u64 0] 25) = W at bR bA hb ⊢
  clear hW hsz
  have HR := Lib.hid hR
  clear hR
  obtain ⟨c0, c1, c2, c3, c4, c5, c6, c7⟩ := cells8 bR
  have hws : IntKind.i64.wrap (r0 - 1073741824) = r0 - 1073741824 := IntWalk.i64_in _ (by omega)
  refine wp_scope_jumps 0 (fun a' w' => Below w.heap.size w w' ∧ w'.heap[R + 1]? = some (.cells #[.int .u64 0, .int .u64 0, .int .u64 0, .int .u64 0, .int .u64 0, .int .u64 0, .int .u64 0, .int .u64 0] 25 (0, 0)) ∧
      ∃ (u1 u2 u4 u5 u0 u6 u7 u8 u9 u10 u11 u12 u13 u14 u15 u16 u17 u18 u19 u20 u21 u22 u23 u24 u25 u26 u27 u28 u29 u30 u31 u32 u33 u34 u35 u36 u37 u38 u39 u40 : Value), a' = { tmps := #[u0, u1, u2, .pointer (some ⟨R + 1, 0, none⟩), u4, u5, u6, u7, u8, u9, u10, u11, u12, u13, u14, u15, u16, u17, u18, u19, u20, u21, u22, u23, u24, u25, u26, u27, u28, u29, u30, u31, u32, u33, u34, u35, u36, u37, u38, u39, u40], defers := [] })
    (fun _ _ => 0) rfl ?_ ?_
  · go_wp2_with (first
      | (go_at_call 15; refine (known_any _ _).mono ?_; rintro e w1 ⟨rfl, hb1⟩; rw [hn]; have bA1 := blk_below bA hb1; have hb2 := bel_then hb hb.size hb1; clear hb1)
      | (go_at_call 34; refine (wides_any _).mono ?_; rintro e w2 ⟨rfl, hw2, hb3⟩; have bA2 := blk_below bA1 hb3; have hb4 := bel_then hb2 hb2.size hb3; clear bA1 hb3)
      | (go_at_call 33; refine (contains_any _ w1.heap.size 0 14 wideL (r0 - 1073741824) _ (by decide) (fun _ => rfl) (blk_cells_int hw2)).mono ?_; rintro e w3 ⟨rfl, rfl⟩; rw [hw])
      | fail)
    go_step3
    exact ⟨rfl, hb4, bA2, _, _, _, _, _, _, _, _, _, _, _, _, _, _, _, _, _, _, _, _, _, _, _, _, _, _, _, _, _, _, _, _, _, _, _, _, _, _, _, _, rfl⟩
  · clear c0 c1 c2 c3 c4 c5 c6 c7 bR bA hb
    rintro a' w' ⟨hb, bA, u1, u2, u4, u5, u0, u6, u7, u8, u9, u10, u11, u12, u13, u14, u15, u16, u17, u18, u19, u20, u21, u22, u23, u24, u25, u26, u27, u28, u29, u30, u31, u32, u33, u34, u35, u36, u37, u38, u39, u40, rfl⟩
    obtain ⟨d0, d1, d2, d3, d4, d5, d6, d7⟩ := cells8 bA
    have f0 := blk_free bA 0
    have f1 := blk_free bA 1
    have f2 := blk_free bA 2
    have f3 := blk_free bA 3
    have f4 := blk_free bA 4
    have f5 := blk_free bA 5
    have f6 := blk_free bA 6
    have f7 := blk_free bA 7
    go_wp2
    have bE := (blk_set (blk_set (blk_set (blk_set (blk_set (blk_set (blk_set (blk_set bA 0 (.int .u64 0)) 1 (.int .u64 0)) 2 (.int .u64 0)) 3 (.int .u64 0)) 4 (.int .u64 0)) 5 (.int .u64 0)) 6 (.int .u64 0)) 7 (.int .u64 0))
    have hbE := (bel_set (bel_set (bel_set (bel_set (bel_set (bel_set (bel_set (bel_set hb hRA 0 (.int .u64 0)) hRA 1 (.int .u64 0)) hRA 2 (.int .u64 0)) hRA 3 (.int .u64 0)) hRA 4 (.int .u64 0)) hRA 5 (.int .u64 0)) hRA 6 (.int .u64 0)) hRA 7 (.int .u64 0))
    generalize hW3 : ((((((((w'.setCell ⟨R + 1, 0, none⟩ (.int .u64 0)).setCell ⟨R + 1, 1, none⟩ (.int .u64 0)).setCell ⟨R + 1, 2, none⟩ (.int .u64 0)).setCell ⟨R + 1, 3, none⟩ (.int .u64 0)).setCell ⟨R + 1, 4, none⟩ (.int .u64 0)).setCell ⟨R + 1, 5, none⟩ (.int .u64 0)).setCell ⟨R + 1, 6, none⟩ (.int .u64 0)).setCell ⟨R + 1, 7, none⟩ (.int .u64 0)) = W3 at bE hbE ⊢
    have bE2 : W3.heap[R + 1]? = some (.cells #[.int .u64 0, .int .u64 0, .int .u64 0, .int .u64 0, .int .u64 0, .int .u64 0, .int .u64 0, .int .u64 0] 25 (0, 0)) := bE
    simp only [Exit.jump]
    exact bodyPost_ret (call_res rfl bE2 rfl rfl rfl rfl) rfl ⟨rfl, hbE⟩

end Go.Proofs.Ytecliaogidemjaa.Word
