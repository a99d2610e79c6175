/- Contracts of package word: answers; and what the statements begin with. -/
import Derived.Test.YtecliaogidemjaaWordN
import Derived.Test.YtecliaogidemjaaWordW
import Derived.Test.YtecliaogidemjaaWordZ
import Derived.Laws.CopyOwn
namespace Go.Proofs.Ytecliaogidemjaa.Word
open Go.RowKit Go.Proofs.Ytecliaogidemjaa.Mem
set_option linter.unusedVariables false

def doneL (vs : List Int) : List Int := 2214592609 :: 0 :: (vs ++ List.replicate (6 - vs.length) 0)
theorem splice_done_ (vs : List Int) (h : vs.length ≤ 6) : splice [Value.int .u64 2214592609, .int .u64 0, .int .u64 0, .int .u64 0, .int .u64 0, .int .u64 0, .int .u64 0, .int .u64 0] 2 (vs.map (Value.int .u64)) = (doneL vs).map (Value.int .u64) := by
  match vs, h with
  | [], _ => rfl
  | [_], _ => rfl
  | [_, _], _ => rfl
  | [_, _, _], _ => rfl
  | [_, _, _, _], _ => rfl
  | [_, _, _, _, _], _ => rfl
  | [_, _, _, _, _, _], _ => rfl
  | _ :: _ :: _ :: _ :: _ :: _ :: _ :: _, h => simp at h
theorem splice_done {y0 y1 y2 y3 y4 y5 y6 y7 : Int} (vs : List Int) (h : vs.length ≤ 6) (hy : doneL vs = [y0, y1, y2, y3, y4, y5, y6, y7]) : splice [Value.int .u64 2214592609, .int .u64 0, .int .u64 0, .int .u64 0, .int .u64 0, .int .u64 0, .int .u64 0, .int .u64 0] 2 (vs.map (Value.int .u64)) = [.int .u64 y0, .int .u64 y1, .int .u64 y2, .int .u64 y3, .int .u64 y4, .int .u64 y5, .int .u64 y6, .int .u64 y7] := by
  rw [splice_done_ vs h, hy]
  rfl
theorem res1_ {fn : Func} (hf : fn.results = #[.cell 2 25]) {w : World} {tmps : Array Value} {g : Nat} {cs : Array Value} {fr : Nat × Nat} (h2 : tmps.getD 2 undef = .pointer (some ⟨g, 0, none⟩)) (hg : w.heap[g]? = some (.cells cs 25 fr)) (hs : cs.size = 8) :
    (results fn tmps).run Try.prog w = .ok (.agg cs) w := by
  have hi : (Try.prog.info? 25).map (·.size) = some cs.size := by rw [hs]; kernel_rfl
  have h2' : tmps[2]?.getD undef = .pointer (some ⟨g, 0, none⟩) := by simpa using h2
  simp [results, hf, h2', asAddr, run_loadVar_row w g 25 25 cs fr _ hg Try.underlying25 rfl hi]
theorem res_done {w : World} {tmps : Array Value} {g : Nat} {cs : Array Value} {fr : Nat × Nat} (h2 : tmps.getD 2 undef = .pointer (some ⟨g, 0, none⟩)) (hg : w.heap[g]? = some (.cells cs 25 fr)) (hs : cs.size = 8) :
    (results Try.f16 tmps).run Try.prog w = .ok (.agg cs) w := res1_ rfl h2 hg hs
theorem res_fail {w : World} {tmps : Array Value} {g : Nat} {cs : Array Value} {fr : Nat × Nat} (h2 : tmps.getD 2 undef = .pointer (some ⟨g, 0, none⟩)) (hg : w.heap[g]? = some (.cells cs 25 fr)) (hs : cs.size = 8) :
    (results Try.f17 tmps).run Try.prog w = .ok (.agg cs) w := res1_ rfl h2 hg hs
theorem underlying35 : Try.prog.underlying 35 = some (.slice 23) := by kernel_rfl
theorem info23 : (Try.prog.info? 23).map (·.size) = some 1 := by kernel_rfl

set_option maxRecDepth 100000 in
set_option maxHeartbeats 2000000 in
theorem done_any {y0 y1 y2 y3 y4 y5 y6 y7 : Int} (a : Option Addr) (b off cap : Nat) (vs : List Int) (w : World) (hl : vs.length ≤ 6) (hy : doneL vs = [y0, y1, y2, y3, y4, y5, y6, y7]) (ha : 0 < vs.length → a = some ⟨b, off, none⟩) (hblt : 0 < vs.length → b < w.heap.size)
    (hc : ∀ i, i < vs.length → w.cell? ⟨b, off + i, none⟩ = some (.int .u64 (vs.getD i 0))) :
    Calls Try.prog 16 #[.slice a vs.length cap] w fun r w' => r = .returned (.agg #[.int .u64 y0, .int .u64 y1, .int .u64 y2, .int .u64 y3, .int .u64 y4, .int .u64 y5, .int .u64 y6, .int .u64 y7]) ∧ Below w.heap.size w w' := by
  have hu := Try.underlying25
  have bA := blk_new w (.cells #[.int .u64 2214592609, .int .u64 0, .int .u64 0, .int .u64 0, .int .u64 0, .int .u64 0, .int .u64 0, .int .u64 0] 25)
  have hb : Below w.heap.size w (w.alloc (.cells #[.int .u64 2214592609, .int .u64 0, .int .u64 0, .int .u64 0, .int .u64 0, .int .u64 0, .int .u64 0, .int .u64 0] 25)) := bel_alloc (Below.refl _ _) _
  obtain ⟨cs, hcs⟩ : ∃ cs, cs = vs.map (Value.int .u64) := ⟨_, rfl⟩
  have hlen : cs.length = vs.length := by rw [hcs, List.length_map]
  have hsp := splice_done vs hl hy
  rw [← hcs] at hsp
  have hpos : 0 < cs.length → (some (⟨w.heap.size, 2, none⟩ : Addr)) = some ⟨w.heap.size, 2, none⟩ ∧ ∃ ad, a = some ad ∧ ∀ j v, cs[j]? = some v → (w.alloc (.cells #[.int .u64 2214592609, .int .u64 0, .int .u64 0, .int .u64 0, .int .u64 0, .int .u64 0, .int .u64 0, .int .u64 0] 25)).cell? (ad.add j) = some v := by
    intro h0
    refine ⟨rfl, ⟨b, off, none⟩, ha (by omega), fun j v hv => ?_⟩
    have hj : j < vs.length := by
      rcases Nat.lt_or_ge j cs.length with h | h
      · omega
      · rw [List.getElem?_eq_none h] at hv; cases hv
    have hv2 : v = .int .u64 (vs.getD j 0) := by
      rw [hcs, List.getElem?_map, List.getElem?_eq_getElem hj] at hv
      simp at hv
      rw [← hv, List.getD_eq_getElem?_getD, List.getElem?_eq_getElem hj]
      rfl
    rw [hv2]
    have hadd : (⟨b, off, none⟩ : Addr).add j = ⟨b, off + j, none⟩ := by unfold Addr.add; split <;> simp_all
    rw [hadd]
    exact (hb.cell (p := ⟨b, off + j, none⟩) (hblt (by omega))).trans (hc j hj)
  have h1 : ∀ v ∈ cs, v.oneCell' = true := by
    rw [hcs]
    intro v hv
    obtain ⟨x, _, rfl⟩ := List.mem_map.1 hv
    rfl
  have HP := Lib.hid hpos
  have HS := Lib.hid hsp
  have H1 := Lib.hid h1
  clear hcs hc ha hblt hpos hsp h1 hy
  go_enter Try.func16, Try.ntmps16
  go_wp2_with (first
    | (refine wpList_copy_splice rfl (.tmp 4) (.tmp 5) 35 35 rfl 23 underlying35 info23 (some ⟨w.heap.size, 2, none⟩) a 6 6 vs.length cap rfl rfl w.heap.size 2 [Value.int .u64 2214592609, .int .u64 0, .int .u64 0, .int .u64 0, .int .u64 0, .int .u64 0, .int .u64 0, .int .u64 0] 25 bA cs (by rw [hlen]; show _ = min _ _; omega) HP.out (by simp; omega) H1.out w.heap.size w hb (Nat.le_refl _) ?_; intro w2 hw2 hb2; have bB := hw2.out; rw [HS.out] at bB; obtain ⟨d0, d1, d2, d3, d4, d5, d6, d7⟩ := cells8 bB; have f0 := blk_free bB 0; have f1 := blk_free bB 1; have f2 := blk_free bB 2; have f3 := blk_free bB 3; have f4 := blk_free bB 4; have f5 := blk_free bB 5; have f6 := blk_free bB 6; have f7 := blk_free bB 7)
    | fail)
  have bE := (blk_set (blk_set (blk_set (blk_set (blk_set (blk_set (blk_set (blk_set bB 0 (.int .u64 y0)) 1 (.int .u64 y1)) 2 (.int .u64 y2)) 3 (.int .u64 y3)) 4 (.int .u64 y4)) 5 (.int .u64 y5)) 6 (.int .u64 y6)) 7 (.int .u64 y7))
  have hbE := (bel_set (bel_set (bel_set (bel_set (bel_set (bel_set (bel_set (bel_set hb2 (Nat.le_refl _) 0 (.int .u64 y0)) (Nat.le_refl _) 1 (.int .u64 y1)) (Nat.le_refl _) 2 (.int .u64 y2)) (Nat.le_refl _) 3 (.int .u64 y3)) (Nat.le_refl _) 4 (.int .u64 y4)) (Nat.le_refl _) 5 (.int .u64 y5)) (Nat.le_refl _) 6 (.int .u64 y6)) (Nat.le_refl _) 7 (.int .u64 y7))
  generalize hW3 : ((((((((w2.setCell ⟨w.heap.size, 0, none⟩ (.int .u64 y0)).setCell ⟨w.heap.size, 1, none⟩ (.int .u64 y1)).setCell ⟨w.heap.size, 2, none⟩ (.int .u64 y2)).setCell ⟨w.heap.size, 3, none⟩ (.int .u64 y3)).setCell ⟨w.heap.size, 4, none⟩ (.int .u64 y4)).setCell ⟨w.heap.size, 5, none⟩ (.int .u64 y5)).setCell ⟨w.heap.size, 6, none⟩ (.int .u64 y6)).setCell ⟨w.heap.size, 7, none⟩ (.int .u64 y7)) = W3 at bE hbE ⊢
  have bE2 : W3.heap[w.heap.size]? = some (.cells #[.int .u64 y0, .int .u64 y1, .int .u64 y2, .int .u64 y3, .int .u64 y4, .int .u64 y5, .int .u64 y6, .int .u64 y7] 25 (0, 0)) := bE
  exact bodyPost_ret (res_done rfl bE2 rfl) rfl ⟨rfl, hbE⟩

set_option maxRecDepth 100000 in
set_option maxHeartbeats 2000000 in
theorem fail_any (e z : Int) (w : World) (hz : IntKind.u64.wrap e = z) :
    Calls Try.prog 17 #[.int .i64 e] w fun r w' => r = .returned (.agg #[.int .u64 2214592608, .int .u64 0, .int .u64 z, .int .u64 0, .int .u64 0, .int .u64 0, .int .u64 0, .int .u64 0]) ∧ Below w.heap.size w w' := by
  have hu := Try.underlying25
  go_enter Try.func17, Try.ntmps17
  go_wp2
  exact bodyPost_ret (res_fail rfl (blk_new _ _) rfl) rfl ⟨rfl, bel_alloc (Below.refl _ _) _⟩
theorem one_cell (W : World) (x : Int) (c : Array Value) : ∀ i, i < [x].length → ((W.alloc (.cells c 25)).alloc (.cells #[.int .u64 x] 23)).cell? ⟨W.heap.size + 1, 0 + i, none⟩ = some (.int .u64 ([x].getD i 0)) := by
  intro i hi
  have hs : (W.alloc (.cells c 25)).heap.size = W.heap.size + 1 := by show (W.heap.push _).size = _; simp
  rw [← hs, blk_cell (blk_new _ _)]
  have : i = 0 := by simp at hi; omega
  subst this
  rfl
theorem known_val {v : Int} {c : Bool} (w : World) (h : isIn narrowL v = c) : Calls Try.prog 15 #[.int .i64 v] w fun r w' => r = .returned (.bool c) ∧ Below w.heap.size w w' := by
  subst h; exact known_any w v

set_option maxRecDepth 100000 in
set_option maxHeartbeats 4000000 in
theorem begun (w : World) : Calls Try.prog 13 #[] w fun e w' => e = .returned (.bool true) ∧ Below w.heap.size w w' := by
  have hu := Try.underlying25
  have hb := Below.refl w.heap.size w
  have d1 : (0 : Int) ≤ 3288334451 ∧ (3288334451 : Int) < 4294967296 := by decide
  have d2 : isIn narrowL 3288334451 = false := by decide
  have d3 : isIn wideL (3288334451 - 1073741824) = true := by decide
  have d4 : (0 : Int) ≤ 1 ∧ (1 : Int) < 4294967296 := by decide
  have d5 : isIn narrowL 1 = false := by decide
  have d6 : isIn wideL (1 - 1073741824) = false := by decide
  have d7 : isIn narrowL 2214592621 = true := by decide
  have d8 : isIn narrowL 5 = false := by decide
  have D1 := Lib.hid d1
  have D2 := Lib.hid d2
  have D3 := Lib.hid d3
  have D4 := Lib.hid d4
  have D5 := Lib.hid d5
  have D6 := Lib.hid d6
  have D7 := Lib.hid d7
  have D8 := Lib.hid d8
  clear d1 d2 d3 d4 d5 d6 d7 d8
  go_enter Try.func13, Try.ntmps13
  go_wp2_with (first
    | (go_at_call 14; (with_reducible refine (call_wide _ 3288334451 1099511627776 0 0 0 0 0 0 D1.out D2.out D3.out).mono ?_); rintro e w1 ⟨rfl, hb1⟩; replace hb := bel_chain hb hb1; clear hb1)
    | (go_at_call 14; (with_reducible refine (call_none_lo _ 1 0 0 0 0 0 0 0 D4.out D5.out D6.out).mono ?_); rintro e w2 ⟨rfl, hb2⟩; have bX := blk_below (blk_new w1 _) hb2; replace hb := bel_chain (bel_alloc hb _) hb2; clear hb2)
    | (go_at_call 16; refine (done_any (y0 := 2214592609) (y1 := 0) (y2 := 5) (y3 := 0) (y4 := 0) (y5 := 0) (y6 := 0) (y7 := 0) (some ⟨w2.heap.size + 1, 0, none⟩) (w2.heap.size + 1) 0 1 [5] _ (by decide) rfl (fun _ => rfl) (fun _ => by show _ < (Array.push (Array.push w2.heap _) _).size; simp) (one_cell _ _ _)).mono ?_; rintro e w3 ⟨rfl, hb3⟩; have bX3 := blk_below (blk_alloc (blk_alloc bX _) _) hb3; replace hb := bel_chain (bel_alloc (bel_alloc hb _) _) hb3; clear hb3 bX)
    | (go_at_call 17; refine (fail_any (-2) 18446744073709551614 _ (by decide)).mono ?_; rintro e w4 ⟨rfl, hb4⟩; have bX4 := blk_alloc (blk_below (blk_alloc bX3 _) hb4) (.cells #[.int .u64 2214592608, .int .u64 0, .int .u64 18446744073709551614, .int .u64 0, .int .u64 0, .int .u64 0, .int .u64 0, .int .u64 0] 25); have bR4 := blk_alloc (blk_below (blk_new w3 _) hb4) (.cells #[.int .u64 2214592608, .int .u64 0, .int .u64 18446744073709551614, .int .u64 0, .int .u64 0, .int .u64 0, .int .u64 0, .int .u64 0] 25); obtain ⟨x0, x1, x2, x3, x4, x5, x6, x7⟩ := cells8 bX4; obtain ⟨z0, z1, z2, z3, z4, z5, z6, z7⟩ := cells8 bR4; replace hb := bel_alloc (bel_chain (bel_alloc hb _) hb4) (.cells #[.int .u64 2214592608, .int .u64 0, .int .u64 18446744073709551614, .int .u64 0, .int .u64 0, .int .u64 0, .int .u64 0, .int .u64 0] 25); clear hb4 bX3 bX4 bR4)
    | (go_at_call 15; (with_reducible refine (known_val _ D7.out).mono ?_); rintro e w5 ⟨rfl, hb5⟩; replace hb := bel_chain hb hb5; clear hb5)
    | (go_at_call 15; (with_reducible refine (known_val _ D8.out).mono ?_); rintro e w6 ⟨rfl, hb6⟩; replace hb := bel_chain hb hb6; clear hb6)
    | fail)
  go_ret
  exact ⟨rfl, hb⟩

end Go.Proofs.Ytecliaogidemjaa.Word
