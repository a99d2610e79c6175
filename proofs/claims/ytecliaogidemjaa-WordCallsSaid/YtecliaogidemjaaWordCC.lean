/- A narrow call sees narrow words, a wide one all: case C. -/
import Derived.Test.YtecliaogidemjaaWordL
namespace Go.Proofs.Ytecliaogidemjaa.Word
open Go.RowKit Go.Proofs.Ytecliaogidemjaa.Mem Go.Proofs.Ytecliaogidemjaa
set_option linter.unusedVariables false

theorem cellRC {w : World} {g : Nat} {t : TypeId} {l : List Int} (h : w.heap[g]? = some (.cells (nums8 l) t (0, 0))) (i : Nat) (hi : i < l.length) : w.cell? ⟨g, i, none⟩ = some (.int .u64 (l.getD i 0)) := by
  rw [blk_cell h]
  simp [nums8, List.getElem?_map, List.getElem?_eq_getElem hi, List.getD_eq_getElem?_getD]
section
variable {w : World} {g : Nat} {r0 r1 r2 r3 r4 r5 r6 r7 : Int}
theorem cellC_r (h : w.heap[g]? = some (.cells #[.int .u64 r0, .int .u64 r1, .int .u64 r2, .int .u64 r3, .int .u64 r4, .int .u64 r5, .int .u64 r6, .int .u64 r7] 25 (0, 0))) (i : Nat) (hi : i < 8) : w.cell? ⟨g, i, none⟩ = some (.int .u64 ([r0, r1, r2, r3, r4, r5, r6, r7].getD i 0)) :=
  cellRC (l := [r0, r1, r2, r3, r4, r5, r6, r7]) h i hi
theorem cellC_n (h : w.heap[g]? = some (.cells #[.int .u64 0, .int .u64 (r1 % 4294967296), .int .u64 (r2 % 4294967296), .int .u64 (r3 % 4294967296), .int .u64 (r4 % 4294967296), .int .u64 (r5 % 4294967296), .int .u64 (r6 % 4294967296), .int .u64 (r7 % 4294967296)] 25 (0, 0))) (i : Nat) (hi : i < 8) : w.cell? ⟨g, i, none⟩ = some (.int .u64 (if i = 0 then 0 else [r0, r1, r2, r3, r4, r5, r6, r7].getD i 0 % 4294967296)) := by
  rw [blk_cell h]
  have : i = 0 ∨ i = 1 ∨ i = 2 ∨ i = 3 ∨ i = 4 ∨ i = 5 ∨ i = 6 ∨ i = 7 := by omega
  rcases this with rfl | rfl | rfl | rfl | rfl | rfl | rfl | rfl <;> rfl
theorem cellC_w (h : w.heap[g]? = some (.cells #[.int .u64 0, .int .u64 r1, .int .u64 r2, .int .u64 r3, .int .u64 r4, .int .u64 r5, .int .u64 r6, .int .u64 r7] 25 (0, 0))) (i : Nat) (hi : i < 8) : w.cell? ⟨g, i, none⟩ = some (.int .u64 (if i = 0 then 0 else [r0, r1, r2, r3, r4, r5, r6, r7].getD i 0)) := by
  rw [blk_cell h]
  have : i = 0 ∨ i = 1 ∨ i = 2 ∨ i = 3 ∨ i = 4 ∨ i = 5 ∨ i = 6 ∨ i = 7 := by omega
  rcases this with rfl | rfl | rfl | rfl | rfl | rfl | rfl | rfl <;> rfl
end

set_option maxRecDepth 100000 in
set_option maxHeartbeats 8000000 in
theorem callsC (w : World) (n id : Int) (hn : 0 ≤ n ∧ n ≤ 65535) (hid : 2214592608 + n % 64 = id) (r0 r1 r2 r3 r4 r5 r6 r7 : Int) (h0 : 0 ≤ r0 ∧ r0 ≤ 18446744073709551615) (h1 : 0 ≤ r1 ∧ r1 ≤ 18446744073709551615) (h2 : 0 ≤ r2 ∧ r2 ≤ 18446744073709551615) (h3 : 0 ≤ r3 ∧ r3 ≤ 18446744073709551615) (h4 : 0 ≤ r4 ∧ r4 ≤ 18446744073709551615) (h5 : 0 ≤ r5 ∧ r5 ≤ 18446744073709551615) (h6 : 0 ≤ r6 ∧ r6 ≤ 18446744073709551615) (h7 : 0 ≤ r7 ∧ r7 ≤ 18446744073709551615)
    (hn1 : isIn narrowL id = true) (hw1 : isIn wideL id = false) :
    Calls Try.prog 3 #[.int .u16 n, .agg #[.int .u64 r0, .int .u64 r1, .int .u64 r2, .int .u64 r3, .int .u64 r4, .int .u64 r5, .int .u64 r6, .int .u64 r7]] w fun e w' => e = .returned (.bool true) ∧ Below w.heap.size w w' := by
  have hu := Try.underlying25
  have ht : Int.tmod n 64 = n % 64 := Int.tmod_eq_emod_of_nonneg hn.1
  have hm1 : IntKind.u16.wrap (n % 64) = n % 64 := by rw [IntKind.wrap_u16]; try omega
  have bR := blk_new w (.cells #[.int .u64 r0, .int .u64 r1, .int .u64 r2, .int .u64 r3, .int .u64 r4, .int .u64 r5, .int .u64 r6, .int .u64 r7] 25)
  have hb : Below w.heap.size w (w.alloc (.cells #[.int .u64 r0, .int .u64 r1, .int .u64 r2, .int .u64 r3, .int .u64 r4, .int .u64 r5, .int .u64 r6, .int .u64 r7] 25)) := bel_alloc (Below.refl _ _) _
  have hs0 : (w.alloc (.cells #[.int .u64 r0, .int .u64 r1, .int .u64 r2, .int .u64 r3, .int .u64 r4, .int .u64 r5, .int .u64 r6, .int .u64 r7] 25)).heap.size = w.heap.size + 1 := by show (w.heap.push _).size = _; simp
  have hm2 : IntKind.i64.wrap (2214592608 + n % 64) = id := by rw [← hid]; exact IntWalk.i64_in _ (by omega)
  have hi0 : 2214592608 ≤ id ∧ id < 2214592672 := by omega
  have hm3 : IntKind.u64.wrap id = id := IntWalk.u64_in _ (by omega)
  have hm4 : IntKind.u64.wrap (id + 1073741824) = id + 1073741824 := IntWalk.u64_in _ (by omega)
  have hsub : id + 1073741824 - 1073741824 = id := by omega
  have HI : Hid (0 ≤ id ∧ id < 4294967296) := Lib.hid (by omega)
  have HI2 : Hid (0 ≤ id + 1073741824 ∧ id + 1073741824 < 4294967296) := Lib.hid (by omega)
  have HN2 : Hid (isIn narrowL (id + 1073741824) = false) := Lib.hid (no_wide_narrow _ (by omega))
  have HN := Lib.hid hn1
  have HW2 := Lib.hid (show isIn wideL (id + 1073741824 - 1073741824) = false by rw [hsub]; exact hw1)
  clear hn1 hw1
  clear hid hsub
  go_enter Try.func3, Try.ntmps3
  go_wp2_with (first
    | (go_at_call 13; refine (begun _).mono ?_; rintro e w1 ⟨rfl, hb1⟩; have bR1 := blk_below bR hb1; have hs1 := hb1.size; rw [hs0] at hs1; obtain ⟨c0, c1, c2, c3, c4, c5, c6, c7⟩ := cells8 bR1; replace hb := bel_chain hb hb1; clear hb1 bR)
    | fail)
  have a0 : ∀ o, (w1.alloc o).cell? ⟨w.heap.size, 0, none⟩ = some (.int .u64 r0) := fun o => by rw [blk_cell (blk_alloc bR1 o)]; rfl
  have b0 : ∀ o o', ((w1.alloc o).alloc o').cell? ⟨w.heap.size, 0, none⟩ = some (.int .u64 r0) := fun o o' => by rw [blk_cell (blk_alloc (blk_alloc bR1 o) o')]; rfl
  have a1 : ∀ o, (w1.alloc o).cell? ⟨w.heap.size, 1, none⟩ = some (.int .u64 r1) := fun o => by rw [blk_cell (blk_alloc bR1 o)]; rfl
  have b1 : ∀ o o', ((w1.alloc o).alloc o').cell? ⟨w.heap.size, 1, none⟩ = some (.int .u64 r1) := fun o o' => by rw [blk_cell (blk_alloc (blk_alloc bR1 o) o')]; rfl
  have a2 : ∀ o, (w1.alloc o).cell? ⟨w.heap.size, 2, none⟩ = some (.int .u64 r2) := fun o => by rw [blk_cell (blk_alloc bR1 o)]; rfl
  have b2 : ∀ o o', ((w1.alloc o).alloc o').cell? ⟨w.heap.size, 2, none⟩ = some (.int .u64 r2) := fun o o' => by rw [blk_cell (blk_alloc (blk_alloc bR1 o) o')]; rfl
  have a3 : ∀ o, (w1.alloc o).cell? ⟨w.heap.size, 3, none⟩ = some (.int .u64 r3) := fun o => by rw [blk_cell (blk_alloc bR1 o)]; rfl
  have b3 : ∀ o o', ((w1.alloc o).alloc o').cell? ⟨w.heap.size, 3, none⟩ = some (.int .u64 r3) := fun o o' => by rw [blk_cell (blk_alloc (blk_alloc bR1 o) o')]; rfl
  have a4 : ∀ o, (w1.alloc o).cell? ⟨w.heap.size, 4, none⟩ = some (.int .u64 r4) := fun o => by rw [blk_cell (blk_alloc bR1 o)]; rfl
  have b4 : ∀ o o', ((w1.alloc o).alloc o').cell? ⟨w.heap.size, 4, none⟩ = some (.int .u64 r4) := fun o o' => by rw [blk_cell (blk_alloc (blk_alloc bR1 o) o')]; rfl
  have a5 : ∀ o, (w1.alloc o).cell? ⟨w.heap.size, 5, none⟩ = some (.int .u64 r5) := fun o => by rw [blk_cell (blk_alloc bR1 o)]; rfl
  have b5 : ∀ o o', ((w1.alloc o).alloc o').cell? ⟨w.heap.size, 5, none⟩ = some (.int .u64 r5) := fun o o' => by rw [blk_cell (blk_alloc (blk_alloc bR1 o) o')]; rfl
  have a6 : ∀ o, (w1.alloc o).cell? ⟨w.heap.size, 6, none⟩ = some (.int .u64 r6) := fun o => by rw [blk_cell (blk_alloc bR1 o)]; rfl
  have b6 : ∀ o o', ((w1.alloc o).alloc o').cell? ⟨w.heap.size, 6, none⟩ = some (.int .u64 r6) := fun o o' => by rw [blk_cell (blk_alloc (blk_alloc bR1 o) o')]; rfl
  have a7 : ∀ o, (w1.alloc o).cell? ⟨w.heap.size, 7, none⟩ = some (.int .u64 r7) := fun o => by rw [blk_cell (blk_alloc bR1 o)]; rfl
  have b7 : ∀ o o', ((w1.alloc o).alloc o').cell? ⟨w.heap.size, 7, none⟩ = some (.int .u64 r7) := fun o o' => by rw [blk_cell (blk_alloc (blk_alloc bR1 o) o')]; rfl
  go_region
  all_goals clear a0 a1 a2 a3 a4 a5 a6 a7 b0 b1 b2 b3 b4 b5 b6 b7 c0 c1 c2 c3 c4 c5 c6 c7
  all_goals
    have pX : ((w1.alloc (.cells #[.int .u64 r0, .int .u64 r1, .int .u64 r2, .int .u64 r3, .int .u64 r4, .int .u64 r5, .int .u64 r6, .int .u64 r7] 25)).alloc (.cells #[.int .u64 r0, .int .u64 r1, .int .u64 r2, .int .u64 r3, .int .u64 r4, .int .u64 r5, .int .u64 r6, .int .u64 r7] 25)).drew.heap[w1.heap.size]? = some (.cells #[.int .u64 r0, .int .u64 r1, .int .u64 r2, .int .u64 r3, .int .u64 r4, .int .u64 r5, .int .u64 r6, .int .u64 r7] 25 (0, 0)) := blk_alloc (blk_new _ _) _
    have hz1 : (w1.alloc (.cells #[.int .u64 r0, .int .u64 r1, .int .u64 r2, .int .u64 r3, .int .u64 r4, .int .u64 r5, .int .u64 r6, .int .u64 r7] 25)).heap.size = w1.heap.size + 1 := by show (w1.heap.push _).size = _; simp
    have pY : ((w1.alloc (.cells #[.int .u64 r0, .int .u64 r1, .int .u64 r2, .int .u64 r3, .int .u64 r4, .int .u64 r5, .int .u64 r6, .int .u64 r7] 25)).alloc (.cells #[.int .u64 r0, .int .u64 r1, .int .u64 r2, .int .u64 r3, .int .u64 r4, .int .u64 r5, .int .u64 r6, .int .u64 r7] 25)).drew.heap[w1.heap.size + 1]? = some (.cells #[.int .u64 r0, .int .u64 r1, .int .u64 r2, .int .u64 r3, .int .u64 r4, .int .u64 r5, .int .u64 r6, .int .u64 r7] 25 (0, 0)) := by rw [← hz1]; exact blk_drewN (blk_new _ _) 1
    have pR : ((w1.alloc (.cells #[.int .u64 r0, .int .u64 r1, .int .u64 r2, .int .u64 r3, .int .u64 r4, .int .u64 r5, .int .u64 r6, .int .u64 r7] 25)).alloc (.cells #[.int .u64 r0, .int .u64 r1, .int .u64 r2, .int .u64 r3, .int .u64 r4, .int .u64 r5, .int .u64 r6, .int .u64 r7] 25)).drew.heap[w.heap.size]? = some (.cells #[.int .u64 r0, .int .u64 r1, .int .u64 r2, .int .u64 r3, .int .u64 r4, .int .u64 r5, .int .u64 r6, .int .u64 r7] 25 (0, 0)) := blk_alloc (blk_alloc bR1 _) _
    have hbG := bel_drew (bel_alloc (bel_alloc hb (.cells #[.int .u64 r0, .int .u64 r1, .int .u64 r2, .int .u64 r3, .int .u64 r4, .int .u64 r5, .int .u64 r6, .int .u64 r7] 25)) (.cells #[.int .u64 r0, .int .u64 r1, .int .u64 r2, .int .u64 r3, .int .u64 r4, .int .u64 r5, .int .u64 r6, .int .u64 r7] 25))
    clear hz1
  · obtain ⟨P, hP⟩ : ∃ P, P = w1.heap.size := ⟨_, rfl⟩
    obtain ⟨Q, hQ⟩ : ∃ Q, Q = w1.heap.size + 1 := ⟨_, rfl⟩
    have hPQ : P ≠ Q := by omega
    have hQP : Q ≠ P := by omega
    have hws := hb.size
    have hPge : w.heap.size ≤ P := by omega
    have hQge : w.heap.size ≤ Q := by omega
    simp only [← hQ] at pX pY ⊢
    simp only [← hP] at pX pY ⊢
    have HP := Lib.hid hP
    have HQ := Lib.hid hQ
    clear hP hQ
    generalize hG : ((w1.alloc (.cells #[.int .u64 r0, .int .u64 r1, .int .u64 r2, .int .u64 r3, .int .u64 r4, .int .u64 r5, .int .u64 r6, .int .u64 r7] 25)).alloc (.cells #[.int .u64 r0, .int .u64 r1, .int .u64 r2, .int .u64 r3, .int .u64 r4, .int .u64 r5, .int .u64 r6, .int .u64 r7] 25)).drew = G at pX pY pR hbG ⊢
    clear hG
    have bP := pX
    have bQ := pY
    have hRP : w.heap.size ≠ P := by have := HP.out; omega
    have hRQ : w.heap.size ≠ Q := by have := HQ.out; omega
    have q0 := blk_set (blk_far (blk_set bP 0 (.int .u64 id)) (p := ⟨Q, 0, none⟩) hPQ (.int .u64 (id + 1073741824))) 
    have fP := blk_free bP 0
    have fQ := blk_free bQ 0
    obtain ⟨g0, _⟩ := cells8 bP
    obtain ⟨g1, _⟩ := cells8 bQ
    have fQ2 : (G.setCell ⟨P, 0, none⟩ (.int .u64 id)).frozen? ⟨Q, 0, none⟩ = false := blk_free (blk_far bQ (p := ⟨P, 0, none⟩) hQP (.int .u64 id)) 0
    have gQ2 : (G.setCell ⟨P, 0, none⟩ (.int .u64 id)).cell? ⟨Q, 0, none⟩ = some (.int .u64 r0) := by rw [blk_cell (blk_far bQ (p := ⟨P, 0, none⟩) hQP (.int .u64 id))]; rfl
    have bP2 : ((G.setCell ⟨P, 0, none⟩ (.int .u64 id)).setCell ⟨Q, 0, none⟩ (.int .u64 (id + 1073741824))).heap[P]? = some (.cells #[.int .u64 id, .int .u64 r1, .int .u64 r2, .int .u64 r3, .int .u64 r4, .int .u64 r5, .int .u64 r6, .int .u64 r7] 25 (0, 0)) := blk_far (blk_set bP 0 (.int .u64 id)) (p := ⟨Q, 0, none⟩) hPQ _
    have bQ2 : ((G.setCell ⟨P, 0, none⟩ (.int .u64 id)).setCell ⟨Q, 0, none⟩ (.int .u64 (id + 1073741824))).heap[Q]? = some (.cells #[.int .u64 (id + 1073741824), .int .u64 r1, .int .u64 r2, .int .u64 r3, .int .u64 r4, .int .u64 r5, .int .u64 r6, .int .u64 r7] 25 (0, 0)) := blk_set (blk_far bQ (p := ⟨P, 0, none⟩) hQP (.int .u64 id)) 0 _
    have bR2 : ((G.setCell ⟨P, 0, none⟩ (.int .u64 id)).setCell ⟨Q, 0, none⟩ (.int .u64 (id + 1073741824))).heap[w.heap.size]? = some (.cells #[.int .u64 r0, .int .u64 r1, .int .u64 r2, .int .u64 r3, .int .u64 r4, .int .u64 r5, .int .u64 r6, .int .u64 r7] 25 (0, 0)) := blk_far (blk_far pR (p := ⟨P, 0, none⟩) hRP _) (p := ⟨Q, 0, none⟩) hRQ _
    have hb2 : Below w.heap.size w ((G.setCell ⟨P, 0, none⟩ (.int .u64 id)).setCell ⟨Q, 0, none⟩ (.int .u64 (id + 1073741824))) := bel_set (bel_set hbG hPge 0 _) hQge 0 _
    obtain ⟨e0, e1, e2, e3, e4, e5, e6, e7⟩ := cells8 bP2
    clear q0 bP bQ pR hbG
    go_wp2_with (first
      | (go_at_call 14; (with_reducible refine (call_narrow _ id r1 r2 r3 r4 r5 r6 r7 HI.out HN.out).mono ?_); rintro e w4 ⟨rfl, hb4⟩; have bQ4 := blk_alloc (blk_below bQ2 hb4) (.cells #[.int .u64 0, .int .u64 (r1 % 4294967296), .int .u64 (r2 % 4294967296), .int .u64 (r3 % 4294967296), .int .u64 (r4 % 4294967296), .int .u64 (r5 % 4294967296), .int .u64 (r6 % 4294967296), .int .u64 (r7 % 4294967296)] 25); have bR4 := blk_alloc (blk_below bR2 hb4) (.cells #[.int .u64 0, .int .u64 (r1 % 4294967296), .int .u64 (r2 % 4294967296), .int .u64 (r3 % 4294967296), .int .u64 (r4 % 4294967296), .int .u64 (r5 % 4294967296), .int .u64 (r6 % 4294967296), .int .u64 (r7 % 4294967296)] 25); have bX4 := blk_new w4 (.cells #[.int .u64 0, .int .u64 (r1 % 4294967296), .int .u64 (r2 % 4294967296), .int .u64 (r3 % 4294967296), .int .u64 (r4 % 4294967296), .int .u64 (r5 % 4294967296), .int .u64 (r6 % 4294967296), .int .u64 (r7 % 4294967296)] 25); obtain ⟨k0, k1, k2, k3, k4, k5, k6, k7⟩ := cells8 bQ4; have hbA := bel_alloc (bel_chain hb2 hb4) (.cells #[.int .u64 0, .int .u64 (r1 % 4294967296), .int .u64 (r2 % 4294967296), .int .u64 (r3 % 4294967296), .int .u64 (r4 % 4294967296), .int .u64 (r5 % 4294967296), .int .u64 (r6 % 4294967296), .int .u64 (r7 % 4294967296)] 25); clear e0 e1 e2 e3 e4 e5 e6 e7 bP2 bQ2 bR2 hb2 hb4)
      | (go_at_call 14; (with_reducible refine (call_none_lo _ (id + 1073741824) r1 r2 r3 r4 r5 r6 r7 HI2.out HN2.out HW2.out).mono ?_); rintro e w5 ⟨rfl, hb5⟩; have bR5 := blk_alloc (blk_below bR4 hb5) (.cells #[.int .u64 0, .int .u64 0, .int .u64 0, .int .u64 0, .int .u64 0, .int .u64 0, .int .u64 0, .int .u64 0] 25); have bX5 := blk_alloc (blk_below bX4 hb5) (.cells #[.int .u64 0, .int .u64 0, .int .u64 0, .int .u64 0, .int .u64 0, .int .u64 0, .int .u64 0, .int .u64 0] 25); have bY5 := blk_new w5 (.cells #[.int .u64 0, .int .u64 0, .int .u64 0, .int .u64 0, .int .u64 0, .int .u64 0, .int .u64 0, .int .u64 0] 25); have hbB := bel_alloc (bel_chain hbA hb5) (.cells #[.int .u64 0, .int .u64 0, .int .u64 0, .int .u64 0, .int .u64 0, .int .u64 0, .int .u64 0, .int .u64 0] 25); clear k0 k1 k2 k3 k4 k5 k6 k7 bQ4 bR4 bX4 hbA hb5)
      | (go_at_call 15; (with_reducible refine (known_val _ HN.out).mono ?_); rintro e w6 ⟨rfl, hb6⟩; have bR6 := blk_below bR5 hb6; have bX6 := blk_below bX5 hb6; have bY6 := blk_below bY5 hb6; have hbC := bel_chain hbB hb6; obtain ⟨x0, x1, x2, x3, x4, x5, x6, x7⟩ := cells8 bX6; clear hb6 bR5 bX5 bY5 hbB)
      | fail)
    clear x0 x1 x2 x3 x4 x5 x6 x7
    obtain ⟨X, hX⟩ : ∃ X, X = w4.heap.size := ⟨_, rfl⟩
    obtain ⟨Y, hY⟩ : ∃ Y, Y = w5.heap.size := ⟨_, rfl⟩
    simp only [← hX, ← hY] at bX6 bY6 ⊢
    clear hX hY
    go_loopw [16] (fun t16 wr => ∃ i N : Nat, i ≤ 8 ∧ t16 = .int .i64 i ∧ wr = w6.drewN N) (fun t16 _ => 8 - (intOf t16).toNat)
    case atStart => exact ⟨0, 0, by omega, rfl, rfl⟩
    case round =>
      obtain ⟨i, N, hi, rfl, rfl⟩ := hrel
      by_cases hlt : (i : Int) < 8
      · have hr8 := cellC_r (r0 := r0) bR6 i (by omega)
        have hx8 := cellC_n (r0 := r0) bX6 i (by omega)

        obtain ⟨z, hz⟩ : ∃ z, [r0, r1, r2, r3, r4, r5, r6, r7].getD i 0 = z := ⟨_, rfl⟩
        have hz0 : 0 ≤ z ∧ z ≤ 18446744073709551615 := by
          have : i = 0 ∨ i = 1 ∨ i = 2 ∨ i = 3 ∨ i = 4 ∨ i = 5 ∨ i = 6 ∨ i = 7 := by omega
          rcases this with rfl | rfl | rfl | rfl | rfl | rfl | rfl | rfl <;> (subst hz; assumption)
        simp only [hz] at hr8 hx8 
        have hbit : bits .and .u64 z 4294967295 = z % 4294967296 := Bits.mask_u64 32 (by decide) z hz0.1 (by omega)
        have hi0 : (0 : Int) ≤ (i : Int) := by omega
        clear hz
        by_cases hi00 : i = 0
        · subst hi00
          simp only [if_true] at hx8 
          go_wp2
          go_quiet (fail)
          go_wp2
          go_roundw
          case rel => exact ⟨1, _, by omega, by go_num, rfl⟩
          case measure => simp [intOf]
        · simp only [hi00, if_false] at hx8 
          have hi1 : ((i : Int) == 0) = false := by simpa using hi00
          go_wp2
          go_quiet (fail)
          go_wp2
          go_roundw
          case rel => exact ⟨i + 1, _, by omega, by go_num, rfl⟩
          case measure => simp [intOf]; omega
      · obtain rfl : i = 8 := by omega
        go_wp2
        go_ret
        exact ⟨rfl, bel_drewN hbC _⟩
  · obtain ⟨P, hP⟩ : ∃ P, P = w1.heap.size + 1 := ⟨_, rfl⟩
    obtain ⟨Q, hQ⟩ : ∃ Q, Q = w1.heap.size := ⟨_, rfl⟩
    have hPQ : P ≠ Q := by omega
    have hQP : Q ≠ P := by omega
    have hws := hb.size
    have hPge : w.heap.size ≤ P := by omega
    have hQge : w.heap.size ≤ Q := by omega
    simp only [← hP] at pX pY ⊢
    simp only [← hQ] at pX pY ⊢
    have HP := Lib.hid hP
    have HQ := Lib.hid hQ
    clear hP hQ
    generalize hG : ((w1.alloc (.cells #[.int .u64 r0, .int .u64 r1, .int .u64 r2, .int .u64 r3, .int .u64 r4, .int .u64 r5, .int .u64 r6, .int .u64 r7] 25)).alloc (.cells #[.int .u64 r0, .int .u64 r1, .int .u64 r2, .int .u64 r3, .int .u64 r4, .int .u64 r5, .int .u64 r6, .int .u64 r7] 25)).drew = G at pX pY pR hbG ⊢
    clear hG
    have bP := pY
    have bQ := pX
    have hRP : w.heap.size ≠ P := by have := HP.out; omega
    have hRQ : w.heap.size ≠ Q := by have := HQ.out; omega
    have q0 := blk_set (blk_far (blk_set bP 0 (.int .u64 id)) (p := ⟨Q, 0, none⟩) hPQ (.int .u64 (id + 1073741824))) 
    have fP := blk_free bP 0
    have fQ := blk_free bQ 0
    obtain ⟨g0, _⟩ := cells8 bP
    obtain ⟨g1, _⟩ := cells8 bQ
    have fQ2 : (G.setCell ⟨P, 0, none⟩ (.int .u64 id)).frozen? ⟨Q, 0, none⟩ = false := blk_free (blk_far bQ (p := ⟨P, 0, none⟩) hQP (.int .u64 id)) 0
    have gQ2 : (G.setCell ⟨P, 0, none⟩ (.int .u64 id)).cell? ⟨Q, 0, none⟩ = some (.int .u64 r0) := by rw [blk_cell (blk_far bQ (p := ⟨P, 0, none⟩) hQP (.int .u64 id))]; rfl
    have bP2 : ((G.setCell ⟨P, 0, none⟩ (.int .u64 id)).setCell ⟨Q, 0, none⟩ (.int .u64 (id + 1073741824))).heap[P]? = some (.cells #[.int .u64 id, .int .u64 r1, .int .u64 r2, .int .u64 r3, .int .u64 r4, .int .u64 r5, .int .u64 r6, .int .u64 r7] 25 (0, 0)) := blk_far (blk_set bP 0 (.int .u64 id)) (p := ⟨Q, 0, none⟩) hPQ _
    have bQ2 : ((G.setCell ⟨P, 0, none⟩ (.int .u64 id)).setCell ⟨Q, 0, none⟩ (.int .u64 (id + 1073741824))).heap[Q]? = some (.cells #[.int .u64 (id + 1073741824), .int .u64 r1, .int .u64 r2, .int .u64 r3, .int .u64 r4, .int .u64 r5, .int .u64 r6, .int .u64 r7] 25 (0, 0)) := blk_set (blk_far bQ (p := ⟨P, 0, none⟩) hQP (.int .u64 id)) 0 _
    have bR2 : ((G.setCell ⟨P, 0, none⟩ (.int .u64 id)).setCell ⟨Q, 0, none⟩ (.int .u64 (id + 1073741824))).heap[w.heap.size]? = some (.cells #[.int .u64 r0, .int .u64 r1, .int .u64 r2, .int .u64 r3, .int .u64 r4, .int .u64 r5, .int .u64 r6, .int .u64 r7] 25 (0, 0)) := blk_far (blk_far pR (p := ⟨P, 0, none⟩) hRP _) (p := ⟨Q, 0, none⟩) hRQ _
    have hb2 : Below w.heap.size w ((G.setCell ⟨P, 0, none⟩ (.int .u64 id)).setCell ⟨Q, 0, none⟩ (.int .u64 (id + 1073741824))) := bel_set (bel_set hbG hPge 0 _) hQge 0 _
    obtain ⟨e0, e1, e2, e3, e4, e5, e6, e7⟩ := cells8 bP2
    clear q0 bP bQ pR hbG
    go_wp2_with (first
      | (go_at_call 14; (with_reducible refine (call_narrow _ id r1 r2 r3 r4 r5 r6 r7 HI.out HN.out).mono ?_); rintro e w4 ⟨rfl, hb4⟩; have bQ4 := blk_alloc (blk_below bQ2 hb4) (.cells #[.int .u64 0, .int .u64 (r1 % 4294967296), .int .u64 (r2 % 4294967296), .int .u64 (r3 % 4294967296), .int .u64 (r4 % 4294967296), .int .u64 (r5 % 4294967296), .int .u64 (r6 % 4294967296), .int .u64 (r7 % 4294967296)] 25); have bR4 := blk_alloc (blk_below bR2 hb4) (.cells #[.int .u64 0, .int .u64 (r1 % 4294967296), .int .u64 (r2 % 4294967296), .int .u64 (r3 % 4294967296), .int .u64 (r4 % 4294967296), .int .u64 (r5 % 4294967296), .int .u64 (r6 % 4294967296), .int .u64 (r7 % 4294967296)] 25); have bX4 := blk_new w4 (.cells #[.int .u64 0, .int .u64 (r1 % 4294967296), .int .u64 (r2 % 4294967296), .int .u64 (r3 % 4294967296), .int .u64 (r4 % 4294967296), .int .u64 (r5 % 4294967296), .int .u64 (r6 % 4294967296), .int .u64 (r7 % 4294967296)] 25); obtain ⟨k0, k1, k2, k3, k4, k5, k6, k7⟩ := cells8 bQ4; have hbA := bel_alloc (bel_chain hb2 hb4) (.cells #[.int .u64 0, .int .u64 (r1 % 4294967296), .int .u64 (r2 % 4294967296), .int .u64 (r3 % 4294967296), .int .u64 (r4 % 4294967296), .int .u64 (r5 % 4294967296), .int .u64 (r6 % 4294967296), .int .u64 (r7 % 4294967296)] 25); clear e0 e1 e2 e3 e4 e5 e6 e7 bP2 bQ2 bR2 hb2 hb4)
      | (go_at_call 14; (with_reducible refine (call_none_lo _ (id + 1073741824) r1 r2 r3 r4 r5 r6 r7 HI2.out HN2.out HW2.out).mono ?_); rintro e w5 ⟨rfl, hb5⟩; have bR5 := blk_alloc (blk_below bR4 hb5) (.cells #[.int .u64 0, .int .u64 0, .int .u64 0, .int .u64 0, .int .u64 0, .int .u64 0, .int .u64 0, .int .u64 0] 25); have bX5 := blk_alloc (blk_below bX4 hb5) (.cells #[.int .u64 0, .int .u64 0, .int .u64 0, .int .u64 0, .int .u64 0, .int .u64 0, .int .u64 0, .int .u64 0] 25); have bY5 := blk_new w5 (.cells #[.int .u64 0, .int .u64 0, .int .u64 0, .int .u64 0, .int .u64 0, .int .u64 0, .int .u64 0, .int .u64 0] 25); have hbB := bel_alloc (bel_chain hbA hb5) (.cells #[.int .u64 0, .int .u64 0, .int .u64 0, .int .u64 0, .int .u64 0, .int .u64 0, .int .u64 0, .int .u64 0] 25); clear k0 k1 k2 k3 k4 k5 k6 k7 bQ4 bR4 bX4 hbA hb5)
      | (go_at_call 15; (with_reducible refine (known_val _ HN.out).mono ?_); rintro e w6 ⟨rfl, hb6⟩; have bR6 := blk_below bR5 hb6; have bX6 := blk_below bX5 hb6; have bY6 := blk_below bY5 hb6; have hbC := bel_chain hbB hb6; obtain ⟨x0, x1, x2, x3, x4, x5, x6, x7⟩ := cells8 bX6; clear hb6 bR5 bX5 bY5 hbB)
      | fail)
    clear x0 x1 x2 x3 x4 x5 x6 x7
    obtain ⟨X, hX⟩ : ∃ X, X = w4.heap.size := ⟨_, rfl⟩
    obtain ⟨Y, hY⟩ : ∃ Y, Y = w5.heap.size := ⟨_, rfl⟩
    simp only [← hX, ← hY] at bX6 bY6 ⊢
    clear hX hY
    go_loopw [16] (fun t16 wr => ∃ i N : Nat, i ≤ 8 ∧ t16 = .int .i64 i ∧ wr = w6.drewN N) (fun t16 _ => 8 - (intOf t16).toNat)
    case atStart => exact ⟨0, 0, by omega, rfl, rfl⟩
    case round =>
      obtain ⟨i, N, hi, rfl, rfl⟩ := hrel
      by_cases hlt : (i : Int) < 8
      · have hr8 := cellC_r (r0 := r0) bR6 i (by omega)
        have hx8 := cellC_n (r0 := r0) bX6 i (by omega)

        obtain ⟨z, hz⟩ : ∃ z, [r0, r1, r2, r3, r4, r5, r6, r7].getD i 0 = z := ⟨_, rfl⟩
        have hz0 : 0 ≤ z ∧ z ≤ 18446744073709551615 := by
          have : i = 0 ∨ i = 1 ∨ i = 2 ∨ i = 3 ∨ i = 4 ∨ i = 5 ∨ i = 6 ∨ i = 7 := by omega
          rcases this with rfl | rfl | rfl | rfl | rfl | rfl | rfl | rfl <;> (subst hz; assumption)
        simp only [hz] at hr8 hx8 
        have hbit : bits .and .u64 z 4294967295 = z % 4294967296 := Bits.mask_u64 32 (by decide) z hz0.1 (by omega)
        have hi0 : (0 : Int) ≤ (i : Int) := by omega
        clear hz
        by_cases hi00 : i = 0
        · subst hi00
          simp only [if_true] at hx8 
          go_wp2
          go_quiet (fail)
          go_wp2
          go_roundw
          case rel => exact ⟨1, _, by omega, by go_num, rfl⟩
          case measure => simp [intOf]
        · simp only [hi00, if_false] at hx8 
          have hi1 : ((i : Int) == 0) = false := by simpa using hi00
          go_wp2
          go_quiet (fail)
          go_wp2
          go_roundw
          case rel => exact ⟨i + 1, _, by omega, by go_num, rfl⟩
          case measure => simp [intOf]; omega
      · obtain rfl : i = 8 := by omega
        go_wp2
        go_ret
        exact ⟨rfl, bel_drewN hbC _⟩
end Go.Proofs.Ytecliaogidemjaa.Word
