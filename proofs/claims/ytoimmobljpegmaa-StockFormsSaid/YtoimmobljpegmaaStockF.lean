/- The closed statement on stocks: which frames each of six has. No condition. -/
import Derived.Test.YtoimmobljpegmaaStockB
namespace Go.Proofs.Ytoimmobljpegmaa.Stock
open Go.RowKit Go.Proofs.Ytoimmobljpegmaa.Mem
open Go.Proofs.YtoimmobljpegmaaW.PrintWords (bools nums print_append_num print_append_row print_make_of own_reads own_lt own_other own_lit nums_length)
set_option linter.unusedVariables false

theorem four (w : World) (a b c d : Obj) : ((((w.alloc a).alloc b).alloc c).alloc d).heap[w.heap.size]? = some a ∧ ((((w.alloc a).alloc b).alloc c).alloc d).heap[w.heap.size + 1]? = some b ∧
    ((((w.alloc a).alloc b).alloc c).alloc d).heap[w.heap.size + 2]? = some c ∧ ((((w.alloc a).alloc b).alloc c).alloc d).heap[w.heap.size + 3]? = some d := by
  have h1 : (w.alloc a).heap.size = w.heap.size + 1 := by show (w.heap.push _).size = _; simp
  have h2 : ((w.alloc a).alloc b).heap.size = w.heap.size + 2 := by show ((w.alloc a).heap.push _).size = _; simp [h1]
  have h3 : (((w.alloc a).alloc b).alloc c).heap.size = w.heap.size + 3 := by show (((w.alloc a).alloc b).heap.push _).size = _; simp [h2]
  exact ⟨blk_alloc (blk_alloc (blk_alloc (blk_new _ _) _) _) _, by rw [← h1]; exact blk_alloc (blk_alloc (blk_new _ _) _) _, by rw [← h2]; exact blk_alloc (blk_new _ _) _, by rw [← h3]; exact blk_new _ _⟩

theorem least_fresh (m : Nat) : least (List.replicate (m + 1) false) = some 0 := by simp [least, List.replicate_succ, List.findIdx?_cons]
theorem set_fresh (m : Nat) : (List.replicate (m + 1) false).set 0 true = true :: List.replicate m false := by simp [List.replicate_succ]
theorem tk_fresh (f : Int) (m k : Nat) : tk f (List.replicate m false) k = [] := by
  unfold tk
  rw [List.map_eq_nil_iff, List.filter_eq_nil_iff]
  intro j _
  simp [List.getElem?_replicate]
  split <;> simp
theorem tk_one (f : Int) (m k : Nat) : tk f (true :: List.replicate m false) (k + 1) = [f] := by
  unfold tk
  rw [List.range_succ_eq_map, List.filter_cons]
  simp
  intro j _
  simp [List.getElem?_replicate]
  split <;> simp
theorem left_fresh {w : World} {g r : Nat} {f : Int} (m : Nat) (H : Is 69 w g r f (List.replicate m false)) (hf : 0 ≤ f ∧ f ≤ 240) (hm : m ≤ 240) :
    Calls Try.prog 41 #[.pointer (some ⟨g, 0, none⟩)] w fun e w' => e = .returned (.int .i64 m) ∧ Below w.heap.size w w' := by
  have := left_any w g r f _ H hf (by simpa using hm)
  rw [tk_fresh] at this
  simpa using this
theorem left_one {w : World} {g r : Nat} {f : Int} (m : Nat) (H : Is 69 w g r f (true :: List.replicate m false)) (hf : 0 ≤ f ∧ f ≤ 240) (hm : m ≤ 239) :
    Calls Try.prog 41 #[.pointer (some ⟨g, 0, none⟩)] w fun e w' => e = .returned (.int .i64 m) ∧ Below w.heap.size w w' := by
  have := left_any w g r f _ H hf (by simp; omega)
  rw [List.length_cons, tk_one] at this
  refine this.mono fun e w' ⟨he, hw⟩ => ⟨?_, hw⟩
  rw [he]
  congr 2
  simp
theorem take_fresh {w : World} {g r : Nat} {f : Int} (m : Nat) (H : Is 69 w g r f (List.replicate (m + 1) false)) (hf : 0 ≤ f ∧ f ≤ 240) (hm : m ≤ 239) :
    Calls Try.prog 35 #[.pointer (some ⟨g, 0, none⟩)] w fun e w' => e = .returned (.tuple #[.int .i64 f, .bool true]) ∧ Is 69 w' g r f (true :: List.replicate m false) ∧ w.grownBy w' (some r) := by
  have := take_hit 0 _ H hf (by simp; omega) (least_fresh m) (set_fresh m)
  simpa using this
theorem back_low {w : World} {g r : Nat} {f q : Int} {xs : List Bool} (H : Is 69 w g r f xs) (hf : 0 ≤ f ∧ f ≤ 240) (hl : xs.length ≤ 240) (hq : q < f) :
    Calls Try.prog 37 #[.pointer (some ⟨g, 0, none⟩), .int .i64 q] w fun e w' => e = .returned (.bool false) ∧ Is 69 w' g r f xs ∧ w.grownBy w' (some r) :=
  back_miss H hf hl (by omega) (by unfold backF; rw [if_neg (by omega)])
theorem back_high {w : World} {g r : Nat} {f q : Int} {xs : List Bool} (H : Is 69 w g r f xs) (hf : 0 ≤ f ∧ f ≤ 240) (hl : xs.length ≤ 240) (hq : f + xs.length ≤ q) (hq2 : q ≤ 1000) :
    Calls Try.prog 37 #[.pointer (some ⟨g, 0, none⟩), .int .i64 q] w fun e w' => e = .returned (.bool false) ∧ Is 69 w' g r f xs ∧ w.grownBy w' (some r) :=
  back_miss H hf hl (by omega) (by unfold backF; rw [if_neg (by omega)])
theorem cell_grown {w w' : World} {b o g2 : Nat} {v : Value} (H : w.cell? ⟨b, o, none⟩ = some v) (hg : w.grownBy w' (some g2)) (hne : b ≠ g2) : w'.cell? ⟨b, o, none⟩ = some v := hg.cell H (by simpa using hne)

set_option maxRecDepth 100000 in
set_option maxHeartbeats 4000000 in
theorem forms (w : World) : Calls Try.prog 11 #[] w fun e w' => e = .returned (.bool true) ∧ Below w.heap.size w w' := by
  have hb := Below.refl w.heap.size w
  go_enter Try.func11, Try.ntmps11
  go_wp2_with (first
    | (go_at_call 32; (with_reducible refine (begun _).mono ?_); rintro e w1 ⟨rfl, hb1⟩; replace hb := bel_chain hb hb1; clear hb1))
  have HB := four w1 (.cells #[.int .i64 0, .int .i64 5, .int .i64 (-3), .int .i64 1000, .int .i64 0, .int .i64 0] 3) (.cells #[.int .i64 2, .int .i64 1, .int .i64 2, .int .i64 1, .int .i64 (-1), .int .i64 1099511627776] 3)
    (.cells #[.int .i64 2, .int .i64 1, .int .i64 2, .int .i64 1, .int .i64 0, .int .i64 240] 3) (.cells #[.int .i64 0, .int .i64 5, .int .i64 0, .int .i64 240, .int .i64 0, .int .i64 0] 3)
  have hbb := bel_alloc (bel_alloc (bel_alloc (bel_alloc hb (.cells #[.int .i64 0, .int .i64 5, .int .i64 (-3), .int .i64 1000, .int .i64 0, .int .i64 0] 3)) (.cells #[.int .i64 2, .int .i64 1, .int .i64 2, .int .i64 1, .int .i64 (-1), .int .i64 1099511627776] 3))
    (.cells #[.int .i64 2, .int .i64 1, .int .i64 2, .int .i64 1, .int .i64 0, .int .i64 240] 3)) (.cells #[.int .i64 0, .int .i64 5, .int .i64 0, .int .i64 240, .int .i64 0, .int .i64 0] 3)
  have hs := blk_lt HB.2.2.2
  generalize hW : ((((w1.alloc (.cells #[.int .i64 0, .int .i64 5, .int .i64 (-3), .int .i64 1000, .int .i64 0, .int .i64 0] 3)).alloc (.cells #[.int .i64 2, .int .i64 1, .int .i64 2, .int .i64 1, .int .i64 (-1), .int .i64 1099511627776] 3)).alloc
    (.cells #[.int .i64 2, .int .i64 1, .int .i64 2, .int .i64 1, .int .i64 0, .int .i64 240] 3)).alloc (.cells #[.int .i64 0, .int .i64 5, .int .i64 0, .int .i64 240, .int .i64 0, .int .i64 0] 3)) = W0 at HB hbb hs ⊢
  clear hW
  go_loopw [5] (fun t5 wr => ∃ k : Nat, k ≤ 6 ∧ t5 = .int .i64 k ∧ Below W0.heap.size W0 wr) (fun t5 _ => 6 - (intOf t5).toNat)
  case atStart => exact ⟨0, by omega, rfl, Below.refl _ _⟩
  case round =>
    obtain ⟨k, hk, rfl, HB0⟩ := hrel
    have hB0 := HB0.size
    have hl1 : w1.heap.size < wr.heap.size := by omega
    have hl2 : w1.heap.size + 1 < wr.heap.size := by omega
    have hl3 : w1.heap.size + 2 < wr.heap.size := by omega
    have hl4 : w1.heap.size + 3 < wr.heap.size := by omega
    rcases (show k = 0 ∨ k = 1 ∨ k = 2 ∨ k = 3 ∨ k = 4 ∨ k = 5 ∨ k = 6 by omega) with rfl | rfl | rfl | rfl | rfl | rfl | rfl
    · have cf : wr.cell? ⟨w1.heap.size, 0, none⟩ = some (.int .i64 0) := (HB0.cell (p := ⟨w1.heap.size, 0, none⟩) (show w1.heap.size < W0.heap.size by omega)).trans (blk_cell HB.1 0)
      have cn : wr.cell? ⟨w1.heap.size + 1, 0, none⟩ = some (.int .i64 2) := (HB0.cell (p := ⟨w1.heap.size + 1, 0, none⟩) (show w1.heap.size + 1 < W0.heap.size by omega)).trans (blk_cell HB.2.1 0)
      have cl0 : wr.cell? ⟨w1.heap.size + 1 + 1, 0, none⟩ = some (.int .i64 2) := (HB0.cell (p := ⟨w1.heap.size + 1 + 1, 0, none⟩) (show w1.heap.size + 2 < W0.heap.size by omega)).trans (blk_cell HB.2.2.1 0)
      have ci0 : wr.cell? ⟨w1.heap.size + 1 + 1 + 1, 0, none⟩ = some (.int .i64 0) := (HB0.cell (p := ⟨w1.heap.size + 1 + 1 + 1, 0, none⟩) (show w1.heap.size + 3 < W0.heap.size by omega)).trans (blk_cell HB.2.2.2 0)
      go_wp2
      go_region_held3 (fun w' => w'.cell? ⟨w1.heap.size, 0, none⟩ = some (.int .i64 0) ∧ w'.cell? ⟨w1.heap.size + 1, 0, none⟩ = some (.int .i64 2))
        (first | exact ⟨cf, cn⟩ | exact ⟨cf2, cn2⟩)
        (first
          | (go_at_call 33; refine (new_val (F := 0) (xs := List.replicate 2 false) _ (by decide) (by decide)).mono ?_; rintro e w3 ⟨g, r, rfl, H1, hb1, hg, hr⟩; have cf2 := (hb1.cell (p := ⟨w1.heap.size, 0, none⟩) hl1).trans cf; have cn2 := (hb1.cell (p := ⟨w1.heap.size + 1, 0, none⟩) hl2).trans cn; have cl2 := (hb1.cell (p := ⟨w1.heap.size + 1 + 1, 0, none⟩) hl3).trans cl0; have ci2 := (hb1.cell (p := ⟨w1.heap.size + 1 + 1 + 1, 0, none⟩) hl4).trans ci0; have HB1 := bel_then (bel_drew HB0) hB0 hb1; have hg' := Nat.le_trans hB0 hg; have hr' := Nat.le_trans hB0 hr; have hs3 := HB1.size; clear hb1))
      go_wp2
      go_region_held3 (fun w' => w'.cell? ⟨w1.heap.size + 1 + 1, 0, none⟩ = some (.int .i64 2))
        (first | exact cl2 | exact cl3)
        (first
          | (go_at_call 41; refine (left_fresh 2 (show Is 69 w3.drew g r 0 (List.replicate 2 false) from H1) (by decide) (by decide)).mono ?_; rintro e w4 ⟨rfl, hb4⟩; have cl3 := (hb4.cell (p := ⟨w1.heap.size + 1 + 1, 0, none⟩) (show w1.heap.size + 1 + 1 < w3.heap.size by omega)).trans cl2; have ci3 := (hb4.cell (p := ⟨w1.heap.size + 1 + 1 + 1, 0, none⟩) (show w1.heap.size + 1 + 1 + 1 < w3.heap.size by omega)).trans ci2; have H4 := (show Is 69 w3.drew g r 0 (List.replicate 2 false) from H1).below hb4; have HB4 := bel_then (bel_drew HB1) hs3 hb4; have hs4 := HB4.size; clear hb4))
      have d1 : (0 : Int) ≤ 0 ∧ (0 : Int) ≤ 240 := by decide
      have d2 : (true :: List.replicate 1 false).length ≤ 240 := by decide
      have d3 : ((-1) : Int) < 0 := by decide
      have d4 : (0 : Int) + (true :: List.replicate 1 false).length ≤ 2 := by decide
      have d5 : (2 : Int) ≤ 1000 := by decide
      have hq1 : IntKind.i64.wrap ((-1)) = (-1) := by decide
      have hq2 : IntKind.i64.wrap (2) = 2 := by decide
      have hwr : IntKind.i64.wrap (1) = 1 := by decide
      have tokA : True := trivial
      have hrne1 : w1.heap.size + 1 + 1 ≠ r := by omega
      have hrne2 : w1.heap.size + 1 + 1 + 1 ≠ r := by omega
      go_wp2_with (first
        | (go_at_call 35; (with_reducible refine (take_fresh 1 H4 (by decide) (by decide)).mono ?_); rintro e w5 ⟨rfl, H5, g5⟩; have cl5 := cell_grown cl3 g5 hrne1; have ci5 := cell_grown ci3 g5 hrne2; have hw5 := g5.size; have HB5 := HB4.grown g5 hs4 (fun k hk => by cases hk; exact hr'); clear g5))
      go_region_held3 (fun w' => w'.cell? ⟨w1.heap.size + 1 + 1, 0, none⟩ = some (.int .i64 2) ∧ w'.cell? ⟨w1.heap.size + 1 + 1 + 1, 0, none⟩ = some (.int .i64 0))
        (first | exact ⟨cl5, ci5⟩ | exact ⟨cl6, ci6⟩ | exact ⟨cl7, ci7⟩ | exact ⟨cl8, ci8⟩)
        (first
          | (go_at_call 41; refine (left_one 1 (show Is 69 w5.drew g r 0 (true :: List.replicate 1 false) from H5) (by decide) (by decide)).mono ?_; rintro e w6 ⟨rfl, hb6⟩; have cl6 := (hb6.cell (p := ⟨w1.heap.size + 1 + 1, 0, none⟩) (show w1.heap.size + 1 + 1 < w5.heap.size by omega)).trans cl5; have ci6 := (hb6.cell (p := ⟨w1.heap.size + 1 + 1 + 1, 0, none⟩) (show w1.heap.size + 1 + 1 + 1 < w5.heap.size by omega)).trans ci5; have H6 := (show Is 69 w5.drew g r 0 (true :: List.replicate 1 false) from H5).below hb6; have HB6 := bel_then (bel_drew HB5) HB5.size hb6; clear hb6)
          | (go_at_call 37; have _t := tokA; (with_reducible refine (back_low (q := (-1)) H6 d1 d2 d3).mono ?_); clear tokA; rintro e w7 ⟨rfl, H7, g7⟩; have cl7 := cell_grown cl6 g7 hrne1; have ci7 := cell_grown ci6 g7 hrne2; have HB7 := HB6.grown g7 HB6.size (fun k hk => by cases hk; exact hr'); clear g7)
          | (go_at_call 37; (with_reducible refine (back_high (q := 2) H7 d1 d2 d4 d5).mono ?_); rintro e w8 ⟨rfl, H8, g8⟩; have cl8 := cell_grown cl7 g8 hrne1; have ci8 := cell_grown ci7 g8 hrne2; have HBZ := HB7.grown g8 HB7.size (fun k hk => by cases hk; exact hr'); clear g8)
          | fail)
      go_wp2
      go_roundw
      case rel => exact ⟨0 + 1, by omega, by go_num, HBZ⟩
      case measure => simp [intOf]
    · have cf : wr.cell? ⟨w1.heap.size, 1, none⟩ = some (.int .i64 5) := (HB0.cell (p := ⟨w1.heap.size, 1, none⟩) (show w1.heap.size < W0.heap.size by omega)).trans (blk_cell HB.1 1)
      have cn : wr.cell? ⟨w1.heap.size + 1, 1, none⟩ = some (.int .i64 1) := (HB0.cell (p := ⟨w1.heap.size + 1, 1, none⟩) (show w1.heap.size + 1 < W0.heap.size by omega)).trans (blk_cell HB.2.1 1)
      have cl0 : wr.cell? ⟨w1.heap.size + 1 + 1, 1, none⟩ = some (.int .i64 1) := (HB0.cell (p := ⟨w1.heap.size + 1 + 1, 1, none⟩) (show w1.heap.size + 2 < W0.heap.size by omega)).trans (blk_cell HB.2.2.1 1)
      have ci0 : wr.cell? ⟨w1.heap.size + 1 + 1 + 1, 1, none⟩ = some (.int .i64 5) := (HB0.cell (p := ⟨w1.heap.size + 1 + 1 + 1, 1, none⟩) (show w1.heap.size + 3 < W0.heap.size by omega)).trans (blk_cell HB.2.2.2 1)
      go_wp2
      go_region_held3 (fun w' => w'.cell? ⟨w1.heap.size, 1, none⟩ = some (.int .i64 5) ∧ w'.cell? ⟨w1.heap.size + 1, 1, none⟩ = some (.int .i64 1))
        (first | exact ⟨cf, cn⟩ | exact ⟨cf2, cn2⟩)
        (first
          | (go_at_call 33; refine (new_val (F := 5) (xs := List.replicate 1 false) _ (by decide) (by decide)).mono ?_; rintro e w3 ⟨g, r, rfl, H1, hb1, hg, hr⟩; have cf2 := (hb1.cell (p := ⟨w1.heap.size, 1, none⟩) hl1).trans cf; have cn2 := (hb1.cell (p := ⟨w1.heap.size + 1, 1, none⟩) hl2).trans cn; have cl2 := (hb1.cell (p := ⟨w1.heap.size + 1 + 1, 1, none⟩) hl3).trans cl0; have ci2 := (hb1.cell (p := ⟨w1.heap.size + 1 + 1 + 1, 1, none⟩) hl4).trans ci0; have HB1 := bel_then (bel_drew HB0) hB0 hb1; have hg' := Nat.le_trans hB0 hg; have hr' := Nat.le_trans hB0 hr; have hs3 := HB1.size; clear hb1))
      go_wp2
      go_region_held3 (fun w' => w'.cell? ⟨w1.heap.size + 1 + 1, 1, none⟩ = some (.int .i64 1))
        (first | exact cl2 | exact cl3)
        (first
          | (go_at_call 41; refine (left_fresh 1 (show Is 69 w3.drew g r 5 (List.replicate 1 false) from H1) (by decide) (by decide)).mono ?_; rintro e w4 ⟨rfl, hb4⟩; have cl3 := (hb4.cell (p := ⟨w1.heap.size + 1 + 1, 1, none⟩) (show w1.heap.size + 1 + 1 < w3.heap.size by omega)).trans cl2; have ci3 := (hb4.cell (p := ⟨w1.heap.size + 1 + 1 + 1, 1, none⟩) (show w1.heap.size + 1 + 1 + 1 < w3.heap.size by omega)).trans ci2; have H4 := (show Is 69 w3.drew g r 5 (List.replicate 1 false) from H1).below hb4; have HB4 := bel_then (bel_drew HB1) hs3 hb4; have hs4 := HB4.size; clear hb4))
      have d1 : (0 : Int) ≤ 5 ∧ (5 : Int) ≤ 240 := by decide
      have d2 : (true :: List.replicate 0 false).length ≤ 240 := by decide
      have d3 : (4 : Int) < 5 := by decide
      have d4 : (5 : Int) + (true :: List.replicate 0 false).length ≤ 6 := by decide
      have d5 : (6 : Int) ≤ 1000 := by decide
      have hq1 : IntKind.i64.wrap (4) = 4 := by decide
      have hq2 : IntKind.i64.wrap (6) = 6 := by decide
      have hwr : IntKind.i64.wrap (0) = 0 := by decide
      have tokA : True := trivial
      have hrne1 : w1.heap.size + 1 + 1 ≠ r := by omega
      have hrne2 : w1.heap.size + 1 + 1 + 1 ≠ r := by omega
      go_wp2_with (first
        | (go_at_call 35; (with_reducible refine (take_fresh 0 H4 (by decide) (by decide)).mono ?_); rintro e w5 ⟨rfl, H5, g5⟩; have cl5 := cell_grown cl3 g5 hrne1; have ci5 := cell_grown ci3 g5 hrne2; have hw5 := g5.size; have HB5 := HB4.grown g5 hs4 (fun k hk => by cases hk; exact hr'); clear g5))
      go_region_held3 (fun w' => w'.cell? ⟨w1.heap.size + 1 + 1, 1, none⟩ = some (.int .i64 1) ∧ w'.cell? ⟨w1.heap.size + 1 + 1 + 1, 1, none⟩ = some (.int .i64 5))
        (first | exact ⟨cl5, ci5⟩ | exact ⟨cl6, ci6⟩ | exact ⟨cl7, ci7⟩ | exact ⟨cl8, ci8⟩)
        (first
          | (go_at_call 41; refine (left_one 0 (show Is 69 w5.drew g r 5 (true :: List.replicate 0 false) from H5) (by decide) (by decide)).mono ?_; rintro e w6 ⟨rfl, hb6⟩; have cl6 := (hb6.cell (p := ⟨w1.heap.size + 1 + 1, 1, none⟩) (show w1.heap.size + 1 + 1 < w5.heap.size by omega)).trans cl5; have ci6 := (hb6.cell (p := ⟨w1.heap.size + 1 + 1 + 1, 1, none⟩) (show w1.heap.size + 1 + 1 + 1 < w5.heap.size by omega)).trans ci5; have H6 := (show Is 69 w5.drew g r 5 (true :: List.replicate 0 false) from H5).below hb6; have HB6 := bel_then (bel_drew HB5) HB5.size hb6; clear hb6)
          | (go_at_call 37; have _t := tokA; (with_reducible refine (back_low (q := 4) H6 d1 d2 d3).mono ?_); clear tokA; rintro e w7 ⟨rfl, H7, g7⟩; have cl7 := cell_grown cl6 g7 hrne1; have ci7 := cell_grown ci6 g7 hrne2; have HB7 := HB6.grown g7 HB6.size (fun k hk => by cases hk; exact hr'); clear g7)
          | (go_at_call 37; (with_reducible refine (back_high (q := 6) H7 d1 d2 d4 d5).mono ?_); rintro e w8 ⟨rfl, H8, g8⟩; have cl8 := cell_grown cl7 g8 hrne1; have ci8 := cell_grown ci7 g8 hrne2; have HBZ := HB7.grown g8 HB7.size (fun k hk => by cases hk; exact hr'); clear g8)
          | fail)
      go_wp2
      go_roundw
      case rel => exact ⟨1 + 1, by omega, by go_num, HBZ⟩
      case measure => simp [intOf]
    · have cf : wr.cell? ⟨w1.heap.size, 2, none⟩ = some (.int .i64 (-3)) := (HB0.cell (p := ⟨w1.heap.size, 2, none⟩) (show w1.heap.size < W0.heap.size by omega)).trans (blk_cell HB.1 2)
      have cn : wr.cell? ⟨w1.heap.size + 1, 2, none⟩ = some (.int .i64 2) := (HB0.cell (p := ⟨w1.heap.size + 1, 2, none⟩) (show w1.heap.size + 1 < W0.heap.size by omega)).trans (blk_cell HB.2.1 2)
      have cl0 : wr.cell? ⟨w1.heap.size + 1 + 1, 2, none⟩ = some (.int .i64 2) := (HB0.cell (p := ⟨w1.heap.size + 1 + 1, 2, none⟩) (show w1.heap.size + 2 < W0.heap.size by omega)).trans (blk_cell HB.2.2.1 2)
      have ci0 : wr.cell? ⟨w1.heap.size + 1 + 1 + 1, 2, none⟩ = some (.int .i64 0) := (HB0.cell (p := ⟨w1.heap.size + 1 + 1 + 1, 2, none⟩) (show w1.heap.size + 3 < W0.heap.size by omega)).trans (blk_cell HB.2.2.2 2)
      go_wp2
      go_region_held3 (fun w' => w'.cell? ⟨w1.heap.size, 2, none⟩ = some (.int .i64 (-3)) ∧ w'.cell? ⟨w1.heap.size + 1, 2, none⟩ = some (.int .i64 2))
        (first | exact ⟨cf, cn⟩ | exact ⟨cf2, cn2⟩)
        (first
          | (go_at_call 33; refine (new_val (F := 0) (xs := List.replicate 2 false) _ (by decide) (by decide)).mono ?_; rintro e w3 ⟨g, r, rfl, H1, hb1, hg, hr⟩; have cf2 := (hb1.cell (p := ⟨w1.heap.size, 2, none⟩) hl1).trans cf; have cn2 := (hb1.cell (p := ⟨w1.heap.size + 1, 2, none⟩) hl2).trans cn; have cl2 := (hb1.cell (p := ⟨w1.heap.size + 1 + 1, 2, none⟩) hl3).trans cl0; have ci2 := (hb1.cell (p := ⟨w1.heap.size + 1 + 1 + 1, 2, none⟩) hl4).trans ci0; have HB1 := bel_then (bel_drew HB0) hB0 hb1; have hg' := Nat.le_trans hB0 hg; have hr' := Nat.le_trans hB0 hr; have hs3 := HB1.size; clear hb1))
      go_wp2
      go_region_held3 (fun w' => w'.cell? ⟨w1.heap.size + 1 + 1, 2, none⟩ = some (.int .i64 2))
        (first | exact cl2 | exact cl3)
        (first
          | (go_at_call 41; refine (left_fresh 2 (show Is 69 w3.drew g r 0 (List.replicate 2 false) from H1) (by decide) (by decide)).mono ?_; rintro e w4 ⟨rfl, hb4⟩; have cl3 := (hb4.cell (p := ⟨w1.heap.size + 1 + 1, 2, none⟩) (show w1.heap.size + 1 + 1 < w3.heap.size by omega)).trans cl2; have ci3 := (hb4.cell (p := ⟨w1.heap.size + 1 + 1 + 1, 2, none⟩) (show w1.heap.size + 1 + 1 + 1 < w3.heap.size by omega)).trans ci2; have H4 := (show Is 69 w3.drew g r 0 (List.replicate 2 false) from H1).below hb4; have HB4 := bel_then (bel_drew HB1) hs3 hb4; have hs4 := HB4.size; clear hb4))
      have d1 : (0 : Int) ≤ 0 ∧ (0 : Int) ≤ 240 := by decide
      have d2 : (true :: List.replicate 1 false).length ≤ 240 := by decide
      have d3 : ((-1) : Int) < 0 := by decide
      have d4 : (0 : Int) + (true :: List.replicate 1 false).length ≤ 2 := by decide
      have d5 : (2 : Int) ≤ 1000 := by decide
      have hq1 : IntKind.i64.wrap ((-1)) = (-1) := by decide
      have hq2 : IntKind.i64.wrap (2) = 2 := by decide
      have hwr : IntKind.i64.wrap (1) = 1 := by decide
      have tokA : True := trivial
      have hrne1 : w1.heap.size + 1 + 1 ≠ r := by omega
      have hrne2 : w1.heap.size + 1 + 1 + 1 ≠ r := by omega
      go_wp2_with (first
        | (go_at_call 35; (with_reducible refine (take_fresh 1 H4 (by decide) (by decide)).mono ?_); rintro e w5 ⟨rfl, H5, g5⟩; have cl5 := cell_grown cl3 g5 hrne1; have ci5 := cell_grown ci3 g5 hrne2; have hw5 := g5.size; have HB5 := HB4.grown g5 hs4 (fun k hk => by cases hk; exact hr'); clear g5))
      go_region_held3 (fun w' => w'.cell? ⟨w1.heap.size + 1 + 1, 2, none⟩ = some (.int .i64 2) ∧ w'.cell? ⟨w1.heap.size + 1 + 1 + 1, 2, none⟩ = some (.int .i64 0))
        (first | exact ⟨cl5, ci5⟩ | exact ⟨cl6, ci6⟩ | exact ⟨cl7, ci7⟩ | exact ⟨cl8, ci8⟩)
        (first
          | (go_at_call 41; refine (left_one 1 (show Is 69 w5.drew g r 0 (true :: List.replicate 1 false) from H5) (by decide) (by decide)).mono ?_; rintro e w6 ⟨rfl, hb6⟩; have cl6 := (hb6.cell (p := ⟨w1.heap.size + 1 + 1, 2, none⟩) (show w1.heap.size + 1 + 1 < w5.heap.size by omega)).trans cl5; have ci6 := (hb6.cell (p := ⟨w1.heap.size + 1 + 1 + 1, 2, none⟩) (show w1.heap.size + 1 + 1 + 1 < w5.heap.size by omega)).trans ci5; have H6 := (show Is 69 w5.drew g r 0 (true :: List.replicate 1 false) from H5).below hb6; have HB6 := bel_then (bel_drew HB5) HB5.size hb6; clear hb6)
          | (go_at_call 37; have _t := tokA; (with_reducible refine (back_low (q := (-1)) H6 d1 d2 d3).mono ?_); clear tokA; rintro e w7 ⟨rfl, H7, g7⟩; have cl7 := cell_grown cl6 g7 hrne1; have ci7 := cell_grown ci6 g7 hrne2; have HB7 := HB6.grown g7 HB6.size (fun k hk => by cases hk; exact hr'); clear g7)
          | (go_at_call 37; (with_reducible refine (back_high (q := 2) H7 d1 d2 d4 d5).mono ?_); rintro e w8 ⟨rfl, H8, g8⟩; have cl8 := cell_grown cl7 g8 hrne1; have ci8 := cell_grown ci7 g8 hrne2; have HBZ := HB7.grown g8 HB7.size (fun k hk => by cases hk; exact hr'); clear g8)
          | fail)
      go_wp2
      go_roundw
      case rel => exact ⟨2 + 1, by omega, by go_num, HBZ⟩
      case measure => simp [intOf]
    · have cf : wr.cell? ⟨w1.heap.size, 3, none⟩ = some (.int .i64 1000) := (HB0.cell (p := ⟨w1.heap.size, 3, none⟩) (show w1.heap.size < W0.heap.size by omega)).trans (blk_cell HB.1 3)
      have cn : wr.cell? ⟨w1.heap.size + 1, 3, none⟩ = some (.int .i64 1) := (HB0.cell (p := ⟨w1.heap.size + 1, 3, none⟩) (show w1.heap.size + 1 < W0.heap.size by omega)).trans (blk_cell HB.2.1 3)
      have cl0 : wr.cell? ⟨w1.heap.size + 1 + 1, 3, none⟩ = some (.int .i64 1) := (HB0.cell (p := ⟨w1.heap.size + 1 + 1, 3, none⟩) (show w1.heap.size + 2 < W0.heap.size by omega)).trans (blk_cell HB.2.2.1 3)
      have ci0 : wr.cell? ⟨w1.heap.size + 1 + 1 + 1, 3, none⟩ = some (.int .i64 240) := (HB0.cell (p := ⟨w1.heap.size + 1 + 1 + 1, 3, none⟩) (show w1.heap.size + 3 < W0.heap.size by omega)).trans (blk_cell HB.2.2.2 3)
      go_wp2
      go_region_held3 (fun w' => w'.cell? ⟨w1.heap.size, 3, none⟩ = some (.int .i64 1000) ∧ w'.cell? ⟨w1.heap.size + 1, 3, none⟩ = some (.int .i64 1))
        (first | exact ⟨cf, cn⟩ | exact ⟨cf2, cn2⟩)
        (first
          | (go_at_call 33; refine (new_val (F := 240) (xs := List.replicate 1 false) _ (by decide) (by decide)).mono ?_; rintro e w3 ⟨g, r, rfl, H1, hb1, hg, hr⟩; have cf2 := (hb1.cell (p := ⟨w1.heap.size, 3, none⟩) hl1).trans cf; have cn2 := (hb1.cell (p := ⟨w1.heap.size + 1, 3, none⟩) hl2).trans cn; have cl2 := (hb1.cell (p := ⟨w1.heap.size + 1 + 1, 3, none⟩) hl3).trans cl0; have ci2 := (hb1.cell (p := ⟨w1.heap.size + 1 + 1 + 1, 3, none⟩) hl4).trans ci0; have HB1 := bel_then (bel_drew HB0) hB0 hb1; have hg' := Nat.le_trans hB0 hg; have hr' := Nat.le_trans hB0 hr; have hs3 := HB1.size; clear hb1))
      go_wp2
      go_region_held3 (fun w' => w'.cell? ⟨w1.heap.size + 1 + 1, 3, none⟩ = some (.int .i64 1))
        (first | exact cl2 | exact cl3)
        (first
          | (go_at_call 41; refine (left_fresh 1 (show Is 69 w3.drew g r 240 (List.replicate 1 false) from H1) (by decide) (by decide)).mono ?_; rintro e w4 ⟨rfl, hb4⟩; have cl3 := (hb4.cell (p := ⟨w1.heap.size + 1 + 1, 3, none⟩) (show w1.heap.size + 1 + 1 < w3.heap.size by omega)).trans cl2; have ci3 := (hb4.cell (p := ⟨w1.heap.size + 1 + 1 + 1, 3, none⟩) (show w1.heap.size + 1 + 1 + 1 < w3.heap.size by omega)).trans ci2; have H4 := (show Is 69 w3.drew g r 240 (List.replicate 1 false) from H1).below hb4; have HB4 := bel_then (bel_drew HB1) hs3 hb4; have hs4 := HB4.size; clear hb4))
      have d1 : (0 : Int) ≤ 240 ∧ (240 : Int) ≤ 240 := by decide
      have d2 : (true :: List.replicate 0 false).length ≤ 240 := by decide
      have d3 : (239 : Int) < 240 := by decide
      have d4 : (240 : Int) + (true :: List.replicate 0 false).length ≤ 241 := by decide
      have d5 : (241 : Int) ≤ 1000 := by decide
      have hq1 : IntKind.i64.wrap (239) = 239 := by decide
      have hq2 : IntKind.i64.wrap (241) = 241 := by decide
      have hwr : IntKind.i64.wrap (0) = 0 := by decide
      have tokA : True := trivial
      have hrne1 : w1.heap.size + 1 + 1 ≠ r := by omega
      have hrne2 : w1.heap.size + 1 + 1 + 1 ≠ r := by omega
      go_wp2_with (first
        | (go_at_call 35; (with_reducible refine (take_fresh 0 H4 (by decide) (by decide)).mono ?_); rintro e w5 ⟨rfl, H5, g5⟩; have cl5 := cell_grown cl3 g5 hrne1; have ci5 := cell_grown ci3 g5 hrne2; have hw5 := g5.size; have HB5 := HB4.grown g5 hs4 (fun k hk => by cases hk; exact hr'); clear g5))
      go_region_held3 (fun w' => w'.cell? ⟨w1.heap.size + 1 + 1, 3, none⟩ = some (.int .i64 1) ∧ w'.cell? ⟨w1.heap.size + 1 + 1 + 1, 3, none⟩ = some (.int .i64 240))
        (first | exact ⟨cl5, ci5⟩ | exact ⟨cl6, ci6⟩ | exact ⟨cl7, ci7⟩ | exact ⟨cl8, ci8⟩)
        (first
          | (go_at_call 41; refine (left_one 0 (show Is 69 w5.drew g r 240 (true :: List.replicate 0 false) from H5) (by decide) (by decide)).mono ?_; rintro e w6 ⟨rfl, hb6⟩; have cl6 := (hb6.cell (p := ⟨w1.heap.size + 1 + 1, 3, none⟩) (show w1.heap.size + 1 + 1 < w5.heap.size by omega)).trans cl5; have ci6 := (hb6.cell (p := ⟨w1.heap.size + 1 + 1 + 1, 3, none⟩) (show w1.heap.size + 1 + 1 + 1 < w5.heap.size by omega)).trans ci5; have H6 := (show Is 69 w5.drew g r 240 (true :: List.replicate 0 false) from H5).below hb6; have HB6 := bel_then (bel_drew HB5) HB5.size hb6; clear hb6)
          | (go_at_call 37; have _t := tokA; (with_reducible refine (back_low (q := 239) H6 d1 d2 d3).mono ?_); clear tokA; rintro e w7 ⟨rfl, H7, g7⟩; have cl7 := cell_grown cl6 g7 hrne1; have ci7 := cell_grown ci6 g7 hrne2; have HB7 := HB6.grown g7 HB6.size (fun k hk => by cases hk; exact hr'); clear g7)
          | (go_at_call 37; (with_reducible refine (back_high (q := 241) H7 d1 d2 d4 d5).mono ?_); rintro e w8 ⟨rfl, H8, g8⟩; have cl8 := cell_grown cl7 g8 hrne1; have ci8 := cell_grown ci7 g8 hrne2; have HBZ := HB7.grown g8 HB7.size (fun k hk => by cases hk; exact hr'); clear g8)
          | fail)
      go_wp2
      go_roundw
      case rel => exact ⟨3 + 1, by omega, by go_num, HBZ⟩
      case measure => simp [intOf]
    · have cf : wr.cell? ⟨w1.heap.size, 4, none⟩ = some (.int .i64 0) := (HB0.cell (p := ⟨w1.heap.size, 4, none⟩) (show w1.heap.size < W0.heap.size by omega)).trans (blk_cell HB.1 4)
      have cn : wr.cell? ⟨w1.heap.size + 1, 4, none⟩ = some (.int .i64 (-1)) := (HB0.cell (p := ⟨w1.heap.size + 1, 4, none⟩) (show w1.heap.size + 1 < W0.heap.size by omega)).trans (blk_cell HB.2.1 4)
      have cl0 : wr.cell? ⟨w1.heap.size + 1 + 1, 4, none⟩ = some (.int .i64 0) := (HB0.cell (p := ⟨w1.heap.size + 1 + 1, 4, none⟩) (show w1.heap.size + 2 < W0.heap.size by omega)).trans (blk_cell HB.2.2.1 4)
      have ci0 : wr.cell? ⟨w1.heap.size + 1 + 1 + 1, 4, none⟩ = some (.int .i64 0) := (HB0.cell (p := ⟨w1.heap.size + 1 + 1 + 1, 4, none⟩) (show w1.heap.size + 3 < W0.heap.size by omega)).trans (blk_cell HB.2.2.2 4)
      go_wp2
      go_region_held3 (fun w' => w'.cell? ⟨w1.heap.size, 4, none⟩ = some (.int .i64 0) ∧ w'.cell? ⟨w1.heap.size + 1, 4, none⟩ = some (.int .i64 (-1)))
        (first | exact ⟨cf, cn⟩ | exact ⟨cf2, cn2⟩)
        (first
          | (go_at_call 33; refine (new_val (F := 0) (xs := List.replicate 0 false) _ (by decide) (by decide)).mono ?_; rintro e w3 ⟨g, r, rfl, H1, hb1, hg, hr⟩; have cf2 := (hb1.cell (p := ⟨w1.heap.size, 4, none⟩) hl1).trans cf; have cn2 := (hb1.cell (p := ⟨w1.heap.size + 1, 4, none⟩) hl2).trans cn; have cl2 := (hb1.cell (p := ⟨w1.heap.size + 1 + 1, 4, none⟩) hl3).trans cl0; have ci2 := (hb1.cell (p := ⟨w1.heap.size + 1 + 1 + 1, 4, none⟩) hl4).trans ci0; have HB1 := bel_then (bel_drew HB0) hB0 hb1; have hg' := Nat.le_trans hB0 hg; have hr' := Nat.le_trans hB0 hr; have hs3 := HB1.size; clear hb1))
      go_wp2
      go_region_held3 (fun w' => w'.cell? ⟨w1.heap.size + 1 + 1, 4, none⟩ = some (.int .i64 0))
        (first | exact cl2 | exact cl3)
        (first
          | (go_at_call 41; refine (left_fresh 0 (show Is 69 w3.drew g r 0 (List.replicate 0 false) from H1) (by decide) (by decide)).mono ?_; rintro e w4 ⟨rfl, hb4⟩; have cl3 := (hb4.cell (p := ⟨w1.heap.size + 1 + 1, 4, none⟩) (show w1.heap.size + 1 + 1 < w3.heap.size by omega)).trans cl2; have ci3 := (hb4.cell (p := ⟨w1.heap.size + 1 + 1 + 1, 4, none⟩) (show w1.heap.size + 1 + 1 + 1 < w3.heap.size by omega)).trans ci2; have H4 := (show Is 69 w3.drew g r 0 (List.replicate 0 false) from H1).below hb4; have HB4 := bel_then (bel_drew HB1) hs3 hb4; have hs4 := HB4.size; clear hb4))
      go_wp2_with (first
        | (go_at_call 35; (with_reducible refine (take_full H4 (by decide) (by decide) (by decide)).mono ?_); rintro e w5 ⟨rfl, H5, g5⟩; have cl5 := cell_grown cl3 g5 (by omega); have ci5 := cell_grown ci3 g5 (by omega); have HB5 := HB4.grown g5 hs4 (fun k hk => by cases hk; exact hr'); clear g5))
      go_quiet (fail)
      go_wp2
      have HBZ := bel_drewN HB5 nq
      go_roundw
      case rel => exact ⟨4 + 1, by omega, by go_num, HBZ⟩
      case measure => simp [intOf]
    · have cf : wr.cell? ⟨w1.heap.size, 5, none⟩ = some (.int .i64 0) := (HB0.cell (p := ⟨w1.heap.size, 5, none⟩) (show w1.heap.size < W0.heap.size by omega)).trans (blk_cell HB.1 5)
      have cn : wr.cell? ⟨w1.heap.size + 1, 5, none⟩ = some (.int .i64 1099511627776) := (HB0.cell (p := ⟨w1.heap.size + 1, 5, none⟩) (show w1.heap.size + 1 < W0.heap.size by omega)).trans (blk_cell HB.2.1 5)
      have cl0 : wr.cell? ⟨w1.heap.size + 1 + 1, 5, none⟩ = some (.int .i64 240) := (HB0.cell (p := ⟨w1.heap.size + 1 + 1, 5, none⟩) (show w1.heap.size + 2 < W0.heap.size by omega)).trans (blk_cell HB.2.2.1 5)
      have ci0 : wr.cell? ⟨w1.heap.size + 1 + 1 + 1, 5, none⟩ = some (.int .i64 0) := (HB0.cell (p := ⟨w1.heap.size + 1 + 1 + 1, 5, none⟩) (show w1.heap.size + 3 < W0.heap.size by omega)).trans (blk_cell HB.2.2.2 5)
      go_wp2
      go_region_held3 (fun w' => w'.cell? ⟨w1.heap.size, 5, none⟩ = some (.int .i64 0) ∧ w'.cell? ⟨w1.heap.size + 1, 5, none⟩ = some (.int .i64 1099511627776))
        (first | exact ⟨cf, cn⟩ | exact ⟨cf2, cn2⟩)
        (first
          | (go_at_call 33; refine (new_val (F := 0) (xs := List.replicate 240 false) _ (by decide) (by decide)).mono ?_; rintro e w3 ⟨g, r, rfl, H1, hb1, hg, hr⟩; have cf2 := (hb1.cell (p := ⟨w1.heap.size, 5, none⟩) hl1).trans cf; have cn2 := (hb1.cell (p := ⟨w1.heap.size + 1, 5, none⟩) hl2).trans cn; have cl2 := (hb1.cell (p := ⟨w1.heap.size + 1 + 1, 5, none⟩) hl3).trans cl0; have ci2 := (hb1.cell (p := ⟨w1.heap.size + 1 + 1 + 1, 5, none⟩) hl4).trans ci0; have HB1 := bel_then (bel_drew HB0) hB0 hb1; have hg' := Nat.le_trans hB0 hg; have hr' := Nat.le_trans hB0 hr; have hs3 := HB1.size; clear hb1))
      go_wp2
      go_region_held3 (fun w' => w'.cell? ⟨w1.heap.size + 1 + 1, 5, none⟩ = some (.int .i64 240))
        (first | exact cl2 | exact cl3)
        (first
          | (go_at_call 41; refine (left_fresh 240 (show Is 69 w3.drew g r 0 (List.replicate 240 false) from H1) (by decide) (by decide)).mono ?_; rintro e w4 ⟨rfl, hb4⟩; have cl3 := (hb4.cell (p := ⟨w1.heap.size + 1 + 1, 5, none⟩) (show w1.heap.size + 1 + 1 < w3.heap.size by omega)).trans cl2; have ci3 := (hb4.cell (p := ⟨w1.heap.size + 1 + 1 + 1, 5, none⟩) (show w1.heap.size + 1 + 1 + 1 < w3.heap.size by omega)).trans ci2; have H4 := (show Is 69 w3.drew g r 0 (List.replicate 240 false) from H1).below hb4; have HB4 := bel_then (bel_drew HB1) hs3 hb4; have hs4 := HB4.size; clear hb4))
      have d1 : (0 : Int) ≤ 0 ∧ (0 : Int) ≤ 240 := by decide
      have d2 : (true :: List.replicate 239 false).length ≤ 240 := by decide
      have d3 : ((-1) : Int) < 0 := by decide
      have d4 : (0 : Int) + (true :: List.replicate 239 false).length ≤ 240 := by decide
      have d5 : (240 : Int) ≤ 1000 := by decide
      have hq1 : IntKind.i64.wrap ((-1)) = (-1) := by decide
      have hq2 : IntKind.i64.wrap (240) = 240 := by decide
      have hwr : IntKind.i64.wrap (239) = 239 := by decide
      have tokA : True := trivial
      have hrne1 : w1.heap.size + 1 + 1 ≠ r := by omega
      have hrne2 : w1.heap.size + 1 + 1 + 1 ≠ r := by omega
      go_wp2_with (first
        | (go_at_call 35; (with_reducible refine (take_fresh 239 H4 (by decide) (by decide)).mono ?_); rintro e w5 ⟨rfl, H5, g5⟩; have cl5 := cell_grown cl3 g5 hrne1; have ci5 := cell_grown ci3 g5 hrne2; have hw5 := g5.size; have HB5 := HB4.grown g5 hs4 (fun k hk => by cases hk; exact hr'); clear g5))
      go_region_held3 (fun w' => w'.cell? ⟨w1.heap.size + 1 + 1, 5, none⟩ = some (.int .i64 240) ∧ w'.cell? ⟨w1.heap.size + 1 + 1 + 1, 5, none⟩ = some (.int .i64 0))
        (first | exact ⟨cl5, ci5⟩ | exact ⟨cl6, ci6⟩ | exact ⟨cl7, ci7⟩ | exact ⟨cl8, ci8⟩)
        (first
          | (go_at_call 41; refine (left_one 239 (show Is 69 w5.drew g r 0 (true :: List.replicate 239 false) from H5) (by decide) (by decide)).mono ?_; rintro e w6 ⟨rfl, hb6⟩; have cl6 := (hb6.cell (p := ⟨w1.heap.size + 1 + 1, 5, none⟩) (show w1.heap.size + 1 + 1 < w5.heap.size by omega)).trans cl5; have ci6 := (hb6.cell (p := ⟨w1.heap.size + 1 + 1 + 1, 5, none⟩) (show w1.heap.size + 1 + 1 + 1 < w5.heap.size by omega)).trans ci5; have H6 := (show Is 69 w5.drew g r 0 (true :: List.replicate 239 false) from H5).below hb6; have HB6 := bel_then (bel_drew HB5) HB5.size hb6; clear hb6)
          | (go_at_call 37; have _t := tokA; (with_reducible refine (back_low (q := (-1)) H6 d1 d2 d3).mono ?_); clear tokA; rintro e w7 ⟨rfl, H7, g7⟩; have cl7 := cell_grown cl6 g7 hrne1; have ci7 := cell_grown ci6 g7 hrne2; have HB7 := HB6.grown g7 HB6.size (fun k hk => by cases hk; exact hr'); clear g7)
          | (go_at_call 37; (with_reducible refine (back_high (q := 240) H7 d1 d2 d4 d5).mono ?_); rintro e w8 ⟨rfl, H8, g8⟩; have cl8 := cell_grown cl7 g8 hrne1; have ci8 := cell_grown ci7 g8 hrne2; have HBZ := HB7.grown g8 HB7.size (fun k hk => by cases hk; exact hr'); clear g8)
          | fail)
      go_wp2
      go_roundw
      case rel => exact ⟨5 + 1, by omega, by go_num, HBZ⟩
      case measure => simp [intOf]
    · go_wp2
      go_ret
      exact ⟨rfl, bel_then hbb hbb.size HB0⟩
end Go.Proofs.Ytoimmobljpegmaa.Stock
