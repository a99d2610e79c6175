/- Contracts: Way of package phase, Next and Way of the reference. -/
import Derived.Test.YtoimmobljpegmaaPhase
import Derived.WalkMore
import Derived.ScopeJumps
import Derived.Outline
namespace Go.Proofs.Ytoimmobljpegmaa.Phase
open Go.RowKit Go.Proofs.Ytoimmobljpegmaa.Mem Go.Maps
set_option linter.unusedVariables false

def ways : List Int → Int → Int × Bool
  | [], p => (p, true)
  | e :: t, p => if 0 < nx p e then ways t (nx p e) else (0, false)
theorem ways_step (l : List Int) (k : Nat) (h : k < l.length) (p : Int) (hy : 0 < nx p (l.getD k 0)) : ways (l.drop (k + 1)) (nx p (l.getD k 0)) = ways (l.drop k) p := by
  rw [List.drop_eq_getElem_cons h]
  have e : l.getD k 0 = l[k] := by simp [List.getD, h]
  rw [e] at hy ⊢
  rw [ways, if_pos hy]
theorem ways_stop (l : List Int) (k : Nat) (h : k < l.length) (p : Int) (hy : ¬ 0 < nx p (l.getD k 0)) : ways (l.drop k) p = (0, false) := by
  rw [List.drop_eq_getElem_cons h]
  have e : l.getD k 0 = l[k] := by simp [List.getD, h]
  rw [e] at hy
  rw [ways, if_neg hy]
theorem nx_in (x y : Int) : 0 ≤ nx x y ∧ nx x y ≤ 5 := by
  unfold nx
  cases hf : tab.find? (fun r => r.2.1 == x && r.2.2.1 == y) with
  | none => simp
  | some r =>
    have : ∀ r ∈ tab, 0 ≤ r.2.2.2 ∧ r.2.2.2 ≤ 5 := by decide
    exact this r (List.mem_of_find?_eq_some hf)
theorem nx_wf (x y : Int) : (Lit.int .i64 (nx x y)).wf = true := wf_in (by have := nx_in x y; omega)
theorem ret2 {a a' : Int} {c c' : Bool} {x : Int × Bool} (h : (a', c') = x) (ha : a = a') (hc : c = c') :
    Ending.returned (.tuple #[.int .i64 a, .bool c]) = Ending.returned (.tuple #[.int .i64 x.1, .bool x.2]) := by subst h ha hc; rfl
theorem next_yes {x y : Int} (w : World) (hx : (Lit.int .i64 x).wf = true) (hy : (Lit.int .i64 y).wf = true) (h : 0 < nx x y) :
    Calls Try.prog 16 #[.int .i64 x, .int .i64 y] w fun e w' => e = .returned (.tuple #[.int .i64 (nx x y), .bool true]) ∧ Below w.heap.size w w' := by
  have := next_any w x y hx hy
  rwa [decide_eq_true h] at this
theorem next_no {x y : Int} (w : World) (hx : (Lit.int .i64 x).wf = true) (hy : (Lit.int .i64 y).wf = true) (h : ¬ 0 < nx x y) :
    Calls Try.prog 16 #[.int .i64 x, .int .i64 y] w fun e w' => e = .returned (.tuple #[.int .i64 0, .bool false]) ∧ Below w.heap.size w w' := by
  have := next_any w x y hx hy
  rw [decide_eq_false h] at this
  have h0 : nx x y = 0 := by have := nx_in x y; omega
  rwa [h0] at this

set_option maxRecDepth 100000 in
set_option maxHeartbeats 2000000 in
theorem way_any (p : Int) (a : Option Addr) (b off cap : Nat) (l : List Int) (w : World) (hp : (Lit.int .i64 p).wf = true) (hl : l.length ≤ 1152921504606846976) (ha : 0 < l.length → a = some ⟨b, off, none⟩) (hblt : 0 < l.length → b < w.heap.size)
    (hc : ∀ i, i < l.length → w.cell? ⟨b, off + i, none⟩ = some (.int .i64 (l.getD i 0))) (hw : ∀ n ∈ l, (Lit.int .i64 n).wf = true) :
    Calls Try.prog 18 #[.int .i64 p, .slice a l.length cap] w fun r w' => r = .returned (.tuple #[.int .i64 (ways l p).1, .bool (ways l p).2]) ∧ Below w.heap.size w w' := by
  obtain ⟨X, hX⟩ : ∃ X, X = ways l p := ⟨_, rfl⟩
  rw [← hX]
  have HX := Lib.hid hX
  have HC := Lib.hid hc
  have HA := Lib.hid ha
  have HB := Lib.hid hblt
  have HW := Lib.hid hw
  have hb := Below.refl w.heap.size w
  have hwf : ∀ k, k < l.length → (Lit.int .i64 (l.getD k 0)).wf = true := fun k hk => HW.out _ (by rw [List.getD_eq_getElem?_getD, List.getElem?_eq_getElem hk]; exact List.getElem_mem _)
  have HF := Lib.hid hwf
  clear hX hc ha hblt hw hwf
  go_enter Try.func18, Try.ntmps18
  go_wp2
  refine wp_scope_jumps 0 (fun a' w' => Below w.heap.size w w' ∧ ∃ (k : Nat) (q : Int) (u2 u3 u4 u5 u8 u9 u10 u11 u12 u13 u14 u15 u16 u17 u18 u19 u20 u21 u22 u23 u24 u25 : Value), k ≤ l.length ∧ (Lit.int .i64 q).wf = true ∧ X = ways (l.drop k) q ∧
      a' = { tmps := #[.int .i64 q, .slice a l.length cap, u2, u3, u4, u5, .int .i64 k, .bool true, u8, u9, u10, u11, u12, u13, u14, u15, u16, u17, u18, u19, u20, u21, u22, u23, u24, u25], defers := [] })
    (fun a' _ => l.length - (intOf (a'.tmps.getD 6 undef)).toNat) rfl ?_ ?_
  · by_cases hlt : 0 < l.length
    · obtain ⟨v, hv⟩ : ∃ v, v = l.getD 0 0 := ⟨_, rfl⟩
      have hcell : w.cell? ⟨b, off, none⟩ = some (.int .i64 v) := by rw [hv]; simpa using HC.out 0 hlt
      have hvw : (Lit.int .i64 v).wf = true := by rw [hv]; exact HF.out 0 hlt
      obtain rfl := HA.out (by omega)
      have Hv := Lib.hid hv
      clear hv
      by_cases hy : 0 < nx p v
      · go_wp2
        go_step3
        go_wp2_with (first | (go_at_call 16; refine (next_yes _ hp hvw hy).mono ?_; rintro e w' ⟨rfl, hb1⟩))
        go_step3
        refine ⟨rfl, hb1, 1, nx p v, _, _, _, _, _, _, _, _, _, _, _, _, _, _, _, _, _, _, _, _, _, _, by omega, nx_wf _ _, ?_, rfl⟩
        have h1 := HX.out
        have hv := Hv.out
        subst hv
        rw [h1]
        exact (ways_step l 0 hlt p hy).symm
      · go_wp2
        go_step3
        go_wp2_with (first | (go_at_call 16; refine (next_no _ hp hvw (by omega)).mono ?_; rintro e w' ⟨rfl, hb1⟩))
        simp only [Exit.jump]
        go_ret2
        refine ⟨ret2 ?_ rfl rfl, hb1⟩
        have h1 := HX.out
        have hv := Hv.out
        subst hv
        rw [h1]
        exact (ways_stop l 0 hlt p (by omega)).symm
    · have hl0 : l = [] := List.eq_nil_of_length_eq_zero (by omega)
      go_wp2
      go_step3
      go_wp2
      simp only [Exit.jump]
      go_ret2
      refine ⟨ret2 ?_ rfl rfl, hb⟩
      have h1 := HX.out
      rw [h1, hl0]
      rfl
  · rintro a' w' ⟨hbw, k, q, u2, u3, u4, u5, u8, u9, u10, u11, u12, u13, u14, u15, u16, u17, u18, u19, u20, u21, u22, u23, u24, u25, hk, hq, hX, rfl⟩
    have HXk := Lib.hid hX
    clear hX
    by_cases hlt : k < l.length
    · obtain ⟨v, hv⟩ : ∃ v, v = l.getD k 0 := ⟨_, rfl⟩
      have hcell0 : w.cell? ⟨b, off + k, none⟩ = some (.int .i64 v) := by rw [hv]; exact HC.out k hlt
      have hcell := (hbw.cell (p := ⟨b, off + k, none⟩) (HB.out (by omega))).trans hcell0
      have hvw : (Lit.int .i64 v).wf = true := by rw [hv]; exact HF.out k hlt
      obtain rfl := HA.out (by omega)
      have Hv := Lib.hid hv
      clear hv
      by_cases hy : 0 < nx q v
      · go_wp2_with (first | (go_at_call 16; refine (next_yes _ hq hvw hy).mono ?_; rintro e w1 ⟨rfl, hb1⟩))
        go_step3
        refine ⟨rfl, ⟨bel_then hbw hbw.size hb1, k + 1, nx q v, _, _, _, _, _, _, _, _, _, _, _, _, _, _, _, _, _, _, _, _, _, _, by omega, nx_wf _ _, ?_, by go_num⟩, ?_⟩
        · have h1 := HXk.out
          have hv := Hv.out
          subst hv
          rw [h1]
          exact (ways_step l k hlt q hy).symm
        · simp [intOf]
          omega
      · go_wp2_with (first | (go_at_call 16; refine (next_no _ hq hvw (by omega)).mono ?_; rintro e w1 ⟨rfl, hb1⟩))
        simp only [Exit.jump]
        go_ret2
        refine ⟨ret2 ?_ rfl rfl, bel_then hbw hbw.size hb1⟩
        have h1 := HXk.out
        have hv := Hv.out
        subst hv
        rw [h1]
        exact (ways_stop l k hlt q (by omega)).symm
    · have hke : k = l.length := by omega
      subst hke
      go_wp2
      simp only [Exit.jump]
      go_ret2
      refine ⟨ret2 ?_ rfl rfl, hbw⟩
      have h1 := HXk.out
      rw [h1, List.drop_length]
      rfl

def rows : List Value := tab.flatMap fun r => [.int .i64 r.2.1, .int .i64 r.2.2.1, .int .i64 r.2.2.2]
theorem row_cells {w : World} {g : Nat} {t : TypeId} (h : w.heap[g]? = some (.cells rows.toArray t (0, 0))) (k : Nat) (hk : k < 11) :
    w.cell? ⟨g, k * 3, none⟩ = some (.int .i64 (tab.getD k (0, 0, 0, 0)).2.1) ∧ w.cell? ⟨g, k * 3 + 1, none⟩ = some (.int .i64 (tab.getD k (0, 0, 0, 0)).2.2.1) ∧ w.cell? ⟨g, k * 3 + 2, none⟩ = some (.int .i64 (tab.getD k (0, 0, 0, 0)).2.2.2) := by
  rw [blk_cell h, blk_cell h, blk_cell h]
  have : k = 0 ∨ k = 1 ∨ k = 2 ∨ k = 3 ∨ k = 4 ∨ k = 5 ∨ k = 6 ∨ k = 7 ∨ k = 8 ∨ k = 9 ∨ k = 10 := by omega
  rcases this with rfl | rfl | rfl | rfl | rfl | rfl | rfl | rfl | rfl | rfl | rfl <;> exact ⟨rfl, rfl, rfl⟩
theorem nx_hit {x y : Int} (k : Nat) (hk : k < 11) (hno : ∀ j, j < k → ¬ ((tab.getD j (0, 0, 0, 0)).2.1 = x ∧ (tab.getD j (0, 0, 0, 0)).2.2.1 = y)) (h1 : (tab.getD k (0, 0, 0, 0)).2.1 = x) (h2 : (tab.getD k (0, 0, 0, 0)).2.2.1 = y) :
    nx x y = (tab.getD k (0, 0, 0, 0)).2.2.2 := by
  have hl : tab.length = 11 := rfl
  have hf : tab.find? (fun r => r.2.1 == x && r.2.2.1 == y) = some (tab.getD k (0, 0, 0, 0)) := by
    rw [List.find?_eq_some_iff_getElem]
    refine ⟨by simp only [h1, h2, beq_self_eq_true, Bool.and_self], k, by omega, by simp [List.getD_eq_getElem?_getD, List.getElem?_eq_getElem (show k < tab.length by omega)], fun j hj => ?_⟩
    have := hno j hj
    rw [List.getD_eq_getElem?_getD, List.getElem?_eq_getElem (by omega)] at this
    simp only [Option.getD_some] at this
    simp
    by_cases hx : tab[j].2.1 = x
    · exact .inr (fun h => this ⟨hx, h⟩)
    · exact .inl hx
  unfold nx
  rw [hf]
theorem nx_none {x y : Int} (hno : ∀ j, j < 11 → ¬ ((tab.getD j (0, 0, 0, 0)).2.1 = x ∧ (tab.getD j (0, 0, 0, 0)).2.2.1 = y)) : nx x y = 0 := by
  have hl : tab.length = 11 := rfl
  have hf : tab.find? (fun r => r.2.1 == x && r.2.2.1 == y) = none := by
    rw [List.find?_eq_none]
    intro r hr
    obtain ⟨j, hj, rfl⟩ := List.mem_iff_getElem.1 hr
    have := hno j (by omega)
    rw [List.getD_eq_getElem?_getD, List.getElem?_eq_getElem hj] at this
    simpa using this
  unfold nx
  rw [hf]
theorem tab_pos (k : Nat) (hk : k < 11) : 0 < (tab.getD k (0, 0, 0, 0)).2.2.2 := by
  have : k = 0 ∨ k = 1 ∨ k = 2 ∨ k = 3 ∨ k = 4 ∨ k = 5 ∨ k = 6 ∨ k = 7 ∨ k = 8 ∨ k = 9 ∨ k = 10 := by omega
  rcases this with rfl | rfl | rfl | rfl | rfl | rfl | rfl | rfl | rfl | rfl | rfl <;> decide

set_option maxRecDepth 100000 in
set_option maxHeartbeats 2000000 in
theorem rnext_any (w : World) (x y : Int) :
    Calls Try.prog 17 #[.int .i64 x, .int .i64 y] w fun e w' => e = .returned (.tuple #[.int .i64 (nx x y), .bool (decide (0 < nx x y))]) ∧ Below w.heap.size w w' := by
  obtain ⟨X, hX⟩ : ∃ X, X = nx x y := ⟨_, rfl⟩
  rw [← hX]
  have HX := Lib.hid hX
  clear hX
  go_enter Try.func17, Try.ntmps17
  go_wp2
  obtain ⟨w1, hw1⟩ : ∃ w1, w1 = w.alloc (.cells #[.int .i64 1, .int .i64 1, .int .i64 2, .int .i64 1, .int .i64 3, .int .i64 2, .int .i64 2, .int .i64 2, .int .i64 3, .int .i64 2, .int .i64 4, .int .i64 1, .int .i64 2, .int .i64 7, .int .i64 1, .int .i64 2, .int .i64 6, .int .i64 5, .int .i64 2, .int .i64 8, .int .i64 4, .int .i64 3, .int .i64 5, .int .i64 2, .int .i64 3, .int .i64 8, .int .i64 3, .int .i64 4, .int .i64 1, .int .i64 2, .int .i64 5, .int .i64 1, .int .i64 2] 64) := ⟨_, rfl⟩
  have hb : Below w.heap.size w w1 := by rw [hw1]; exact (Below.refl _ _).alloc (Nat.le_refl _) _
  have hrow := Lib.hid (fun k hk => row_cells (w := w1) (g := w.heap.size) (t := 64) (by rw [hw1]; show (w.heap.push _)[w.heap.size]? = _; simp; rfl) k hk)
  simp only [← hw1]
  clear hw1
  go_loopw [7] (fun t7 wr => ∃ (k N : Nat), k ≤ 11 ∧ t7 = .int .i64 k ∧ wr = w1.drewN N ∧ ∀ j, j < k → ¬ ((tab.getD j (0, 0, 0, 0)).2.1 = x ∧ (tab.getD j (0, 0, 0, 0)).2.2.1 = y)) (fun t7 _ => 11 - (intOf t7).toNat)
  case atStart => exact ⟨0, 0, by omega, rfl, rfl, fun j hj => by omega⟩
  case round =>
    obtain ⟨k, N, hk, rfl, rfl, hno⟩ := hrel
    have HN := Lib.hid hno
    clear hno
    by_cases hlt : (k : Int) < 11
    · have hk0 : (0 : Int) ≤ (k : Int) := by omega
      obtain ⟨c0, c1, c2⟩ := hrow.out k (by omega)
      obtain ⟨z0, hz0⟩ : ∃ z, z = (tab.getD k (0, 0, 0, 0)).2.1 := ⟨_, rfl⟩
      obtain ⟨z1, hz1⟩ : ∃ z, z = (tab.getD k (0, 0, 0, 0)).2.2.1 := ⟨_, rfl⟩
      obtain ⟨z2, hz2⟩ : ∃ z, z = (tab.getD k (0, 0, 0, 0)).2.2.2 := ⟨_, rfl⟩
      rw [← hz0] at c0
      rw [← hz1] at c1
      rw [← hz2] at c2
      have Z0 := Lib.hid hz0
      have Z1 := Lib.hid hz1
      have Z2 := Lib.hid hz2
      clear hz0 hz1 hz2
      by_cases h0 : z0 = x
      · by_cases h1 : z1 = y
        · have H0 := Lib.hid h0
          have H1 := Lib.hid h1
          go_wp2
          go_ret2
          have hx := HX.out
          have e0 := Z0.out
          have e1 := Z1.out
          have e2 := Z2.out
          have h := nx_hit k (by omega) HN.out (e0.symm.trans H0.out) (e1.symm.trans H1.out)
          have hp := tab_pos k (by omega)
          refine ⟨?_, bel_drewN hb _⟩
          rw [hx, h, e2, decide_eq_true hp]
          rfl
        · go_wp2
          go_roundw
          case rel =>
            refine ⟨k + 1, _, by omega, by go_num, rfl, fun j hj => ?_⟩
            by_cases hjk : j < k
            · exact HN.out j hjk
            · obtain rfl : j = k := by omega
              exact fun h => h1 (Z1.out.trans h.2)
          case measure => simp [intOf]; omega
      · go_wp2
        go_roundw
        case rel =>
          refine ⟨k + 1, _, by omega, by go_num, rfl, fun j hj => ?_⟩
          by_cases hjk : j < k
          · exact HN.out j hjk
          · obtain rfl : j = k := by omega
            exact fun h => h0 (Z0.out.trans h.1)
        case measure => simp [intOf]; omega
    · obtain rfl : k = 11 := by omega
      go_wp2
      go_ret2
      have h := nx_none (HN.out)
      have h1 := HX.out
      exact ⟨by rw [h1, h]; rfl, bel_drewN hb _⟩

theorem rnext_yes {x y : Int} (w : World) (h : 0 < nx x y) :
    Calls Try.prog 17 #[.int .i64 x, .int .i64 y] w fun e w' => e = .returned (.tuple #[.int .i64 (nx x y), .bool true]) ∧ Below w.heap.size w w' := by
  have := rnext_any w x y
  rwa [decide_eq_true h] at this
theorem rnext_no {x y : Int} (w : World) (h : ¬ 0 < nx x y) :
    Calls Try.prog 17 #[.int .i64 x, .int .i64 y] w fun e w' => e = .returned (.tuple #[.int .i64 0, .bool false]) ∧ Below w.heap.size w w' := by
  have := rnext_any w x y
  rw [decide_eq_false h] at this
  have h0 : nx x y = 0 := by have := nx_in x y; omega
  rwa [h0] at this

set_option maxRecDepth 100000 in
set_option maxHeartbeats 2000000 in
theorem rway_any (p : Int) (a : Option Addr) (b off cap : Nat) (l : List Int) (w : World) (hl : l.length ≤ 1152921504606846976) (ha : 0 < l.length → a = some ⟨b, off, none⟩) (hblt : 0 < l.length → b < w.heap.size)
    (hc : ∀ i, i < l.length → w.cell? ⟨b, off + i, none⟩ = some (.int .i64 (l.getD i 0))) :
    Calls Try.prog 19 #[.int .i64 p, .slice a l.length cap] w fun r w' => r = .returned (.tuple #[.int .i64 (ways l p).1, .bool (ways l p).2]) ∧ Below w.heap.size w w' := by
  obtain ⟨X, hX⟩ : ∃ X, X = ways l p := ⟨_, rfl⟩
  rw [← hX]
  have HX := Lib.hid hX
  have HC := Lib.hid hc
  have HA := Lib.hid ha
  have HB := Lib.hid hblt
  have hb := Below.refl w.heap.size w
  clear hX hc ha hblt
  go_enter Try.func19, Try.ntmps19
  go_wp2
  go_loopw [0, 6] (fun t0 t6 wr => ∃ (k : Nat) (q : Int), k ≤ l.length ∧ X = ways (l.drop k) q ∧ t0 = .int .i64 q ∧ t6 = .int .i64 k ∧ Below w.heap.size w wr) (fun _ t6 _ => l.length - (intOf t6).toNat)
  case atStart => exact ⟨0, p, by omega, HX.out, rfl, rfl, hb⟩
  case round =>
    obtain ⟨k, q, hk, hX, rfl, rfl, hbw⟩ := hrel
    have HXk := Lib.hid hX
    clear hX
    by_cases hlt : k < l.length
    · obtain ⟨v, hv⟩ : ∃ v, v = l.getD k 0 := ⟨_, rfl⟩
      have hcell0 : w.cell? ⟨b, off + k, none⟩ = some (.int .i64 v) := by rw [hv]; exact HC.out k hlt
      have hcell := (hbw.cell (p := ⟨b, off + k, none⟩) (HB.out (by omega))).trans hcell0
      obtain rfl := HA.out (by omega)
      have Hv := Lib.hid hv
      clear hv
      by_cases hy : 0 < nx q v
      · go_wp2_with (first | (go_at_call 17; refine (rnext_yes _ hy).mono ?_; rintro e w1 ⟨rfl, hb1⟩))
        go_roundw
        case rel =>
          refine ⟨k + 1, nx q v, by omega, ?_, rfl, by go_num, bel_then hbw hbw.size hb1⟩
          have h1 := HXk.out
          have hv := Hv.out
          subst hv
          rw [h1]
          exact (ways_step l k hlt q hy).symm
        case measure => simp [intOf]; omega
      · go_wp2_with (first | (go_at_call 17; refine (rnext_no _ (by omega)).mono ?_; rintro e w1 ⟨rfl, hb1⟩))
        go_ret2
        refine ⟨ret2 ?_ rfl rfl, bel_then hbw hbw.size hb1⟩
        have h1 := HXk.out
        have hv := Hv.out
        subst hv
        rw [h1]
        exact (ways_stop l k hlt q (by omega)).symm
    · have hke : k = l.length := by omega
      subst hke
      go_wp2
      go_ret2
      refine ⟨ret2 ?_ rfl rfl, hbw⟩
      have h1 := HXk.out
      rw [h1, List.drop_length]
      rfl

theorem way_val {p q : Int} {ok : Bool} {a : Option Addr} {b off cap : Nat} {l : List Int} (w : World) (h : ways l p = (q, ok)) (hp : (Lit.int .i64 p).wf = true) (hl : l.length ≤ 1152921504606846976) (ha : 0 < l.length → a = some ⟨b, off, none⟩) (hblt : 0 < l.length → b < w.heap.size)
    (hc : ∀ i, i < l.length → w.cell? ⟨b, off + i, none⟩ = some (.int .i64 (l.getD i 0))) (hw : ∀ n ∈ l, (Lit.int .i64 n).wf = true) :
    Calls Try.prog 18 #[.int .i64 p, .slice a l.length cap] w fun r w' => r = .returned (.tuple #[.int .i64 q, .bool ok]) ∧ Below w.heap.size w w' := by
  have := way_any p a b off cap l w hp hl ha hblt hc hw
  rw [h] at this
  exact this
theorem rway_val {p q : Int} {ok : Bool} {a : Option Addr} {b off cap : Nat} {l : List Int} (w : World) (h : ways l p = (q, ok)) (hl : l.length ≤ 1152921504606846976) (ha : 0 < l.length → a = some ⟨b, off, none⟩) (hblt : 0 < l.length → b < w.heap.size)
    (hc : ∀ i, i < l.length → w.cell? ⟨b, off + i, none⟩ = some (.int .i64 (l.getD i 0))) :
    Calls Try.prog 19 #[.int .i64 p, .slice a l.length cap] w fun r w' => r = .returned (.tuple #[.int .i64 q, .bool ok]) ∧ Below w.heap.size w w' := by
  have := rway_any p a b off cap l w hl ha hblt hc
  rw [h] at this
  exact this
theorem two_cells (w : World) (x y : Int) : ∀ i, i < [x, y].length → (w.alloc (.cells #[.int .i64 x, .int .i64 y] 3)).cell? ⟨w.heap.size, 0 + i, none⟩ = some (.int .i64 ([x, y].getD i 0)) := by
  intro i hi
  rw [blk_cell (blk_new _ _)]
  have : i = 0 ∨ i = 1 := by simp at hi; omega
  rcases this with rfl | rfl <;> rfl

set_option maxRecDepth 100000 in
set_option maxHeartbeats 2000000 in
theorem begun (w : World) : Calls Try.prog 15 #[] w fun e w' => e = .returned (.bool true) ∧ Below w.heap.size w w' := by
  have hb := Below.refl w.heap.size w
  go_enter Try.func15, Try.ntmps15
  go_wp2_with (first
    | (go_at_call 16; (with_reducible refine (next_yes (x := 1) (y := 1) _ (by decide) (by decide) (by decide)).mono ?_); rintro e w1 ⟨rfl, hb1⟩; replace hb := bel_chain hb hb1; clear hb1)
    | (go_at_call 16; (with_reducible refine (next_no (x := 1) (y := 6) _ (by decide) (by decide) (by decide)).mono ?_); rintro e w2 ⟨rfl, hb2⟩; replace hb := bel_chain hb hb2; clear hb2)
    | (go_at_call 18; refine (way_val (l := [3, 4]) (q := 1) (ok := true) (b := w2.heap.size) (off := 0) _ (by decide) (by decide) (by decide) (fun _ => rfl) (fun _ => by show _ < (w2.heap.push _).size; simp) (two_cells w2 3 4) (by decide)).mono ?_; rintro e w3 ⟨rfl, hb3⟩; replace hb := bel_chain (bel_alloc hb _) hb3; clear hb3)
    | fail)
  go_ret
  exact ⟨rfl, hb⟩
end Go.Proofs.Ytoimmobljpegmaa.Phase
