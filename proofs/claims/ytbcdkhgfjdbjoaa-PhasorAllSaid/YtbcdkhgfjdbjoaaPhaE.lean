/- The reference's Phasor: does, Store. -/
import Derived.Test.YtbcdkhgfjdbjoaaPhaD
namespace Go.Proofs.Ytbcdkhgfjdbjoaa.Pha
open Go Go.RowKit Go.Proofs.Ytbcdkhgfjdbjoaa.Mem Go.Proofs.Ytbcdkhgfjdbjoaa.Kept Go.Proofs.Ytbcdkhgfjdbjoaa.Flt
open Go.Proofs.YtbcdkhgfjdbjoaaW.PrintLast (opsOf)
set_option linter.unusedVariables false
set_option linter.unusedSimpArgs false
theorem wp_region_eq {P : Program} {id : Nat} {ops ops' : Array Oper} {b : Bool} {Q : Exit → Act → World → Prop} {a : Act} {w : World} (h : ops = ops') (hw : (Code.region id ops' b).wp P Q a w) : (Code.region id ops b).wp P Q a w := by
  subst h; exact hw
theorem far2 {w : World} {q r : Nat} {o : Obj} (h : w.heap[q]? = some o) (hne : q ≠ r) (a b : Value) : ((w.setCell ⟨r, 0, none⟩ a).setCell ⟨r, 1, none⟩ b).heap[q]? = some o := blk_far (blk_far h (show q ≠ (⟨r, 0, none⟩ : Addr).block from hne) _) (show q ≠ (⟨r, 1, none⟩ : Addr).block from hne) _
theorem wr (x : Int) (h : -9223372036854775808 ≤ x ∧ x ≤ 9223372036854775807) : IntKind.i64.wrap x = x := IntWalk.i64_in _ (by omega)
theorem cut_hi {x : Int} (h : 1125899906842624 < x) : cutF x = 0 := by unfold cutF; rw [if_pos (Or.inl h)]
theorem cut_lo {x : Int} (h : x < -1125899906842624) : cutF x = 0 := by unfold cutF; rw [if_pos (Or.inr h)]
/-- Behind the two parts' cuts, the device is stored. -/
theorem rdoes_end {W0 w : World} {g : Nat} {s : PS} {v x y : Int} (hs : RIs W0 g s) (hb : Below W0.heap.size W0 w) (hp : preF s v = (x, y)) :
    RIs ((w.setCell ⟨g, 4, none⟩ (.int .i64 (cutF x))).setCell ⟨g, 5, none⟩ (.int .i64 (cutF y))) g (turnF s v) ∧ Kept W0 ((w.setCell ⟨g, 4, none⟩ (.int .i64 (cutF x))).setCell ⟨g, 5, none⟩ (.int .i64 (cutF y))) (fun j => j = g) := by
  have hg := (hs.below hb).1
  refine ⟨⟨?_, ?_⟩, kept_set (S := fun j => j = g) (kept_set (S := fun j => j = g) (kept_below hb) rfl _ _) rfl _ _⟩
  · have h1 := blk_set (blk_set hg 4 (.int .i64 (cutF x))) 5 (.int .i64 (cutF y))
    have e : turnF s v = { s with r0 := cutF x, r1 := cutF y } := by unfold turnF; rw [hp]
    rw [e]
    simpa using h1
  · have hi := hs.2
    have h0 := cutF_in (preF s v).1
    have h1 := cutF_in (preF s v).2
    unfold PS.In at hi ⊢
    unfold turnF
    exact ⟨hi.1, hi.2.1, hi.2.2.1, hi.2.2.2.1, h0, h1⟩

set_option maxRecDepth 100000 in
set_option maxHeartbeats 8000000 in
theorem rdoes_1 {w : World} {g : Nat} {s : PS} (h : RIs w g s) : Calls Try.prog 42 #[.pointer (some ⟨g, 0, none⟩), .int .u64 1] w fun e w' => e = .returned (.tuple #[]) ∧ RIs w' g (turnF s 1) ∧ Kept w w' (fun j => j = g) := by
  have hi := h.2
  unfold PS.In at hi
  obtain ⟨i0, i1, i2, i3, i4, i5⟩ := hi
  have HS := Lib.hid h
  have hn : IntKind.i64.wrap (-s.a1) = -s.a1 := wr _ (by omega)
  have hx : IntKind.i64.wrap (s.a0 + s.b0) = s.a0 + s.b0 := wr _ (by omega)
  have hy : IntKind.i64.wrap (s.a1 + s.b1) = s.a1 + s.b1 := wr _ (by omega)
  have HPr : Hid (preF s 1 = (s.a0 + s.b0, s.a1 + s.b1)) := Lib.hid (rfl)
  clear i0 i1 i2 i3 i4 i5
  have hglt := blk_lt h.1
  go_enter Try.func42, Try.ntmps42
  go_wp2
  refine wp_region_eq (ops' := opsOf Try.f42 0) (by kernel_rfl) ?_
  refine region_does (W0 := w) (g := g) (s := s) rfl hglt HS.out.1 ?_
  intro W p4 p5 p6 n45 n46 n56 t4 t5 t6 g4 g5 g6 hbW
  have G6 := Lib.hid g6
  have hm7 := blk_new W (N2 s.a0 (-s.a1))
  have T4 := Lib.hid t4
  have T5 := Lib.hid t5
  have T6 := Lib.hid t6
  have T7 := Lib.hid hm7
  have HBW := Lib.hid hbW
  have HB := Lib.hid (bel_alloc hbW (N2 s.a0 (-s.a1)))
  obtain ⟨x0, x1⟩ := cells2 t4
  obtain ⟨y0, y1⟩ := cells2 t5
  obtain ⟨z0, z1⟩ := cells2 t6
  have f0 := blk_free t6 0
  have f1 := blk_free t6 1
  have l4 := blk_lt t4
  have l5 := blk_lt t5
  have l6 := blk_lt t6
  have v0 := blk_cell hm7 0
  have v1 := blk_cell hm7 1
  have hu := Try.underlying28
  clear h hbW hm7 t4 t5 t6 g4 g5 g6
  go_wp2
  obtain ⟨X, hX⟩ : ∃ X : Int, X = s.a0 + s.b0 := ⟨_, rfl⟩
  obtain ⟨Y, hY⟩ : ∃ Y : Int, Y = s.a1 + s.b1 := ⟨_, rfl⟩
  replace HPr : Hid (preF s 1 = (X, Y)) := Lib.hid (by rw [hX, hY]; exact HPr.out)
  have HX := Lib.hid hX
  have HY := Lib.hid hY
  clear hX hY
  go_loopw [9] (fun i w' => ∃ (k : Nat) (x y : Int), k ≤ 2 ∧ i = .int .i64 k ∧ x = (if 0 < k then cutF X else X) ∧ y = (if 1 < k then cutF Y else Y) ∧ Hid (w'.heap[p6]? = some (N2 x y)) ∧ Hid (Below w.heap.size w w')) (fun i _ => 2 - (intOf i).toNat)
  case atStart => exact ⟨0, X, Y, by omega, rfl, rfl, rfl, Lib.hid (by rw [HX.out, HY.out]; exact blk_alloc (set2 T6.out _ _) _), Lib.hid (bel_alloc (bel_set (bel_set HBW.out G6.out _ _) G6.out _ _) _)⟩
  case round =>
    obtain ⟨k, x, y, hk, rfl, hx, hy, HP, HT⟩ := hrel
    have c0 := (cells2 HP.out).1
    have c1 := (cells2 HP.out).2
    have f0 := blk_free HP.out 0
    have f1 := blk_free HP.out 1
    have hk' : k = 0 ∨ k = 1 ∨ k = 2 := by omega
    rcases hk' with rfl | rfl | rfl
    · obtain rfl : x = X := hx
      obtain rfl : y = Y := hy
      by_cases q1 : 1125899906842624 < x
      · have hc := Lib.hid (cut_hi q1)
        go_wp2
        go_roundw
        case rel => exact ⟨1, _, _, by omega, by go_num, rfl, rfl, Lib.hid (by have h1 := blk_set HP.out 0 (.int .i64 0); rw [show cutF x = 0 from hc.out]; simpa [N2] using h1), Lib.hid (bel_set HT.out G6.out _ _)⟩
        case measure => simp [intOf]
      · by_cases q2 : x < -1125899906842624
        · have hc := Lib.hid (cut_lo q2)
          go_wp2
          go_roundw
          case rel => exact ⟨1, _, _, by omega, by go_num, rfl, rfl, Lib.hid (by have h1 := blk_set HP.out 0 (.int .i64 0); rw [show cutF x = 0 from hc.out]; simpa [N2] using h1), Lib.hid (bel_set HT.out G6.out _ _)⟩
          case measure => simp [intOf]
        · have hc := Lib.hid (cut_id (x := x) (by omega))
          go_wp2
          go_roundw
          case rel => exact ⟨1, _, _, by omega, by go_num, rfl, rfl, Lib.hid (by rw [show cutF x = x from hc.out]; exact HP.out), HT⟩
          case measure => simp [intOf]
    · replace hx : x = cutF X := hx
      obtain rfl : y = Y := hy
      have HX2 := Lib.hid hx
      clear hx
      by_cases q1 : 1125899906842624 < y
      · have hc := Lib.hid (cut_hi q1)
        go_wp2
        go_roundw
        case rel => exact ⟨2, _, _, by omega, by go_num, HX2.out, rfl, Lib.hid (by have h1 := blk_set HP.out 1 (.int .i64 0); rw [show cutF y = 0 from hc.out]; simpa [N2] using h1), Lib.hid (bel_set HT.out G6.out _ _)⟩
        case measure => simp [intOf]
      · by_cases q2 : y < -1125899906842624
        · have hc := Lib.hid (cut_lo q2)
          go_wp2
          go_roundw
          case rel => exact ⟨2, _, _, by omega, by go_num, HX2.out, rfl, Lib.hid (by have h1 := blk_set HP.out 1 (.int .i64 0); rw [show cutF y = 0 from hc.out]; simpa [N2] using h1), Lib.hid (bel_set HT.out G6.out _ _)⟩
          case measure => simp [intOf]
        · have hc := Lib.hid (cut_id (x := y) (by omega))
          go_wp2
          go_roundw
          case rel => exact ⟨2, _, _, by omega, by go_num, HX2.out, rfl, Lib.hid (by rw [show cutF y = y from hc.out]; exact HP.out), HT⟩
          case measure => simp [intOf]
    · replace hx : x = cutF X := hx
      replace hy : y = cutF Y := hy
      have HE := Lib.hid (rdoes_end HS.out HT.out HPr.out)
      rw [← hx, ← hy] at HE
      clear hx hy
      have hu := Try.underlying28
      obtain ⟨z0, z1, z2, z3, z4, z5⟩ := cells6 (HS.out.below HT.out).1
      have y4 := blk_free (HS.out.below HT.out).1 4
      have y5 := blk_free (HS.out.below HT.out).1 5
      go_wp2
      go_end0
      exact ⟨rfl, HE.out.1, HE.out.2⟩
set_option maxRecDepth 100000 in
set_option maxHeartbeats 8000000 in
theorem rdoes_2 {w : World} {g : Nat} {s : PS} (h : RIs w g s) : Calls Try.prog 42 #[.pointer (some ⟨g, 0, none⟩), .int .u64 2] w fun e w' => e = .returned (.tuple #[]) ∧ RIs w' g (turnF s 2) ∧ Kept w w' (fun j => j = g) := by
  have hi := h.2
  unfold PS.In at hi
  obtain ⟨i0, i1, i2, i3, i4, i5⟩ := hi
  have HS := Lib.hid h
  have hn : IntKind.i64.wrap (-s.a1) = -s.a1 := wr _ (by omega)
  have hx : IntKind.i64.wrap (s.a0 - s.b0) = s.a0 - s.b0 := wr _ (by omega)
  have hy : IntKind.i64.wrap (s.a1 - s.b1) = s.a1 - s.b1 := wr _ (by omega)
  have HPr : Hid (preF s 2 = (s.a0 - s.b0, s.a1 - s.b1)) := Lib.hid (rfl)
  clear i0 i1 i2 i3 i4 i5
  have hglt := blk_lt h.1
  go_enter Try.func42, Try.ntmps42
  go_wp2
  refine wp_region_eq (ops' := opsOf Try.f42 0) (by kernel_rfl) ?_
  refine region_does (W0 := w) (g := g) (s := s) rfl hglt HS.out.1 ?_
  intro W p4 p5 p6 n45 n46 n56 t4 t5 t6 g4 g5 g6 hbW
  have G6 := Lib.hid g6
  have hm7 := blk_new W (N2 s.a0 (-s.a1))
  have T4 := Lib.hid t4
  have T5 := Lib.hid t5
  have T6 := Lib.hid t6
  have T7 := Lib.hid hm7
  have HBW := Lib.hid hbW
  have HB := Lib.hid (bel_alloc hbW (N2 s.a0 (-s.a1)))
  obtain ⟨x0, x1⟩ := cells2 t4
  obtain ⟨y0, y1⟩ := cells2 t5
  obtain ⟨z0, z1⟩ := cells2 t6
  have f0 := blk_free t6 0
  have f1 := blk_free t6 1
  have l4 := blk_lt t4
  have l5 := blk_lt t5
  have l6 := blk_lt t6
  have v0 := blk_cell hm7 0
  have v1 := blk_cell hm7 1
  have hu := Try.underlying28
  clear h hbW hm7 t4 t5 t6 g4 g5 g6
  go_wp2
  obtain ⟨X, hX⟩ : ∃ X : Int, X = s.a0 - s.b0 := ⟨_, rfl⟩
  obtain ⟨Y, hY⟩ : ∃ Y : Int, Y = s.a1 - s.b1 := ⟨_, rfl⟩
  replace HPr : Hid (preF s 2 = (X, Y)) := Lib.hid (by rw [hX, hY]; exact HPr.out)
  have HX := Lib.hid hX
  have HY := Lib.hid hY
  clear hX hY
  go_loopw [9] (fun i w' => ∃ (k : Nat) (x y : Int), k ≤ 2 ∧ i = .int .i64 k ∧ x = (if 0 < k then cutF X else X) ∧ y = (if 1 < k then cutF Y else Y) ∧ Hid (w'.heap[p6]? = some (N2 x y)) ∧ Hid (Below w.heap.size w w')) (fun i _ => 2 - (intOf i).toNat)
  case atStart => exact ⟨0, X, Y, by omega, rfl, rfl, rfl, Lib.hid (by rw [HX.out, HY.out]; exact blk_alloc (set2 T6.out _ _) _), Lib.hid (bel_alloc (bel_set (bel_set HBW.out G6.out _ _) G6.out _ _) _)⟩
  case round =>
    obtain ⟨k, x, y, hk, rfl, hx, hy, HP, HT⟩ := hrel
    have c0 := (cells2 HP.out).1
    have c1 := (cells2 HP.out).2
    have f0 := blk_free HP.out 0
    have f1 := blk_free HP.out 1
    have hk' : k = 0 ∨ k = 1 ∨ k = 2 := by omega
    rcases hk' with rfl | rfl | rfl
    · obtain rfl : x = X := hx
      obtain rfl : y = Y := hy
      by_cases q1 : 1125899906842624 < x
      · have hc := Lib.hid (cut_hi q1)
        go_wp2
        go_roundw
        case rel => exact ⟨1, _, _, by omega, by go_num, rfl, rfl, Lib.hid (by have h1 := blk_set HP.out 0 (.int .i64 0); rw [show cutF x = 0 from hc.out]; simpa [N2] using h1), Lib.hid (bel_set HT.out G6.out _ _)⟩
        case measure => simp [intOf]
      · by_cases q2 : x < -1125899906842624
        · have hc := Lib.hid (cut_lo q2)
          go_wp2
          go_roundw
          case rel => exact ⟨1, _, _, by omega, by go_num, rfl, rfl, Lib.hid (by have h1 := blk_set HP.out 0 (.int .i64 0); rw [show cutF x = 0 from hc.out]; simpa [N2] using h1), Lib.hid (bel_set HT.out G6.out _ _)⟩
          case measure => simp [intOf]
        · have hc := Lib.hid (cut_id (x := x) (by omega))
          go_wp2
          go_roundw
          case rel => exact ⟨1, _, _, by omega, by go_num, rfl, rfl, Lib.hid (by rw [show cutF x = x from hc.out]; exact HP.out), HT⟩
          case measure => simp [intOf]
    · replace hx : x = cutF X := hx
      obtain rfl : y = Y := hy
      have HX2 := Lib.hid hx
      clear hx
      by_cases q1 : 1125899906842624 < y
      · have hc := Lib.hid (cut_hi q1)
        go_wp2
        go_roundw
        case rel => exact ⟨2, _, _, by omega, by go_num, HX2.out, rfl, Lib.hid (by have h1 := blk_set HP.out 1 (.int .i64 0); rw [show cutF y = 0 from hc.out]; simpa [N2] using h1), Lib.hid (bel_set HT.out G6.out _ _)⟩
        case measure => simp [intOf]
      · by_cases q2 : y < -1125899906842624
        · have hc := Lib.hid (cut_lo q2)
          go_wp2
          go_roundw
          case rel => exact ⟨2, _, _, by omega, by go_num, HX2.out, rfl, Lib.hid (by have h1 := blk_set HP.out 1 (.int .i64 0); rw [show cutF y = 0 from hc.out]; simpa [N2] using h1), Lib.hid (bel_set HT.out G6.out _ _)⟩
          case measure => simp [intOf]
        · have hc := Lib.hid (cut_id (x := y) (by omega))
          go_wp2
          go_roundw
          case rel => exact ⟨2, _, _, by omega, by go_num, HX2.out, rfl, Lib.hid (by rw [show cutF y = y from hc.out]; exact HP.out), HT⟩
          case measure => simp [intOf]
    · replace hx : x = cutF X := hx
      replace hy : y = cutF Y := hy
      have HE := Lib.hid (rdoes_end HS.out HT.out HPr.out)
      rw [← hx, ← hy] at HE
      clear hx hy
      have hu := Try.underlying28
      obtain ⟨z0, z1, z2, z3, z4, z5⟩ := cells6 (HS.out.below HT.out).1
      have y4 := blk_free (HS.out.below HT.out).1 4
      have y5 := blk_free (HS.out.below HT.out).1 5
      go_wp2
      go_end0
      exact ⟨rfl, HE.out.1, HE.out.2⟩
set_option maxRecDepth 100000 in
set_option maxHeartbeats 8000000 in
theorem rdoes_3 {w : World} {g : Nat} {s : PS} (h : RIs w g s) : Calls Try.prog 42 #[.pointer (some ⟨g, 0, none⟩), .int .u64 3] w fun e w' => e = .returned (.tuple #[]) ∧ RIs w' g (turnF s 3) ∧ Kept w w' (fun j => j = g) := by
  have hi := h.2
  unfold PS.In at hi
  obtain ⟨i0, i1, i2, i3, i4, i5⟩ := hi
  have HS := Lib.hid h
  have hn : IntKind.i64.wrap (-s.a1) = -s.a1 := wr _ (by omega)
  have m0 := mul_in i0 i2
  have m1 := mul_in i1 i3
  have m2 := mul_in i0 i3
  have m3 := mul_in i1 i2
  have HPr : Hid (preF s 3 = (s.a0 * s.b0 - s.a1 * s.b1, s.a0 * s.b1 + s.a1 * s.b0)) := Lib.hid (rfl)
  have HI := Lib.hid (And.intro i0 (And.intro i1 (And.intro i2 i3)))
  clear i0 i1 i2 i3 i4 i5 m0 m1 m2 m3
  have hglt := blk_lt h.1
  go_enter Try.func42, Try.ntmps42
  go_wp2
  refine wp_region_eq (ops' := opsOf Try.f42 0) (by kernel_rfl) ?_
  refine region_does (W0 := w) (g := g) (s := s) rfl hglt HS.out.1 ?_
  intro W p4 p5 p6 n45 n46 n56 t4 t5 t6 g4 g5 g6 hbW
  have G6 := Lib.hid g6
  have hm7 := blk_new W (N2 s.a0 (-s.a1))
  have T4 := Lib.hid t4
  have T5 := Lib.hid t5
  have T6 := Lib.hid t6
  have T7 := Lib.hid hm7
  have HBW := Lib.hid hbW
  have HB := Lib.hid (bel_alloc hbW (N2 s.a0 (-s.a1)))
  obtain ⟨x0, x1⟩ := cells2 t4
  obtain ⟨y0, y1⟩ := cells2 t5
  obtain ⟨z0, z1⟩ := cells2 t6
  have f0 := blk_free t6 0
  have f1 := blk_free t6 1
  have l4 := blk_lt t4
  have l5 := blk_lt t5
  have l6 := blk_lt t6
  have v0 := blk_cell hm7 0
  have v1 := blk_cell hm7 1
  have hu := Try.underlying28
  clear h hbW hm7 t4 t5 t6 g4 g5 g6
  go_wp2_with (first | (go_at_call 51; (with_reducible refine (times_any _ s.a0 s.a1 s.b0 s.b1 HI.out.1 HI.out.2.1 HI.out.2.2.1 HI.out.2.2.2).mono ?_); rintro e w2 ⟨rfl, hb2⟩; have T62 := Lib.hid (blk_below (blk_alloc T6.out _) hb2); have HB2 := Lib.hid (bel_chain HB.out hb2); obtain ⟨r0, r1⟩ := cells2 T62.out; have r2 := blk_free T62.out 0; have r3 := blk_free T62.out 1; have r4 := blk_lt T62.out; clear hb2) | fail)
  obtain ⟨X, hX⟩ : ∃ X : Int, X = s.a0 * s.b0 - s.a1 * s.b1 := ⟨_, rfl⟩
  obtain ⟨Y, hY⟩ : ∃ Y : Int, Y = s.a0 * s.b1 + s.a1 * s.b0 := ⟨_, rfl⟩
  replace HPr : Hid (preF s 3 = (X, Y)) := Lib.hid (by rw [hX, hY]; exact HPr.out)
  have HX := Lib.hid hX
  have HY := Lib.hid hY
  clear hX hY
  go_loopw [9] (fun i w' => ∃ (k : Nat) (x y : Int), k ≤ 2 ∧ i = .int .i64 k ∧ x = (if 0 < k then cutF X else X) ∧ y = (if 1 < k then cutF Y else Y) ∧ Hid (w'.heap[p6]? = some (N2 x y)) ∧ Hid (Below w.heap.size w w')) (fun i _ => 2 - (intOf i).toNat)
  case atStart => exact ⟨0, X, Y, by omega, rfl, rfl, rfl, Lib.hid (by rw [HX.out, HY.out]; exact set2 T62.out _ _), Lib.hid (bel_set (bel_set HB2.out G6.out _ _) G6.out _ _)⟩
  case round =>
    obtain ⟨k, x, y, hk, rfl, hx, hy, HP, HT⟩ := hrel
    have c0 := (cells2 HP.out).1
    have c1 := (cells2 HP.out).2
    have f0 := blk_free HP.out 0
    have f1 := blk_free HP.out 1
    have hk' : k = 0 ∨ k = 1 ∨ k = 2 := by omega
    rcases hk' with rfl | rfl | rfl
    · obtain rfl : x = X := hx
      obtain rfl : y = Y := hy
      by_cases q1 : 1125899906842624 < x
      · have hc := Lib.hid (cut_hi q1)
        go_wp2
        go_roundw
        case rel => exact ⟨1, _, _, by omega, by go_num, rfl, rfl, Lib.hid (by have h1 := blk_set HP.out 0 (.int .i64 0); rw [show cutF x = 0 from hc.out]; simpa [N2] using h1), Lib.hid (bel_set HT.out G6.out _ _)⟩
        case measure => simp [intOf]
      · by_cases q2 : x < -1125899906842624
        · have hc := Lib.hid (cut_lo q2)
          go_wp2
          go_roundw
          case rel => exact ⟨1, _, _, by omega, by go_num, rfl, rfl, Lib.hid (by have h1 := blk_set HP.out 0 (.int .i64 0); rw [show cutF x = 0 from hc.out]; simpa [N2] using h1), Lib.hid (bel_set HT.out G6.out _ _)⟩
          case measure => simp [intOf]
        · have hc := Lib.hid (cut_id (x := x) (by omega))
          go_wp2
          go_roundw
          case rel => exact ⟨1, _, _, by omega, by go_num, rfl, rfl, Lib.hid (by rw [show cutF x = x from hc.out]; exact HP.out), HT⟩
          case measure => simp [intOf]
    · replace hx : x = cutF X := hx
      obtain rfl : y = Y := hy
      have HX2 := Lib.hid hx
      clear hx
      by_cases q1 : 1125899906842624 < y
      · have hc := Lib.hid (cut_hi q1)
        go_wp2
        go_roundw
        case rel => exact ⟨2, _, _, by omega, by go_num, HX2.out, rfl, Lib.hid (by have h1 := blk_set HP.out 1 (.int .i64 0); rw [show cutF y = 0 from hc.out]; simpa [N2] using h1), Lib.hid (bel_set HT.out G6.out _ _)⟩
        case measure => simp [intOf]
      · by_cases q2 : y < -1125899906842624
        · have hc := Lib.hid (cut_lo q2)
          go_wp2
          go_roundw
          case rel => exact ⟨2, _, _, by omega, by go_num, HX2.out, rfl, Lib.hid (by have h1 := blk_set HP.out 1 (.int .i64 0); rw [show cutF y = 0 from hc.out]; simpa [N2] using h1), Lib.hid (bel_set HT.out G6.out _ _)⟩
          case measure => simp [intOf]
        · have hc := Lib.hid (cut_id (x := y) (by omega))
          go_wp2
          go_roundw
          case rel => exact ⟨2, _, _, by omega, by go_num, HX2.out, rfl, Lib.hid (by rw [show cutF y = y from hc.out]; exact HP.out), HT⟩
          case measure => simp [intOf]
    · replace hx : x = cutF X := hx
      replace hy : y = cutF Y := hy
      have HE := Lib.hid (rdoes_end HS.out HT.out HPr.out)
      rw [← hx, ← hy] at HE
      clear hx hy
      have hu := Try.underlying28
      obtain ⟨z0, z1, z2, z3, z4, z5⟩ := cells6 (HS.out.below HT.out).1
      have y4 := blk_free (HS.out.below HT.out).1 4
      have y5 := blk_free (HS.out.below HT.out).1 5
      go_wp2
      go_end0
      exact ⟨rfl, HE.out.1, HE.out.2⟩
set_option maxRecDepth 100000 in
set_option maxHeartbeats 8000000 in
theorem rdoes_4 {w : World} {g : Nat} {s : PS} (h : RIs w g s) : Calls Try.prog 42 #[.pointer (some ⟨g, 0, none⟩), .int .u64 4] w fun e w' => e = .returned (.tuple #[]) ∧ RIs w' g (turnF s 4) ∧ Kept w w' (fun j => j = g) := by
  have hi := h.2
  unfold PS.In at hi
  obtain ⟨i0, i1, i2, i3, i4, i5⟩ := hi
  have HS := Lib.hid h
  have hn : IntKind.i64.wrap (-s.a1) = -s.a1 := wr _ (by omega)
  have HPr : Hid (preF s 4 = (s.a0, -s.a1)) := Lib.hid (rfl)
  clear i0 i1 i2 i3 i4 i5
  have hglt := blk_lt h.1
  go_enter Try.func42, Try.ntmps42
  go_wp2
  refine wp_region_eq (ops' := opsOf Try.f42 0) (by kernel_rfl) ?_
  refine region_does (W0 := w) (g := g) (s := s) rfl hglt HS.out.1 ?_
  intro W p4 p5 p6 n45 n46 n56 t4 t5 t6 g4 g5 g6 hbW
  have G6 := Lib.hid g6
  have hm7 := blk_new W (N2 s.a0 (-s.a1))
  have T4 := Lib.hid t4
  have T5 := Lib.hid t5
  have T6 := Lib.hid t6
  have T7 := Lib.hid hm7
  have HBW := Lib.hid hbW
  have HB := Lib.hid (bel_alloc hbW (N2 s.a0 (-s.a1)))
  obtain ⟨x0, x1⟩ := cells2 t4
  obtain ⟨y0, y1⟩ := cells2 t5
  obtain ⟨z0, z1⟩ := cells2 t6
  have f0 := blk_free t6 0
  have f1 := blk_free t6 1
  have l4 := blk_lt t4
  have l5 := blk_lt t5
  have l6 := blk_lt t6
  have v0 := blk_cell hm7 0
  have v1 := blk_cell hm7 1
  have hu := Try.underlying28
  clear h hbW hm7 t4 t5 t6 g4 g5 g6
  go_wp2
  obtain ⟨X, hX⟩ : ∃ X : Int, X = s.a0 := ⟨_, rfl⟩
  obtain ⟨Y, hY⟩ : ∃ Y : Int, Y = -s.a1 := ⟨_, rfl⟩
  replace HPr : Hid (preF s 4 = (X, Y)) := Lib.hid (by rw [hX, hY]; exact HPr.out)
  have HX := Lib.hid hX
  have HY := Lib.hid hY
  clear hX hY
  go_loopw [9] (fun i w' => ∃ (k : Nat) (x y : Int), k ≤ 2 ∧ i = .int .i64 k ∧ x = (if 0 < k then cutF X else X) ∧ y = (if 1 < k then cutF Y else Y) ∧ Hid (w'.heap[p6]? = some (N2 x y)) ∧ Hid (Below w.heap.size w w')) (fun i _ => 2 - (intOf i).toNat)
  case atStart => exact ⟨0, X, Y, by omega, rfl, rfl, rfl, Lib.hid (by rw [HX.out, HY.out]; exact blk_alloc (set2 T6.out _ _) _), Lib.hid (bel_alloc (bel_set (bel_set HBW.out G6.out _ _) G6.out _ _) _)⟩
  case round =>
    obtain ⟨k, x, y, hk, rfl, hx, hy, HP, HT⟩ := hrel
    have c0 := (cells2 HP.out).1
    have c1 := (cells2 HP.out).2
    have f0 := blk_free HP.out 0
    have f1 := blk_free HP.out 1
    have hk' : k = 0 ∨ k = 1 ∨ k = 2 := by omega
    rcases hk' with rfl | rfl | rfl
    · obtain rfl : x = X := hx
      obtain rfl : y = Y := hy
      by_cases q1 : 1125899906842624 < x
      · have hc := Lib.hid (cut_hi q1)
        go_wp2
        go_roundw
        case rel => exact ⟨1, _, _, by omega, by go_num, rfl, rfl, Lib.hid (by have h1 := blk_set HP.out 0 (.int .i64 0); rw [show cutF x = 0 from hc.out]; simpa [N2] using h1), Lib.hid (bel_set HT.out G6.out _ _)⟩
        case measure => simp [intOf]
      · by_cases q2 : x < -1125899906842624
        · have hc := Lib.hid (cut_lo q2)
          go_wp2
          go_roundw
          case rel => exact ⟨1, _, _, by omega, by go_num, rfl, rfl, Lib.hid (by have h1 := blk_set HP.out 0 (.int .i64 0); rw [show cutF x = 0 from hc.out]; simpa [N2] using h1), Lib.hid (bel_set HT.out G6.out _ _)⟩
          case measure => simp [intOf]
        · have hc := Lib.hid (cut_id (x := x) (by omega))
          go_wp2
          go_roundw
          case rel => exact ⟨1, _, _, by omega, by go_num, rfl, rfl, Lib.hid (by rw [show cutF x = x from hc.out]; exact HP.out), HT⟩
          case measure => simp [intOf]
    · replace hx : x = cutF X := hx
      obtain rfl : y = Y := hy
      have HX2 := Lib.hid hx
      clear hx
      by_cases q1 : 1125899906842624 < y
      · have hc := Lib.hid (cut_hi q1)
        go_wp2
        go_roundw
        case rel => exact ⟨2, _, _, by omega, by go_num, HX2.out, rfl, Lib.hid (by have h1 := blk_set HP.out 1 (.int .i64 0); rw [show cutF y = 0 from hc.out]; simpa [N2] using h1), Lib.hid (bel_set HT.out G6.out _ _)⟩
        case measure => simp [intOf]
      · by_cases q2 : y < -1125899906842624
        · have hc := Lib.hid (cut_lo q2)
          go_wp2
          go_roundw
          case rel => exact ⟨2, _, _, by omega, by go_num, HX2.out, rfl, Lib.hid (by have h1 := blk_set HP.out 1 (.int .i64 0); rw [show cutF y = 0 from hc.out]; simpa [N2] using h1), Lib.hid (bel_set HT.out G6.out _ _)⟩
          case measure => simp [intOf]
        · have hc := Lib.hid (cut_id (x := y) (by omega))
          go_wp2
          go_roundw
          case rel => exact ⟨2, _, _, by omega, by go_num, HX2.out, rfl, Lib.hid (by rw [show cutF y = y from hc.out]; exact HP.out), HT⟩
          case measure => simp [intOf]
    · replace hx : x = cutF X := hx
      replace hy : y = cutF Y := hy
      have HE := Lib.hid (rdoes_end HS.out HT.out HPr.out)
      rw [← hx, ← hy] at HE
      clear hx hy
      have hu := Try.underlying28
      obtain ⟨z0, z1, z2, z3, z4, z5⟩ := cells6 (HS.out.below HT.out).1
      have y4 := blk_free (HS.out.below HT.out).1 4
      have y5 := blk_free (HS.out.below HT.out).1 5
      go_wp2
      go_end0
      exact ⟨rfl, HE.out.1, HE.out.2⟩
set_option maxRecDepth 100000 in
set_option maxHeartbeats 8000000 in
theorem rdoes_5 {w : World} {g : Nat} {s : PS} (h : RIs w g s) : Calls Try.prog 42 #[.pointer (some ⟨g, 0, none⟩), .int .u64 5] w fun e w' => e = .returned (.tuple #[]) ∧ RIs w' g (turnF s 5) ∧ Kept w w' (fun j => j = g) := by
  have hi := h.2
  unfold PS.In at hi
  obtain ⟨i0, i1, i2, i3, i4, i5⟩ := hi
  have HS := Lib.hid h
  have hn : IntKind.i64.wrap (-s.a1) = -s.a1 := wr _ (by omega)
  have m0 := mul_in i0 i2
  have m1 := mul_in i1 i3
  have m2 := mul_in i0 i3
  have m3 := mul_in i1 i2
  have hx : IntKind.i64.wrap (s.r0 + (s.a0 * s.b0 - s.a1 * s.b1)) = s.r0 + (s.a0 * s.b0 - s.a1 * s.b1) := wr _ (by omega)
  have hy : IntKind.i64.wrap (s.r1 + (s.a0 * s.b1 + s.a1 * s.b0)) = s.r1 + (s.a0 * s.b1 + s.a1 * s.b0) := wr _ (by omega)
  have HPr : Hid (preF s 5 = (s.r0 + (s.a0 * s.b0 - s.a1 * s.b1), s.r1 + (s.a0 * s.b1 + s.a1 * s.b0))) := Lib.hid (rfl)
  have HI := Lib.hid (And.intro i0 (And.intro i1 (And.intro i2 i3)))
  clear i0 i1 i2 i3 i4 i5 m0 m1 m2 m3
  have hglt := blk_lt h.1
  go_enter Try.func42, Try.ntmps42
  go_wp2
  refine wp_region_eq (ops' := opsOf Try.f42 0) (by kernel_rfl) ?_
  refine region_does (W0 := w) (g := g) (s := s) rfl hglt HS.out.1 ?_
  intro W p4 p5 p6 n45 n46 n56 t4 t5 t6 g4 g5 g6 hbW
  have G6 := Lib.hid g6
  have hm7 := blk_new W (N2 s.a0 (-s.a1))
  have T4 := Lib.hid t4
  have T5 := Lib.hid t5
  have T6 := Lib.hid t6
  have T7 := Lib.hid hm7
  have HBW := Lib.hid hbW
  have HB := Lib.hid (bel_alloc hbW (N2 s.a0 (-s.a1)))
  obtain ⟨x0, x1⟩ := cells2 t4
  obtain ⟨y0, y1⟩ := cells2 t5
  obtain ⟨z0, z1⟩ := cells2 t6
  have f0 := blk_free t6 0
  have f1 := blk_free t6 1
  have l4 := blk_lt t4
  have l5 := blk_lt t5
  have l6 := blk_lt t6
  have v0 := blk_cell hm7 0
  have v1 := blk_cell hm7 1
  have hu := Try.underlying28
  clear h hbW hm7 t4 t5 t6 g4 g5 g6
  go_wp2_with (first | (go_at_call 51; (with_reducible refine (times_any _ s.a0 s.a1 s.b0 s.b1 HI.out.1 HI.out.2.1 HI.out.2.2.1 HI.out.2.2.2).mono ?_); rintro e w2 ⟨rfl, hb2⟩; have T62 := Lib.hid (blk_below (blk_alloc T6.out _) hb2); have HB2 := Lib.hid (bel_chain HB.out hb2); obtain ⟨r0, r1⟩ := cells2 T62.out; have r2 := blk_free T62.out 0; have r3 := blk_free T62.out 1; have r4 := blk_lt T62.out; clear hb2) | fail)
  obtain ⟨X, hX⟩ : ∃ X : Int, X = s.r0 + (s.a0 * s.b0 - s.a1 * s.b1) := ⟨_, rfl⟩
  obtain ⟨Y, hY⟩ : ∃ Y : Int, Y = s.r1 + (s.a0 * s.b1 + s.a1 * s.b0) := ⟨_, rfl⟩
  replace HPr : Hid (preF s 5 = (X, Y)) := Lib.hid (by rw [hX, hY]; exact HPr.out)
  have HX := Lib.hid hX
  have HY := Lib.hid hY
  clear hX hY
  go_loopw [9] (fun i w' => ∃ (k : Nat) (x y : Int), k ≤ 2 ∧ i = .int .i64 k ∧ x = (if 0 < k then cutF X else X) ∧ y = (if 1 < k then cutF Y else Y) ∧ Hid (w'.heap[p6]? = some (N2 x y)) ∧ Hid (Below w.heap.size w w')) (fun i _ => 2 - (intOf i).toNat)
  case atStart => exact ⟨0, X, Y, by omega, rfl, rfl, rfl, Lib.hid (by rw [HX.out, HY.out]; exact blk_alloc (set2 T62.out _ _) _), Lib.hid (bel_alloc (bel_set (bel_set HB2.out G6.out _ _) G6.out _ _) _)⟩
  case round =>
    obtain ⟨k, x, y, hk, rfl, hx, hy, HP, HT⟩ := hrel
    have c0 := (cells2 HP.out).1
    have c1 := (cells2 HP.out).2
    have f0 := blk_free HP.out 0
    have f1 := blk_free HP.out 1
    have hk' : k = 0 ∨ k = 1 ∨ k = 2 := by omega
    rcases hk' with rfl | rfl | rfl
    · obtain rfl : x = X := hx
      obtain rfl : y = Y := hy
      by_cases q1 : 1125899906842624 < x
      · have hc := Lib.hid (cut_hi q1)
        go_wp2
        go_roundw
        case rel => exact ⟨1, _, _, by omega, by go_num, rfl, rfl, Lib.hid (by have h1 := blk_set HP.out 0 (.int .i64 0); rw [show cutF x = 0 from hc.out]; simpa [N2] using h1), Lib.hid (bel_set HT.out G6.out _ _)⟩
        case measure => simp [intOf]
      · by_cases q2 : x < -1125899906842624
        · have hc := Lib.hid (cut_lo q2)
          go_wp2
          go_roundw
          case rel => exact ⟨1, _, _, by omega, by go_num, rfl, rfl, Lib.hid (by have h1 := blk_set HP.out 0 (.int .i64 0); rw [show cutF x = 0 from hc.out]; simpa [N2] using h1), Lib.hid (bel_set HT.out G6.out _ _)⟩
          case measure => simp [intOf]
        · have hc := Lib.hid (cut_id (x := x) (by omega))
          go_wp2
          go_roundw
          case rel => exact ⟨1, _, _, by omega, by go_num, rfl, rfl, Lib.hid (by rw [show cutF x = x from hc.out]; exact HP.out), HT⟩
          case measure => simp [intOf]
    · replace hx : x = cutF X := hx
      obtain rfl : y = Y := hy
      have HX2 := Lib.hid hx
      clear hx
      by_cases q1 : 1125899906842624 < y
      · have hc := Lib.hid (cut_hi q1)
        go_wp2
        go_roundw
        case rel => exact ⟨2, _, _, by omega, by go_num, HX2.out, rfl, Lib.hid (by have h1 := blk_set HP.out 1 (.int .i64 0); rw [show cutF y = 0 from hc.out]; simpa [N2] using h1), Lib.hid (bel_set HT.out G6.out _ _)⟩
        case measure => simp [intOf]
      · by_cases q2 : y < -1125899906842624
        · have hc := Lib.hid (cut_lo q2)
          go_wp2
          go_roundw
          case rel => exact ⟨2, _, _, by omega, by go_num, HX2.out, rfl, Lib.hid (by have h1 := blk_set HP.out 1 (.int .i64 0); rw [show cutF y = 0 from hc.out]; simpa [N2] using h1), Lib.hid (bel_set HT.out G6.out _ _)⟩
          case measure => simp [intOf]
        · have hc := Lib.hid (cut_id (x := y) (by omega))
          go_wp2
          go_roundw
          case rel => exact ⟨2, _, _, by omega, by go_num, HX2.out, rfl, Lib.hid (by rw [show cutF y = y from hc.out]; exact HP.out), HT⟩
          case measure => simp [intOf]
    · replace hx : x = cutF X := hx
      replace hy : y = cutF Y := hy
      have HE := Lib.hid (rdoes_end HS.out HT.out HPr.out)
      rw [← hx, ← hy] at HE
      clear hx hy
      have hu := Try.underlying28
      obtain ⟨z0, z1, z2, z3, z4, z5⟩ := cells6 (HS.out.below HT.out).1
      have y4 := blk_free (HS.out.below HT.out).1 4
      have y5 := blk_free (HS.out.below HT.out).1 5
      go_wp2
      go_end0
      exact ⟨rfl, HE.out.1, HE.out.2⟩
set_option maxRecDepth 100000 in
set_option maxHeartbeats 8000000 in
theorem rdoes_6 {w : World} {g : Nat} {s : PS} (h : RIs w g s) : Calls Try.prog 42 #[.pointer (some ⟨g, 0, none⟩), .int .u64 6] w fun e w' => e = .returned (.tuple #[]) ∧ RIs w' g (turnF s 6) ∧ Kept w w' (fun j => j = g) := by
  have hi := h.2
  unfold PS.In at hi
  obtain ⟨i0, i1, i2, i3, i4, i5⟩ := hi
  have HS := Lib.hid h
  have hn : IntKind.i64.wrap (-s.a1) = -s.a1 := wr _ (by omega)
  have HPr : Hid (preF s 6 = (-s.a1, s.a0)) := Lib.hid (rfl)
  have HI := Lib.hid (And.intro i0 (And.intro i1 (And.intro (neg_in i1) (show -1048576 ≤ (0 : Int) ∧ (0 : Int) ≤ 1048576 by omega))))
  have HI1 := Lib.hid (show -1048576 ≤ (1 : Int) ∧ (1 : Int) ≤ 1048576 by omega)
  clear i0 i1 i2 i3 i4 i5
  have hglt := blk_lt h.1
  go_enter Try.func42, Try.ntmps42
  go_wp2
  refine wp_region_eq (ops' := opsOf Try.f42 0) (by kernel_rfl) ?_
  refine region_does (W0 := w) (g := g) (s := s) rfl hglt HS.out.1 ?_
  intro W p4 p5 p6 n45 n46 n56 t4 t5 t6 g4 g5 g6 hbW
  have G6 := Lib.hid g6
  have hm7 := blk_new W (N2 s.a0 (-s.a1))
  have T4 := Lib.hid t4
  have T5 := Lib.hid t5
  have T6 := Lib.hid t6
  have T7 := Lib.hid hm7
  have HBW := Lib.hid hbW
  have HB := Lib.hid (bel_alloc hbW (N2 s.a0 (-s.a1)))
  obtain ⟨x0, x1⟩ := cells2 t4
  obtain ⟨y0, y1⟩ := cells2 t5
  obtain ⟨z0, z1⟩ := cells2 t6
  have f0 := blk_free t6 0
  have f1 := blk_free t6 1
  have l4 := blk_lt t4
  have l5 := blk_lt t5
  have l6 := blk_lt t6
  have v0 := blk_cell hm7 0
  have v1 := blk_cell hm7 1
  have hu := Try.underlying28
  clear h hbW hm7 t4 t5 t6 g4 g5 g6
  go_wp2_with (first | (go_at_call 51; (with_reducible refine (times_any _ 0 1 s.a0 s.a1 HI.out.2.2.2 HI1.out HI.out.1 HI.out.2.1).mono ?_); rintro e w2 ⟨rfl, hb2⟩; have T62 := Lib.hid (blk_below (blk_alloc T6.out _) hb2); have HB2 := Lib.hid (bel_chain HB.out hb2); obtain ⟨r0, r1⟩ := cells2 T62.out; have r2 := blk_free T62.out 0; have r3 := blk_free T62.out 1; have r4 := blk_lt T62.out; clear hb2) | fail)
  obtain ⟨X, hX⟩ : ∃ X : Int, X = -s.a1 := ⟨_, rfl⟩
  obtain ⟨Y, hY⟩ : ∃ Y : Int, Y = s.a0 := ⟨_, rfl⟩
  replace HPr : Hid (preF s 6 = (X, Y)) := Lib.hid (by rw [hX, hY]; exact HPr.out)
  have HX := Lib.hid hX
  have HY := Lib.hid hY
  clear hX hY
  go_loopw [9] (fun i w' => ∃ (k : Nat) (x y : Int), k ≤ 2 ∧ i = .int .i64 k ∧ x = (if 0 < k then cutF X else X) ∧ y = (if 1 < k then cutF Y else Y) ∧ Hid (w'.heap[p6]? = some (N2 x y)) ∧ Hid (Below w.heap.size w w')) (fun i _ => 2 - (intOf i).toNat)
  case atStart => exact ⟨0, X, Y, by omega, rfl, rfl, rfl, Lib.hid (by rw [HX.out, HY.out]; exact set2 T62.out _ _), Lib.hid (bel_set (bel_set HB2.out G6.out _ _) G6.out _ _)⟩
  case round =>
    obtain ⟨k, x, y, hk, rfl, hx, hy, HP, HT⟩ := hrel
    have c0 := (cells2 HP.out).1
    have c1 := (cells2 HP.out).2
    have f0 := blk_free HP.out 0
    have f1 := blk_free HP.out 1
    have hk' : k = 0 ∨ k = 1 ∨ k = 2 := by omega
    rcases hk' with rfl | rfl | rfl
    · obtain rfl : x = X := hx
      obtain rfl : y = Y := hy
      by_cases q1 : 1125899906842624 < x
      · have hc := Lib.hid (cut_hi q1)
        go_wp2
        go_roundw
        case rel => exact ⟨1, _, _, by omega, by go_num, rfl, rfl, Lib.hid (by have h1 := blk_set HP.out 0 (.int .i64 0); rw [show cutF x = 0 from hc.out]; simpa [N2] using h1), Lib.hid (bel_set HT.out G6.out _ _)⟩
        case measure => simp [intOf]
      · by_cases q2 : x < -1125899906842624
        · have hc := Lib.hid (cut_lo q2)
          go_wp2
          go_roundw
          case rel => exact ⟨1, _, _, by omega, by go_num, rfl, rfl, Lib.hid (by have h1 := blk_set HP.out 0 (.int .i64 0); rw [show cutF x = 0 from hc.out]; simpa [N2] using h1), Lib.hid (bel_set HT.out G6.out _ _)⟩
          case measure => simp [intOf]
        · have hc := Lib.hid (cut_id (x := x) (by omega))
          go_wp2
          go_roundw
          case rel => exact ⟨1, _, _, by omega, by go_num, rfl, rfl, Lib.hid (by rw [show cutF x = x from hc.out]; exact HP.out), HT⟩
          case measure => simp [intOf]
    · replace hx : x = cutF X := hx
      obtain rfl : y = Y := hy
      have HX2 := Lib.hid hx
      clear hx
      by_cases q1 : 1125899906842624 < y
      · have hc := Lib.hid (cut_hi q1)
        go_wp2
        go_roundw
        case rel => exact ⟨2, _, _, by omega, by go_num, HX2.out, rfl, Lib.hid (by have h1 := blk_set HP.out 1 (.int .i64 0); rw [show cutF y = 0 from hc.out]; simpa [N2] using h1), Lib.hid (bel_set HT.out G6.out _ _)⟩
        case measure => simp [intOf]
      · by_cases q2 : y < -1125899906842624
        · have hc := Lib.hid (cut_lo q2)
          go_wp2
          go_roundw
          case rel => exact ⟨2, _, _, by omega, by go_num, HX2.out, rfl, Lib.hid (by have h1 := blk_set HP.out 1 (.int .i64 0); rw [show cutF y = 0 from hc.out]; simpa [N2] using h1), Lib.hid (bel_set HT.out G6.out _ _)⟩
          case measure => simp [intOf]
        · have hc := Lib.hid (cut_id (x := y) (by omega))
          go_wp2
          go_roundw
          case rel => exact ⟨2, _, _, by omega, by go_num, HX2.out, rfl, Lib.hid (by rw [show cutF y = y from hc.out]; exact HP.out), HT⟩
          case measure => simp [intOf]
    · replace hx : x = cutF X := hx
      replace hy : y = cutF Y := hy
      have HE := Lib.hid (rdoes_end HS.out HT.out HPr.out)
      rw [← hx, ← hy] at HE
      clear hx hy
      have hu := Try.underlying28
      obtain ⟨z0, z1, z2, z3, z4, z5⟩ := cells6 (HS.out.below HT.out).1
      have y4 := blk_free (HS.out.below HT.out).1 4
      have y5 := blk_free (HS.out.below HT.out).1 5
      go_wp2
      go_end0
      exact ⟨rfl, HE.out.1, HE.out.2⟩
set_option maxRecDepth 100000 in
set_option maxHeartbeats 8000000 in
theorem rdoes_7 {w : World} {g : Nat} {s : PS} (h : RIs w g s) : Calls Try.prog 42 #[.pointer (some ⟨g, 0, none⟩), .int .u64 7] w fun e w' => e = .returned (.tuple #[]) ∧ RIs w' g (turnF s 7) ∧ Kept w w' (fun j => j = g) := by
  have hi := h.2
  unfold PS.In at hi
  obtain ⟨i0, i1, i2, i3, i4, i5⟩ := hi
  have HS := Lib.hid h
  have hn : IntKind.i64.wrap (-s.a1) = -s.a1 := wr _ (by omega)
  have HPr : Hid (preF s 7 = (0, 0)) := Lib.hid (rfl)
  clear i0 i1 i2 i3 i4 i5
  have hglt := blk_lt h.1
  go_enter Try.func42, Try.ntmps42
  go_wp2
  refine wp_region_eq (ops' := opsOf Try.f42 0) (by kernel_rfl) ?_
  refine region_does (W0 := w) (g := g) (s := s) rfl hglt HS.out.1 ?_
  intro W p4 p5 p6 n45 n46 n56 t4 t5 t6 g4 g5 g6 hbW
  have G6 := Lib.hid g6
  have hm7 := blk_new W (N2 s.a0 (-s.a1))
  have T4 := Lib.hid t4
  have T5 := Lib.hid t5
  have T6 := Lib.hid t6
  have T7 := Lib.hid hm7
  have HBW := Lib.hid hbW
  have HB := Lib.hid (bel_alloc hbW (N2 s.a0 (-s.a1)))
  obtain ⟨x0, x1⟩ := cells2 t4
  obtain ⟨y0, y1⟩ := cells2 t5
  obtain ⟨z0, z1⟩ := cells2 t6
  have f0 := blk_free t6 0
  have f1 := blk_free t6 1
  have l4 := blk_lt t4
  have l5 := blk_lt t5
  have l6 := blk_lt t6
  have v0 := blk_cell hm7 0
  have v1 := blk_cell hm7 1
  have hu := Try.underlying28
  clear h hbW hm7 t4 t5 t6 g4 g5 g6
  go_wp2
  obtain ⟨X, hX⟩ : ∃ X : Int, X = 0 := ⟨_, rfl⟩
  obtain ⟨Y, hY⟩ : ∃ Y : Int, Y = 0 := ⟨_, rfl⟩
  replace HPr : Hid (preF s 7 = (X, Y)) := Lib.hid (by rw [hX, hY]; exact HPr.out)
  have HX := Lib.hid hX
  have HY := Lib.hid hY
  clear hX hY
  go_loopw [9] (fun i w' => ∃ (k : Nat) (x y : Int), k ≤ 2 ∧ i = .int .i64 k ∧ x = (if 0 < k then cutF X else X) ∧ y = (if 1 < k then cutF Y else Y) ∧ Hid (w'.heap[p6]? = some (N2 x y)) ∧ Hid (Below w.heap.size w w')) (fun i _ => 2 - (intOf i).toNat)
  case atStart => exact ⟨0, X, Y, by omega, rfl, rfl, rfl, Lib.hid (by rw [HX.out, HY.out]; exact blk_alloc (set2 T6.out _ _) _), Lib.hid (bel_alloc (bel_set (bel_set HBW.out G6.out _ _) G6.out _ _) _)⟩
  case round =>
    obtain ⟨k, x, y, hk, rfl, hx, hy, HP, HT⟩ := hrel
    have c0 := (cells2 HP.out).1
    have c1 := (cells2 HP.out).2
    have f0 := blk_free HP.out 0
    have f1 := blk_free HP.out 1
    have hk' : k = 0 ∨ k = 1 ∨ k = 2 := by omega
    rcases hk' with rfl | rfl | rfl
    · obtain rfl : x = X := hx
      obtain rfl : y = Y := hy
      by_cases q1 : 1125899906842624 < x
      · have hc := Lib.hid (cut_hi q1)
        go_wp2
        go_roundw
        case rel => exact ⟨1, _, _, by omega, by go_num, rfl, rfl, Lib.hid (by have h1 := blk_set HP.out 0 (.int .i64 0); rw [show cutF x = 0 from hc.out]; simpa [N2] using h1), Lib.hid (bel_set HT.out G6.out _ _)⟩
        case measure => simp [intOf]
      · by_cases q2 : x < -1125899906842624
        · have hc := Lib.hid (cut_lo q2)
          go_wp2
          go_roundw
          case rel => exact ⟨1, _, _, by omega, by go_num, rfl, rfl, Lib.hid (by have h1 := blk_set HP.out 0 (.int .i64 0); rw [show cutF x = 0 from hc.out]; simpa [N2] using h1), Lib.hid (bel_set HT.out G6.out _ _)⟩
          case measure => simp [intOf]
        · have hc := Lib.hid (cut_id (x := x) (by omega))
          go_wp2
          go_roundw
          case rel => exact ⟨1, _, _, by omega, by go_num, rfl, rfl, Lib.hid (by rw [show cutF x = x from hc.out]; exact HP.out), HT⟩
          case measure => simp [intOf]
    · replace hx : x = cutF X := hx
      obtain rfl : y = Y := hy
      have HX2 := Lib.hid hx
      clear hx
      by_cases q1 : 1125899906842624 < y
      · have hc := Lib.hid (cut_hi q1)
        go_wp2
        go_roundw
        case rel => exact ⟨2, _, _, by omega, by go_num, HX2.out, rfl, Lib.hid (by have h1 := blk_set HP.out 1 (.int .i64 0); rw [show cutF y = 0 from hc.out]; simpa [N2] using h1), Lib.hid (bel_set HT.out G6.out _ _)⟩
        case measure => simp [intOf]
      · by_cases q2 : y < -1125899906842624
        · have hc := Lib.hid (cut_lo q2)
          go_wp2
          go_roundw
          case rel => exact ⟨2, _, _, by omega, by go_num, HX2.out, rfl, Lib.hid (by have h1 := blk_set HP.out 1 (.int .i64 0); rw [show cutF y = 0 from hc.out]; simpa [N2] using h1), Lib.hid (bel_set HT.out G6.out _ _)⟩
          case measure => simp [intOf]
        · have hc := Lib.hid (cut_id (x := y) (by omega))
          go_wp2
          go_roundw
          case rel => exact ⟨2, _, _, by omega, by go_num, HX2.out, rfl, Lib.hid (by rw [show cutF y = y from hc.out]; exact HP.out), HT⟩
          case measure => simp [intOf]
    · replace hx : x = cutF X := hx
      replace hy : y = cutF Y := hy
      have HE := Lib.hid (rdoes_end HS.out HT.out HPr.out)
      rw [← hx, ← hy] at HE
      clear hx hy
      have hu := Try.underlying28
      obtain ⟨z0, z1, z2, z3, z4, z5⟩ := cells6 (HS.out.below HT.out).1
      have y4 := blk_free (HS.out.below HT.out).1 4
      have y5 := blk_free (HS.out.below HT.out).1 5
      go_wp2
      go_end0
      exact ⟨rfl, HE.out.1, HE.out.2⟩
set_option maxRecDepth 100000 in
set_option maxHeartbeats 8000000 in
theorem rdoes_8 {w : World} {g : Nat} {s : PS} (h : RIs w g s) : Calls Try.prog 42 #[.pointer (some ⟨g, 0, none⟩), .int .u64 8] w fun e w' => e = .returned (.tuple #[]) ∧ RIs w' g (turnF s 8) ∧ Kept w w' (fun j => j = g) := by
  have hi := h.2
  unfold PS.In at hi
  obtain ⟨i0, i1, i2, i3, i4, i5⟩ := hi
  have HS := Lib.hid h
  have hn : IntKind.i64.wrap (-s.a1) = -s.a1 := wr _ (by omega)
  have m0 := mul_in i0 i0
  have m1 := mul_in i1 (neg_in i1)
  have m2 := mul_in i0 (neg_in i1)
  have m3 := mul_in i1 i0
  have HPr : Hid (preF s 8 = (s.a0 * s.a0 - s.a1 * -s.a1, s.a0 * -s.a1 + s.a1 * s.a0)) := Lib.hid (rfl)
  have HI := Lib.hid (And.intro i0 (And.intro i1 (And.intro (neg_in i1) (show -1048576 ≤ (0 : Int) ∧ (0 : Int) ≤ 1048576 by omega))))
  have HI1 := Lib.hid (show -1048576 ≤ (1 : Int) ∧ (1 : Int) ≤ 1048576 by omega)
  clear i0 i1 i2 i3 i4 i5 m0 m1 m2 m3
  have hglt := blk_lt h.1
  go_enter Try.func42, Try.ntmps42
  go_wp2
  refine wp_region_eq (ops' := opsOf Try.f42 0) (by kernel_rfl) ?_
  refine region_does (W0 := w) (g := g) (s := s) rfl hglt HS.out.1 ?_
  intro W p4 p5 p6 n45 n46 n56 t4 t5 t6 g4 g5 g6 hbW
  have G6 := Lib.hid g6
  have hm7 := blk_new W (N2 s.a0 (-s.a1))
  have T4 := Lib.hid t4
  have T5 := Lib.hid t5
  have T6 := Lib.hid t6
  have T7 := Lib.hid hm7
  have HBW := Lib.hid hbW
  have HB := Lib.hid (bel_alloc hbW (N2 s.a0 (-s.a1)))
  obtain ⟨x0, x1⟩ := cells2 t4
  obtain ⟨y0, y1⟩ := cells2 t5
  obtain ⟨z0, z1⟩ := cells2 t6
  have f0 := blk_free t6 0
  have f1 := blk_free t6 1
  have l4 := blk_lt t4
  have l5 := blk_lt t5
  have l6 := blk_lt t6
  have v0 := blk_cell hm7 0
  have v1 := blk_cell hm7 1
  have hu := Try.underlying28
  clear h hbW hm7 t4 t5 t6 g4 g5 g6
  go_wp2_with (first | (go_at_call 51; (with_reducible refine (times_any _ s.a0 s.a1 s.a0 (-s.a1) HI.out.1 HI.out.2.1 HI.out.1 HI.out.2.2.1).mono ?_); rintro e w2 ⟨rfl, hb2⟩; have T62 := Lib.hid (blk_below (blk_alloc T6.out _) hb2); have HB2 := Lib.hid (bel_chain HB.out hb2); obtain ⟨r0, r1⟩ := cells2 T62.out; have r2 := blk_free T62.out 0; have r3 := blk_free T62.out 1; have r4 := blk_lt T62.out; clear hb2) | fail)
  obtain ⟨X, hX⟩ : ∃ X : Int, X = s.a0 * s.a0 - s.a1 * -s.a1 := ⟨_, rfl⟩
  obtain ⟨Y, hY⟩ : ∃ Y : Int, Y = s.a0 * -s.a1 + s.a1 * s.a0 := ⟨_, rfl⟩
  replace HPr : Hid (preF s 8 = (X, Y)) := Lib.hid (by rw [hX, hY]; exact HPr.out)
  have HX := Lib.hid hX
  have HY := Lib.hid hY
  clear hX hY
  go_loopw [9] (fun i w' => ∃ (k : Nat) (x y : Int), k ≤ 2 ∧ i = .int .i64 k ∧ x = (if 0 < k then cutF X else X) ∧ y = (if 1 < k then cutF Y else Y) ∧ Hid (w'.heap[p6]? = some (N2 x y)) ∧ Hid (Below w.heap.size w w')) (fun i _ => 2 - (intOf i).toNat)
  case atStart => exact ⟨0, X, Y, by omega, rfl, rfl, rfl, Lib.hid (by rw [HX.out, HY.out]; exact set2 T62.out _ _), Lib.hid (bel_set (bel_set HB2.out G6.out _ _) G6.out _ _)⟩
  case round =>
    obtain ⟨k, x, y, hk, rfl, hx, hy, HP, HT⟩ := hrel
    have c0 := (cells2 HP.out).1
    have c1 := (cells2 HP.out).2
    have f0 := blk_free HP.out 0
    have f1 := blk_free HP.out 1
    have hk' : k = 0 ∨ k = 1 ∨ k = 2 := by omega
    rcases hk' with rfl | rfl | rfl
    · obtain rfl : x = X := hx
      obtain rfl : y = Y := hy
      by_cases q1 : 1125899906842624 < x
      · have hc := Lib.hid (cut_hi q1)
        go_wp2
        go_roundw
        case rel => exact ⟨1, _, _, by omega, by go_num, rfl, rfl, Lib.hid (by have h1 := blk_set HP.out 0 (.int .i64 0); rw [show cutF x = 0 from hc.out]; simpa [N2] using h1), Lib.hid (bel_set HT.out G6.out _ _)⟩
        case measure => simp [intOf]
      · by_cases q2 : x < -1125899906842624
        · have hc := Lib.hid (cut_lo q2)
          go_wp2
          go_roundw
          case rel => exact ⟨1, _, _, by omega, by go_num, rfl, rfl, Lib.hid (by have h1 := blk_set HP.out 0 (.int .i64 0); rw [show cutF x = 0 from hc.out]; simpa [N2] using h1), Lib.hid (bel_set HT.out G6.out _ _)⟩
          case measure => simp [intOf]
        · have hc := Lib.hid (cut_id (x := x) (by omega))
          go_wp2
          go_roundw
          case rel => exact ⟨1, _, _, by omega, by go_num, rfl, rfl, Lib.hid (by rw [show cutF x = x from hc.out]; exact HP.out), HT⟩
          case measure => simp [intOf]
    · replace hx : x = cutF X := hx
      obtain rfl : y = Y := hy
      have HX2 := Lib.hid hx
      clear hx
      by_cases q1 : 1125899906842624 < y
      · have hc := Lib.hid (cut_hi q1)
        go_wp2
        go_roundw
        case rel => exact ⟨2, _, _, by omega, by go_num, HX2.out, rfl, Lib.hid (by have h1 := blk_set HP.out 1 (.int .i64 0); rw [show cutF y = 0 from hc.out]; simpa [N2] using h1), Lib.hid (bel_set HT.out G6.out _ _)⟩
        case measure => simp [intOf]
      · by_cases q2 : y < -1125899906842624
        · have hc := Lib.hid (cut_lo q2)
          go_wp2
          go_roundw
          case rel => exact ⟨2, _, _, by omega, by go_num, HX2.out, rfl, Lib.hid (by have h1 := blk_set HP.out 1 (.int .i64 0); rw [show cutF y = 0 from hc.out]; simpa [N2] using h1), Lib.hid (bel_set HT.out G6.out _ _)⟩
          case measure => simp [intOf]
        · have hc := Lib.hid (cut_id (x := y) (by omega))
          go_wp2
          go_roundw
          case rel => exact ⟨2, _, _, by omega, by go_num, HX2.out, rfl, Lib.hid (by rw [show cutF y = y from hc.out]; exact HP.out), HT⟩
          case measure => simp [intOf]
    · replace hx : x = cutF X := hx
      replace hy : y = cutF Y := hy
      have HE := Lib.hid (rdoes_end HS.out HT.out HPr.out)
      rw [← hx, ← hy] at HE
      clear hx hy
      have hu := Try.underlying28
      obtain ⟨z0, z1, z2, z3, z4, z5⟩ := cells6 (HS.out.below HT.out).1
      have y4 := blk_free (HS.out.below HT.out).1 4
      have y5 := blk_free (HS.out.below HT.out).1 5
      go_wp2
      go_end0
      exact ⟨rfl, HE.out.1, HE.out.2⟩
set_option maxRecDepth 100000 in
set_option maxHeartbeats 8000000 in
theorem rdoes_no {w : World} {g : Nat} {s : PS} {v : Int} (h1 : (v == 1) = false) (h2 : (v == 2) = false) (h3 : (v == 3) = false) (h4 : (v == 4) = false) (h5 : (v == 5) = false) (h6 : (v == 6) = false) (h7 : (v == 7) = false) (h8 : (v == 8) = false) (hv : preF s v = (s.r0, s.r1)) (h : RIs w g s) : Calls Try.prog 42 #[.pointer (some ⟨g, 0, none⟩), .int .u64 v] w fun e w' => e = .returned (.tuple #[]) ∧ RIs w' g (turnF s v) ∧ Kept w w' (fun j => j = g) := by
  have hi := h.2
  unfold PS.In at hi
  obtain ⟨i0, i1, i2, i3, i4, i5⟩ := hi
  have HS := Lib.hid h
  have hn : IntKind.i64.wrap (-s.a1) = -s.a1 := wr _ (by omega)
  have HPr : Hid (preF s v = (s.r0, s.r1)) := Lib.hid (hv)
  clear i0 i1 i2 i3 i4 i5
  have hglt := blk_lt h.1
  go_enter Try.func42, Try.ntmps42
  go_wp2
  refine wp_region_eq (ops' := opsOf Try.f42 0) (by kernel_rfl) ?_
  refine region_does (W0 := w) (g := g) (s := s) rfl hglt HS.out.1 ?_
  intro W p4 p5 p6 n45 n46 n56 t4 t5 t6 g4 g5 g6 hbW
  have G6 := Lib.hid g6
  have hm7 := blk_new W (N2 s.a0 (-s.a1))
  have T4 := Lib.hid t4
  have T5 := Lib.hid t5
  have T6 := Lib.hid t6
  have T7 := Lib.hid hm7
  have HBW := Lib.hid hbW
  have HB := Lib.hid (bel_alloc hbW (N2 s.a0 (-s.a1)))
  obtain ⟨x0, x1⟩ := cells2 t4
  obtain ⟨y0, y1⟩ := cells2 t5
  obtain ⟨z0, z1⟩ := cells2 t6
  have f0 := blk_free t6 0
  have f1 := blk_free t6 1
  have l4 := blk_lt t4
  have l5 := blk_lt t5
  have l6 := blk_lt t6
  have v0 := blk_cell hm7 0
  have v1 := blk_cell hm7 1
  have hu := Try.underlying28
  clear h hbW hm7 t4 t5 t6 g4 g5 g6
  go_wp2
  obtain ⟨X, hX⟩ : ∃ X : Int, X = s.r0 := ⟨_, rfl⟩
  obtain ⟨Y, hY⟩ : ∃ Y : Int, Y = s.r1 := ⟨_, rfl⟩
  replace HPr : Hid (preF s v = (X, Y)) := Lib.hid (by rw [hX, hY]; exact HPr.out)
  have HX := Lib.hid hX
  have HY := Lib.hid hY
  clear hX hY
  go_loopw [9] (fun i w' => ∃ (k : Nat) (x y : Int), k ≤ 2 ∧ i = .int .i64 k ∧ x = (if 0 < k then cutF X else X) ∧ y = (if 1 < k then cutF Y else Y) ∧ Hid (w'.heap[p6]? = some (N2 x y)) ∧ Hid (Below w.heap.size w w')) (fun i _ => 2 - (intOf i).toNat)
  case atStart => exact ⟨0, X, Y, by omega, rfl, rfl, rfl, Lib.hid (by rw [HX.out, HY.out]; exact blk_alloc T6.out _), Lib.hid (HB.out)⟩
  case round =>
    obtain ⟨k, x, y, hk, rfl, hx, hy, HP, HT⟩ := hrel
    have c0 := (cells2 HP.out).1
    have c1 := (cells2 HP.out).2
    have f0 := blk_free HP.out 0
    have f1 := blk_free HP.out 1
    have hk' : k = 0 ∨ k = 1 ∨ k = 2 := by omega
    rcases hk' with rfl | rfl | rfl
    · obtain rfl : x = X := hx
      obtain rfl : y = Y := hy
      by_cases q1 : 1125899906842624 < x
      · have hc := Lib.hid (cut_hi q1)
        go_wp2
        go_roundw
        case rel => exact ⟨1, _, _, by omega, by go_num, rfl, rfl, Lib.hid (by have h1 := blk_set HP.out 0 (.int .i64 0); rw [show cutF x = 0 from hc.out]; simpa [N2] using h1), Lib.hid (bel_set HT.out G6.out _ _)⟩
        case measure => simp [intOf]
      · by_cases q2 : x < -1125899906842624
        · have hc := Lib.hid (cut_lo q2)
          go_wp2
          go_roundw
          case rel => exact ⟨1, _, _, by omega, by go_num, rfl, rfl, Lib.hid (by have h1 := blk_set HP.out 0 (.int .i64 0); rw [show cutF x = 0 from hc.out]; simpa [N2] using h1), Lib.hid (bel_set HT.out G6.out _ _)⟩
          case measure => simp [intOf]
        · have hc := Lib.hid (cut_id (x := x) (by omega))
          go_wp2
          go_roundw
          case rel => exact ⟨1, _, _, by omega, by go_num, rfl, rfl, Lib.hid (by rw [show cutF x = x from hc.out]; exact HP.out), HT⟩
          case measure => simp [intOf]
    · replace hx : x = cutF X := hx
      obtain rfl : y = Y := hy
      have HX2 := Lib.hid hx
      clear hx
      by_cases q1 : 1125899906842624 < y
      · have hc := Lib.hid (cut_hi q1)
        go_wp2
        go_roundw
        case rel => exact ⟨2, _, _, by omega, by go_num, HX2.out, rfl, Lib.hid (by have h1 := blk_set HP.out 1 (.int .i64 0); rw [show cutF y = 0 from hc.out]; simpa [N2] using h1), Lib.hid (bel_set HT.out G6.out _ _)⟩
        case measure => simp [intOf]
      · by_cases q2 : y < -1125899906842624
        · have hc := Lib.hid (cut_lo q2)
          go_wp2
          go_roundw
          case rel => exact ⟨2, _, _, by omega, by go_num, HX2.out, rfl, Lib.hid (by have h1 := blk_set HP.out 1 (.int .i64 0); rw [show cutF y = 0 from hc.out]; simpa [N2] using h1), Lib.hid (bel_set HT.out G6.out _ _)⟩
          case measure => simp [intOf]
        · have hc := Lib.hid (cut_id (x := y) (by omega))
          go_wp2
          go_roundw
          case rel => exact ⟨2, _, _, by omega, by go_num, HX2.out, rfl, Lib.hid (by rw [show cutF y = y from hc.out]; exact HP.out), HT⟩
          case measure => simp [intOf]
    · replace hx : x = cutF X := hx
      replace hy : y = cutF Y := hy
      have HE := Lib.hid (rdoes_end HS.out HT.out HPr.out)
      rw [← hx, ← hy] at HE
      clear hx hy
      have hu := Try.underlying28
      obtain ⟨z0, z1, z2, z3, z4, z5⟩ := cells6 (HS.out.below HT.out).1
      have y4 := blk_free (HS.out.below HT.out).1 4
      have y5 := blk_free (HS.out.below HT.out).1 5
      go_wp2
      go_end0
      exact ⟨rfl, HE.out.1, HE.out.2⟩
theorem rdoes_any {w : World} {g : Nat} {s : PS} (h : RIs w g s) (v : Int) : Calls Try.prog 42 #[.pointer (some ⟨g, 0, none⟩), .int .u64 v] w fun e w' => e = .returned (.tuple #[]) ∧ RIs w' g (turnF s v) ∧ Kept w w' (fun j => j = g) := by
  by_cases h1 : v = 1
  · subst h1; exact rdoes_1 h
  by_cases h2 : v = 2
  · subst h2; exact rdoes_2 h
  by_cases h3 : v = 3
  · subst h3; exact rdoes_3 h
  by_cases h4 : v = 4
  · subst h4; exact rdoes_4 h
  by_cases h5 : v = 5
  · subst h5; exact rdoes_5 h
  by_cases h6 : v = 6
  · subst h6; exact rdoes_6 h
  by_cases h7 : v = 7
  · subst h7; exact rdoes_7 h
  by_cases h8 : v = 8
  · subst h8; exact rdoes_8 h
  exact rdoes_no (by simpa using h1) (by simpa using h2) (by simpa using h3) (by simpa using h4) (by simpa using h5) (by simpa using h6) (by simpa using h7) (by simpa using h8) (by unfold preF; simp only [h1, h2, h3, h4, h5, h6, h7, h8, if_false]) h
theorem clip_cases (v : Int) : ∃ n, IntKind.i64.wrap v = n ∧ ((n < -1048576 ∧ clipF v = -1048576) ∨ (1048576 < n ∧ clipF v = 1048576) ∨ (-1048576 ≤ n ∧ n ≤ 1048576 ∧ clipF v = n)) := by
  refine ⟨_, rfl, ?_⟩
  unfold clipF clipZ
  by_cases h1 : IntKind.i64.wrap v < -1048576
  · rw [if_pos h1]; exact .inl ⟨h1, rfl⟩
  · rw [if_neg h1]
    by_cases h2 : 1048576 < IntKind.i64.wrap v
    · rw [if_pos h2]; exact .inr (.inl ⟨h2, rfl⟩)
    · rw [if_neg h2]; exact .inr (.inr ⟨by omega, by omega, rfl⟩)
set_option maxHeartbeats 4000000 in
theorem rstore_0 {w : World} {g : Nat} {s : PS} (h : RIs w g s) (v : Int) : Calls Try.prog 18 #[.pointer (some ⟨g, 0, none⟩), .int .i64 0, .int .u64 v] w fun e w' => e = .returned (.tuple #[]) ∧ RIs w' g { s with a0 := clipF v } ∧ Kept w w' (fun j => j = g) := by
  have HE : Hid (RIs (w.setCell ⟨g, 0, none⟩ (.int .i64 (clipF v))) g { s with a0 := clipF v }) := by
    have hi := h.2
    refine Lib.hid ⟨?_, ⟨clipF_in v, hi.2.1, hi.2.2.1, hi.2.2.2.1, hi.2.2.2.2⟩⟩
    have := blk_set h.1 0 (.int .i64 (clipF v))
    simpa using this
  have x0 := (cells6 h.1).1
  have fz := blk_free h.1 0
  obtain ⟨n, hn, hc⟩ := clip_cases v
  obtain ⟨c, hcv⟩ : ∃ c, clipF v = c := ⟨_, rfl⟩
  rw [hcv] at hc HE ⊢
  clear h hcv
  rcases hc with ⟨h1, rfl⟩ | ⟨h1, rfl⟩ | ⟨h1, h2, rfl⟩
  all_goals
    go_enter Try.func18, Try.ntmps18
    go_wp2
    go_end0
    exact ⟨rfl, HE.out, kept_set (S := fun j => j = g) (kept_refl _ _) rfl _ _⟩
set_option maxHeartbeats 4000000 in
theorem rstore_1 {w : World} {g : Nat} {s : PS} (h : RIs w g s) (v : Int) : Calls Try.prog 18 #[.pointer (some ⟨g, 0, none⟩), .int .i64 1, .int .u64 v] w fun e w' => e = .returned (.tuple #[]) ∧ RIs w' g { s with a1 := clipF v } ∧ Kept w w' (fun j => j = g) := by
  have HE : Hid (RIs (w.setCell ⟨g, 1, none⟩ (.int .i64 (clipF v))) g { s with a1 := clipF v }) := by
    have hi := h.2
    refine Lib.hid ⟨?_, ⟨hi.1, clipF_in v, hi.2.2.1, hi.2.2.2.1, hi.2.2.2.2⟩⟩
    have := blk_set h.1 1 (.int .i64 (clipF v))
    simpa using this
  have x1 := (cells6 h.1).2.1
  have fz := blk_free h.1 1
  obtain ⟨n, hn, hc⟩ := clip_cases v
  obtain ⟨c, hcv⟩ : ∃ c, clipF v = c := ⟨_, rfl⟩
  rw [hcv] at hc HE ⊢
  clear h hcv
  rcases hc with ⟨h1, rfl⟩ | ⟨h1, rfl⟩ | ⟨h1, h2, rfl⟩
  all_goals
    go_enter Try.func18, Try.ntmps18
    go_wp2
    go_end0
    exact ⟨rfl, HE.out, kept_set (S := fun j => j = g) (kept_refl _ _) rfl _ _⟩
set_option maxHeartbeats 4000000 in
theorem rstore_2 {w : World} {g : Nat} {s : PS} (h : RIs w g s) (v : Int) : Calls Try.prog 18 #[.pointer (some ⟨g, 0, none⟩), .int .i64 2, .int .u64 v] w fun e w' => e = .returned (.tuple #[]) ∧ RIs w' g { s with b0 := clipF v } ∧ Kept w w' (fun j => j = g) := by
  have HE : Hid (RIs (w.setCell ⟨g, 2, none⟩ (.int .i64 (clipF v))) g { s with b0 := clipF v }) := by
    have hi := h.2
    refine Lib.hid ⟨?_, ⟨hi.1, hi.2.1, clipF_in v, hi.2.2.2.1, hi.2.2.2.2⟩⟩
    have := blk_set h.1 2 (.int .i64 (clipF v))
    simpa using this
  have x2 := (cells6 h.1).2.2.1
  have fz := blk_free h.1 2
  obtain ⟨n, hn, hc⟩ := clip_cases v
  obtain ⟨c, hcv⟩ : ∃ c, clipF v = c := ⟨_, rfl⟩
  rw [hcv] at hc HE ⊢
  clear h hcv
  rcases hc with ⟨h1, rfl⟩ | ⟨h1, rfl⟩ | ⟨h1, h2, rfl⟩
  all_goals
    go_enter Try.func18, Try.ntmps18
    go_wp2
    go_end0
    exact ⟨rfl, HE.out, kept_set (S := fun j => j = g) (kept_refl _ _) rfl _ _⟩
set_option maxHeartbeats 4000000 in
theorem rstore_3 {w : World} {g : Nat} {s : PS} (h : RIs w g s) (v : Int) : Calls Try.prog 18 #[.pointer (some ⟨g, 0, none⟩), .int .i64 3, .int .u64 v] w fun e w' => e = .returned (.tuple #[]) ∧ RIs w' g { s with b1 := clipF v } ∧ Kept w w' (fun j => j = g) := by
  have HE : Hid (RIs (w.setCell ⟨g, 3, none⟩ (.int .i64 (clipF v))) g { s with b1 := clipF v }) := by
    have hi := h.2
    refine Lib.hid ⟨?_, ⟨hi.1, hi.2.1, hi.2.2.1, clipF_in v, hi.2.2.2.2⟩⟩
    have := blk_set h.1 3 (.int .i64 (clipF v))
    simpa using this
  have x3 := (cells6 h.1).2.2.2.1
  have fz := blk_free h.1 3
  obtain ⟨n, hn, hc⟩ := clip_cases v
  obtain ⟨c, hcv⟩ : ∃ c, clipF v = c := ⟨_, rfl⟩
  rw [hcv] at hc HE ⊢
  clear h hcv
  rcases hc with ⟨h1, rfl⟩ | ⟨h1, rfl⟩ | ⟨h1, h2, rfl⟩
  all_goals
    go_enter Try.func18, Try.ntmps18
    go_wp2
    go_end0
    exact ⟨rfl, HE.out, kept_set (S := fun j => j = g) (kept_refl _ _) rfl _ _⟩
set_option maxHeartbeats 4000000 in
theorem rstore_4 {w : World} {g : Nat} {s : PS} (h : RIs w g s) (v : Int) : Calls Try.prog 18 #[.pointer (some ⟨g, 0, none⟩), .int .i64 4, .int .u64 v] w fun e w' => e = .returned (.tuple #[]) ∧ RIs w' g (turnF s v) ∧ Kept w w' (fun j => j = g) := by
  obtain ⟨n, hn, hc⟩ := clip_cases v
  have hc' : n < -1048576 ∨ 1048576 < n ∨ (-1048576 ≤ n ∧ n ≤ 1048576) := by omega
  clear hc
  rcases hc' with h1 | h1 | ⟨h1, h2⟩
  all_goals
    go_enter Try.func18, Try.ntmps18
    go_wp2_with (first | (go_at_call 42; refine (rdoes_any h v).mono ?_; rintro e w1 ⟨rfl, H1, k1⟩))
    go_end0
    exact ⟨rfl, H1, k1⟩
set_option maxHeartbeats 4000000 in
theorem rstore_no {w : World} {g : Nat} {k v : Int} (h0 : (k == 0) = false) (h1 : (k == 1) = false) (h2 : (k == 2) = false) (h3 : (k == 3) = false) (h4 : (k == 4) = false) :
    Calls Try.prog 18 #[.pointer (some ⟨g, 0, none⟩), .int .i64 k, .int .u64 v] w fun e w' => e = .returned (.tuple #[]) ∧ w = w' := by
  obtain ⟨n, hn, hc⟩ := clip_cases v
  have hc' : n < -1048576 ∨ 1048576 < n ∨ (-1048576 ≤ n ∧ n ≤ 1048576) := by omega
  clear hc
  rcases hc' with h1' | h1' | ⟨h1', h2'⟩
  all_goals
    go_enter Try.func18, Try.ntmps18
    go_wp2
    go_end0
    exact ⟨rfl, rfl⟩
theorem rstore_any {w : World} {g : Nat} {s : PS} (h : RIs w g s) (k v : Int) : Calls Try.prog 18 #[.pointer (some ⟨g, 0, none⟩), .int .i64 k, .int .u64 v] w fun e w' => e = .returned (.tuple #[]) ∧ RIs w' g (storeF s k v) ∧ Kept w w' (fun j => j = g) := by
  by_cases h0 : k = 0
  · subst h0; exact rstore_0 h v
  by_cases h1 : k = 1
  · subst h1; exact rstore_1 h v
  by_cases h2 : k = 2
  · subst h2; exact rstore_2 h v
  by_cases h3 : k = 3
  · subst h3; exact rstore_3 h v
  by_cases h4 : k = 4
  · subst h4; exact rstore_4 h v
  refine (rstore_no (by simpa using h0) (by simpa using h1) (by simpa using h2) (by simpa using h3) (by simpa using h4)).mono fun e w' ⟨he, hw⟩ => ?_
  subst hw
  have e : storeF s k v = s := by unfold storeF; simp only [h0, h1, h2, h3, h4, if_false]
  exact ⟨he, by rw [e]; exact h, kept_refl _ _⟩
end Go.Proofs.Ytbcdkhgfjdbjoaa.Pha
