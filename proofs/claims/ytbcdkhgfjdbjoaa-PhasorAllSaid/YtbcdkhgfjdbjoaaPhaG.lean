/- It reckons as one does with pairs of whole numbers: PhasorReckons walked. -/
import Derived.Test.YtbcdkhgfjdbjoaaPhaF
namespace Go.Proofs.Ytbcdkhgfjdbjoaa.Pha
open Go Go.RowKit Go.Proofs.Ytbcdkhgfjdbjoaa.Mem Go.Proofs.Ytbcdkhgfjdbjoaa.Kept Go.Proofs.Ytbcdkhgfjdbjoaa.Flt
set_option linter.unusedVariables false
set_option linter.unusedSimpArgs false
def In20 (a : Int) : Prop := -1048576 ≤ a ∧ a ≤ 1048576
theorem div_in {a : Int} (h : -2147483648 ≤ a ∧ a ≤ 2147483647) : In20 (a.tdiv 2048) := by
  unfold In20
  rcases Int.lt_or_le a 0 with h0 | h0
  · obtain ⟨n, rfl⟩ : ∃ n : Int, a = -n := ⟨-a, by omega⟩
    rw [Int.neg_tdiv, Int.tdiv_eq_ediv_of_nonneg (by omega)]
    omega
  · rw [Int.tdiv_eq_ediv_of_nonneg h0]
    omega
def SetP (a b c d v p q : Int) : Prop := (preF ⟨a, b, c, d, 0, 0⟩ v).1 = p ∧ (preF ⟨a, b, c, d, 0, 0⟩ v).2 = q ∧ (-1125899906842624 ≤ p ∧ p ≤ 1125899906842624) ∧ (-1125899906842624 ≤ q ∧ q ≤ 1125899906842624)
theorem set_c (w : World) {a b c d v p q : Int} (ha : In20 a) (hb : In20 b) (hc : In20 c) (hd : In20 d) (hp : SetP a b c d v p q) :
    Calls Try.prog 21 #[.int .i64 a, .int .i64 b, .int .i64 c, .int .i64 d, .int .u64 v] w fun e w' => e = .returned (.tuple #[.int .i64 p, .int .i64 q]) ∧ Below w.heap.size w w' := by
  obtain ⟨h1, h2, h3, h4⟩ := hp
  refine (set_any w a b c d v ha hb hc hd).mono fun e w' ⟨he, hb⟩ => ⟨?_, hb⟩
  rw [he]
  unfold turnF
  rw [h1, h2, cut_id h3, cut_id h4]
theorem p_1 {w x y z : Int} (hw : In20 w) (hx : In20 x) (hy : In20 y) (hz : In20 z) : SetP w x y z 1 (w + y) (x + z) := by
  unfold In20 at *; exact ⟨rfl, rfl, by omega, by omega⟩
theorem p_2 {w x y z : Int} (hw : In20 w) (hx : In20 x) (hy : In20 y) (hz : In20 z) : SetP w x y z 2 (w - y) (x - z) := by
  unfold In20 at *; exact ⟨rfl, rfl, by omega, by omega⟩
theorem p_3 {w x y z : Int} (hw : In20 w) (hx : In20 x) (hy : In20 y) (hz : In20 z) : SetP w x y z 3 (w * y - x * z) (w * z + x * y) := by
  have m0 := mul_in hw hy
  have m1 := mul_in hx hz
  have m2 := mul_in hw hz
  have m3 := mul_in hx hy
  exact ⟨rfl, rfl, by omega, by omega⟩
theorem p_4 {w x y z : Int} (hw : In20 w) (hx : In20 x) (hy : In20 y) (hz : In20 z) : SetP w x y z 4 w (-x) := by
  unfold In20 at *; exact ⟨rfl, rfl, by omega, by omega⟩
theorem p_6 {w x y z : Int} (hw : In20 w) (hx : In20 x) (hy : In20 y) (hz : In20 z) : SetP w x y z 6 (-x) w := by
  unfold In20 at *; exact ⟨rfl, rfl, by omega, by omega⟩
theorem p_8 {w x y z : Int} (hw : In20 w) (hx : In20 x) (hy : In20 y) (hz : In20 z) : SetP w x y z 8 (w * w + x * x) 0 := by
  have m0 := mul_in hw hw
  have m1 := mul_in hx hx
  refine ⟨?_, ?_, by omega, by omega⟩
  · show w * w - x * -x = _
    rw [Int.mul_neg]; omega
  · show w * -x + x * w = 0
    rw [Int.mul_neg, Int.mul_comm x w]; omega
theorem p_3s {w x y z : Int} (hw : In20 w) (hx : In20 x) (hy : In20 y) (hz : In20 z) : SetP y z w x 3 (w * y - x * z) (w * z + x * y) := by
  have h := p_3 hy hz hw hx
  rw [Int.mul_comm y w, Int.mul_comm z x, Int.mul_comm y x, Int.mul_comm z w, Int.add_comm (x * y)] at h
  exact h
theorem w64 (x : Int) (h : -9223372036854775808 ≤ x ∧ x ≤ 9223372036854775807) : wrap64 x = x := by unfold wrap64; omega
set_option maxRecDepth 100000 in
set_option maxHeartbeats 8000000 in
theorem reckons (W : World) (a b c d : Int) (ha : -2147483648 ≤ a ∧ a ≤ 2147483647) (hb : -2147483648 ≤ b ∧ b ≤ 2147483647) (hc : -2147483648 ≤ c ∧ c ≤ 2147483647) (hd : -2147483648 ≤ d ∧ d ≤ 2147483647) :
    Calls Try.prog 4 #[.int .i32 a, .int .i32 b, .int .i32 c, .int .i32 d] W fun e w' => e = .returned (.bool true) ∧ Below W.heap.size W w' := by
  obtain ⟨w, hw⟩ : ∃ w, a.tdiv 2048 = w := ⟨_, rfl⟩
  obtain ⟨x, hx⟩ : ∃ w, b.tdiv 2048 = w := ⟨_, rfl⟩
  obtain ⟨y, hy⟩ : ∃ w, c.tdiv 2048 = w := ⟨_, rfl⟩
  obtain ⟨z, hz⟩ : ∃ w, d.tdiv 2048 = w := ⟨_, rfl⟩
  have iw := div_in ha
  have ix := div_in hb
  have iy := div_in hc
  have iz := div_in hd
  rw [hw] at iw
  rw [hx] at ix
  rw [hy] at iy
  rw [hz] at iz
  have P1 := p_1 iw ix iy iz
  have P2 := p_2 iw ix iy iz
  have P3 := p_3 iw ix iy iz
  have P4 := p_4 iw ix iy iz
  have P6 := p_6 iw ix iy iz
  have P8 := p_8 iw ix iy iz
  have P3s := p_3s iw ix iy iz
  have m0 := mul_in iw iy
  have m1 := mul_in ix iz
  have m2 := mul_in iw iz
  have m3 := mul_in ix iy
  have m4 := mul_in iw iw
  have m5 := mul_in ix ix
  have hin : (-1048576 ≤ w ∧ w ≤ 1048576) ∧ (-1048576 ≤ x ∧ x ≤ 1048576) ∧ (-1048576 ≤ y ∧ y ≤ 1048576) ∧ (-1048576 ≤ z ∧ z ≤ 1048576) := ⟨iw, ix, iy, iz⟩
  have e1 : IntKind.i64.wrap (w * y) = w * y := IntWalk.i64_in _ (by omega)
  have e2 : IntKind.i64.wrap (x * z) = x * z := IntWalk.i64_in _ (by omega)
  have e3 : IntKind.i64.wrap (w * z) = w * z := IntWalk.i64_in _ (by omega)
  have e4 : IntKind.i64.wrap (x * y) = x * y := IntWalk.i64_in _ (by omega)
  have e5 : IntKind.i64.wrap (w * w) = w * w := IntWalk.i64_in _ (by omega)
  have e6 : IntKind.i64.wrap (x * x) = x * x := IntWalk.i64_in _ (by omega)
  have e7 : IntKind.i64.wrap (w * y - x * z) = w * y - x * z := IntWalk.i64_in _ (by omega)
  have e8 : IntKind.i64.wrap (w * z + x * y) = w * z + x * y := IntWalk.i64_in _ (by omega)
  have e9 : IntKind.i64.wrap (w * w + x * x) = w * w + x * x := IntWalk.i64_in _ (by omega)
  have e10 : IntKind.i64.wrap (w + y) = w + y := IntWalk.i64_in _ (by omega)
  have e11 : IntKind.i64.wrap (x + z) = x + z := IntWalk.i64_in _ (by omega)
  have e12 : IntKind.i64.wrap (w - y) = w - y := IntWalk.i64_in _ (by omega)
  have e13 : IntKind.i64.wrap (x - z) = x - z := IntWalk.i64_in _ (by omega)
  have e14 : IntKind.i64.wrap (-x) = -x := IntWalk.i64_in _ (by omega)
  have f1 : wrap64 (w * y) = w * y := w64 _ (by omega)
  have f2 : wrap64 (x * z) = x * z := w64 _ (by omega)
  have f3 : wrap64 (w * z) = w * z := w64 _ (by omega)
  have f4 : wrap64 (x * y) = x * y := w64 _ (by omega)
  have f5 : wrap64 (w * w) = w * w := w64 _ (by omega)
  have f6 : wrap64 (x * x) = x * x := w64 _ (by omega)
  have f7 : wrap64 (w * y - x * z) = w * y - x * z := w64 _ (by omega)
  have f8 : wrap64 (w * z + x * y) = w * z + x * y := w64 _ (by omega)
  have f9 : wrap64 (w * w + x * x) = w * w + x * x := w64 _ (by omega)
  have f10 : wrap64 (w + y) = w + y := w64 _ (by omega)
  have f11 : wrap64 (x + z) = x + z := w64 _ (by omega)
  have f12 : wrap64 (w - y) = w - y := w64 _ (by omega)
  have f13 : wrap64 (x - z) = x - z := w64 _ (by omega)
  have f14 : wrap64 (-x) = -x := w64 _ (by omega)
  have gw : wrap64 w = w := w64 _ (by omega)
  have gx : wrap64 x = x := w64 _ (by omega)
  have gy : wrap64 y = y := w64 _ (by omega)
  have gz : wrap64 z = z := w64 _ (by omega)
  clear m0 m1 m2 m3 m4 m5 hin
  go_enter Try.func4, Try.ntmps4
  go_wp2_with (first
    | (go_at_call 14; refine (begun _).mono ?_; rintro e w1 ⟨rfl, hb1⟩)
    | (go_at_call 21; with_reducible refine (set_c _ iw ix iy iz P1).mono ?_; rintro e w2 ⟨rfl, hb2⟩; replace hb2 := bel_chain hb1 hb2)
    | (go_at_call 21; with_reducible refine (set_c _ iw ix iy iz P2).mono ?_; rintro e w3 ⟨rfl, hb3⟩; replace hb3 := bel_chain hb2 hb3)
    | (go_at_call 21; with_reducible refine (set_c _ iw ix iy iz P3).mono ?_; rintro e w4 ⟨rfl, hb4⟩; replace hb4 := bel_chain hb3 hb4)
    | (go_at_call 21; with_reducible refine (set_c _ iw ix iy iz P4).mono ?_; rintro e w5 ⟨rfl, hb5⟩; replace hb5 := bel_chain hb4 hb5)
    | (go_at_call 21; with_reducible refine (set_c _ iw ix iy iz P6).mono ?_; rintro e w6 ⟨rfl, hb6⟩; replace hb6 := bel_chain hb5 hb6)
    | (go_at_call 21; with_reducible refine (set_c _ iw ix iy iz P8).mono ?_; rintro e w7 ⟨rfl, hb7⟩; replace hb7 := bel_chain hb6 hb7)
    | (go_at_call 21; with_reducible refine (set_c _ iy iz iw ix P3s).mono ?_; rintro e w8 ⟨rfl, hb8⟩; replace hb8 := bel_chain hb7 hb8)
    | fail)
  go_ret
  exact ⟨rfl, hb8⟩
end Go.Proofs.Ytbcdkhgfjdbjoaa.Pha
