/- Whole numbers below 2^53 as floats: sums, differences, products, mirrors, comparisons are exact. -/
import Derived.Laws.ComplexArith
namespace Go.Proofs.Ytdpjpmlajjfpgaa.Flt
open Go Ieee
set_option linter.unusedVariables false
set_option linter.unusedSimpArgs false

/-- A datum, a word that stands for the whole number n (of the two noughts either). -/
def Dn (d : Datum) (n : Int) : Prop := ∃ (s : Bool) (q : Nat), d = .number s (n.natAbs * 2 ^ q) (-(q : Int)) ∧ (n ≠ 0 → s = decide (n < 0))
def Fl (x : Nat) (n : Int) : Prop := Dn (double.read x) n

theorem fl_zero : Fl 0 0 := ⟨false, 1074, by decide +kernel, fun h => absurd rfl h⟩

theorem read_word (s : Bool) (e k : Nat) (he : e ≤ 1074) (h0 : 2 ^ 52 ≤ k) (h1 : k < 2 ^ 53) : double.read (double.word s (e * 2 ^ 52 + k)) = .number s k ((e : Int) - 1074) := by
  have hb : double.binade = 2 ^ 52 := rfl
  have hs : double.signWeight = 2 ^ 63 := by decide +kernel
  have hi : double.infRung = 2047 * 2 ^ 52 := by decide +kernel
  have hl : double.leastPlace = -1074 := by decide +kernel
  have m1 : double.word s (e * 2 ^ 52 + k) / double.signWeight % 2 = if s then 1 else 0 := by
    unfold Format.word
    rw [hs]
    cases s <;> simp <;> omega
  have m2 : double.word s (e * 2 ^ 52 + k) % double.signWeight = e * 2 ^ 52 + k := by
    unfold Format.word
    rw [hs]
    cases s <;> simp <;> omega
  unfold Format.read
  simp only [m1, m2, hb, hi, hl]
  rw [if_neg (by omega), if_pos (by omega)]
  have d1 : (e * 2 ^ 52 + k) % 2 ^ 52 = k - 2 ^ 52 := by omega
  have d2 : (e * 2 ^ 52 + k) / 2 ^ 52 = e + 1 := by omega
  rw [d1, d2]
  have d3 : 2 ^ 52 + (k - 2 ^ 52) = k := by omega
  rw [d3]
  have d4 : (-1074 : Int) + ((e + 1 - 1 : Nat) : Int) = (e : Int) - 1074 := by omega
  rw [d4]
  cases s <;> rfl

theorem cut_exact (way : Toward) (s : Bool) (k d : Nat) (h : k = 0 ∨ d ≤ (k * 2 ^ d).log2 + 2) : way.cut s (k * 2 ^ d) d = k := by
  have hp : 0 < 2 ^ d := Nat.two_pow_pos d
  unfold Toward.cut
  rcases h with rfl | h
  · simp
    cases way <;> simp
  · have hm : min d ((k * 2 ^ d).log2 + 2) = d := Nat.min_eq_left h
    rw [hm, Nat.one_shiftLeft]
    dsimp only
    rw [Nat.mul_div_cancel _ hp, Nat.mul_mod_left]
    cases way <;> simp <;> omega

theorem log2_mul_pow (n q : Nat) (h : 0 < n) : (n * 2 ^ q).log2 = n.log2 + q := by
  have hp : 0 < 2 ^ q := Nat.two_pow_pos q
  have a := Nat.log2_self_le (n := n) (by omega)
  have b := Nat.lt_log2_self (n := n)
  refine (Nat.log2_eq_iff (by have := Nat.mul_pos h hp; omega)).2 ⟨?_, ?_⟩
  · rw [Nat.pow_add]; exact Nat.mul_le_mul_right _ a
  · rw [show n.log2 + q + 1 = n.log2 + 1 + q by omega, Nat.pow_add]
    exact Nat.mul_lt_mul_of_pos_right b hp

theorem fl_nearest (s : Bool) (N q : Nat) (n : Int) (hn : n.natAbs = N) (h : N < 2 ^ 53) (hs : n ≠ 0 → s = decide (n < 0)) : Fl (double.nearest s (N * 2 ^ q) (-(q : Int))) n := by
  have hf : double.fractionBits = 52 := rfl
  have hl : double.leastPlace = -1074 := by decide +kernel
  have hb : double.binade = 2 ^ 52 := rfl
  have hi : double.infRung = 2047 * 2 ^ 52 := by decide +kernel
  unfold Format.nearest
  by_cases h0 : N = 0
  · subst h0
    obtain rfl : n = 0 := by omega
    rw [if_pos (by simp)]
    refine ⟨s, 1074, ?_, hs⟩
    cases s <;> decide +kernel
  · have hN : 0 < N := by omega
    have hp : 0 < 2 ^ q := Nat.two_pow_pos q
    rw [if_neg (by have := Nat.mul_pos hN hp; omega)]
    simp only [hf, hl, hb, hi]
    have hL := log2_mul_pow N q hN
    have a := Nat.log2_self_le (n := N) (by omega)
    have b := Nat.lt_log2_self (n := N)
    obtain ⟨L, hLe⟩ : ∃ L, N.log2 = L := ⟨_, rfl⟩
    rw [hL]
    rw [hLe] at a b ⊢
    have hL52 : L ≤ 52 := by
      rcases Nat.lt_or_ge 52 L with h' | h'
      · have := Nat.pow_le_pow_right (n := 2) (by omega) (show 53 ≤ L by omega); omega
      · exact h'
    have e1 : max (-(q : Int) + ((L + q : Nat) : Int) - ((52 : Nat) : Int)) (-1074) = (L : Int) - 52 := by omega
    rw [e1]
    have e2 : ((L : Int) - 52 - -1074).toNat = L + 1022 := by omega
    rw [e2]
    have key : Toward.even.cut s ((N * 2 ^ q) <<< (-(q : Int) - ((L : Int) - 52)).toNat) ((L : Int) - 52 - -(q : Int)).toNat = N * 2 ^ (52 - L) := by
      rcases Nat.le_total (q + L) 52 with hq | hq
      · have e3 : (-(q : Int) - ((L : Int) - 52)).toNat = 52 - L - q := by omega
        have e4 : ((L : Int) - 52 - -(q : Int)).toNat = 0 := by omega
        rw [e3, e4, Nat.shiftLeft_eq, Nat.mul_assoc, ← Nat.pow_add, show q + (52 - L - q) = 52 - L by omega]
        have := cut_exact .even s (N * 2 ^ (52 - L)) 0 (Or.inr (by omega))
        rwa [Nat.pow_zero, Nat.mul_one] at this
      · have e3 : (-(q : Int) - ((L : Int) - 52)).toNat = 0 := by omega
        have e4 : ((L : Int) - 52 - -(q : Int)).toNat = q + L - 52 := by omega
        rw [e3, e4, Nat.shiftLeft_zero]
        have e5 : N * 2 ^ q = N * 2 ^ (52 - L) * 2 ^ (q + L - 52) := by
          rw [Nat.mul_assoc, ← Nat.pow_add, show 52 - L + (q + L - 52) = q by omega]
        rw [e5]
        refine cut_exact .even s _ _ (Or.inr ?_)
        rw [← e5, hL, hLe]
        omega
    rw [key]
    have k1 : 2 ^ 52 ≤ N * 2 ^ (52 - L) := by
      have := Nat.mul_le_mul_right (2 ^ (52 - L)) a
      rwa [← Nat.pow_add, show L + (52 - L) = 52 by omega] at this
    have k2 : N * 2 ^ (52 - L) < 2 ^ 53 := by
      have := Nat.mul_lt_mul_of_pos_right b (Nat.two_pow_pos (52 - L))
      rwa [← Nat.pow_add, show L + 1 + (52 - L) = 53 by omega] at this
    rw [Nat.min_eq_left (by omega)]
    refine ⟨s, 52 - L, ?_, hs⟩
    rw [read_word s (L + 1022) _ (by omega) k1 k2, hn]
    have d4 : ((L + 1022 : Nat) : Int) - 1074 = -((52 - L : Nat) : Int) := by omega
    rw [d4]
theorem dn_write {d : Datum} {n : Int} (h : Dn d n) (hn : n.natAbs < 2 ^ 53) : Fl (double.write d) n := by
  obtain ⟨s, q, rfl, hs⟩ := h
  exact fl_nearest s n.natAbs q n rfl hn hs
theorem signed_dn (s : Bool) (a : Int) (q u : Nat) (hs : a ≠ 0 → s = decide (a < 0)) : signed s (a.natAbs * 2 ^ q) u = a * 2 ^ (q + u) := by
  have e : ((a.natAbs * 2 ^ q) <<< u : Nat) = a.natAbs * 2 ^ (q + u) := by rw [Nat.shiftLeft_eq, Nat.mul_assoc, ← Nat.pow_add]
  have e2 : ((a.natAbs * 2 ^ (q + u) : Nat) : Int) = (a.natAbs : Int) * 2 ^ (q + u) := by push_cast; rfl
  unfold signed
  rw [e, e2]
  by_cases h0 : a = 0
  · subst h0; simp
  · have := hs h0
    subst this
    by_cases h1 : a < 0
    · rw [if_pos (by simpa using h1), show ((a.natAbs : Nat) : Int) = -a by omega, Int.neg_mul, Int.neg_neg]
    · rw [if_neg (by simpa using h1), show ((a.natAbs : Nat) : Int) = a by omega]
theorem pow_pos_int (M : Nat) : (0 : Int) < 2 ^ M := Int.pow_pos (by decide)
theorem dn_sum {d e : Datum} {a b : Int} (hd : Dn d a) (he : Dn e b) : ∃ r, d.sum e = some r ∧ Dn r (a + b) := by
  obtain ⟨s, p, rfl, hs⟩ := hd
  obtain ⟨t, q, rfl, ht⟩ := he
  refine ⟨_, rfl, ?_⟩
  have m1 : min (-(p : Int)) (-(q : Int)) = -((max p q : Nat) : Int) := by omega
  simp only [m1]
  obtain ⟨M, hM⟩ : ∃ M, max p q = M := ⟨_, rfl⟩
  rw [hM]
  rw [signed_dn s a p _ hs, signed_dn t b q _ ht]
  rw [show p + (-(p : Int) - -(M : Int)).toNat = M by omega, show q + (-(q : Int) - -(M : Int)).toNat = M by omega, ← Int.add_mul]
  have hp := pow_pos_int M
  refine ⟨_, M, by rw [Int.natAbs_mul, Int.natAbs_pow]; rfl, fun h0 => ?_⟩
  rw [if_neg (by intro h; rcases Int.mul_eq_zero.1 h with h | h <;> omega)]
  by_cases h1 : a + b < 0
  · rw [decide_eq_true h1, decide_eq_true (Int.mul_neg_of_neg_of_pos h1 hp)]
  · rw [decide_eq_false h1, decide_eq_false (by have := Int.mul_nonneg (show 0 ≤ a + b by omega) (Int.le_of_lt hp); omega)]
theorem dn_opp {d : Datum} {a : Int} (hd : Dn d a) : Dn d.opposite (-a) := by
  obtain ⟨s, p, rfl, hs⟩ := hd
  refine ⟨!s, p, by rw [Int.natAbs_neg]; rfl, fun h0 => ?_⟩
  rw [hs (by omega)]
  by_cases h1 : a < 0
  · rw [decide_eq_true h1, decide_eq_false (by omega)]; rfl
  · rw [decide_eq_false h1, decide_eq_true (by omega)]; rfl
theorem dn_prod {d e : Datum} {a b : Int} (hd : Dn d a) (he : Dn e b) : ∃ r, d.product e = some r ∧ Dn r (a * b) := by
  obtain ⟨s, p, rfl, hs⟩ := hd
  obtain ⟨t, q, rfl, ht⟩ := he
  refine ⟨_, rfl, s ^^ t, p + q, ?_, fun h0 => ?_⟩
  · congr 1
    · rw [Int.natAbs_mul, Nat.pow_add]
      simp only [Nat.mul_assoc, Nat.mul_left_comm, Nat.mul_comm]
    · omega
  · have ha : a ≠ 0 := fun h => h0 (by rw [h, Int.zero_mul])
    have hb : b ≠ 0 := fun h => h0 (by rw [h, Int.mul_zero])
    rw [hs ha, ht hb]
    rcases Int.lt_or_gt_of_ne ha with h1 | h1 <;> rcases Int.lt_or_gt_of_ne hb with h2 | h2
    · have := Int.mul_pos_of_neg_of_neg h1 h2
      rw [decide_eq_true h1, decide_eq_true h2, decide_eq_false (by omega)]; rfl
    · have := Int.mul_neg_of_neg_of_pos h1 h2
      rw [decide_eq_true h1, decide_eq_false (show ¬ b < 0 by omega), decide_eq_true this]; rfl
    · have := Int.mul_neg_of_pos_of_neg h1 h2
      rw [decide_eq_false (show ¬ a < 0 by omega), decide_eq_true h2, decide_eq_true this]; rfl
    · have := Int.mul_pos h1 h2
      rw [decide_eq_false (show ¬ a < 0 by omega), decide_eq_false (show ¬ b < 0 by omega), decide_eq_false (by omega)]; rfl
theorem compare_scale (a b : Int) (M : Nat) : compare (a * 2 ^ M) (b * 2 ^ M) = compare a b := by
  have hp := pow_pos_int M
  rcases Int.lt_trichotomy a b with h | h | h
  · rw [Int.compare_eq_lt.2 h, Int.compare_eq_lt.2 (Int.mul_lt_mul_of_pos_right h hp)]
  · subst h; rw [Int.compare_eq_eq.2 rfl, Int.compare_eq_eq.2 rfl]
  · rw [Int.compare_eq_gt.2 h, Int.compare_eq_gt.2 (Int.mul_lt_mul_of_pos_right h hp)]
theorem dn_order {d e : Datum} {a b : Int} (hd : Dn d a) (he : Dn e b) : d.order e = some (compare a b) := by
  obtain ⟨s, p, rfl, hs⟩ := hd
  obtain ⟨t, q, rfl, ht⟩ := he
  unfold Datum.order
  have m1 : min (-(p : Int)) (-(q : Int)) = -((max p q : Nat) : Int) := by omega
  simp only [m1]
  obtain ⟨M, hM⟩ : ∃ M, max p q = M := ⟨_, rfl⟩
  rw [hM, signed_dn s a p _ hs, signed_dn t b q _ ht]
  rw [show p + (-(p : Int) - -(M : Int)).toNat = M by omega, show q + (-(q : Int) - -(M : Int)).toNat = M by omega, compare_scale]
theorem dn_toInt {d : Datum} {a : Int} (hd : Dn d a) : d.toInt .zero = some a := by
  obtain ⟨s, p, rfl, hs⟩ := hd
  unfold Datum.toInt Datum.integral
  simp only
  rw [show (-(p : Int)).toNat = 0 by omega, Nat.shiftLeft_zero, show (- -(p : Int)).toNat = p by omega]
  have hc : Toward.zero.cut s (a.natAbs * 2 ^ p) p = a.natAbs := by
    refine cut_exact .zero s _ _ ?_
    by_cases h0 : a.natAbs = 0
    · exact Or.inl h0
    · exact Or.inr (by rw [log2_mul_pow _ _ (by omega)]; omega)
  rw [hc]
  have := signed_dn s a 0 0 hs
  simp only [Nat.pow_zero, Nat.mul_one, Int.pow_zero, Nat.add_zero, Int.mul_one] at this
  rw [this]

theorem fl_add {x y : Nat} {a b : Int} (hx : Fl x a) (hy : Fl y b) (h : (a + b).natAbs < 2 ^ 53) : ∃ r, floatBits .add .f64 x y = some r ∧ Fl r (a + b) := by
  obtain ⟨r, h1, h2⟩ := dn_sum hx hy
  exact ⟨_, by show (Datum.sum (double.read x) (double.read y)).map double.write = _; rw [h1]; rfl, dn_write h2 h⟩
theorem fl_sub {x y : Nat} {a b : Int} (hx : Fl x a) (hy : Fl y b) (h : (a - b).natAbs < 2 ^ 53) : ∃ r, floatBits .sub .f64 x y = some r ∧ Fl r (a - b) := by
  obtain ⟨r, h1, h2⟩ := dn_sum hx (dn_opp hy)
  exact ⟨_, by show (Datum.sum (double.read x) (double.read y).opposite).map double.write = _; rw [h1]; rfl, dn_write h2 h⟩
theorem fl_mul {x y : Nat} {a b : Int} (hx : Fl x a) (hy : Fl y b) (h : (a * b).natAbs < 2 ^ 53) : ∃ r, floatBits .mul .f64 x y = some r ∧ Fl r (a * b) := by
  obtain ⟨r, h1, h2⟩ := dn_prod hx hy
  exact ⟨_, by show (Datum.product (double.read x) (double.read y)).map double.write = _; rw [h1]; rfl, dn_write h2 h⟩
theorem fl_of (n : Int) (h : n.natAbs < 2 ^ 53) : Fl (FloatKind.f64.nearest n) n := by
  have := fl_nearest (decide (n < 0)) n.natAbs 0 n rfl h (fun _ => rfl)
  rw [Nat.pow_zero, Nat.mul_one] at this
  exact this
theorem fl_neg {x : Nat} {a : Int} (hx : Fl x a) : Fl (Op.negFloat .f64 x) (-a) := by
  have e : double.read (Op.negFloat .f64 x) = (double.read x).opposite := by
    have hs : double.signWeight = 2 ^ 63 := by decide +kernel
    have m1 : Op.negFloat .f64 x / double.signWeight % 2 = 1 - x / double.signWeight % 2 := by
      show (x ^^^ 2 ^ 63) / double.signWeight % 2 = _
      rw [hs, Nat.xor_div_two_pow]
      have := Nat.xor_mod_two_pow (a := x / 2 ^ 63) (b := 2 ^ 63 / 2 ^ 63) (n := 1)
      rw [Nat.pow_one] at this
      rw [this]
      rcases (show x / 2 ^ 63 % 2 = 0 ∨ x / 2 ^ 63 % 2 = 1 by omega) with h | h <;> rw [h] <;> rfl
    have m2 : Op.negFloat .f64 x % double.signWeight = x % double.signWeight := by
      show (x ^^^ 2 ^ 63) % double.signWeight = _
      rw [hs, Nat.xor_mod_two_pow, Nat.mod_self, Nat.xor_zero]
    unfold Format.read
    simp only [m1, m2]
    have m3 : (1 - x / double.signWeight % 2 == 1) = !(x / double.signWeight % 2 == 1) := by
      rcases (show x / double.signWeight % 2 = 0 ∨ x / double.signWeight % 2 = 1 by omega) with h | h <;> rw [h] <;> rfl
    rw [m3]
    split
    · rfl
    · split
      · rfl
      · split <;> rfl
  show Dn _ _
  rw [e]
  exact dn_opp hx
theorem fl_order {x y : Nat} {a b : Int} (hx : Fl x a) (hy : Fl y b) : FloatKind.f64.format.order x y = some (compare a b) := dn_order hx hy
theorem fl_int {x : Nat} {a : Int} (hx : Fl x a) (h0 : -9223372036854775808 ≤ a) (h1 : a ≤ 9223372036854775807) : floatToIntVal .f64 x .i64 = some a := by
  unfold floatToIntVal
  have : (FloatKind.f64.decode x).toInt .zero = some a := dn_toInt hx
  rw [this]
  simp only
  rw [if_pos ⟨h0, h1⟩]
theorem fl_most : Fl 4832362400168542208 1125899906842624 := ⟨false, 2, by decide +kernel, fun _ => by decide⟩
end Go.Proofs.Ytdpjpmlajjfpgaa.Flt
