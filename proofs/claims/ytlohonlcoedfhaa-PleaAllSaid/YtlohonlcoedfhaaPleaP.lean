/- What pleas are as bytes, by the printed functions of package plea: plain laws. -/
import Derived.Test.YtlohonlcoedfhaaPPleaFormsx3
import Derived.Test.YtlohonlcoedfhaaBits
namespace Go.Proofs.Ytlohonlcoedfhaa.Plea
open Go.RowKit Go.Proofs.Ytlohonlcoedfhaa.PPleaForms Go.Proofs.YtlohonlcoedfhaaW.PrintWords Go.Proofs.YtlohonlcoedfhaaW.PrintLast Go.Proofs.YtlohonlcoedfhaaW.PrintMore
set_option linter.unusedVariables false

theorem shr8 (m : Int) (i : Nat) (hi : i < 8) : shr .u64 m (wrap64 (8 * (i : Int))) = m / 2 ^ (8 * i) := by
  have h1 : wrap64 (8 * (i : Int)) = 8 * (i : Int) := Bits.w64_in (by omega) (by omega)
  rw [h1]
  unfold shr
  have h2 : (8 * (i : Int)).toNat = 8 * i := by omega
  rw [h2, Nat.min_eq_left (show 8 * i ≤ IntKind.u64.bits by show 8 * i ≤ 64; omega)]
theorem put_step (k i : Nat) (xs : List Int) (m p g : Int) (hi : i < 8) (hl : xs.length ≤ 20) :
    plea_Put.l0 (k + 1) xs (i : Int) m p g = plea_Put.l0 k (xs ++ [m / 2 ^ (8 * i) % 256]) ((i + 1 : Nat) : Int) m p g := by
  have h1 : wrap64 (8 * (i : Int)) = 8 * (i : Int) := Bits.w64_in (by omega) (by omega)
  have h2 : wrap64 ((i : Int) + 1) = ((i + 1 : Nat) : Int) := by rw [Bits.w64_in (by omega) (by omega)]; omega
  rw [plea_Put.l0, if_pos (by omega), if_pos (by rw [h1]; omega), if_pos (by omega), shr8 m i hi, h2]
theorem put_end (k : Nat) (xs : List Int) (m p g : Int) (hl : xs.length ≤ 20) : plea_Put.l0 (k + 1) xs ((8 : Nat) : Int) m p g = some (xs ++ [p % 256, g % 256, g / 256 % 256]) := by
  rw [plea_Put.l0, if_neg (by omega), Option.bind_some, if_pos (by simp; omega)]
def putL (m p g : Int) : List Int := [m / 2 ^ 0 % 256, m / 2 ^ 8 % 256, m / 2 ^ 16 % 256, m / 2 ^ 24 % 256, m / 2 ^ 32 % 256, m / 2 ^ 40 % 256, m / 2 ^ 48 % 256, m / 2 ^ 56 % 256, p % 256, g % 256, g / 256 % 256]
theorem put_ok (m p g : Int) (hp : 0 ≤ p ∧ p ≤ 255) (hg : 0 ≤ g ∧ g ≤ 65535) : plea_Put.f 20 m p g = some (putL m p g) := by
  unfold plea_Put.f
  rw [if_neg (by omega), if_neg (by omega), if_neg (by omega), decide_eq_false (by omega)]
  rw [plea_Put.j0, if_neg (by decide)]
  show plea_Put.l0 19 [] ((0 : Nat) : Int) m p g = _
  rw [put_step 18 0 _ m p g (by omega) (by simp), put_step 17 _ _ m p g (by omega) (by simp), put_step 16 _ _ m p g (by omega) (by simp), put_step 15 _ _ m p g (by omega) (by simp),
    put_step 14 _ _ m p g (by omega) (by simp), put_step 13 _ _ m p g (by omega) (by simp), put_step 12 _ _ m p g (by omega) (by simp), put_step 11 _ _ m p g (by omega) (by simp), put_end 10 _ m p g (by simp)]
  rfl
theorem put_no (m p g : Int) (h : p < 0 ∨ 255 < p ∨ g < 0 ∨ 65535 < g) : plea_Put.f 20 m p g = some [] := by
  have hj : plea_Put.j0 20 true m p g = some [] := by rw [plea_Put.j0, if_pos rfl]
  unfold plea_Put.f
  by_cases h1 : p < 0
  · rw [if_pos h1, hj]
  rw [if_neg h1]
  by_cases h2 : p > 255
  · rw [if_pos h2, hj]
  rw [if_neg h2]
  by_cases h3 : g < 0
  · rw [if_pos h3, hj]
  rw [if_neg h3, decide_eq_true (by omega), hj]

theorem take_step (k i : Nat) (l : List Int) (acc a b x : Int) (hi : i < 8) (hl : l.length = 11) (hx : rd l (i : Int) = x) (hx0 : 0 ≤ x ∧ x ≤ 255) (ha : 0 ≤ acc ∧ acc < 2 ^ (8 * i)) :
    plea_Take.l0 (k + 1) l (i : Int) acc a b = plea_Take.l0 k l ((i + 1 : Nat) : Int) (x * 2 ^ (8 * i) + acc) a b := by
  have h1 : wrap64 (8 * (i : Int)) = 8 * (i : Int) := Bits.w64_in (by omega) (by omega)
  have h2 : wrap64 ((i : Int) + 1) = ((i + 1 : Nat) : Int) := by rw [Bits.w64_in (by omega) (by omega)]; omega
  have hpow : (2 : Int) ^ (8 * i) ≤ 2 ^ 56 := by exact_mod_cast Nat.pow_le_pow_right (by decide) (show 8 * i ≤ 56 by omega)
  have hpos : (0 : Int) < 2 ^ (8 * i) := Int.pow_pos (by decide)
  have hm0 : 0 ≤ x * 2 ^ (8 * i) := Int.mul_nonneg hx0.1 (by omega)
  have hm1 : x * 2 ^ (8 * i) ≤ 255 * 2 ^ 56 := Int.mul_le_mul hx0.2 hpow (by omega) (by decide)
  have hsh : shl .u64 (IntKind.u64.wrap x) (8 * (i : Int)) = x * 2 ^ (8 * i) := by
    unfold shl
    rw [Bits.u64_nn hx0.1 (by omega), show (8 * (i : Int)).toNat = 8 * i by omega, Nat.min_eq_left (show 8 * i ≤ IntKind.u64.bits by show 8 * i ≤ 64; omega)]
    exact Bits.u64_nn hm0 (by omega)
  have hor : Go.bits .or .u64 acc (x * 2 ^ (8 * i)) = x * 2 ^ (8 * i) + acc := by
    rw [Bits.or_comm]
    exact Bits.join_u64 (8 * i) _ _ hm0 (Int.mul_emod_left _ _) (by omega) ha.1 ha.2 (by omega)
  rw [plea_Take.l0, if_pos (by omega), if_pos (by omega), if_pos (by omega), if_pos (by rw [h1]; omega), hx, h1, h2, hsh, hor]
theorem take_end (k : Nat) (l : List Int) (acc x y z : Int) (hl : l.length = 11) (hx : rd l 8 = x) (hy : rd l 9 = y) (hz : rd l 10 = z) (hx0 : 0 ≤ x ∧ x ≤ 255) (hy0 : 0 ≤ y ∧ y ≤ 255) (hz0 : 0 ≤ z ∧ z ≤ 255) :
    plea_Take.l0 (k + 1) l ((8 : Nat) : Int) acc 0 0 = some (acc, x, z * 256 + y, 0) := by
  have hor : Go.bits .or .i64 y (z * 256) = z * 256 + y := by
    rw [Bits.or_comm]
    exact Bits.join_i64 8 _ _ (by omega) (by omega) (by omega) (by omega) (by omega) (by omega)
  rw [plea_Take.l0, if_neg (by omega), if_pos (by omega), if_pos (by omega), if_pos (by omega), hx, hy, hz, Bits.w64_in (by omega) (by omega), Bits.w64_in (n := y) (by omega) (by omega), Bits.w64_in (n := z) (by omega) (by omega), Bits.w64_in (by omega) (by omega), hor]
def takeM (b0 b1 b2 b3 b4 b5 b6 b7 : Int) : Int := b0 + 256 * b1 + 65536 * b2 + 16777216 * b3 + 4294967296 * b4 + 1099511627776 * b5 + 281474976710656 * b6 + 72057594037927936 * b7
theorem take_ok (b0 b1 b2 b3 b4 b5 b6 b7 b8 b9 b10 : Int) (h0 : 0 ≤ b0 ∧ b0 ≤ 255) (h1 : 0 ≤ b1 ∧ b1 ≤ 255) (h2 : 0 ≤ b2 ∧ b2 ≤ 255) (h3 : 0 ≤ b3 ∧ b3 ≤ 255) (h4 : 0 ≤ b4 ∧ b4 ≤ 255) (h5 : 0 ≤ b5 ∧ b5 ≤ 255)
    (h6 : 0 ≤ b6 ∧ b6 ≤ 255) (h7 : 0 ≤ b7 ∧ b7 ≤ 255) (h8 : 0 ≤ b8 ∧ b8 ≤ 255) (h9 : 0 ≤ b9 ∧ b9 ≤ 255) (h10 : 0 ≤ b10 ∧ b10 ≤ 255) :
    plea_Take.f 20 [b0, b1, b2, b3, b4, b5, b6, b7, b8, b9, b10] = some (takeM b0 b1 b2 b3 b4 b5 b6 b7, b8, b9 + 256 * b10, 0) := by
  obtain ⟨l, hl⟩ : ∃ l, l = [b0, b1, b2, b3, b4, b5, b6, b7, b8, b9, b10] := ⟨_, rfl⟩
  have hlen : l.length = 11 := by rw [hl]; rfl
  have e : ∀ j : Nat, j < 11 → rd l (j : Int) = [b0, b1, b2, b3, b4, b5, b6, b7, b8, b9, b10].getD j 0 := fun j _ => by rw [hl]; rfl
  rw [← hl]
  unfold plea_Take.f
  rw [if_pos (by omega)]
  show plea_Take.l0 20 l ((0 : Nat) : Int) 0 0 0 = _
  rw [take_step 19 0 l _ 0 0 b0 (by omega) hlen (e 0 (by omega)) h0 (by simp), take_step 18 1 l _ 0 0 b1 (by omega) hlen (e 1 (by omega)) h1 (by simp; omega),
    take_step 17 2 l _ 0 0 b2 (by omega) hlen (e 2 (by omega)) h2 (by simp; omega), take_step 16 3 l _ 0 0 b3 (by omega) hlen (e 3 (by omega)) h3 (by simp; omega),
    take_step 15 4 l _ 0 0 b4 (by omega) hlen (e 4 (by omega)) h4 (by simp; omega), take_step 14 5 l _ 0 0 b5 (by omega) hlen (e 5 (by omega)) h5 (by simp; omega),
    take_step 13 6 l _ 0 0 b6 (by omega) hlen (e 6 (by omega)) h6 (by simp; omega), take_step 12 7 l _ 0 0 b7 (by omega) hlen (e 7 (by omega)) h7 (by simp; omega),
    take_end 11 l _ b8 b9 b10 hlen (e 8 (by omega)) (e 9 (by omega)) (e 10 (by omega)) h8 h9 h10]
  simp only [takeM, Option.some.injEq, Prod.mk.injEq]
  refine ⟨?_, trivial, by omega, trivial⟩
  simp
  omega
theorem take_no (l : List Int) (h : l.length ≠ 11) : plea_Take.f 20 l = some (0, 0, 0, -2) := by
  unfold plea_Take.f
  rw [if_neg (by omega)]
theorem take_put (m p g : Int) (hm : 0 ≤ m ∧ m ≤ 18446744073709551615) (hp : 0 ≤ p ∧ p ≤ 255) (hg : 0 ≤ g ∧ g ≤ 65535) : plea_Take.f 20 (putL m p g) = some (m, p, g, 0) := by
  unfold putL
  rw [take_ok _ _ _ _ _ _ _ _ _ _ _ (by omega) (by omega) (by omega) (by omega) (by omega) (by omega) (by omega) (by omega) (by omega) (by omega) (by omega)]
  simp only [takeM, Option.some.injEq, Prod.mk.injEq]
  refine ⟨?_, by omega, by omega, trivial⟩
  simp
  omega
theorem putL_take (b0 b1 b2 b3 b4 b5 b6 b7 b8 b9 b10 : Int) (h0 : 0 ≤ b0 ∧ b0 ≤ 255) (h1 : 0 ≤ b1 ∧ b1 ≤ 255) (h2 : 0 ≤ b2 ∧ b2 ≤ 255) (h3 : 0 ≤ b3 ∧ b3 ≤ 255) (h4 : 0 ≤ b4 ∧ b4 ≤ 255) (h5 : 0 ≤ b5 ∧ b5 ≤ 255)
    (h6 : 0 ≤ b6 ∧ b6 ≤ 255) (h7 : 0 ≤ b7 ∧ b7 ≤ 255) (h8 : 0 ≤ b8 ∧ b8 ≤ 255) (h9 : 0 ≤ b9 ∧ b9 ≤ 255) (h10 : 0 ≤ b10 ∧ b10 ≤ 255) :
    putL (takeM b0 b1 b2 b3 b4 b5 b6 b7) b8 (b9 + 256 * b10) = [b0, b1, b2, b3, b4, b5, b6, b7, b8, b9, b10] := by
  unfold putL takeM
  simp only [List.cons.injEq, and_true]
  refine ⟨?_, ?_, ?_, ?_, ?_, ?_, ?_, ?_, ?_, ?_, ?_⟩ <;> first | omega | (simp; omega)
end Go.Proofs.Ytlohonlcoedfhaa.Plea
