/- The reference's letters, by its printed functions: the same as the program's. -/
import Derived.Test.YtlohonlcoedfhaaLettQ
import Derived.Test.YtlohonlcoedfhaaPLetterAllx4
import Derived.Test.YtlohonlcoedfhaaLettP
namespace Go.Proofs.Ytlohonlcoedfhaa.Lett
open Go.RowKit Go.Proofs.YtlohonlcoedfhaaW.PrintWords Go.Proofs.YtlohonlcoedfhaaW.PrintLast Go.Proofs.YtlohonlcoedfhaaW.PrintMore
set_option linter.unusedVariables false

theorem num_step (k : Nat) (l : List Int) (v x i j : Int) (hi : 0 ≤ i ∧ i < l.length) (hl : l.length ≤ 100) (hx : rd l i = x) (hj : i - 1 = j) (hx0 : 0 ≤ x ∧ x ≤ 255) (hv : 0 ≤ v ∧ v < 72057594037927936) :
    PLetterAll.presidioref1_Num.l0 (k + 1) l v i = PLetterAll.presidioref1_Num.l0 k l (v * 256 + x) j := by
  rw [PLetterAll.presidioref1_Num.l0, if_pos (by omega), if_pos (by omega), if_pos (by omega), hx, Bits.u64_nn (n := v * 256) (by omega) (by omega), Bits.u64_nn (n := x) (by omega) (by omega), Bits.u64_nn (by omega) (by omega), Bits.w64_in (by omega) (by omega), hj]
theorem num_end (k : Nat) (l : List Int) (v : Int) : PLetterAll.presidioref1_Num.l0 (k + 1) l v (-1) = some v := by
  rw [PLetterAll.presidioref1_Num.l0, if_neg (by omega)]
theorem num2 (k : Nat) (x y : Int) (h0 : 0 ≤ x ∧ x ≤ 255) (h1 : 0 ≤ y ∧ y ≤ 255) : PLetterAll.presidioref1_Num.f (k + 3) [x, y] = some (x + 256 * y) := by
  have h : wrap64 ((([x, y] : List Int).length : Int) - 1) = 1 := by rw [Bits.w64_in (by simp) (by simp)]; rfl
  unfold PLetterAll.presidioref1_Num.f
  rw [h]
  rw [num_step (k + 2) _ 0 y 1 0 (by simp) (by simp) rfl rfl h1 (by omega), num_step (k + 1) _ _ x 0 (-1) (by simp) (by simp) rfl rfl h0 (by omega), num_end]
  congr 1
  omega
theorem low_step (k : Nat) (v n i j : Int) (xs : List Int) (hi : 0 ≤ i ∧ i < n) (hn : n ≤ 100) (hj : i + 1 = j) (hl : xs.length ≤ 50) (hv : 0 ≤ v ∧ v ≤ 18446744073709551615) :
    PLetterAll.presidioref1_Low.l0 (k + 1) v n xs i = PLetterAll.presidioref1_Low.l0 k (v / 256) n (xs ++ [v % 256]) j := by
  rw [PLetterAll.presidioref1_Low.l0, if_pos (by omega), if_pos (by omega), Int.tdiv_eq_ediv_of_nonneg hv.1, Int.tmod_eq_emod_of_nonneg hv.1, Bits.u64_nn (by omega) (by omega), Bits.w64_in (by omega) (by omega), hj, show v % 256 % 256 = v % 256 by omega]
theorem low_end (k : Nat) (v n : Int) (xs : List Int) : PLetterAll.presidioref1_Low.l0 (k + 1) v n xs n = some xs := by
  rw [PLetterAll.presidioref1_Low.l0, if_neg (by omega)]
theorem low2 (g : Int) (hg : 0 ≤ g ∧ g ≤ 65535) : PLetterAll.presidioref1_Low.f 19 g 2 = some [g % 256, g / 256 % 256] := by
  show PLetterAll.presidioref1_Low.l0 19 g 2 [] 0 = _
  rw [low_step 18 g 2 0 1 _ (by omega) (by omega) rfl (by simp) (by omega), low_step 17 _ 2 1 2 _ (by omega) (by omega) rfl (by simp) (by omega), low_end]
  rfl
theorem rput_ok (f t : Int) (l : List Int) (hf : 0 ≤ f ∧ f ≤ 65535) (ht : 0 ≤ t ∧ t ≤ 65535) (hl : l.length ≤ 122) : PLetterAll.presidioref6_PutLetter.f 20 f t l = some (putB f t l, 0) := by
  unfold PLetterAll.presidioref6_PutLetter.f
  rw [if_neg (by omega), if_neg (by omega), if_neg (by omega), if_neg (by omega), decide_eq_false (by omega)]
  have h1 : (l.length : Int) % 256 = l.length := by omega
  have h2 : (l.length : Int) / 256 % 256 = 0 := by omega
  rw [PLetterAll.presidioref6_PutLetter.j0, if_neg (by decide), Bits.u64_nn (n := f) hf.1 (by omega), low2 f hf, Option.bind_some, Bits.u64_nn (n := t) ht.1 (by omega), low2 t ht, Option.bind_some, if_pos (by simp), Option.bind_some, Bits.u64_nn (n := (l.length : Int)) (by omega) (by omega), low2 (l.length : Int) (by omega), Option.bind_some, h1, h2, if_pos (by simp), Option.bind_some, if_pos (by simp; omega)]
  rfl
theorem put_bad (f t : Int) (l : List Int) (h : f < 0 ∨ 65535 < f ∨ t < 0 ∨ 65535 < t ∨ 122 < l.length) : PLetterBack.letter_Put.f 20 f t l = some ([], -2) := by
  have hj : PLetterBack.letter_Put.j0 20 true f t l = some ([], -2) := by rw [PLetterBack.letter_Put.j0, if_pos rfl]
  unfold PLetterBack.letter_Put.f
  by_cases h1 : f < 0
  · rw [if_pos h1, hj]
  rw [if_neg h1]
  by_cases h2 : f > 65535
  · rw [if_pos h2, hj]
  rw [if_neg h2]
  by_cases h3 : t < 0
  · rw [if_pos h3, hj]
  rw [if_neg h3]
  by_cases h4 : t > 65535
  · rw [if_pos h4, hj]
  rw [if_neg h4, decide_eq_true (by omega), hj]
theorem rput_bad (f t : Int) (l : List Int) (h : f < 0 ∨ 65535 < f ∨ t < 0 ∨ 65535 < t ∨ 122 < l.length) : PLetterAll.presidioref6_PutLetter.f 20 f t l = some ([], -2) := by
  have hj : PLetterAll.presidioref6_PutLetter.j0 20 true f t l = some ([], -2) := by rw [PLetterAll.presidioref6_PutLetter.j0, if_pos rfl]
  unfold PLetterAll.presidioref6_PutLetter.f
  by_cases h1 : f < 0
  · rw [if_pos h1, hj]
  rw [if_neg h1]
  by_cases h2 : f > 65535
  · rw [if_pos h2, hj]
  rw [if_neg h2]
  by_cases h3 : t < 0
  · rw [if_pos h3, hj]
  rw [if_neg h3]
  by_cases h4 : t > 65535
  · rw [if_pos h4, hj]
  rw [if_neg h4, decide_eq_true (by omega), hj]
theorem put_both (f t : Int) (l : List Int) : ∃ L e, PLetterBack.letter_Put.f 20 f t l = some (L, e) ∧ PLetterAll.presidioref6_PutLetter.f 20 f t l = some (L, e) := by
  by_cases h : f < 0 ∨ 65535 < f ∨ t < 0 ∨ 65535 < t ∨ 122 < l.length
  · exact ⟨[], -2, put_bad f t l h, rput_bad f t l h⟩
  · exact ⟨_, 0, put_ok f t l (by omega) (by omega) (by omega), rput_ok f t l (by omega) (by omega) (by omega)⟩
theorem take_big (l : List Int) (b4 b5 : Int) (h6 : 6 ≤ l.length) (e4 : rd l 4 = b4) (e5 : rd l 5 = b5) (q4 : 0 ≤ b4 ∧ b4 ≤ 255) (q5 : 0 ≤ b5 ∧ b5 ≤ 255) (h : 122 < b4 + 256 * b5) :
    PLetterBack.letter_Take.f l = some (0, 0, [], -2) := by
  unfold PLetterBack.letter_Take.f
  rw [if_neg (by omega), if_pos (by omega), if_pos (by omega), e4, e5, two_ok q4 q5, if_pos (by omega)]
theorem rtake_short (l : List Int) (h : l.length < 6) : PLetterAll.presidioref6_TakeLetter.f 20 l = some (0, 0, [], -2) := by
  unfold PLetterAll.presidioref6_TakeLetter.f
  rw [if_pos (by omega)]
theorem rtake_head (l : List Int) (b4 b5 : Int) (h6 : 6 ≤ l.length) (e : (l.take 6).drop 4 = [b4, b5]) (q4 : 0 ≤ b4 ∧ b4 ≤ 255) (q5 : 0 ≤ b5 ∧ b5 ≤ 255) :
    PLetterAll.presidioref6_TakeLetter.f 20 l = if b4 + 256 * b5 > 122 then PLetterAll.presidioref6_TakeLetter.j0 20 l (b4 + 256 * b5) true else PLetterAll.presidioref6_TakeLetter.j0 20 l (b4 + 256 * b5) (decide ((l.length : Int) < 6 + (b4 + 256 * b5))) := by
  have h2 : PLetterAll.presidioref1_Num.f 20 [b4, b5] = some (b4 + 256 * b5) := num2 17 b4 b5 q4 q5
  have w1 : wrap64 (b4 + 256 * b5) = b4 + 256 * b5 := Bits.w64_in (by omega) (by omega)
  have w2 : wrap64 (6 + (b4 + 256 * b5)) = 6 + (b4 + 256 * b5) := Bits.w64_in (by omega) (by omega)
  unfold PLetterAll.presidioref6_TakeLetter.f
  rw [if_neg (by omega), if_pos (by omega), if_pos (by omega), e, h2, Option.bind_some, w1, w2]
theorem rtake_bad (l : List Int) (b4 b5 : Int) (h6 : 6 ≤ l.length) (e : (l.take 6).drop 4 = [b4, b5]) (q4 : 0 ≤ b4 ∧ b4 ≤ 255) (q5 : 0 ≤ b5 ∧ b5 ≤ 255) (h : 122 < b4 + 256 * b5 ∨ (l.length : Int) - 6 < b4 + 256 * b5) :
    PLetterAll.presidioref6_TakeLetter.f 20 l = some (0, 0, [], -2) := by
  have hj : PLetterAll.presidioref6_TakeLetter.j0 20 l (b4 + 256 * b5) true = some (0, 0, [], -2) := by rw [PLetterAll.presidioref6_TakeLetter.j0, if_pos rfl]
  rw [rtake_head l b4 b5 h6 e q4 q5]
  by_cases h1 : b4 + 256 * b5 > 122
  · rw [if_pos h1, hj]
  · rw [if_neg h1, decide_eq_true (by omega), hj]
theorem rtake_j (l a b : List Int) (x y : Int) (n : Nat) (hl : l.length ≤ 1000) (d0 : l.take 2 = a) (d2 : (l.take 4).drop 2 = b) (k0 : PLetterAll.presidioref1_Num.f 19 a = some x) (k2 : PLetterAll.presidioref1_Num.f 19 b = some y)
    (w0 : wrap64 x = x) (w2 : wrap64 y = y) (h1 : n ≤ 122) (h2 : n + 6 ≤ l.length) :
    PLetterAll.presidioref6_TakeLetter.j0 (19 + 1) l (n : Int) false = some (x, y, (l.take (n + 6)).drop 6, 0) := by
  have hw : wrap64 (6 + (n : Int)) = ((n + 6 : Nat) : Int) := by rw [Bits.w64_in (by omega) (by omega)]; omega
  have c1 : (2 : Int) ≤ (l.length : Int) := by omega
  have c2 : (4 : Int) ≤ (l.length : Int) := by omega
  have c3 : (6 : Int) ≤ ((n + 6 : Nat) : Int) := by omega
  have c4 : ((n + 6 : Nat) : Int) ≤ (l.length : Int) := by omega
  have d6 : ([] : List Int).length + ((l.take (n + 6)).drop 6).length < 140737488355328 := by rw [List.length_drop, List.length_take]; simp only [List.length_nil]; omega
  rw [PLetterAll.presidioref6_TakeLetter.j0, if_neg (by decide), if_pos c1, d0, k0, Option.bind_some, if_pos (by decide), if_pos c2, d2, k2, Option.bind_some, Option.bind_some, hw, if_pos c3, if_pos c4, Int.toNat_natCast, if_pos d6, w0, w2, List.nil_append]
theorem rtake_good (l : List Int) (b0 b1 b2 b3 b4 b5 : Int) (n : Nat) (hl : l.length ≤ 1000) (d0 : l.take 2 = [b0, b1]) (d2 : (l.take 4).drop 2 = [b2, b3]) (d4 : (l.take 6).drop 4 = [b4, b5])
    (q0 : 0 ≤ b0 ∧ b0 ≤ 255) (q1 : 0 ≤ b1 ∧ b1 ≤ 255) (q2 : 0 ≤ b2 ∧ b2 ≤ 255) (q3 : 0 ≤ b3 ∧ b3 ≤ 255) (q4 : 0 ≤ b4 ∧ b4 ≤ 255) (q5 : 0 ≤ b5 ∧ b5 ≤ 255) (hn : b4 + 256 * b5 = (n : Int)) (h1 : n ≤ 122) (h2 : n + 6 ≤ l.length) :
    PLetterAll.presidioref6_TakeLetter.f 20 l = some (b0 + 256 * b1, b2 + 256 * b3, (l.take (n + 6)).drop 6, 0) := by
  have hj := rtake_j l [b0, b1] [b2, b3] (b0 + 256 * b1) (b2 + 256 * b3) n hl d0 d2 (num2 16 b0 b1 q0 q1) (num2 16 b2 b3 q2 q3) (Bits.w64_in (by omega) (by omega)) (Bits.w64_in (by omega) (by omega)) h1 h2
  rw [rtake_head l b4 b5 (by omega) d4 q4 q5, hn, if_neg (by omega), decide_eq_false (by omega)]
  exact hj
theorem take_both (l : List Int) (hl : l.length ≤ 1000) (hw : ∀ x ∈ l, 0 ≤ x ∧ x ≤ 255) : ∃ f t X e, PLetterBack.letter_Take.f l = some (f, t, X, e) ∧ PLetterAll.presidioref6_TakeLetter.f 20 l = some (f, t, X, e) := by
  by_cases h : l.length < 6
  · exact ⟨0, 0, [], -2, take_short l h, rtake_short l h⟩
  · match l, h, hl, hw with
    | [], h, _, _ => exact absurd (by simp) h
    | [_], h, _, _ => exact absurd (by simp) h
    | [_, _], h, _, _ => exact absurd (by simp) h
    | [_, _, _], h, _, _ => exact absurd (by simp) h
    | [_, _, _, _], h, _, _ => exact absurd (by simp) h
    | [_, _, _, _, _], h, _, _ => exact absurd (by simp) h
    | b0 :: b1 :: b2 :: b3 :: b4 :: b5 :: r, h, hl, hw =>
      have q0 := hw b0 (by simp)
      have q1 := hw b1 (by simp)
      have q2 := hw b2 (by simp)
      have q3 := hw b3 (by simp)
      have q4 := hw b4 (by simp)
      have q5 := hw b5 (by simp)
      clear hw
      obtain ⟨l, hL⟩ : ∃ l, b0 :: b1 :: b2 :: b3 :: b4 :: b5 :: r = l := ⟨_, rfl⟩
      have e0 : rd l 0 = b0 := by rw [← hL]; rfl
      have e1 : rd l 1 = b1 := by rw [← hL]; rfl
      have e2 : rd l 2 = b2 := by rw [← hL]; rfl
      have e3 : rd l 3 = b3 := by rw [← hL]; rfl
      have e4 : rd l 4 = b4 := by rw [← hL]; rfl
      have e5 : rd l 5 = b5 := by rw [← hL]; rfl
      have d0 : l.take 2 = [b0, b1] := by rw [← hL]; rfl
      have d2 : (l.take 4).drop 2 = [b2, b3] := by rw [← hL]; rfl
      have d4 : (l.take 6).drop 4 = [b4, b5] := by rw [← hL]; rfl
      rw [hL] at h hl ⊢
      clear hL
      by_cases h1 : 122 < b4 + 256 * b5
      · exact ⟨0, 0, [], -2, take_big l b4 b5 (by omega) e4 e5 q4 q5 h1, rtake_bad l b4 b5 (by omega) d4 q4 q5 (Or.inl h1)⟩
      by_cases h2 : (l.length : Int) - 6 < b4 + 256 * b5
      · exact ⟨0, 0, [], -2, take_bad l b4 b5 (by omega) hl e4 e5 q4 q5 h2, rtake_bad l b4 b5 (by omega) d4 q4 q5 (Or.inr h2)⟩
      obtain ⟨n, hn⟩ : ∃ n : Nat, b4 + 256 * b5 = (n : Int) := ⟨(b4 + 256 * b5).toNat, by omega⟩
      exact ⟨_, _, _, _, take_good l b0 b1 b2 b3 b4 b5 n hl e0 e1 e2 e3 e4 e5 q0 q1 q2 q3 q4 q5 hn (by omega) (by omega), rtake_good l b0 b1 b2 b3 b4 b5 n hl d0 d2 d4 q0 q1 q2 q3 q4 q5 hn (by omega) (by omega)⟩
end Go.Proofs.Ytlohonlcoedfhaa.Lett
