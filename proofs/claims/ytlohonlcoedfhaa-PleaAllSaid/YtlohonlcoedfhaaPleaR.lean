/- The reference's pleas, by its printed functions: the same as the program's. -/
import Derived.Test.YtlohonlcoedfhaaPPleaAllx3
import Derived.Test.YtlohonlcoedfhaaPleaP
namespace Go.Proofs.Ytlohonlcoedfhaa.Plea
open Go.RowKit Go.Proofs.YtlohonlcoedfhaaW.PrintWords Go.Proofs.YtlohonlcoedfhaaW.PrintLast Go.Proofs.YtlohonlcoedfhaaW.PrintMore
set_option linter.unusedVariables false

theorem num_step (k : Nat) (l : List Int) (v x i j : Int) (hi : 0 ≤ i ∧ i < l.length) (hl : l.length ≤ 100) (hx : rd l i = x) (hj : i - 1 = j) (hx0 : 0 ≤ x ∧ x ≤ 255) (hv : 0 ≤ v ∧ v < 72057594037927936) :
    PPleaAll.presidioref1_Num.l0 (k + 1) l v i = PPleaAll.presidioref1_Num.l0 k l (v * 256 + x) j := by
  rw [PPleaAll.presidioref1_Num.l0, if_pos (by omega), if_pos (by omega), if_pos (by omega), hx, Bits.u64_nn (n := v * 256) (by omega) (by omega), Bits.u64_nn (n := x) (by omega) (by omega), Bits.u64_nn (by omega) (by omega), Bits.w64_in (by omega) (by omega), hj]
theorem num_end (k : Nat) (l : List Int) (v : Int) : PPleaAll.presidioref1_Num.l0 (k + 1) l v (-1) = some v := by
  rw [PPleaAll.presidioref1_Num.l0, if_neg (by omega)]
theorem num8 (b0 b1 b2 b3 b4 b5 b6 b7 : Int) (h0 : 0 ≤ b0 ∧ b0 ≤ 255) (h1 : 0 ≤ b1 ∧ b1 ≤ 255) (h2 : 0 ≤ b2 ∧ b2 ≤ 255) (h3 : 0 ≤ b3 ∧ b3 ≤ 255) (h4 : 0 ≤ b4 ∧ b4 ≤ 255) (h5 : 0 ≤ b5 ∧ b5 ≤ 255) (h6 : 0 ≤ b6 ∧ b6 ≤ 255) (h7 : 0 ≤ b7 ∧ b7 ≤ 255) :
    PPleaAll.presidioref1_Num.f 20 [b0, b1, b2, b3, b4, b5, b6, b7] = some (takeM b0 b1 b2 b3 b4 b5 b6 b7) := by
  have h : wrap64 ((([b0, b1, b2, b3, b4, b5, b6, b7] : List Int).length : Int) - 1) = 7 := by rw [Bits.w64_in (by simp) (by simp)]; rfl
  unfold PPleaAll.presidioref1_Num.f
  rw [h]
  rw [num_step 19 _ 0 b7 7 6 (by simp) (by simp) rfl rfl h7 (by omega), num_step 18 _ _ b6 6 5 (by simp) (by simp) rfl rfl h6 (by omega), num_step 17 _ _ b5 5 4 (by simp) (by simp) rfl rfl h5 (by omega),
    num_step 16 _ _ b4 4 3 (by simp) (by simp) rfl rfl h4 (by omega), num_step 15 _ _ b3 3 2 (by simp) (by simp) rfl rfl h3 (by omega), num_step 14 _ _ b2 2 1 (by simp) (by simp) rfl rfl h2 (by omega),
    num_step 13 _ _ b1 1 0 (by simp) (by simp) rfl rfl h1 (by omega), num_step 12 _ _ b0 0 (-1) (by simp) (by simp) rfl rfl h0 (by omega), num_end]
  congr 1
  unfold takeM
  omega
theorem num2 (x y : Int) (h0 : 0 ≤ x ∧ x ≤ 255) (h1 : 0 ≤ y ∧ y ≤ 255) : PPleaAll.presidioref1_Num.f 20 [x, y] = some (x + 256 * y) := by
  have h : wrap64 ((([x, y] : List Int).length : Int) - 1) = 1 := by rw [Bits.w64_in (by simp) (by simp)]; rfl
  unfold PPleaAll.presidioref1_Num.f
  rw [h]
  rw [num_step 19 _ 0 y 1 0 (by simp) (by simp) rfl rfl h1 (by omega), num_step 18 _ _ x 0 (-1) (by simp) (by simp) rfl rfl h0 (by omega), num_end]
  congr 1
  omega
theorem rtake_ok (b0 b1 b2 b3 b4 b5 b6 b7 b8 b9 b10 : Int) (h0 : 0 ≤ b0 ∧ b0 ≤ 255) (h1 : 0 ≤ b1 ∧ b1 ≤ 255) (h2 : 0 ≤ b2 ∧ b2 ≤ 255) (h3 : 0 ≤ b3 ∧ b3 ≤ 255) (h4 : 0 ≤ b4 ∧ b4 ≤ 255) (h5 : 0 ≤ b5 ∧ b5 ≤ 255)
    (h6 : 0 ≤ b6 ∧ b6 ≤ 255) (h7 : 0 ≤ b7 ∧ b7 ≤ 255) (h8 : 0 ≤ b8 ∧ b8 ≤ 255) (h9 : 0 ≤ b9 ∧ b9 ≤ 255) (h10 : 0 ≤ b10 ∧ b10 ≤ 255) :
    PPleaAll.presidioref18_TakePlea.f 20 [b0, b1, b2, b3, b4, b5, b6, b7, b8, b9, b10] = some (takeM b0 b1 b2 b3 b4 b5 b6 b7, b8, b9 + 256 * b10, 0) := by
  unfold PPleaAll.presidioref18_TakePlea.f
  rw [if_pos (by simp), if_pos (by simp)]
  show (PPleaAll.presidioref1_Num.f 20 [b0, b1, b2, b3, b4, b5, b6, b7]).bind _ = _
  rw [num8 b0 b1 b2 b3 b4 b5 b6 b7 h0 h1 h2 h3 h4 h5 h6 h7, Option.bind_some, if_pos (by simp), if_pos (by simp)]
  show (PPleaAll.presidioref1_Num.f 20 [b9, b10]).bind _ = _
  rw [num2 b9 b10 h9 h10, Option.bind_some, Bits.w64_in (n := b9 + 256 * b10) (by omega) (by omega)]
  show some (_, wrap64 b8, _, _) = _
  rw [Bits.w64_in (by omega) (by omega)]
theorem rtake_no (l : List Int) (h : l.length ≠ 11) : PPleaAll.presidioref18_TakePlea.f 20 l = some (0, 0, 0, -2) := by
  unfold PPleaAll.presidioref18_TakePlea.f
  rw [if_neg (by omega)]
theorem low_step (k : Nat) (v n i j : Int) (xs : List Int) (hi : 0 ≤ i ∧ i < n) (hn : n ≤ 100) (hj : i + 1 = j) (hl : xs.length ≤ 50) (hv : 0 ≤ v ∧ v ≤ 18446744073709551615) :
    PPleaAll.presidioref1_Low.l0 (k + 1) v n xs i = PPleaAll.presidioref1_Low.l0 k (v / 256) n (xs ++ [v % 256]) j := by
  rw [PPleaAll.presidioref1_Low.l0, if_pos (by omega), if_pos (by omega), Int.tdiv_eq_ediv_of_nonneg hv.1, Int.tmod_eq_emod_of_nonneg hv.1, Bits.u64_nn (by omega) (by omega), Bits.w64_in (by omega) (by omega), hj, show v % 256 % 256 = v % 256 by omega]
theorem low_end (k : Nat) (v n : Int) (xs : List Int) : PPleaAll.presidioref1_Low.l0 (k + 1) v n xs n = some xs := by
  rw [PPleaAll.presidioref1_Low.l0, if_neg (by omega)]
theorem low8 (m : Int) (hm : 0 ≤ m ∧ m ≤ 18446744073709551615) : PPleaAll.presidioref1_Low.f 19 m 8 = some [m % 256, m / 256 % 256, m / 256 / 256 % 256, m / 256 / 256 / 256 % 256, m / 256 / 256 / 256 / 256 % 256, m / 256 / 256 / 256 / 256 / 256 % 256, m / 256 / 256 / 256 / 256 / 256 / 256 % 256, m / 256 / 256 / 256 / 256 / 256 / 256 / 256 % 256] := by
  show PPleaAll.presidioref1_Low.l0 19 m 8 [] 0 = _
  rw [low_step 18 m 8 0 1 _ (by omega) (by omega) rfl (by simp) hm, low_step 17 _ 8 1 2 _ (by omega) (by omega) rfl (by simp) (by omega), low_step 16 _ 8 2 3 _ (by omega) (by omega) rfl (by simp) (by omega), low_step 15 _ 8 3 4 _ (by omega) (by omega) rfl (by simp) (by omega),
    low_step 14 _ 8 4 5 _ (by omega) (by omega) rfl (by simp) (by omega), low_step 13 _ 8 5 6 _ (by omega) (by omega) rfl (by simp) (by omega), low_step 12 _ 8 6 7 _ (by omega) (by omega) rfl (by simp) (by omega), low_step 11 _ 8 7 8 _ (by omega) (by omega) rfl (by simp) (by omega), low_end]
  rfl
theorem low2 (g : Int) (hg : 0 ≤ g ∧ g ≤ 65535) : PPleaAll.presidioref1_Low.f 19 g 2 = some [g % 256, g / 256 % 256] := by
  show PPleaAll.presidioref1_Low.l0 19 g 2 [] 0 = _
  rw [low_step 18 g 2 0 1 _ (by omega) (by omega) rfl (by simp) (by omega), low_step 17 _ 2 1 2 _ (by omega) (by omega) rfl (by simp) (by omega), low_end]
  rfl
theorem rput_ok (m p g : Int) (hm : 0 ≤ m ∧ m ≤ 18446744073709551615) (hp : 0 ≤ p ∧ p ≤ 255) (hg : 0 ≤ g ∧ g ≤ 65535) : PPleaAll.presidioref18_PutPlea.f 20 m p g = some (putL m p g) := by
  unfold PPleaAll.presidioref18_PutPlea.f
  rw [if_neg (by omega), if_neg (by omega), if_neg (by omega), decide_eq_false (by omega)]
  rw [PPleaAll.presidioref18_PutPlea.j0, if_neg (by decide), low8 m hm, Option.bind_some, Option.bind_some, if_pos (by simp), Option.bind_some, Bits.u64_nn hg.1 (by omega), low2 g hg, Option.bind_some, if_pos (by simp)]
  congr 1
  simp only [putL, List.cons_append, List.nil_append, List.cons.injEq, and_true]
  (repeat' apply And.intro) <;> first | trivial | rfl | omega | (simp; omega)
theorem rput_no (m p g : Int) (h : p < 0 ∨ 255 < p ∨ g < 0 ∨ 65535 < g) : PPleaAll.presidioref18_PutPlea.f 20 m p g = some [] := by
  have hj : PPleaAll.presidioref18_PutPlea.j0 20 true m p g = some [] := by rw [PPleaAll.presidioref18_PutPlea.j0, if_pos rfl]
  unfold PPleaAll.presidioref18_PutPlea.f
  by_cases h1 : p < 0
  · rw [if_pos h1, hj]
  rw [if_neg h1]
  by_cases h2 : p > 255
  · rw [if_pos h2, hj]
  rw [if_neg h2]
  by_cases h3 : g < 0
  · rw [if_pos h3, hj]
  rw [if_neg h3, decide_eq_true (by omega), hj]
theorem put_both (m p g : Int) (hm : 0 ≤ m ∧ m ≤ 18446744073709551615) : ∃ L, PPleaForms.plea_Put.f 20 m p g = some L ∧ PPleaAll.presidioref18_PutPlea.f 20 m p g = some L ∧ L.length ≤ 11 := by
  by_cases h : p < 0 ∨ 255 < p ∨ g < 0 ∨ 65535 < g
  · exact ⟨[], put_no m p g h, rput_no m p g h, by simp⟩
  · exact ⟨_, put_ok m p g (by omega) (by omega), rput_ok m p g hm (by omega) (by omega), by simp [putL]⟩
theorem take_both (l : List Int) (hw : ∀ x ∈ l, 0 ≤ x ∧ x ≤ 255) : ∃ m p g e, PPleaForms.plea_Take.f 20 l = some (m, p, g, e) ∧ PPleaAll.presidioref18_TakePlea.f 20 l = some (m, p, g, e) := by
  by_cases h : l.length = 11
  · match l, h, hw with
    | [b0, b1, b2, b3, b4, b5, b6, b7, b8, b9, b10], _, hw =>
      have q0 := hw b0 (by simp)
      have q1 := hw b1 (by simp)
      have q2 := hw b2 (by simp)
      have q3 := hw b3 (by simp)
      have q4 := hw b4 (by simp)
      have q5 := hw b5 (by simp)
      have q6 := hw b6 (by simp)
      have q7 := hw b7 (by simp)
      have q8 := hw b8 (by simp)
      have q9 := hw b9 (by simp)
      have q10 := hw b10 (by simp)
      exact ⟨_, _, _, _, take_ok b0 b1 b2 b3 b4 b5 b6 b7 b8 b9 b10 q0 q1 q2 q3 q4 q5 q6 q7 q8 q9 q10, rtake_ok b0 b1 b2 b3 b4 b5 b6 b7 b8 b9 b10 q0 q1 q2 q3 q4 q5 q6 q7 q8 q9 q10⟩
  · exact ⟨0, 0, 0, -2, take_no l h, rtake_no l h⟩
end Go.Proofs.Ytlohonlcoedfhaa.Plea
