/- What letters are as bytes, by the printed functions of package letter: plain laws. -/
import Derived.Test.YtlohonlcoedfhaaPLetterBackx1
import Derived.Test.YtlohonlcoedfhaaPLetterBackx2
import Derived.Test.YtlohonlcoedfhaaBits
namespace Go.Proofs.Ytlohonlcoedfhaa.Lett
open Go.RowKit Go.Proofs.YtlohonlcoedfhaaW.PrintWords Go.Proofs.YtlohonlcoedfhaaW.PrintLast Go.Proofs.YtlohonlcoedfhaaW.PrintMore
set_option linter.unusedVariables false

def putB (f t : Int) (l : List Int) : List Int := f % 256 :: f / 256 % 256 :: t % 256 :: t / 256 % 256 :: (l.length : Int) :: 0 :: l
theorem putB_len (f t : Int) (l : List Int) : (putB f t l).length = l.length + 6 := by simp [putB]
theorem put_ok (f t : Int) (l : List Int) (hf : 0 ≤ f ∧ f ≤ 65535) (ht : 0 ≤ t ∧ t ≤ 65535) (hl : l.length ≤ 122) : PLetterBack.letter_Put.f 20 f t l = some (putB f t l, 0) := by
  unfold PLetterBack.letter_Put.f
  rw [if_neg (by omega), if_neg (by omega), if_neg (by omega), if_neg (by omega), decide_eq_false (by omega)]
  have h1 : (l.length : Int) % 256 = l.length := by omega
  have h2 : (l.length : Int) / 256 % 256 = 0 := by omega
  rw [PLetterBack.letter_Put.j0, if_neg (by decide)]
  simp only [PLetterBack.letter_two.f, Option.bind_some, h1, h2]
  rw [if_pos (by simp), if_pos (by simp), if_pos (by simp; omega)]
  rfl
theorem put_no (f t : Int) (l : List Int) (hf : 0 ≤ f ∧ f ≤ 65535) (ht : 0 ≤ t ∧ t ≤ 65535) (hl : 122 < l.length) : PLetterBack.letter_Put.f 20 f t l = some ([], -2) := by
  unfold PLetterBack.letter_Put.f
  rw [if_neg (by omega), if_neg (by omega), if_neg (by omega), if_neg (by omega), decide_eq_true (by omega)]
  rw [PLetterBack.letter_Put.j0, if_pos rfl]
theorem two_ok {x y : Int} (hx : 0 ≤ x ∧ x ≤ 255) (hy : 0 ≤ y ∧ y ≤ 255) : Go.bits .or .i64 (wrap64 x) (wrap64 ((wrap64 y) * 256)) = x + 256 * y := by
  rw [Bits.w64_in (n := x) (by omega) (by omega), Bits.w64_in (n := y) (by omega) (by omega), Bits.w64_in (by omega) (by omega), Bits.or_comm, Bits.join_i64 8 (y * 256) x (by omega) (by omega) (by omega) (by omega) (by omega) (by omega)]
  omega
theorem take_short (l : List Int) (h : l.length < 6) : PLetterBack.letter_Take.f l = some (0, 0, [], -2) := by
  unfold PLetterBack.letter_Take.f
  rw [if_pos (by omega)]
theorem take_bad (l : List Int) (b4 b5 : Int) (h6 : 6 ≤ l.length) (hl : l.length ≤ 1000) (e4 : rd l 4 = b4) (e5 : rd l 5 = b5) (q4 : 0 ≤ b4 ∧ b4 ≤ 255) (q5 : 0 ≤ b5 ∧ b5 ≤ 255) (h : (l.length : Int) - 6 < b4 + 256 * b5) :
    PLetterBack.letter_Take.f l = some (0, 0, [], -2) := by
  unfold PLetterBack.letter_Take.f
  rw [if_neg (by omega), if_pos (by omega), if_pos (by omega), e4, e5, two_ok q4 q5]
  by_cases h1 : b4 + 256 * b5 > 122
  · rw [if_pos h1]
  · rw [if_neg h1, Bits.w64_in (n := (l.length : Int) - 6) (by omega) (by omega), if_pos (by omega)]
def takeF (l0 : List Int) (n x y : Int) : Option (Int × Int × List Int × Int) := if (l0.length : Int) < 6 then (some (0, 0, ([] : List Int), (-2))) else (if 4 < (l0.length : Int) then (if 5 < (l0.length : Int) then (if n > 122 then (some (0, 0, ([] : List Int), (-2))) else (if n > (wrap64 ((l0.length : Int) - 6)) then (some (0, 0, ([] : List Int), (-2))) else (if 0 < (l0.length : Int) then (if 1 < (l0.length : Int) then (if 2 < (l0.length : Int) then (if 3 < (l0.length : Int) then ((some (([] : List Int) : List Int)).bind fun y130 => (if 6 ≤ (wrap64 (6 + n)) then (if (wrap64 (6 + n)) ≤ (l0.length : Int) then (if y130.length + ((l0.take ((wrap64 (6 + n)) : Int).toNat).drop 6).length < 140737488355328 then (some (x, y, (y130 ++ ((l0.take ((wrap64 (6 + n)) : Int).toNat).drop 6)), 0)) else (none)) else (none)) else (none))) else (none)) else (none)) else (none)) else (none)))) else (none)) else (none))
theorem take_eq (l : List Int) : PLetterBack.letter_Take.f l = takeF l (Go.bits .or .i64 (wrap64 (rd l 4)) (wrap64 ((wrap64 (rd l 5)) * 256))) (Go.bits .or .i64 (wrap64 (rd l 0)) (wrap64 ((wrap64 (rd l 1)) * 256))) (Go.bits .or .i64 (wrap64 (rd l 2)) (wrap64 ((wrap64 (rd l 3)) * 256))) := by
  unfold PLetterBack.letter_Take.f takeF
  with_reducible rfl
theorem takeF_good (l : List Int) (n : Nat) (x y : Int) (hl : l.length ≤ 1000) (h1 : n ≤ 122) (h2 : n + 6 ≤ l.length) :
    takeF l (n : Int) x y = some (x, y, (l.take (n + 6)).drop 6, 0) := by
  have hw : wrap64 (6 + (n : Int)) = ((n + 6 : Nat) : Int) := by rw [Bits.w64_in (by omega) (by omega)]; omega
  have hw2 : wrap64 ((l.length : Int) - 6) = (l.length : Int) - 6 := Bits.w64_in (by omega) (by omega)
  have c1 : ¬ ((l.length : Int) < 6) := by omega
  have c2 : 4 < (l.length : Int) := by omega
  have c3 : 5 < (l.length : Int) := by omega
  have c4 : ¬ ((n : Int) > 122) := by omega
  have c5 : ¬ ((n : Int) > (l.length : Int) - 6) := by omega
  have d0 : 0 < (l.length : Int) := by omega
  have d1 : 1 < (l.length : Int) := by omega
  have d2 : 2 < (l.length : Int) := by omega
  have d3 : 3 < (l.length : Int) := by omega
  have d4 : (6 : Int) ≤ ((n + 6 : Nat) : Int) := by omega
  have d5 : ((n + 6 : Nat) : Int) ≤ (l.length : Int) := by omega
  have d6 : ([] : List Int).length + ((l.take (n + 6)).drop 6).length < 140737488355328 := by rw [List.length_drop, List.length_take]; simp only [List.length_nil]; omega
  unfold takeF
  rw [if_neg c1, if_pos c2, if_pos c3, if_neg c4, hw2, if_neg c5, if_pos d0, if_pos d1, if_pos d2, if_pos d3, Option.bind_some, hw, if_pos d4, if_pos d5, Int.toNat_natCast, if_pos d6, List.nil_append]
theorem take_good (l : List Int) (b0 b1 b2 b3 b4 b5 : Int) (n : Nat) (hl : l.length ≤ 1000) (e0 : rd l 0 = b0) (e1 : rd l 1 = b1) (e2 : rd l 2 = b2) (e3 : rd l 3 = b3) (e4 : rd l 4 = b4) (e5 : rd l 5 = b5)
    (q0 : 0 ≤ b0 ∧ b0 ≤ 255) (q1 : 0 ≤ b1 ∧ b1 ≤ 255) (q2 : 0 ≤ b2 ∧ b2 ≤ 255) (q3 : 0 ≤ b3 ∧ b3 ≤ 255) (q4 : 0 ≤ b4 ∧ b4 ≤ 255) (q5 : 0 ≤ b5 ∧ b5 ≤ 255) (hn : b4 + 256 * b5 = (n : Int)) (h1 : n ≤ 122) (h2 : n + 6 ≤ l.length) :
    PLetterBack.letter_Take.f l = some (b0 + 256 * b1, b2 + 256 * b3, (l.take (n + 6)).drop 6, 0) := by
  have k1 := (two_ok q4 q5).trans hn
  have k2 := two_ok q0 q1
  have k3 := two_ok q2 q3
  rw [← e4, ← e5] at k1
  rw [take_eq, k1]
  rw [← e0, ← e1] at k2 ⊢
  rw [k2]
  rw [← e2, ← e3] at k3 ⊢
  rw [k3]
  exact takeF_good l n _ _ hl h1 h2
theorem take_back (f t : Int) (l more : List Int) (hf : 0 ≤ f ∧ f ≤ 65535) (ht : 0 ≤ t ∧ t ≤ 65535) (hl : l.length ≤ 122) (hm : more.length ≤ 20) : PLetterBack.letter_Take.f (putB f t l ++ more) = some (f, t, l, 0) := by
  have hlen : (putB f t l ++ more).length = l.length + 6 + more.length := by rw [List.length_append, putB_len]
  rw [take_good (putB f t l ++ more) (f % 256) (f / 256 % 256) (t % 256) (t / 256 % 256) l.length 0 l.length (by omega) rfl rfl rfl rfl rfl rfl (by omega) (by omega) (by omega) (by omega) (by omega) (by omega) (by omega) hl (by omega)]
  have h1 : f % 256 + 256 * (f / 256 % 256) = f := by omega
  have h2 : t % 256 + 256 * (t / 256 % 256) = t := by omega
  have h3 : ((putB f t l ++ more).take (l.length + 6)).drop 6 = l := by
    rw [List.take_append_of_le_length (by rw [putB_len]; omega), List.take_of_length_le (by rw [putB_len]; omega)]
    rfl
  rw [h1, h2, h3]
theorem take_cut (f t : Int) (l : List Int) (k : Nat) (hl : l.length ≤ 122) (hk : k < l.length + 6) : PLetterBack.letter_Take.f ((putB f t l).take k) = some (0, 0, [], -2) := by
  have hlen : ((putB f t l).take k).length = k := by rw [List.length_take, putB_len]; omega
  by_cases h6 : k < 6
  · exact take_short _ (by omega)
  · obtain ⟨j, rfl⟩ : ∃ j, k = j + 6 := ⟨k - 6, by omega⟩
    exact take_bad _ l.length 0 (by omega) (by omega) rfl rfl (by omega) (by omega) (by omega)
end Go.Proofs.Ytlohonlcoedfhaa.Lett
