/- An array of whole numbers that comes in by value, opened to its cells. -/
import Derived.Test.YtlohonlcoedfhaaOpen
namespace Go.Proofs.Ytlohonlcoedfhaa.Open
open Go.ChangeShapes Go.WideShapes Go.RowKit Go.Deep
variable {H : Type} {enc : TypeId × Value → H} {P : Program} {w : World} {base : Nat} {spare : Nat → Bool} {held : Bool}

theorem okWide_array {r : Reach} {b0 n : Nat} {t e : TypeId} {v : Value} (ht : P.underlying t = some (.array n e)) (h : Value.okWide P w r b0 t v) : ∃ cs, v = .agg cs ∧ cs.size = P.cellsOf t := by
  simp only [Value.okWide, ht] at h
  obtain ⟨cs, h1, h2, _⟩ := h
  exact ⟨cs, h1, h2⟩
theorem ints_of_array {n : Nat} {t e : TypeId} {k : IntKind} {cs : Array Value} {d : DataW H} {p : List MemPlace} (ht : P.underlying t = some (.array n e)) (he : P.underlying e = some (.int k)) (hse : P.cellsOf e = 1) (hst : P.cellsOf t = n)
    (hs : cs.size = n) (h : DataW.Trod enc P w base spare held t (.agg cs) d p) : ∀ j, j < n → ∃ z : Int, cs[j]? = some (.int k z) ∧ (Lit.int k z).wf = true := by
  intro j hj
  obtain ⟨m, hm⟩ := h
  have hl : leafAt P 2 t j = some e := by
    unfold leafAt
    rw [ht]
    simp only [hse, Nat.mul_one, hj, if_true, Nat.mod_one]
    unfold leafAt
    rw [he]
    simp [hse]
  have := int_of (m := 2) hm hl he (by simp [Value.cells, hs, hst])
  simpa [Value.cells] using this
theorem arr6 {cs : Array Value} {a0 a1 a2 a3 a4 a5 : Value} (hs : cs.size = 6) (h0 : cs[0]? = some a0) (h1 : cs[1]? = some a1) (h2 : cs[2]? = some a2) (h3 : cs[3]? = some a3) (h4 : cs[4]? = some a4) (h5 : cs[5]? = some a5) : cs = #[a0, a1, a2, a3, a4, a5] := by
  apply Array.ext_getElem?
  intro i
  have : i = 0 ∨ i = 1 ∨ i = 2 ∨ i = 3 ∨ i = 4 ∨ i = 5 ∨ 6 ≤ i := by omega
  rcases this with rfl | rfl | rfl | rfl | rfl | rfl | h
  · exact h0
  · exact h1
  · exact h2
  · exact h3
  · exact h4
  · exact h5
  · rw [Array.getElem?_eq_none (by omega), Array.getElem?_eq_none (by simp; omega)]
theorem arr8 {cs : Array Value} {a0 a1 a2 a3 a4 a5 a6 a7 : Value} (hs : cs.size = 8) (h0 : cs[0]? = some a0) (h1 : cs[1]? = some a1) (h2 : cs[2]? = some a2) (h3 : cs[3]? = some a3) (h4 : cs[4]? = some a4) (h5 : cs[5]? = some a5) (h6 : cs[6]? = some a6) (h7 : cs[7]? = some a7) : cs = #[a0, a1, a2, a3, a4, a5, a6, a7] := by
  apply Array.ext_getElem?
  intro i
  have : i = 0 ∨ i = 1 ∨ i = 2 ∨ i = 3 ∨ i = 4 ∨ i = 5 ∨ i = 6 ∨ i = 7 ∨ 8 ≤ i := by omega
  rcases this with rfl | rfl | rfl | rfl | rfl | rfl | rfl | rfl | h
  · exact h0
  · exact h1
  · exact h2
  · exact h3
  · exact h4
  · exact h5
  · exact h6
  · exact h7
  · rw [Array.getElem?_eq_none (by omega), Array.getElem?_eq_none (by simp; omega)]
end Go.Proofs.Ytlohonlcoedfhaa.Open
