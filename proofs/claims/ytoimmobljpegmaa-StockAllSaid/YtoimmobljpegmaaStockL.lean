/- Plain laws on a stock's marks: how many frames are free behind each step; the row of what is held. -/
import Derived.Test.YtoimmobljpegmaaStockB
namespace Go.Proofs.Ytoimmobljpegmaa.Stock
open Go.RowKit Go.Proofs.Ytoimmobljpegmaa.Mem
open Go.Proofs.YtoimmobljpegmaaW.PrintWords (bools nums print_append_num print_append_row print_make_of own_reads own_lt own_other own_lit nums_length)
set_option linter.unusedVariables false

theorem least_spec {xs : List Bool} {k : Nat} (h : least xs = some k) : k < xs.length ∧ xs.getD k false = false ∧ ∀ j, j < k → xs.getD j false = true := by
  unfold least at h
  rw [List.findIdx?_eq_some_iff_getElem] at h
  obtain ⟨hk, h1, h2⟩ := h
  refine ⟨hk, ?_, fun j hj => ?_⟩
  · simp [List.getD_eq_getElem?_getD, List.getElem?_eq_getElem hk]; simpa using h1
  · have := h2 j hj
    have hj2 : j < xs.length := by omega
    simp [List.getD_eq_getElem?_getD, List.getElem?_eq_getElem hj2]; simpa using this
theorem least_count {xs : List Bool} (h : least xs = none) : xs.count false = 0 := by
  unfold least at h
  rw [List.findIdx?_eq_none_iff] at h
  rw [List.count_eq_zero]
  intro hm
  have := h _ hm
  simp at this
theorem least_pos {xs : List Bool} {k : Nat} (h : least xs = some k) : 0 < xs.count false := by
  obtain ⟨hk, h1, _⟩ := least_spec h
  rw [List.count_pos_iff]
  simp [List.getD_eq_getElem?_getD, List.getElem?_eq_getElem hk] at h1
  exact h1 ▸ List.getElem_mem hk
theorem count_taken {xs : List Bool} {k : Nat} (hk : k < xs.length) (h : xs.getD k false = false) : (xs.set k true).count false = xs.count false - 1 := by
  simp [List.getD_eq_getElem?_getD, List.getElem?_eq_getElem hk] at h
  rw [List.count_set hk]
  simp [h]
theorem count_back {xs : List Bool} {k : Nat} (h : xs.getD k false = true) : (xs.set k false).count false = xs.count false + 1 := by
  have hk : k < xs.length := by
    by_cases hk : k < xs.length
    · exact hk
    · rw [List.getD_eq_getElem?_getD, List.getElem?_eq_none (by omega)] at h; cases h
  simp [List.getD_eq_getElem?_getD, List.getElem?_eq_getElem hk] at h
  rw [List.count_set hk]
  simp [h]
theorem set_same {xs : List Bool} {k : Nat} (h : xs.getD k false = false) : xs.set k false = xs := by
  apply List.ext_getElem
  · simp
  · intro i h1 h2
    rw [List.getElem_set]
    split
    · rename_i e
      subst e
      simp [List.getD_eq_getElem?_getD, List.getElem?_eq_getElem h2] at h
      exact h.symm
    · rfl
theorem tk_count (f : Int) (xs : List Bool) : ∀ k, k ≤ xs.length → (tk f xs k).length = (xs.take k).count true
  | 0, _ => by simp [tk]
  | k + 1, hk => by
    have ih := tk_count f xs k (by omega)
    rw [List.take_succ_eq_append_getElem (by omega), List.count_append, ← ih]
    cases hv : xs.getD k false with
    | true =>
      rw [tk_hit f xs k hv]
      simp [List.getD_eq_getElem?_getD, List.getElem?_eq_getElem (show k < xs.length by omega)] at hv
      simp [hv]
    | false =>
      rw [tk_miss f xs k hv]
      simp [List.getD_eq_getElem?_getD, List.getElem?_eq_getElem (show k < xs.length by omega)] at hv
      simp [hv]
theorem tk_all (f : Int) (xs : List Bool) : (tk f xs xs.length).length + xs.count false = xs.length := by
  rw [tk_count f xs _ (Nat.le_refl _), List.take_length]
  induction xs with
  | nil => rfl
  | cons x xs ih =>
    cases x <;> simp <;> omega

/-- A row of marks (type T) at block h. -/
def Row (T : Nat) (w : World) (h : Nat) (hs : List Bool) : Prop := w.heap[h]? = some (.cells (bools hs).toArray T (0, 0))
theorem Row.cellAt {T : Nat} {w : World} {h : Nat} {hs : List Bool} (H : Row T w h hs) (k : Nat) (hk : k < hs.length) : w.cell? ⟨h, k, none⟩ = some (.bool (hs.getD k false)) := by
  rw [blk_cell H k]
  simp [bools, List.getElem?_map, List.getElem?_eq_getElem hk, List.getD_eq_getElem?_getD]
theorem Row.free {T : Nat} {w : World} {h : Nat} {hs : List Bool} (H : Row T w h hs) (k : Nat) : w.frozen? ⟨h, k, none⟩ = false := blk_free H k
theorem Row.set {T : Nat} {w : World} {h : Nat} {hs : List Bool} (H : Row T w h hs) (k : Nat) (u : Bool) : Row T (w.setCell ⟨h, k, none⟩ (.bool u)) h (hs.set k u) := by
  unfold Row
  rw [blk_set H k (.bool u)]
  congr 2
  simp [bools, List.map_set]
theorem Row.grown {T : Nat} {w w' : World} {h b : Nat} {hs : List Bool} (H : Row T w h hs) (hg : w.grownBy w' (some b)) (h1 : h ≠ b) : Row T w' h hs :=
  (hg.block h (blk_lt H) (by simpa using h1)).trans H
theorem Is.far {T : Nat} {w : World} {g r : Nat} {f : Int} {xs : List Bool} (H : Is T w g r f xs) (p : Addr) (h1 : g ≠ p.block) (h2 : r ≠ p.block) (u : Value) : Is T (w.setCell p u) g r f xs :=
  ⟨blk_far H.1 h1 _, blk_far H.2.1 h2 _, H.2.2⟩
end Go.Proofs.Ytoimmobljpegmaa.Stock
