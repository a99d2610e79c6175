/- A bill that comes in, opened: its numbers and its parts. -/
import Derived.Test.YtmhglfidggjfdaaOpen
import Derived.Test.YtmhglfidggjfdaaPBillBackx0
import Derived.Test.YtmhglfidggjfdaaKept
namespace Go.Proofs.Ytmhglfidggjfdaa.BillO
open Go.ChangeShapes Go.WideShapes Go.RowKit Go.Deep Go.Proofs.Ytmhglfidggjfdaa.Open Go.Proofs.Ytmhglfidggjfdaa.PBillBack Go.Proofs.YtmhglfidggjfdaaW.PrintWords
set_option linter.unusedVariables false

theorem c_parts {w : World} {b off len : Nat} {f0 f1 f2 f3 f4 : Nat → Bool} {f5 f6 f7 f8 : Nat → Int} (hlen : len ≤ 9223372036854775807)
    (h0 : ∀ i, i < len → w.cell? ⟨b, off + i * 9 + 0, none⟩ = some (.bool (f0 i))) (h1 : ∀ i, i < len → w.cell? ⟨b, off + i * 9 + 1, none⟩ = some (.bool (f1 i))) (h2 : ∀ i, i < len → w.cell? ⟨b, off + i * 9 + 2, none⟩ = some (.bool (f2 i)))
    (h3 : ∀ i, i < len → w.cell? ⟨b, off + i * 9 + 3, none⟩ = some (.bool (f3 i))) (h4 : ∀ i, i < len → w.cell? ⟨b, off + i * 9 + 4, none⟩ = some (.bool (f4 i)))
    (h5 : ∀ i, i < len → w.cell? ⟨b, off + i * 9 + 5, none⟩ = some (.int .u32 (f5 i)) ∧ (Lit.int .u32 (f5 i)).wf = true) (h6 : ∀ i, i < len → w.cell? ⟨b, off + i * 9 + 6, none⟩ = some (.int .i64 (f6 i)) ∧ (Lit.int .i64 (f6 i)).wf = true)
    (h7 : ∀ i, i < len → w.cell? ⟨b, off + i * 9 + 7, none⟩ = some (.int .i64 (f7 i)) ∧ (Lit.int .i64 (f7 i)).wf = true) (h8 : ∀ i, i < len → w.cell? ⟨b, off + i * 9 + 8, none⟩ = some (.int .i64 (f8 i)) ∧ (Lit.int .i64 (f8 i)).wf = true) :
    Kd.C k60 w (some ⟨b, off, none⟩) len ((List.range len).map fun i => (⟨f0 i, f1 i, f2 i, f3 i, f4 i, f5 i, f6 i, f7 i, f8 i⟩ : S60)) := by
  refine ⟨by simp, hlen, fun _ => ⟨_, rfl, fun j p hj => ?_⟩⟩
  obtain ⟨hlt, rfl⟩ := List.getElem?_eq_some_iff.1 hj
  have hl : j < len := by simpa using hlt
  refine ⟨_, rfl, k60_mk w _, fun i u hi => ?_⟩
  simp only [List.getElem_map, List.getElem_range] at hi
  rw [Kept.add_at, ← Nat.add_assoc]
  have e : ∀ x, (some x = some u) → x = u := fun x h => by injection h
  rcases i with _ | _ | _ | _ | _ | _ | _ | _ | _ | i
  · rw [← e _ hi]; exact h0 j hl
  · rw [← e _ hi]; exact h1 j hl
  · rw [← e _ hi]; exact h2 j hl
  · rw [← e _ hi]; exact h3 j hl
  · rw [← e _ hi]; exact h4 j hl
  · rw [← e _ hi]; exact (h5 j hl).1
  · rw [← e _ hi]; exact (h6 j hl).1
  · rw [← e _ hi]; exact (h7 j hl).1
  · rw [← e _ hi]; exact (h8 j hl).1
  · simp at hi
theorem okWide_struct {P : Program} {w : World} {r : Reach} {b0 : Nat} {t : TypeId} {fs : Array Field} {v : Value} (ht : P.underlying t = some (.struct fs)) (h : Value.okWide P w r b0 t v) : ∃ cs, v = .agg cs ∧ cs.size = P.cellsOf t := by
  simp only [Value.okWide, ht] at h
  obtain ⟨cs, h1, h2, _⟩ := h
  exact ⟨cs, h1, h2⟩
theorem arr5 {cs : Array Value} {a0 a1 a2 a3 a4 : Value} (hs : cs.size = 5) (h0 : cs[0]? = some a0) (h1 : cs[1]? = some a1) (h2 : cs[2]? = some a2) (h3 : cs[3]? = some a3) (h4 : cs[4]? = some a4) : cs = #[a0, a1, a2, a3, a4] := by
  apply Array.ext_getElem?
  intro i
  have : i = 0 ∨ i = 1 ∨ i = 2 ∨ i = 3 ∨ i = 4 ∨ 5 ≤ i := by omega
  rcases this with rfl | rfl | rfl | rfl | rfl | h
  · exact h0
  · exact h1
  · exact h2
  · exact h3
  · exact h4
  · rw [Array.getElem?_eq_none (by omega), Array.getElem?_eq_none (by simp; omega)]
/-- The numbers of a part are of their kinds. -/
def PWf (p : S60) : Prop := (Lit.int .u32 p.f5).wf = true ∧ (Lit.int .i64 p.f6).wf = true ∧ (Lit.int .i64 p.f7).wf = true ∧ (Lit.int .i64 p.f8).wf = true
section
variable {H : Type} {enc : TypeId × Value → H} {w : World} {base : Nat} {spare : Nat → Bool} {held : Bool}
theorem open_parts {a : Option Addr} {len cap : Nat} {d : DataW H} {p : List MemPlace} (h : DataW.Trod enc Try.prog w base spare held 42 (.slice a len cap) d p) :
    ∃ l : List S60, l.length = len ∧ len ≤ cap ∧ Kd.C k60 w a l.length l ∧ ∀ p ∈ l, PWf p := by
  rcases flat_slice Try.underlying42 (sz := 9) (by kernel_rfl) (by decide) h with ⟨rfl, rfl, rfl⟩ | ⟨b, off, hl, hm, hp, hr⟩
  · exact ⟨[], rfl, Nat.le_refl _, Kd.C_nil _ _, fun p hp => by cases hp⟩
  · rcases Nat.eq_zero_or_pos len with rfl | hpos
    · exact ⟨[], rfl, by omega, ⟨rfl, by simp, fun h => absurd h (Nat.lt_irrefl 0)⟩, fun p hp => by cases hp⟩
    · obtain ⟨rfl, hblt⟩ := hp hpos
      obtain ⟨f0, h0⟩ := bool_col (m := 3) (T := 4) (j := 0) (by kernel_rfl) (by kernel_rfl) Try.underlying4 (by decide) hr
      obtain ⟨f1, h1⟩ := bool_col (m := 3) (T := 4) (j := 1) (by kernel_rfl) (by kernel_rfl) Try.underlying4 (by decide) hr
      obtain ⟨f2, h2⟩ := bool_col (m := 3) (T := 4) (j := 2) (by kernel_rfl) (by kernel_rfl) Try.underlying4 (by decide) hr
      obtain ⟨f3, h3⟩ := bool_col (m := 3) (T := 4) (j := 3) (by kernel_rfl) (by kernel_rfl) Try.underlying4 (by decide) hr
      obtain ⟨f4, h4⟩ := bool_col (m := 3) (T := 4) (j := 4) (by kernel_rfl) (by kernel_rfl) Try.underlying4 (by decide) hr
      obtain ⟨f5, h5⟩ := int_col (m := 3) (T := 58) (k := .u32) (j := 5) (by kernel_rfl) (by kernel_rfl) Try.underlying58 (by decide) hr
      obtain ⟨f6, h6⟩ := int_col (m := 3) (T := 3) (k := .i64) (j := 6) (by kernel_rfl) (by kernel_rfl) Try.underlying3 (by decide) hr
      obtain ⟨f7, h7⟩ := int_col (m := 3) (T := 3) (k := .i64) (j := 7) (by kernel_rfl) (by kernel_rfl) Try.underlying3 (by decide) hr
      obtain ⟨f8, h8⟩ := int_col (m := 3) (T := 3) (k := .i64) (j := 8) (by kernel_rfl) (by kernel_rfl) Try.underlying3 (by decide) hr
      refine ⟨(List.range len).map fun i => (⟨f0 i, f1 i, f2 i, f3 i, f4 i, f5 i, f6 i, f7 i, f8 i⟩ : S60), by simp, hl, ?_, fun p hp => ?_⟩
      rotate_left
      · obtain ⟨i, hi, rfl⟩ := List.mem_map.1 hp
        have hi := List.mem_range.1 hi
        exact ⟨(h5 i hi).2, (h6 i hi).2, (h7 i hi).2, (h8 i hi).2⟩
      · have := c_parts (by unfold maxLen at hm; omega) h0 h1 h2 h3 h4 h5 h6 h7 h8
        rw [List.length_map, List.length_range]
        exact this
theorem open_bill {r : Reach} {b0 : Nat} {v : Value} {d : DataW H} {p : List MemPlace} (hval : Value.okWide Try.prog w r b0 44 v) (h : DataW.Trod enc Try.prog w base spare held 44 v d p) :
    ∃ (F T S C : Int) (A : Option Addr) (cap : Nat) (l : List S60), v = .agg #[.int .i64 F, .int .i64 T, .int .i64 S, .int .i64 C, .slice A l.length cap] ∧ l.length ≤ cap ∧ Kd.C k60 w A l.length l ∧ (∀ p ∈ l, PWf p) ∧
      (Lit.int .i64 F).wf = true ∧ (Lit.int .i64 T).wf = true ∧ (Lit.int .i64 S).wf = true ∧ (Lit.int .i64 C).wf = true := by
  obtain ⟨cs, rfl, hs⟩ := okWide_struct Try.underlying44 hval
  have h5 : Try.prog.cellsOf 44 = 5 := by kernel_rfl
  obtain ⟨m, hm⟩ := h
  have hle : (Value.agg cs).cells.toList.length ≤ Try.prog.cellsOf 44 := by simp [Value.cells, hs]
  obtain ⟨F, e0, w0⟩ := int_of (m := 2) (j := 0) (T := 3) (k := .i64) hm (by kernel_rfl) Try.underlying3 hle
  obtain ⟨T, e1, w1⟩ := int_of (m := 2) (j := 1) (T := 3) (k := .i64) hm (by kernel_rfl) Try.underlying3 hle
  obtain ⟨S, e2, w2⟩ := int_of (m := 2) (j := 2) (T := 3) (k := .i64) hm (by kernel_rfl) Try.underlying3 hle
  obtain ⟨C, e3, w3⟩ := int_of (m := 2) (j := 3) (T := 3) (k := .i64) hm (by kernel_rfl) Try.underlying3 hle
  obtain ⟨A, len, cap, d1, p1, e4, ht⟩ := slice_of (m := 2) (j := 4) (T := 42) hm (by kernel_rfl) Try.underlying42 hle
  obtain ⟨l, rfl, hl, hc, hw⟩ := open_parts ht
  simp only [Value.cells, Array.getElem?_toList] at e0 e1 e2 e3 e4
  exact ⟨F, T, S, C, A, cap, l, by rw [arr5 (by omega) e0 e1 e2 e3 e4], hl, hc, hw, w0, w1, w2, w3⟩
end
end Go.Proofs.Ytmhglfidggjfdaa.BillO
