/- A deal that comes in, opened: its numbers, its receivers, its spans. -/
import Derived.Test.YtdpjpmlajjfpgaaOpen
import Derived.Test.YtdpjpmlajjfpgaaPDealKx0
import Derived.Test.YtdpjpmlajjfpgaaKept
namespace Go.Proofs.Ytdpjpmlajjfpgaa.DealO
open Go.ChangeShapes Go.WideShapes Go.RowKit Go.Deep Go.Proofs.Ytdpjpmlajjfpgaa.Open Go.Proofs.Ytdpjpmlajjfpgaa.PDealK Go.Proofs.YtdpjpmlajjfpgaaW.PrintWords
set_option linter.unusedVariables false
set_option maxRecDepth 100000
theorem c_recvs {w : World} {b off len : Nat} {f0 f1 : Nat → Int} (hlen : len ≤ 9223372036854775807)
    (h0 : ∀ i, i < len → w.cell? ⟨b, off + i * 2 + 0, none⟩ = some (.int .i64 (f0 i)) ∧ (Lit.int .i64 (f0 i)).wf = true) (h1 : ∀ i, i < len → w.cell? ⟨b, off + i * 2 + 1, none⟩ = some (.int .i64 (f1 i)) ∧ (Lit.int .i64 (f1 i)).wf = true) :
    Kd.C k40 w (some ⟨b, off, none⟩) len ((List.range len).map fun i => (⟨f0 i, f1 i⟩ : S40)) := by
  refine ⟨by simp, hlen, fun _ => ⟨_, rfl, fun j p hj => ?_⟩⟩
  obtain ⟨hlt, rfl⟩ := List.getElem?_eq_some_iff.1 hj
  have hl : j < len := by simpa using hlt
  refine ⟨_, rfl, k40_mk w _, fun i u hi => ?_⟩
  simp only [List.getElem_map, List.getElem_range] at hi
  rw [Kept.add_at, ← Nat.add_assoc]
  have e : ∀ x, (some x = some u) → x = u := fun x h => by injection h
  rcases i with _ | _ | i
  · rw [← e _ hi]; exact (h0 j hl).1
  · rw [← e _ hi]; exact (h1 j hl).1
  · simp at hi
theorem c_spans {w : World} {b off len : Nat} {f0 f1 : Nat → Int} (hlen : len ≤ 9223372036854775807)
    (h0 : ∀ i, i < len → w.cell? ⟨b, off + i * 2 + 0, none⟩ = some (.int .i64 (f0 i)) ∧ (Lit.int .i64 (f0 i)).wf = true) (h1 : ∀ i, i < len → w.cell? ⟨b, off + i * 2 + 1, none⟩ = some (.int .i64 (f1 i)) ∧ (Lit.int .i64 (f1 i)).wf = true) :
    Kd.C k42 w (some ⟨b, off, none⟩) len ((List.range len).map fun i => (⟨f0 i, f1 i⟩ : S42)) := by
  refine ⟨by simp, hlen, fun _ => ⟨_, rfl, fun j p hj => ?_⟩⟩
  obtain ⟨hlt, rfl⟩ := List.getElem?_eq_some_iff.1 hj
  have hl : j < len := by simpa using hlt
  refine ⟨_, rfl, k42_mk w _, fun i u hi => ?_⟩
  simp only [List.getElem_map, List.getElem_range] at hi
  rw [Kept.add_at, ← Nat.add_assoc]
  have e : ∀ x, (some x = some u) → x = u := fun x h => by injection h
  rcases i with _ | _ | i
  · rw [← e _ hi]; exact (h0 j hl).1
  · rw [← e _ hi]; exact (h1 j hl).1
  · simp at hi
theorem okWide_struct {P : Program} {w : World} {r : Reach} {b0 : Nat} {t : TypeId} {fs : Array Field} {v : Value} (ht : P.underlying t = some (.struct fs)) (h : Value.okWide P w r b0 t v) : ∃ cs, v = .agg cs ∧ cs.size = P.cellsOf t := by
  simp only [Value.okWide, ht] at h
  obtain ⟨cs, h1, h2, _⟩ := h
  exact ⟨cs, h1, h2⟩
theorem arr5 {cs : Array Value} {a0 a1 a2 a3 a4 : Value} (hs : cs.size = 5) (h0 : cs[0]? = some a0) (h1 : cs[1]? = some a1) (h2 : cs[2]? = some a2) (h3 : cs[3]? = some a3) (h4 : cs[4]? = some a4) : cs = #[a0, a1, a2, a3, a4] := by
  apply Array.ext_getElem?
  intro i
  have : i = 0 ∨ i = 1 ∨ i = 2 ∨ i = 3 ∨ i = 4 ∨ 5 ≤ i := by omega
  rcases this with rfl | rfl | rfl | rfl | rfl | h
  · exact h0
  · exact h1
  · exact h2
  · exact h3
  · exact h4
  · rw [Array.getElem?_eq_none (by omega), Array.getElem?_eq_none (by simp; omega)]
section
variable {H : Type} {enc : TypeId × Value → H} {w : World} {base : Nat} {spare : Nat → Bool} {held : Bool}
theorem open_recvs {a : Option Addr} {len cap : Nat} {d : DataW H} {p : List MemPlace} (h : DataW.Trod enc Try.prog w base spare held 22 (.slice a len cap) d p) :
    ∃ l : List S40, l.length = len ∧ len ≤ cap ∧ Kd.C k40 w a l.length l := by
  rcases flat_slice Try.underlying22 (sz := 2) (by kernel_rfl) (by decide) h with ⟨rfl, rfl, rfl⟩ | ⟨b, off, hl, hm, hp, hr⟩
  · exact ⟨[], rfl, Nat.le_refl _, Kd.C_nil _ _⟩
  · rcases Nat.eq_zero_or_pos len with rfl | hpos
    · exact ⟨[], rfl, by omega, ⟨rfl, by simp, fun h => absurd h (Nat.lt_irrefl 0)⟩⟩
    · obtain ⟨rfl, hblt⟩ := hp hpos
      obtain ⟨f0, h0⟩ := int_col (m := 3) (T := 3) (k := .i64) (j := 0) (by kernel_rfl) (by kernel_rfl) Try.underlying3 (by decide) hr
      obtain ⟨f1, h1⟩ := int_col (m := 3) (T := 3) (k := .i64) (j := 1) (by kernel_rfl) (by kernel_rfl) Try.underlying3 (by decide) hr
      refine ⟨(List.range len).map fun i => (⟨f0 i, f1 i⟩ : S40), by simp, hl, ?_⟩
      have := c_recvs (by unfold maxLen at hm; omega) h0 h1
      rw [List.length_map, List.length_range]
      exact this
theorem open_spans {a : Option Addr} {len cap : Nat} {d : DataW H} {p : List MemPlace} (h : DataW.Trod enc Try.prog w base spare held 23 (.slice a len cap) d p) :
    ∃ l : List S42, l.length = len ∧ len ≤ cap ∧ Kd.C k42 w a l.length l := by
  rcases flat_slice Try.underlying23 (sz := 2) (by kernel_rfl) (by decide) h with ⟨rfl, rfl, rfl⟩ | ⟨b, off, hl, hm, hp, hr⟩
  · exact ⟨[], rfl, Nat.le_refl _, Kd.C_nil _ _⟩
  · rcases Nat.eq_zero_or_pos len with rfl | hpos
    · exact ⟨[], rfl, by omega, ⟨rfl, by simp, fun h => absurd h (Nat.lt_irrefl 0)⟩⟩
    · obtain ⟨rfl, hblt⟩ := hp hpos
      obtain ⟨f0, h0⟩ := int_col (m := 3) (T := 3) (k := .i64) (j := 0) (by kernel_rfl) (by kernel_rfl) Try.underlying3 (by decide) hr
      obtain ⟨f1, h1⟩ := int_col (m := 3) (T := 3) (k := .i64) (j := 1) (by kernel_rfl) (by kernel_rfl) Try.underlying3 (by decide) hr
      refine ⟨(List.range len).map fun i => (⟨f0 i, f1 i⟩ : S42), by simp, hl, ?_⟩
      have := c_spans (by unfold maxLen at hm; omega) h0 h1
      rw [List.length_map, List.length_range]
      exact this
theorem open_deal {r : Reach} {b0 : Nat} {v : Value} {d : DataW H} {p : List MemPlace} (hval : Value.okWide Try.prog w r b0 25 v) (h : DataW.Trod enc Try.prog w base spare held 25 v d p) :
    ∃ (K S : Int) (z : Bool) (A : Option Addr) (c : Nat) (rv : List S40) (B : Option Addr) (e : Nat) (sp : List S42), v = .agg #[.int .i64 K, .int .i64 S, .bool z, .slice A rv.length c, .slice B sp.length e] ∧ rv.length ≤ c ∧ Kd.C k40 w A rv.length rv ∧ sp.length ≤ e ∧ Kd.C k42 w B sp.length sp := by
  obtain ⟨cs, rfl, hs⟩ := okWide_struct Try.underlying25 hval
  have h5 : Try.prog.cellsOf 25 = 5 := by kernel_rfl
  obtain ⟨m, hm⟩ := h
  have hle : (Value.agg cs).cells.toList.length ≤ Try.prog.cellsOf 25 := by simp [Value.cells, hs]
  obtain ⟨K, e0, w0⟩ := int_of (m := 2) (j := 0) (T := 3) (k := .i64) hm (by kernel_rfl) Try.underlying3 hle
  obtain ⟨S, e1, w1⟩ := int_of (m := 2) (j := 1) (T := 3) (k := .i64) hm (by kernel_rfl) Try.underlying3 hle
  obtain ⟨z, e2⟩ := bool_of (m := 2) (j := 2) (T := 4) hm (by kernel_rfl) Try.underlying4 hle
  obtain ⟨A, len, cap, d1, p1, e3, ht⟩ := slice_of (m := 2) (j := 3) (T := 22) hm (by kernel_rfl) Try.underlying22 hle
  obtain ⟨B, len2, cap2, d2, p2, e4, ht2⟩ := slice_of (m := 2) (j := 4) (T := 23) hm (by kernel_rfl) Try.underlying23 hle
  obtain ⟨rv, rfl, hl, hc⟩ := open_recvs ht
  obtain ⟨sp, rfl, hl2, hc2⟩ := open_spans ht2
  simp only [Value.cells, Array.getElem?_toList] at e0 e1 e2 e3 e4
  exact ⟨K, S, z, A, cap, rv, B, cap2, sp, by rw [arr5 (by omega) e0 e1 e2 e3 e4], hl, hc, hl2, hc2⟩
end
end Go.Proofs.Ytdpjpmlajjfpgaa.DealO
