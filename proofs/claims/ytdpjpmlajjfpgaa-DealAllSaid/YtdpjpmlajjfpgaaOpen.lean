/- Whatever comes in, opened to its cells: structs and arrays laid flat, slices of them by element and cell. -/
import Derived.OpenShut
import Derived.Deep.Slices
import Derived.Deep.Fields
import Derived.ProofKit
import Derived.SizedLaws
namespace Go.Proofs.Ytdpjpmlajjfpgaa.Open
open Go.ChangeShapes Go.WideShapes Go.RowKit Go.Deep

/-- The type that cell j of a value of type t bears, structs and arrays laid flat (m: how deep). -/
def leafAt (P : Program) : Nat → TypeId → Nat → Option TypeId
  | 0, _, _ => none
  | m + 1, t, j =>
    match P.underlying t with
    | some (.struct fs) => (fs.toList.find? fun f => decide (f.offset ≤ j) && decide (j < f.offset + P.cellsOf f.type)).bind fun f => leafAt P m f.type (j - f.offset)
    | some (.array n e) => if j < n * P.cellsOf e then leafAt P m e (j % P.cellsOf e) else none
    | _ => if j = 0 ∧ P.cellsOf t = 1 then some t else none

section
variable {H : Type} {enc : TypeId × Value → H} {P : Program} {w : World} {base : Nat} {spare : Nat → Bool} {held : Bool}

theorem take_drop (cs : List Value) (a n j : Nat) (hj : j < n) : (((cs.drop a).take n).drop j).take 1 = (cs.drop (a + j)).take 1 := by
  rw [List.drop_take, List.take_take, List.drop_drop]
  congr 1
  omega

/-- A flat value's cell reads by its own type. -/
theorem leaf_of : ∀ (m : Nat) {t T : TypeId} {j fuel : Nat} {cs : List Value} {x : DataW H × List MemPlace}, DataW.trod enc P w base spare held fuel t cs = some x → leafAt P m t j = some T →
    cs.length ≤ P.cellsOf t → ∃ (n : Nat) (y : DataW H × List MemPlace), DataW.trod enc P w base spare held n T ((cs.drop j).take 1) = some y
  | 0, _, _, _, _, _, _, _, h, _ => by simp [leafAt] at h
  | m + 1, t, T, j, fuel, cs, x, hx, h, hlen => by
    unfold leafAt at h
    split at h
    · rename_i fs hs
      obtain ⟨xs, n, _, _, _, hxl, hf⟩ := DataW.trod_struct hs hx
      obtain ⟨f, hfind, hl⟩ := Option.bind_eq_some_iff.1 h
      have hmem := List.mem_of_find?_eq_some hfind
      have hp := List.find?_some hfind
      simp only [Bool.and_eq_true, decide_eq_true_eq] at hp
      obtain ⟨i, hi, hfi⟩ := List.mem_iff_getElem.1 hmem
      have hgi : fs[i]? = some f := by
        have hi' : i < fs.size := by simpa using hi
        rw [Array.getElem?_eq_getElem hi']
        simpa using hfi
      have h1 := hf i f hgi
      have hil : i < xs.length := by rw [hxl]; simpa using hi
      rw [List.getElem?_eq_getElem hil] at h1
      obtain ⟨n', y, hy⟩ := leaf_of m h1 hl (List.length_take_le _ _)
      rw [take_drop _ _ _ _ (by omega)] at hy
      exact ⟨n', y, by rwa [show f.offset + (j - f.offset) = j by omega] at hy⟩
    · rename_i n e hs
      obtain ⟨xs, n', _, _, _, hxl, hf⟩ := DataW.trod_array hs hx
      split at h
      · rename_i hj
        have hpos : 0 < P.cellsOf e := by
          rcases Nat.eq_zero_or_pos (P.cellsOf e) with h0 | h0
          · rw [h0] at hj; simp at hj
          · exact h0
        have hi : j / P.cellsOf e < n := Nat.div_lt_of_lt_mul (by rwa [Nat.mul_comm] at hj)
        have h1 := hf _ hi
        rw [List.getElem?_eq_getElem (by rw [hxl]; exact hi)] at h1
        obtain ⟨n'', y, hy⟩ := leaf_of m h1 h (List.length_take_le _ _)
        rw [take_drop _ _ _ _ (Nat.mod_lt _ hpos)] at hy
        exact ⟨n'', y, by rwa [show j / P.cellsOf e * P.cellsOf e + j % P.cellsOf e = j by rw [Nat.mul_comm]; exact Nat.div_add_mod _ _] at hy⟩
      · cases h
    · split at h
      · rename_i hj
        cases h
        refine ⟨fuel, x, ?_⟩
        rw [hj.1, List.drop_zero, List.take_of_length_le (by rw [← hj.2]; exact hlen)]
        exact hx
      · cases h

/-- A cell that is a whole number. -/
theorem int_of {m : Nat} {t T : TypeId} {j fuel : Nat} {cs : List Value} {x : DataW H × List MemPlace} {k : IntKind} (hx : DataW.trod enc P w base spare held fuel t cs = some x) (hl : leafAt P m t j = some T)
    (hT : P.underlying T = some (.int k)) (hlen : cs.length ≤ P.cellsOf t) : ∃ z : Int, cs[j]? = some (.int k z) ∧ (Lit.int k z).wf = true := by
  obtain ⟨n, y, hy⟩ := leaf_of m hx hl hlen
  obtain ⟨z, hz, _, wz⟩ := DataW.trod_int hT hy
  refine ⟨z, ?_, wz⟩
  have := congrArg (·[0]?) hz
  simpa [List.getElem?_take, List.getElem?_drop] using this
/-- A cell that is a bool. -/
theorem bool_of {m : Nat} {t T : TypeId} {j fuel : Nat} {cs : List Value} {x : DataW H × List MemPlace} (hx : DataW.trod enc P w base spare held fuel t cs = some x) (hl : leafAt P m t j = some T)
    (hT : P.underlying T = some .bool) (hlen : cs.length ≤ P.cellsOf t) : ∃ z : Bool, cs[j]? = some (.bool z) := by
  obtain ⟨n, y, hy⟩ := leaf_of m hx hl hlen
  obtain ⟨z, hz, _⟩ := DataW.trod_bool hT hy
  refine ⟨z, ?_⟩
  have := congrArg (·[0]?) hz
  simpa [List.getElem?_take, List.getElem?_drop] using this
/-- A cell that is a slice. -/
theorem slice_of {m : Nat} {t T e : TypeId} {j fuel : Nat} {cs : List Value} {x : DataW H × List MemPlace} (hx : DataW.trod enc P w base spare held fuel t cs = some x) (hl : leafAt P m t j = some T)
    (hT : P.underlying T = some (.slice e)) (hlen : cs.length ≤ P.cellsOf t) : ∃ (a : Option Addr) (len cap : Nat) (d : DataW H) (p : List MemPlace), cs[j]? = some (.slice a len cap) ∧ DataW.Trod enc P w base spare held T (.slice a len cap) d p := by
  obtain ⟨n, y, hy⟩ := leaf_of m hx hl hlen
  have hv : ∃ a len cap, (cs.drop j).take 1 = [.slice a len cap] := by
    rcases DataW.trod_slice hT hy with ⟨h1, _⟩ | ⟨a, len, cap, _, _, _, _, h1, _⟩
    · exact ⟨_, _, _, h1⟩
    · exact ⟨_, _, _, h1⟩
  obtain ⟨a, len, cap, hv⟩ := hv
  refine ⟨a, len, cap, y.1, y.2, ?_, n, ?_⟩
  · have := congrArg (·[0]?) hv
    simpa [List.getElem?_take, List.getElem?_drop] using this
  · rw [hv] at hy
    simpa [Value.cells] using hy

/-- A slice of flat values: nothing, or its cells, element by element. -/
theorem flat_slice {t e : TypeId} {a : Option Addr} {len cap : Nat} {d : DataW H} {p : List MemPlace} (ht : P.underlying t = some (.slice e)) {sz : Nat} (hsz : P.cellsOf e = sz) (hpos : 0 < sz)
    (h : DataW.Trod enc P w base spare held t (.slice a len cap) d p) :
    (a = none ∧ len = 0 ∧ cap = 0) ∨ ∃ b off, len ≤ cap ∧ cap ≤ maxLen ∧ (0 < len → a = some ⟨b, off, none⟩ ∧ b < w.heap.size) ∧
      ∀ i, i < len → ∃ (cs : List Value) (n : Nat) (x : DataW H × List MemPlace), cs.length = sz ∧ DataW.trod enc P w base spare held n e cs = some x ∧ ∀ j, j < sz → w.cell? ⟨b, off + i * sz + j, none⟩ = cs[j]? := by
  subst hsz
  obtain ⟨fuel, hf⟩ := h
  rcases open_slice ht hf with ⟨h0, _⟩ | ⟨ad, l, c, m, n, D, Pl, hcs, _, hl, hm, hmm, _, hi⟩
  · simp [Value.cells] at h0
    obtain ⟨rfl, rfl, rfl⟩ := h0
    exact .inl ⟨rfl, rfl, rfl⟩
  · simp [Value.cells] at hcs
    obtain ⟨rfl, rfl, rfl⟩ := hcs
    refine .inr ⟨ad.block, ad.off, hl, hm, ?_, ?_⟩
    all_goals
      have hlm : len ≤ m := by rw [hmm]; split <;> omega
    · intro hp
      obtain ⟨cs', hc, _⟩ := hi 0 (by omega)
      obtain ⟨_, hcl, hat⟩ := World.cells?_some hc
      have h0 := hat 0 hpos
      rw [List.getElem?_eq_getElem (by omega)] at h0
      have hspot := World.cell?_spot h0
      simp [Addr.add] at hspot
      obtain ⟨bb, oo, ss⟩ := ad
      simp at hspot
      subst hspot
      refine ⟨rfl, ?_⟩
      have := World.block_lt_of_cell? w _ h0
      simpa [Addr.add] using this
    · intro i hil
      obtain ⟨cs', hc, ht'⟩ := hi i (by omega)
      obtain ⟨_, hcl, hat⟩ := World.cells?_some hc
      refine ⟨cs', n, _, hcl, ht', fun j hj => ?_⟩
      rw [← hat j hj]
      have h0 := hi 0 (by omega)
      obtain ⟨cs0, hc0, _⟩ := h0
      obtain ⟨_, hcl0, hat0⟩ := World.cells?_some hc0
      have h00 := hat0 0 hpos
      rw [List.getElem?_eq_getElem (by omega)] at h00
      have hspot := World.cell?_spot h00
      simp [Addr.add] at hspot
      obtain ⟨bb, oo, ss⟩ := ad
      simp at hspot
      subst hspot
      congr 1
      simp only [Addr.add]
      split <;> split <;> simp_all <;> omega

/-- How long a slice may be that a row speaks of. -/
theorem flat_sized {t e : TypeId} {a : Option Addr} {len cap : Nat} {d : DataW H} {p : List MemPlace} {ts : List TypeId} {ds : List (DataW H)} {j : Nat}
    (hsz : (DataW.weightsEach P ts ds).all (· ≤ reachBytes) = true) (htj : ts[j]? = some t) (hdj : ds[j]? = some d) (ht : P.underlying t = some (.slice e)) {B : Nat} (hB : P.bytesOf e = B)
    (h : DataW.Trod enc P w base spare held t (.slice a len cap) d p) : len * B ≤ 140737488351232 := by
  obtain ⟨fuel, hf⟩ := h
  rcases open_slice ht hf with ⟨h0, _⟩ | ⟨ad, l, c, m, n, D, Pl, hcs, _, hl, hm, hmm, hx, hi⟩
  · simp [Value.cells] at h0
    obtain ⟨rfl, rfl, rfl⟩ := h0
    simp
  · simp [Value.cells] at hcs
    obtain ⟨rfl, rfl, rfl⟩ := hcs
    simp only [Prod.mk.injEq] at hx
    obtain ⟨rfl, _⟩ := hx
    have z := sized_slice hsz htj hdj ht
    rw [hB] at z
    simp only [List.length_map, List.length_range, reachBytes] at z
    exact Nat.le_trans (Nat.mul_le_mul_right _ (by omega)) z

theorem choose_int {n : Nat} {Q : Nat → Int → Prop} (h : ∀ i, i < n → ∃ z, Q i z) : ∃ Z : Nat → Int, ∀ i, i < n → Q i (Z i) := by
  classical
  refine ⟨fun i => if hi : i < n then Classical.choose (h i hi) else 0, fun i hi => ?_⟩
  simp only [hi, dif_pos]
  exact Classical.choose_spec (h i hi)
theorem choose_bool {n : Nat} {Q : Nat → Bool → Prop} (h : ∀ i, i < n → ∃ z, Q i z) : ∃ Z : Nat → Bool, ∀ i, i < n → Q i (Z i) := by
  classical
  refine ⟨fun i => if hi : i < n then Classical.choose (h i hi) else false, fun i hi => ?_⟩
  simp only [hi, dif_pos]
  exact Classical.choose_spec (h i hi)
/-- A column of whole numbers in a slice of flat values. -/
theorem int_col {e T : TypeId} {m sz len b off j : Nat} {k : IntKind} (hsz : P.cellsOf e = sz) (hl : leafAt P m e j = some T) (hT : P.underlying T = some (.int k)) (hj : j < sz)
    (h : ∀ i, i < len → ∃ (cs : List Value) (n : Nat) (x : DataW H × List MemPlace), cs.length = sz ∧ DataW.trod enc P w base spare held n e cs = some x ∧ ∀ j, j < sz → w.cell? ⟨b, off + i * sz + j, none⟩ = cs[j]?) :
    ∃ Z : Nat → Int, ∀ i, i < len → w.cell? ⟨b, off + i * sz + j, none⟩ = some (.int k (Z i)) ∧ (Lit.int k (Z i)).wf = true :=
  choose_int (Q := fun i z => w.cell? ⟨b, off + i * sz + j, none⟩ = some (.int k z) ∧ (Lit.int k z).wf = true) fun i hi => by
    obtain ⟨cs, n, x, hcl, hx, hc⟩ := h i hi
    obtain ⟨z, hz, wz⟩ := int_of hx hl hT (by omega)
    exact ⟨z, (hc j hj).trans hz, wz⟩
theorem bool_col {e T : TypeId} {m sz len b off j : Nat} (hsz : P.cellsOf e = sz) (hl : leafAt P m e j = some T) (hT : P.underlying T = some .bool) (hj : j < sz)
    (h : ∀ i, i < len → ∃ (cs : List Value) (n : Nat) (x : DataW H × List MemPlace), cs.length = sz ∧ DataW.trod enc P w base spare held n e cs = some x ∧ ∀ j, j < sz → w.cell? ⟨b, off + i * sz + j, none⟩ = cs[j]?) :
    ∃ Z : Nat → Bool, ∀ i, i < len → w.cell? ⟨b, off + i * sz + j, none⟩ = some (.bool (Z i)) :=
  choose_bool (Q := fun i z => w.cell? ⟨b, off + i * sz + j, none⟩ = some (.bool z)) fun i hi => by
    obtain ⟨cs, n, x, hcl, hx, hc⟩ := h i hi
    obtain ⟨z, hz⟩ := bool_of hx hl hT (by omega)
    exact ⟨z, (hc j hj).trans hz⟩
end
end Go.Proofs.Ytdpjpmlajjfpgaa.Open
