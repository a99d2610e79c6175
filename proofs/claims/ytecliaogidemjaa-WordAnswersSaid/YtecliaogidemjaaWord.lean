/- Contracts of package word: which calls there are, and registers as calls. -/
import Derived.Test.YtecliaogidemjaaRows
import Derived.Test.YtecliaogidemjaaMem
import Derived.Test.YtecliaogidemjaaCells
import Derived.Test.YtecliaogidemjaaFrame
import Derived.Test.YtecliaogidemjaaBits
import Derived.WalkKit
import Derived.WalkMore
import Derived.WalkSpells
import Derived.WalkLawsBesides
import Derived.ScopeJumps
import Derived.Outline
import Derived.BigRegion
import Derived.Laws.Rows
import Derived.Below
import Derived.OneCell
namespace Go.Proofs.Ytecliaogidemjaa.Word
open Go.RowKit Go.Proofs.Ytecliaogidemjaa.Mem
set_option linter.unusedVariables false

def narrowL : List Int := [2214592611, 2214592612, 2214592613, 2214592614, 2214592615, 2214592616, 2214592617, 2214592619, 2214592620, 2214592621, 2214592623, 2214592624, 2214592625, 2214592626, 2214592627, 2214592628, 2214592630, 2214592631, 2214592635, 2214592637, 2214592638, 2214592639, 2214592640, 2214592641, 2214592642, 2214592643, 2214592645, 2214592646]
def wideL : List Int := [2214592614, 2214592623, 2214592624, 2214592625, 2214592626, 2214592627, 2214592628, 2214592643, 2214592630, 2214592631, 2214592635, 2214592639, 2214592640, 2214592641]
def isIn (l : List Int) (v : Int) : Bool := l.contains v
theorem isIn_true {l : List Int} {v : Int} : isIn l v = true ↔ v ∈ l := List.contains_iff_mem
theorem blk_cells_int {w : World} {l : List Int} {t : TypeId} {g : Nat} (h : w.heap[g]? = some (.cells (l.map (Value.int .i64)).toArray t (0, 0))) : ∀ i, i < l.length → w.cell? ⟨g, 0 + i, none⟩ = some (.int .i64 (l.getD i 0)) := by
  intro i hi
  rw [blk_cell h]
  simp [List.getElem?_map, List.getElem?_eq_getElem hi, List.getD_eq_getElem?_getD]

set_option maxRecDepth 100000 in
set_option maxHeartbeats 2000000 in
/-- slices.Contains over a row of numbers. -/
theorem index_any (a : Option Addr) (b off cap : Nat) (l : List Int) (v : Int) (w : World) (hl : l.length ≤ 1152921504606846976) (ha : 0 < l.length → a = some ⟨b, off, none⟩)
    (hc : ∀ i, i < l.length → w.cell? ⟨b, off + i, none⟩ = some (.int .i64 (l.getD i 0))) :
    Calls Try.prog 40 #[.slice a l.length cap, .int .i64 v] w fun r w' => (∃ z : Int, r = .returned (.int .i64 z) ∧ decide (0 ≤ z) = isIn l v) ∧ w' = w := by
  have HC := Lib.hid hc
  have HA := Lib.hid ha
  clear hc ha
  go_enter Try.func40, Try.ntmps40
  go_wp2
  go_loop [8] (fun t8 => ∃ k : Nat, k ≤ l.length ∧ t8 = .int .i64 k ∧ ∀ j, j < k → l.getD j 0 ≠ v) (fun t8 => l.length - (intOf t8).toNat)
  case atStart => exact ⟨0, by omega, rfl, fun j hj => by omega⟩
  case round =>
    obtain ⟨k, hk, rfl, hno⟩ := hrel
    have HN := Lib.hid hno
    clear hno
    by_cases hlt : (k : Int) < l.length
    · obtain ⟨z, hz⟩ : ∃ z, z = l.getD k 0 := ⟨_, rfl⟩
      have hcell : w.cell? ⟨b, off + k, none⟩ = some (.int .i64 z) := by rw [hz]; exact HC.out k (by omega)
      obtain rfl := HA.out (by omega)
      have HZ := Lib.hid hz
      clear hz
      by_cases hv : v = z
      · go_wp2
        go_ret
        refine ⟨⟨k, rfl, ?_⟩, rfl⟩
        have h1 : isIn l z = true := by
          rw [isIn_true, HZ.out, List.getD_eq_getElem?_getD, List.getElem?_eq_getElem (by omega)]
          exact List.getElem_mem _
        rw [h1]
        simp
      · go_wp2
        go_round
        case rel =>
          refine ⟨k + 1, by omega, by go_num, fun j hj => ?_⟩
          by_cases hjk : j < k
          · exact HN.out j hjk
          · obtain rfl : j = k := by omega
            exact fun h => hv (h.symm.trans HZ.out.symm)
        case measure => simp [intOf]; omega
    · obtain rfl : k = l.length := by omega
      go_wp2
      go_ret
      refine ⟨⟨-1, rfl, ?_⟩, rfl⟩
      have h1 : isIn l v = false := by
        cases h : isIn l v with
        | false => rfl
        | true =>
          rw [isIn_true] at h
          obtain ⟨j, hj, he⟩ := List.mem_iff_getElem.1 h
          exact absurd (by rw [List.getD_eq_getElem?_getD, List.getElem?_eq_getElem hj]; exact he) (HN.out j hj)
      rw [h1]
      rfl

theorem contains_any (a : Option Addr) (b off cap : Nat) (l : List Int) (v : Int) (w : World) (hl : l.length ≤ 1152921504606846976) (ha : 0 < l.length → a = some ⟨b, off, none⟩)
    (hc : ∀ i, i < l.length → w.cell? ⟨b, off + i, none⟩ = some (.int .i64 (l.getD i 0))) :
    Calls Try.prog 33 #[.slice a l.length cap, .int .i64 v] w fun r w' => r = .returned (.bool (isIn l v)) ∧ w' = w := by
  go_enter Try.func33, Try.ntmps33
  go_wp2_with (first
    | (go_at_call 40; refine (index_any a b off cap l v _ hl ha hc).mono ?_; rintro e w1 ⟨⟨z, rfl, hz⟩, rfl⟩)
    | fail)
  go_ret
  exact ⟨rfl, rfl⟩

theorem narrow_any (w : World) : Calls Try.prog 35 #[] w fun r w' => r = .returned (.slice (some ⟨w.heap.size, 0, none⟩) 28 28) ∧ w'.heap[w.heap.size]? = some (.cells (narrowL.map (Value.int .i64)).toArray 3 (0, 0)) ∧ Below w.heap.size w w' := by
  go_enter Try.func35, Try.ntmps35
  go_wp2
  go_ret
  exact ⟨rfl, blk_new _ _, (Below.refl _ _).alloc (Nat.le_refl _) _⟩
theorem wides_any (w : World) : Calls Try.prog 34 #[] w fun r w' => r = .returned (.slice (some ⟨w.heap.size, 0, none⟩) 14 14) ∧ w'.heap[w.heap.size]? = some (.cells (wideL.map (Value.int .i64)).toArray 3 (0, 0)) ∧ Below w.heap.size w w' := by
  go_enter Try.func34, Try.ntmps34
  go_wp2
  go_ret
  exact ⟨rfl, blk_new _ _, (Below.refl _ _).alloc (Nat.le_refl _) _⟩
theorem known_any (w : World) (v : Int) : Calls Try.prog 15 #[.int .i64 v] w fun r w' => r = .returned (.bool (isIn narrowL v)) ∧ Below w.heap.size w w' := by
  go_enter Try.func15, Try.ntmps15
  go_wp2_with (first
    | (go_at_call 35; refine (narrow_any _).mono ?_; rintro e w1 ⟨rfl, hw1, hb1⟩)
    | (go_at_call 33; refine (contains_any _ w.heap.size 0 28 narrowL v _ (by decide) (fun _ => rfl) (blk_cells_int hw1)).mono ?_; rintro e w2 ⟨rfl, rfl⟩)
    | fail)
  go_ret
  exact ⟨rfl, hb1⟩

def nums8 (xs : List Int) : Array Value := (xs.map (Value.int .u64)).toArray
/-- The first i cut to 32 bits. -/
def mixed (xs : List Int) (i : Nat) : List Int := (xs.take i).map (· % 4294967296) ++ xs.drop i
theorem mixed_get {xs : List Int} {i : Nat} (hi : i < xs.length) : (mixed xs i)[i]? = some (xs.getD i 0) := by
  unfold mixed
  have h : ((xs.take i).map (· % (4294967296 : Int))).length = i := by rw [List.length_map, List.length_take]; omega
  rw [List.getElem?_append_right (by omega), h]
  simp [List.getElem?_eq_getElem hi, List.getD_eq_getElem?_getD]
theorem mixed_cell {w : World} {g i : Nat} {t : TypeId} {xs : List Int} (h : w.heap[g]? = some (.cells (nums8 (mixed xs i)) t (0, 0))) (hi : i < 8) (hl : xs.length = 8) : w.cell? ⟨g, i, none⟩ = some (.int .u64 (xs.getD i 0)) := by
  rw [blk_cell h]
  unfold nums8
  rw [List.getElem?_toArray, List.getElem?_map, mixed_get (by omega)]
  rfl
theorem mixed_set {w : World} {g i : Nat} {t : TypeId} {xs : List Int} (h : w.heap[g]? = some (.cells (nums8 (mixed xs i)) t (0, 0))) (hi : i < 8) (hl : xs.length = 8) :
    (w.setCell ⟨g, i, none⟩ (.int .u64 (xs.getD i 0 % 4294967296))).heap[g]? = some (.cells (nums8 (mixed xs (i + 1))) t (0, 0)) := by
  rw [blk_set h i]
  congr 2
  unfold nums8
  rw [List.setIfInBounds_toArray, ← List.map_set]
  congr 2
  apply List.ext_getElem?
  intro j
  unfold mixed
  have hlen : ((xs.take i).map (· % (4294967296 : Int))).length = i := by rw [List.length_map, List.length_take]; omega
  have hlen2 : ((xs.take (i + 1)).map (· % (4294967296 : Int))).length = i + 1 := by rw [List.length_map, List.length_take]; omega
  rcases Nat.lt_trichotomy j i with hj | hj | hj
  · rw [List.getElem?_set_ne (by omega), List.getElem?_append_left (by omega), List.getElem?_append_left (by omega)]
    simp [hj, show j < i + 1 by omega]
  · subst hj
    rw [List.getElem?_set_self (by rw [List.length_append, hlen, List.length_drop]; omega), List.getElem?_append_left (by omega)]
    simp [List.getD_eq_getElem?_getD, List.getElem?_eq_getElem (show j < xs.length by omega)]
  · rw [List.getElem?_set_ne (by omega), List.getElem?_append_right (by omega), List.getElem?_append_right (by omega), hlen, hlen2, List.getElem?_drop, List.getElem?_drop]
    congr 1
    omega
theorem call_res_ {fn : Func} (hf : fn.results = #[.tmp 2, .cell 3 25, .tmp 4, .tmp 5]) {w : World} {tmps : Array Value} {g : Nat} {cs : Array Value} {fr : Nat × Nat} {v2 v4 v5 : Value} (h3 : tmps.getD 3 undef = .pointer (some ⟨g, 0, none⟩)) (hg : w.heap[g]? = some (.cells cs 25 fr)) (hs : cs.size = 8)
    (h2 : tmps.getD 2 undef = v2) (h4 : tmps.getD 4 undef = v4) (h5 : tmps.getD 5 undef = v5) : (results fn tmps).run Try.prog w = .ok (.tuple #[v2, .agg cs, v4, v5]) w := by
  have hi : (Try.prog.info? 25).map (·.size) = some cs.size := by rw [hs]; kernel_rfl
  have h3' : tmps[3]?.getD undef = .pointer (some ⟨g, 0, none⟩) := by simpa using h3
  have h2' : tmps[2]?.getD undef = v2 := by simpa using h2
  have h4' : tmps[4]?.getD undef = v4 := by simpa using h4
  have h5' : tmps[5]?.getD undef = v5 := by simpa using h5
  simp [results, hf, h2', h3', h4', h5', asAddr, run_loadVar_row w g 25 25 cs fr _ hg Try.underlying25 rfl hi]
theorem call_res {w : World} {tmps : Array Value} {g : Nat} {cs : Array Value} {fr : Nat × Nat} {v2 v4 v5 : Value} (h3 : tmps.getD 3 undef = .pointer (some ⟨g, 0, none⟩)) (hg : w.heap[g]? = some (.cells cs 25 fr)) (hs : cs.size = 8)
    (h2 : tmps.getD 2 undef = v2) (h4 : tmps.getD 4 undef = v4) (h5 : tmps.getD 5 undef = v5) : (results Try.f14 tmps).run Try.prog w = .ok (.tuple #[v2, .agg cs, v4, v5]) w := call_res_ rfl h3 hg hs h2 h4 h5

end Go.Proofs.Ytecliaogidemjaa.Word
