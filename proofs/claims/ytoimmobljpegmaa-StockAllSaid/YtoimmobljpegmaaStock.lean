/- Contracts of package stock: frames from one on, a row of marks. -/
import Derived.Test.YtoimmobljpegmaaRows
import Derived.Test.YtoimmobljpegmaaCells
import Derived.Test.YtoimmobljpegmaaFrame
import Derived.Test.YtoimmobljpegmaaWWords
import Derived.WalkKit
import Derived.WalkSpells
import Derived.WalkLawsBesides
import Derived.Outline
namespace Go.Proofs.Ytoimmobljpegmaa.Stock
open Go.RowKit Go.Proofs.Ytoimmobljpegmaa.Mem
open Go.Proofs.YtoimmobljpegmaaW.PrintWords (bools nums print_append_num print_append_row print_make_of own_reads own_lt own_other own_lit nums_length)
set_option linter.unusedVariables false

theorem info4 : (Try.prog.info? 4).map (fun i => (i.zero, i.size, i.bytes)) = some (some (.bool false), 1, 1) := by kernel_rfl
theorem info3 : (Try.prog.info? 3).map (fun i => (i.zero, i.size, i.bytes)) = some (some (.int .i64 0), 1, 8) := by kernel_rfl

/-- A stock (type T) at block g, its marks at block r. -/
def Is (T : Nat) (w : World) (g r : Nat) (from_ : Int) (xs : List Bool) : Prop :=
  w.heap[g]? = some (.cells #[.int .i64 from_, .slice (some ⟨r, 0, none⟩) xs.length xs.length] T (0, 0)) ∧ w.heap[r]? = some (.cells (bools xs).toArray 4 (0, 0)) ∧ g ≠ r

theorem Is.cells {T : Nat} {w : World} {g r : Nat} {f : Int} {xs : List Bool} (H : Is T w g r f xs) :
    w.cell? ⟨g, 0, none⟩ = some (.int .i64 f) ∧ w.cell? ⟨g, 1, none⟩ = some (.slice (some ⟨r, 0, none⟩) xs.length xs.length) := cells2 H.1
theorem Is.cellAt {T : Nat} {w : World} {g r : Nat} {f : Int} {xs : List Bool} (H : Is T w g r f xs) (k : Nat) (hk : k < xs.length) : w.cell? ⟨r, k, none⟩ = some (.bool (xs.getD k false)) := by
  rw [blk_cell H.2.1 k]
  simp [bools, List.getElem?_map, List.getElem?_eq_getElem hk, List.getD_eq_getElem?_getD]
theorem Is.free {T : Nat} {w : World} {g r : Nat} {f : Int} {xs : List Bool} (H : Is T w g r f xs) (k : Nat) : w.frozen? ⟨r, k, none⟩ = false := blk_free H.2.1 k
theorem Is.set {T : Nat} {w : World} {g r : Nat} {f : Int} {xs : List Bool} (H : Is T w g r f xs) (k : Nat) (u : Bool) : Is T (w.setCell ⟨r, k, none⟩ (.bool u)) g r f (xs.set k u) := by
  refine ⟨?_, ?_, H.2.2⟩
  · rw [List.length_set]; exact blk_far H.1 (p := ⟨r, k, none⟩) H.2.2 _
  · rw [blk_set H.2.1 k (.bool u)]
    congr 2
    simp [bools, List.map_set]
theorem Is.below {T : Nat} {w w' : World} {g r : Nat} {f : Int} {xs : List Bool} (H : Is T w g r f xs) (hb : Below w.heap.size w w') : Is T w' g r f xs := ⟨blk_below H.1 hb, blk_below H.2.1 hb, H.2.2⟩
theorem Is.grown {T : Nat} {w w' : World} {g r b : Nat} {f : Int} {xs : List Bool} (H : Is T w g r f xs) (hg : w.grownBy w' (some b)) (h1 : g ≠ b) (h2 : r ≠ b) : Is T w' g r f xs :=
  ⟨(hg.block g (blk_lt H.1) (by simpa using h1)).trans H.1, (hg.block r (blk_lt H.2.1) (by simpa using h2)).trans H.2.1, H.2.2⟩

theorem grown_refl (w : World) (row : Option Nat) : w.grownBy w row := ⟨rfl, rfl, rfl, Nat.le_refl _, fun _ _ _ => rfl⟩
theorem grown_set {w W : World} {g : Nat} (h : w.grownBy W (some g)) (i : Nat) (u : Value) : w.grownBy (W.setCell ⟨g, i, none⟩ u) (some g) := by
  refine ⟨h.os, h.tape, h.output, by simpa [World.setCell] using h.size, fun k hk hne => ?_⟩
  rw [← h.block k hk hne]
  simp only [World.setCell, Array.getElem?_modify]
  rw [if_neg (fun e => hne (by rw [e]))]

theorem grown_drewN {w W : World} {row : Option Nat} (h : w.grownBy W row) (n : Nat) : w.grownBy (W.drewN n) row := ⟨h.os, h.tape, h.output, h.size, h.block⟩
/-- The least number that is not marked. -/
def least (xs : List Bool) : Option Nat := xs.findIdx? (fun b => !b)
theorem least_some {xs : List Bool} {k : Nat} (hk : k < xs.length) (hall : ∀ j, j < k → xs.getD j false = true) (h : xs.getD k false = false) : least xs = some k := by
  unfold least
  rw [List.findIdx?_eq_some_iff_getElem]
  refine ⟨hk, ?_, fun j hj => ?_⟩
  · simp [List.getD_eq_getElem?_getD, List.getElem?_eq_getElem hk] at h; simp [h]
  · have := hall j hj
    simp [List.getD_eq_getElem?_getD, List.getElem?_eq_getElem (show j < xs.length by omega)] at this
    simp [this]
theorem least_none {xs : List Bool} (hall : ∀ j, j < xs.length → xs.getD j false = true) : least xs = none := by
  unfold least
  rw [List.findIdx?_eq_none_iff]
  intro x hx
  obtain ⟨j, hj, rfl⟩ := List.mem_iff_getElem.1 hx
  have := hall j hj
  simp [List.getD_eq_getElem?_getD, List.getElem?_eq_getElem hj] at this
  simp [this]

def Took (T : Nat) (w : World) (g r : Nat) (f : Int) (xs : List Bool) (e : Ending) (w' : World) : Prop :=
  (∃ k, least xs = some k ∧ e = .returned (.tuple #[.int .i64 (f + k), .bool true]) ∧ Is T w' g r f (xs.set k true) ∧ w.grownBy w' (some r)) ∨
  (least xs = none ∧ e = .returned (.tuple #[.int .i64 0, .bool false]) ∧ Is T w' g r f xs ∧ w.grownBy w' (some r))

set_option maxRecDepth 100000 in
set_option maxHeartbeats 1000000 in
theorem take_any (w : World) (g r : Nat) (f : Int) (xs : List Bool) (H : Is 69 w g r f xs) (hf : 0 ≤ f ∧ f ≤ 240) (hl : xs.length ≤ 240) :
    Calls Try.prog 35 #[.pointer (some ⟨g, 0, none⟩)] w (Took 69 w g r f xs) := by
  obtain ⟨c0, c1⟩ := H.cells
  have hgr := H.2.2
  have hrg := H.2.2.symm
  have HH := Lib.hid H
  clear H
  go_enter Try.func35, Try.ntmps35
  go_wp2
  go_loop [13] (fun t13 => ∃ k : Nat, k ≤ xs.length ∧ t13 = .int .i64 k ∧ ∀ j, j < k → xs.getD j false = true) (fun t13 => xs.length - (intOf t13).toNat)
  case atStart => exact ⟨0, by omega, rfl, fun j hj => absurd hj (by omega)⟩
  case round =>
    obtain ⟨k, hk, rfl, hall⟩ := hrel
    have HA := Lib.hid hall
    clear hall
    by_cases hlt : k < xs.length
    · have ck := HH.out.cellAt k hlt
      have fk := HH.out.free k
      cases hv : xs.getD k false with
      | true =>
        rw [hv] at ck
        have HV := Lib.hid hv
        clear hv
        go_wp2
        go_round
        case rel => exact ⟨k + 1, by omega, by go_num, fun j hj => by rcases Nat.lt_succ_iff_lt_or_eq.1 hj with h | h; exact HA.out j h; rw [h]; exact HV.out⟩
        case measure => simp [intOf]; omega
      | false =>
        rw [hv] at ck
        have HV := Lib.hid hv
        clear hv
        go_wp2
        go_ret2
        exact .inl ⟨k, least_some hlt HA.out HV.out, rfl, HH.out.set k true, grown_set (grown_refl _ _) _ _⟩
    · obtain rfl : k = xs.length := by omega
      go_wp2
      go_ret2
      exact .inr ⟨least_none HA.out, rfl, HH.out, grown_refl _ _⟩

/-- What giving a frame back does. -/
def backF (f : Int) (xs : List Bool) (q : Int) : Option Nat := if f ≤ q ∧ q - f < xs.length ∧ xs.getD (q - f).toNat false = true then some (q - f).toNat else none

set_option maxRecDepth 100000 in
set_option maxHeartbeats 1000000 in
theorem back_no (w : World) (g r : Nat) (f q : Int) (xs : List Bool) (H : Is 69 w g r f xs) (hf : 0 ≤ f ∧ f ≤ 240) (hl : xs.length ≤ 240) (hq : q ≤ 9223372036854775807) (h : backF f xs q = none) :
    Calls Try.prog 37 #[.pointer (some ⟨g, 0, none⟩), .int .i64 q] w fun e w' => e = .returned (.bool false) ∧ ∃ n, w' = w.drewN n := by
  obtain ⟨c0, c1⟩ := H.cells
  have HH := Lib.hid H
  clear H
  by_cases h1 : f ≤ q
  · by_cases h2 : q - f < xs.length
    · obtain ⟨k, rfl⟩ : ∃ k : Nat, q = f + k := ⟨(q - f).toNat, by omega⟩
      have hk : k < xs.length := by omega
      have hv : xs.getD k false = false := by
        cases hv : xs.getD k false with
        | false => rfl
        | true =>
          have e : (f + (k : Int) - f).toNat = k := by omega
          rw [backF, if_pos ⟨h1, h2, by rw [e]; exact hv⟩] at h
          cases h
      have ck := HH.out.cellAt k hk
      rw [hv] at ck
      have hw1 : f + (k : Int) - f = k := by omega
      have hd1 : decide (f + (k : Int) < f) = false := decide_eq_false (by omega)
      have hd2 : decide ((xs.length : Int) ≤ (k : Int)) = false := decide_eq_false (by omega)
      have hwk : IntKind.i64.wrap (k : Int) = k := IntWalk.i64_in _ (by omega)
      have hle : ¬ ((xs.length : Int) ≤ (k : Int)) := by omega
      have hge0 : (0 : Int) ≤ k := by omega
      have hltk : (k : Int) < xs.length := by omega
      clear h hv
      go_enter Try.func37, Try.ntmps37
      go_wp2
      go_quiet (fail)
      go_wp2
      go_ret
      exact ⟨rfl, _, rfl⟩
    · have hwk : IntKind.i64.wrap (q - f) = q - f := IntWalk.i64_in _ (by omega)
      have hd1 : decide (q < f) = false := decide_eq_false (by omega)
      have hle : (xs.length : Int) ≤ q - f := by omega
      clear h
      go_enter Try.func37, Try.ntmps37
      go_wp2
      go_quiet (fail)
      go_wp2
      go_ret
      exact ⟨rfl, _, rfl⟩
  · have hlt : q < f := by omega
    clear h
    go_enter Try.func37, Try.ntmps37
    go_wp2
    go_quiet (fail)
    go_wp2
    go_ret
    exact ⟨rfl, _, rfl⟩

set_option maxRecDepth 100000 in
set_option maxHeartbeats 1000000 in
theorem back_yes (w : World) (g r : Nat) (f : Int) (k : Nat) (xs : List Bool) (H : Is 69 w g r f xs) (hf : 0 ≤ f ∧ f ≤ 240) (hl : xs.length ≤ 240) (hk : k < xs.length) (hv : xs.getD k false = true) :
    Calls Try.prog 37 #[.pointer (some ⟨g, 0, none⟩), .int .i64 (f + k)] w fun e w' => e = .returned (.bool true) ∧ Is 69 w' g r f (xs.set k false) ∧ w.grownBy w' (some r) := by
  obtain ⟨c0, c1⟩ := H.cells
  have hgr := H.2.2
  have hrg := H.2.2.symm
  have HH := Lib.hid H
  have ck := HH.out.cellAt k hk
  have fk := HH.out.free k
  rw [hv] at ck
  clear H hv
  have hw1 : f + (k : Int) - f = k := by omega
  have hd1 : decide (f + (k : Int) < f) = false := decide_eq_false (by omega)
  have hd2 : decide ((xs.length : Int) ≤ (k : Int)) = false := decide_eq_false (by omega)
  have hwk : IntKind.i64.wrap (k : Int) = k := IntWalk.i64_in _ (by omega)
  have hle : ¬ ((xs.length : Int) ≤ (k : Int)) := by omega
  have hge0 : (0 : Int) ≤ k := by omega
  have hltk : (k : Int) < xs.length := by omega
  go_enter Try.func37, Try.ntmps37
  go_wp2
  go_quiet (fail)
  go_wp2
  go_region
  all_goals
    go_wp2
    go_ret
    exact ⟨rfl, (show Is 69 (w.drewN _) g r f xs from HH.out).set k false, grown_set (grown_drewN (grown_refl _ _) _) _ _⟩

/-- The frames that are marked, among the first k. -/
def tk (f : Int) (xs : List Bool) (k : Nat) : List Int := ((List.range k).filter fun j => xs.getD j false).map fun (j : Nat) => f + (j : Int)
theorem tk_hit (f : Int) (xs : List Bool) (k : Nat) (h : xs.getD k false = true) : tk f xs (k + 1) = tk f xs k ++ [f + (k : Int)] := by
  have h' : xs[k]?.getD false = true := by simpa [List.getD_eq_getElem?_getD] using h
  unfold tk
  rw [List.range_succ, List.filter_append]
  simp [h']
theorem tk_miss (f : Int) (xs : List Bool) (k : Nat) (h : xs.getD k false = false) : tk f xs (k + 1) = tk f xs k := by
  have h' : xs[k]?.getD false = false := by simpa [List.getD_eq_getElem?_getD] using h
  unfold tk
  rw [List.range_succ, List.filter_append]
  simp [h']
theorem tk_len (f : Int) (xs : List Bool) (k : Nat) : (tk f xs k).length ≤ k := by
  unfold tk
  rw [List.length_map]
  exact Nat.le_trans (List.length_filter_le _ _) (by simp)

set_option maxRecDepth 100000 in
set_option maxHeartbeats 1000000 in
theorem taken_any (w : World) (g r : Nat) (f : Int) (xs : List Bool) (H : Is 69 w g r f xs) (hf : 0 ≤ f ∧ f ≤ 240) (hl : xs.length ≤ 240) :
    Calls Try.prog 39 #[.pointer (some ⟨g, 0, none⟩)] w fun e w' => ∃ v, e = .returned v ∧ w'.ownsRow w.heap.size 3 1 v (tk f xs xs.length).length (nums .i64 (tk f xs xs.length)) ∧ Below w.heap.size w w' := by
  obtain ⟨c0, c1⟩ := H.cells
  have HH := Lib.hid H
  have hgs := blk_lt H.1
  have hrs := blk_lt H.2.1
  clear H
  go_enter Try.func39, Try.ntmps39
  go_wp2
  go_loopw [2, 12] (fun t2 t12 wr => ∃ k : Nat, k ≤ xs.length ∧ t12 = .int .i64 k ∧ wr.ownsRow w.heap.size 3 1 t2 (tk f xs k).length (nums .i64 (tk f xs k)) ∧ Below w.heap.size w wr) (fun _ t12 _ => xs.length - (intOf t12).toNat)
  case atStart => exact ⟨0, by omega, rfl, World.ownsRow_nil _ _ _ _, Below.refl _ _⟩
  case round =>
    obtain ⟨k, hk, rfl, ho, hb⟩ := hrel
    have HO := Lib.hid ho
    clear ho
    have hlen := tk_len f xs k
    have d0 : wr.cell? ⟨g, 0, none⟩ = some (.int .i64 f) := (hb.cell (p := ⟨g, 0, none⟩) hgs).trans c0
    by_cases hlt : k < xs.length
    · have ck : wr.cell? ⟨r, k, none⟩ = some (.bool (xs.getD k false)) := (hb.cell (p := ⟨r, k, none⟩) hrs).trans (HH.out.cellAt k hlt)
      cases hv : xs.getD k false with
      | true =>
        rw [hv] at ck
        have HV := Lib.hid hv
        clear hv c0 c1
        go_wp2_with (first
          | (at_builtin; refine print_append_num w.heap.size rfl (.tmp 18) (.tmp 25) 22 3 .i64 8 rfl Try.underlying22 info3 (by decide) _ (tk f xs k) (f + (k : Int)) rfl rfl HO.out hb hb.size (by omega) ?_; intro v1 w1 ho1 hb1 hg1 hat1))
        go_roundw
        case rel => exact ⟨k + 1, by omega, by go_num, by rw [tk_hit f xs k HV.out]; exact ho1, hb1⟩
        case measure => simp [intOf]; omega
      | false =>
        rw [hv] at ck
        have HV := Lib.hid hv
        clear hv c0 c1
        go_wp2
        go_roundw
        case rel => exact ⟨k + 1, by omega, by go_num, by rw [tk_miss f xs k HV.out]; exact HO.out, hb⟩
        case measure => simp [intOf]; omega
    · obtain rfl : k = xs.length := by omega
      go_wp2
      go_ret
      exact ⟨_, rfl, HO.out, hb⟩

set_option maxRecDepth 100000 in
set_option maxHeartbeats 1000000 in
theorem left_any (w : World) (g r : Nat) (f : Int) (xs : List Bool) (H : Is 69 w g r f xs) (hf : 0 ≤ f ∧ f ≤ 240) (hl : xs.length ≤ 240) :
    Calls Try.prog 41 #[.pointer (some ⟨g, 0, none⟩)] w fun e w' => e = .returned (.int .i64 (xs.length - (tk f xs xs.length).length)) ∧ Below w.heap.size w w' := by
  obtain ⟨c0, c1⟩ := H.cells
  have HH := Lib.hid H
  have hgs := blk_lt H.1
  have hlen := tk_len f xs xs.length
  clear H
  have hb := Below.refl w.heap.size w
  have hwr : IntKind.i64.wrap ((xs.length : Int) - (tk f xs xs.length).length) = (xs.length : Int) - (tk f xs xs.length).length := IntWalk.i64_in _ (by omega)
  go_enter Try.func41, Try.ntmps41
  go_wp2
  go_region_held3 (fun w' => w'.cell? ⟨g, 1, none⟩ = some (.slice (some ⟨r, 0, none⟩) xs.length xs.length)) (first | exact c1 | exact c2)
    (first
      | (go_at_call 39; refine (taken_any _ g r f xs (show Is 69 w.drew g r f xs from HH.out) hf hl).mono ?_; rintro e w1 ⟨v, rfl, ho, hb1⟩; obtain ⟨A5, c5, rfl, hr5⟩ := own_reads ho; have c2 : w1.cell? ⟨g, 1, none⟩ = some (.slice (some ⟨r, 0, none⟩) xs.length xs.length) := (hb1.cell (p := ⟨g, 1, none⟩) hgs).trans c1; have hb2 : Below w.heap.size w w1 := bel_then (bel_drew hb) (Nat.le_refl _) hb1; clear ho hr5 hb1))
  all_goals
    go_wp2
    go_ret
    exact ⟨rfl, hb2⟩

end Go.Proofs.Ytoimmobljpegmaa.Stock
