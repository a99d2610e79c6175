/- Contracts of package stock, more: none, and a new one. -/
import Derived.Test.YtoimmobljpegmaaRows
import Derived.Test.YtoimmobljpegmaaStock
import Derived.Test.YtoimmobljpegmaaFrame
import Derived.Test.YtoimmobljpegmaaWWords
import Derived.WalkKit
import Derived.WalkSpells
import Derived.WalkLawsBesides
import Derived.Outline
namespace Go.Proofs.Ytoimmobljpegmaa.Stock
open Go.RowKit Go.Proofs.Ytoimmobljpegmaa.Mem
open Go.Proofs.YtoimmobljpegmaaW.PrintWords (bools nums print_append_num print_append_row print_make_of own_reads own_lt own_other own_lit nums_length)
set_option linter.unusedVariables false

/-! A stock that is none. -/
theorem take_none (w : World) : Calls Try.prog 35 #[.pointer none] w fun e w' => e = .returned (.tuple #[.int .i64 0, .bool false]) ∧ w' = w := by
  go_enter Try.func35, Try.ntmps35
  go_wp2
  go_ret2
  exact ⟨rfl, rfl⟩
theorem back_none (w : World) (q : Int) : Calls Try.prog 37 #[.pointer none, .int .i64 q] w fun e w' => e = .returned (.bool false) ∧ ∃ n, w' = w.drewN n := by
  go_enter Try.func37, Try.ntmps37
  go_wp2
  go_quiet (fail)
  go_wp2
  go_ret
  exact ⟨rfl, _, rfl⟩
theorem taken_none (w : World) : Calls Try.prog 39 #[.pointer none] w fun e w' => e = .returned (.slice none 0 0) ∧ w' = w := by
  go_enter Try.func39, Try.ntmps39
  go_wp2
  go_ret
  exact ⟨rfl, rfl⟩
theorem left_none (w : World) : Calls Try.prog 41 #[.pointer none] w fun e w' => e = .returned (.int .i64 0) ∧ w' = w := by
  go_enter Try.func41, Try.ntmps41
  go_wp2
  go_ret
  exact ⟨rfl, rfl⟩

/-- Where a stock begins, how many it has. -/
def cl (n : Int) : Int := if n < 0 then 0 else if 240 < n then 240 else n
theorem made_blk (w : World) (m : Nat) : (w.alloc (.cells (madeCells #[.bool false] m) 4)).heap[w.heap.size]? = some (.cells (bools (List.replicate m false)).toArray 4 (0, 0)) := by
  rw [blk_new]
  congr 2
  apply Array.ext'
  rw [toList_madeCells_one]
  simp [bools]
theorem made_len (m : Nat) : (List.replicate m false).length = m := List.length_replicate

theorem new_cases (n : Int) : (n < 0 ∧ cl n = 0) ∨ (∃ m : Nat, n = m ∧ m ≤ 240 ∧ cl n = m) ∨ (240 < n ∧ cl n = 240) := by
  unfold cl
  by_cases h : n < 0
  · exact .inl ⟨h, by rw [if_pos h]⟩
  · by_cases h2 : 240 < n
    · exact .inr (.inr ⟨h2, by rw [if_neg h, if_pos h2]⟩)
    · exact .inr (.inl ⟨n.toNat, by omega, by omega, by rw [if_neg h, if_neg h2]; omega⟩)

def New (T : Nat) (f n : Int) (w : World) (e : Ending) (w' : World) : Prop :=
  ∃ g r, e = .returned (.pointer (some ⟨g, 0, none⟩)) ∧ Is T w' g r (cl f) (List.replicate (cl n).toNat false) ∧ Below w.heap.size w w' ∧ w.heap.size ≤ g ∧ w.heap.size ≤ r


theorem is_made (T : Nat) (w : World) (f : Int) (m : Nat) :
    Is T ((w.alloc (.cells (madeCells #[.bool false] m) 4)).alloc (.cells #[.int .i64 f, .slice (some ⟨w.heap.size, 0, none⟩) m m] T)) (w.heap.size + 1) w.heap.size f (List.replicate m false) := by
  have hs : (w.alloc (.cells (madeCells #[.bool false] m) 4)).heap.size = w.heap.size + 1 := by show (w.heap.push _).size = _; simp
  refine ⟨?_, blk_alloc (made_blk w m) _, by omega⟩
  rw [made_len, ← hs]
  exact blk_new _ _

set_option maxRecDepth 100000 in
set_option maxHeartbeats 2000000 in
theorem new_any (f n : Int) (w : World) : Calls Try.prog 33 #[.int .i64 f, .int .i64 n] w (New 69 f n w) := by
  have hmk := fun (m : Nat) (hm : m ≤ 240) => print_make_of (P := Try.prog) 52 4 (.bool false) 1 Try.underlying52 info4 rfl (by decide) m (by omega)
  have Hb := Below.refl w.heap.size w
  rcases new_cases n with ⟨hn, hc⟩ | ⟨m, rfl, hm, hc⟩ | ⟨hn, hc⟩
  · have h1 : ∀ W, (Instr.makeSlice 52 (.int .i64 0) (.int .i64 0)).run Try.prog W = .ok (.slice (some ⟨W.heap.size, 0, none⟩) 0 0) (W.alloc (.cells (madeCells #[.bool false] 0) 4)) := fun W => hmk 0 (by omega) W
    clear hmk
    rcases new_cases f with ⟨hf, hd⟩ | ⟨q, rfl, hq, hd⟩ | ⟨hf, hd⟩
    all_goals
      have Hc := Lib.hid hc
      have Hd := Lib.hid hd
      clear hc hd
      go_enter Try.func33, Try.ntmps33
      go_wp2
      go_ret
      refine ⟨w.heap.size + 1, w.heap.size, rfl, ?_, bel_alloc (bel_alloc Hb _) _, by omega, by omega⟩
      rw [Hc.out, Hd.out]
      exact is_made 69 w _ 0
  · have h1 : ∀ W, (Instr.makeSlice 52 (.int .i64 (m : Int)) (.int .i64 (m : Int))).run Try.prog W = .ok (.slice (some ⟨W.heap.size, 0, none⟩) m m) (W.alloc (.cells (madeCells #[.bool false] m) 4)) := fun W => hmk m (by omega) W
    clear hmk
    rcases new_cases f with ⟨hf, hd⟩ | ⟨q, rfl, hq, hd⟩ | ⟨hf, hd⟩
    all_goals
      have Hc := Lib.hid hc
      have Hd := Lib.hid hd
      clear hc hd
      go_enter Try.func33, Try.ntmps33
      go_wp2
      go_ret
      refine ⟨w.heap.size + 1, w.heap.size, rfl, ?_, bel_alloc (bel_alloc Hb _) _, by omega, by omega⟩
      rw [Hc.out, Hd.out]
      exact is_made 69 w _ m
  · have h1 : ∀ W, (Instr.makeSlice 52 (.int .i64 240) (.int .i64 240)).run Try.prog W = .ok (.slice (some ⟨W.heap.size, 0, none⟩) 240 240) (W.alloc (.cells (madeCells #[.bool false] 240) 4)) := fun W => hmk 240 (by omega) W
    clear hmk
    rcases new_cases f with ⟨hf, hd⟩ | ⟨q, rfl, hq, hd⟩ | ⟨hf, hd⟩
    all_goals
      have Hc := Lib.hid hc
      have Hd := Lib.hid hd
      clear hc hd
      go_enter Try.func33, Try.ntmps33
      go_wp2
      go_ret
      refine ⟨w.heap.size + 1, w.heap.size, rfl, ?_, bel_alloc (bel_alloc Hb _) _, by omega, by omega⟩
      rw [Hc.out, Hd.out]
      exact is_made 69 w _ 240

set_option maxRecDepth 100000 in
set_option maxHeartbeats 2000000 in
theorem rnew_any (f n : Int) (w : World) : Calls Try.prog 34 #[.int .i64 f, .int .i64 n] w (New 54 f n w) := by
  have hmk := fun (m : Nat) (hm : m ≤ 240) => print_make_of (P := Try.prog) 52 4 (.bool false) 1 Try.underlying52 info4 rfl (by decide) m (by omega)
  have Hb := Below.refl w.heap.size w
  rcases new_cases n with ⟨hn, hc⟩ | ⟨m, rfl, hm, hc⟩ | ⟨hn, hc⟩
  · have h1 : ∀ W, (Instr.makeSlice 52 (.int .i64 0) (.int .i64 0)).run Try.prog W = .ok (.slice (some ⟨W.heap.size, 0, none⟩) 0 0) (W.alloc (.cells (madeCells #[.bool false] 0) 4)) := fun W => hmk 0 (by omega) W
    clear hmk
    rcases new_cases f with ⟨hf, hd⟩ | ⟨q, rfl, hq, hd⟩ | ⟨hf, hd⟩
    all_goals
      have Hc := Lib.hid hc
      have Hd := Lib.hid hd
      clear hc hd
      go_enter Try.func34, Try.ntmps34
      go_wp2
      go_ret
      refine ⟨w.heap.size + 1, w.heap.size, rfl, ?_, bel_alloc (bel_alloc Hb _) _, by omega, by omega⟩
      rw [Hc.out, Hd.out]
      exact is_made 54 w _ 0
  · have h1 : ∀ W, (Instr.makeSlice 52 (.int .i64 (m : Int)) (.int .i64 (m : Int))).run Try.prog W = .ok (.slice (some ⟨W.heap.size, 0, none⟩) m m) (W.alloc (.cells (madeCells #[.bool false] m) 4)) := fun W => hmk m (by omega) W
    clear hmk
    rcases new_cases f with ⟨hf, hd⟩ | ⟨q, rfl, hq, hd⟩ | ⟨hf, hd⟩
    all_goals
      have Hc := Lib.hid hc
      have Hd := Lib.hid hd
      clear hc hd
      go_enter Try.func34, Try.ntmps34
      go_wp2
      go_ret
      refine ⟨w.heap.size + 1, w.heap.size, rfl, ?_, bel_alloc (bel_alloc Hb _) _, by omega, by omega⟩
      rw [Hc.out, Hd.out]
      exact is_made 54 w _ m
  · have h1 : ∀ W, (Instr.makeSlice 52 (.int .i64 240) (.int .i64 240)).run Try.prog W = .ok (.slice (some ⟨W.heap.size, 0, none⟩) 240 240) (W.alloc (.cells (madeCells #[.bool false] 240) 4)) := fun W => hmk 240 (by omega) W
    clear hmk
    rcases new_cases f with ⟨hf, hd⟩ | ⟨q, rfl, hq, hd⟩ | ⟨hf, hd⟩
    all_goals
      have Hc := Lib.hid hc
      have Hd := Lib.hid hd
      clear hc hd
      go_enter Try.func34, Try.ntmps34
      go_wp2
      go_ret
      refine ⟨w.heap.size + 1, w.heap.size, rfl, ?_, bel_alloc (bel_alloc Hb _) _, by omega, by omega⟩
      rw [Hc.out, Hd.out]
      exact is_made 54 w _ 240
end Go.Proofs.Ytoimmobljpegmaa.Stock
