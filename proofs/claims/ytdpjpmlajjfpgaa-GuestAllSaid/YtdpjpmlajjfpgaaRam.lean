/- Contracts of package ram: New, at, Frames, Secure, Read, word, of a memory at block g. -/
import Derived.Test.YtdpjpmlajjfpgaaKept
import Derived.Test.YtdpjpmlajjfpgaaRows
import Derived.WalkKit
import Derived.WalkSpells
import Derived.WalkLawsBesides
import Derived.Below
import Derived.Deep.QuietTactic
import Derived.BigQuiet
import Derived.Outline
namespace Go.Proofs.Ytdpjpmlajjfpgaa.Ram
open Go.RowKit Go.Proofs.Ytdpjpmlajjfpgaa.Mem Go.Proofs.Ytdpjpmlajjfpgaa.Kept
open Go.Proofs.YtdpjpmlajjfpgaaW.PrintWords (nums ReadsInt own_reads own_reads' own_le own_lit print_append_row)
set_option linter.unusedVariables false
set_option linter.unusedSimpArgs false

theorem info5 : (Try.prog.info? 5).map (fun i => (i.zero, i.size, i.bytes)) = some (some (.int .u8 0), 1, 1) := by kernel_rfl
theorem infoF : (Try.prog.info? 113).map (fun i => (i.zero, i.size, i.bytes)) = some (some (.agg (Array.replicate 128 (.int .u8 0))), 128, 128) := by kernel_rfl
theorem underB : Try.prog.underlying 26 = some (.slice 5) := by kernel_rfl
theorem underF : Try.prog.underlying 87 = some (.slice 113) := by kernel_rfl

/-- A memory at block g: n frames at block b, as bytes F, of which s are secure. -/
def Is (w : World) (B g b n : Nat) (F : List Int) (s : Int) : Prop :=
  ∃ A c cur, w.heap[g]? = some (.cells #[.slice A n c, .int .i64 s] 89 (0, 0)) ∧ B ≤ g ∧ n ≤ 240 ∧ F.length = n * 128 ∧ (A = none → n = 0) ∧ n ≤ c ∧ c ≤ 9223372036854775807 ∧
    (0 < n → A = some ⟨b, 0, none⟩ ∧ B ≤ b ∧ w.heap[b]? = some (.cells cur 113 (0, 0)) ∧ cur.toList.take (n * 128) = nums .u8 F ∧ n * 128 ≤ cur.size)
theorem Is.lt {w : World} {B g b n : Nat} {F : List Int} {s : Int} (h : Is w B g b n F s) : B ≤ g ∧ g < w.heap.size := by
  obtain ⟨A, c, cur, hg, hB, _⟩ := h
  exact ⟨hB, blk_lt hg⟩
theorem Is.base {w : World} {B g b n : Nat} {F : List Int} {s : Int} (h : Is w B g b n F s) : B ≤ w.heap.size := Nat.le_of_lt (Nat.lt_of_le_of_lt h.lt.1 h.lt.2)
theorem Is.row {w : World} {B g b n : Nat} {F : List Int} {s : Int} (h : Is w B g b n F s) (hn : 0 < n) : B ≤ b ∧ b < w.heap.size ∧ b ≠ g := by
  obtain ⟨A, c, cur, hg, hB, _, _, _, _, _, hr⟩ := h
  obtain ⟨_, h1, h2, _⟩ := hr hn
  refine ⟨h1, blk_lt h2, fun e => ?_⟩
  subst e
  rw [hg] at h2
  injection h2 with h2
  injection h2 with _ h2 _
  exact absurd h2 (by decide)
theorem Is.len {w : World} {B g b n : Nat} {F : List Int} {s : Int} (h : Is w B g b n F s) : F.length = n * 128 ∧ n ≤ 240 := by
  obtain ⟨A, c, cur, hg, hB, h1, h2, _⟩ := h
  exact ⟨h2, h1⟩
theorem Is.kept {w w' : World} {S : Nat → Prop} {B g b n : Nat} {F : List Int} {s : Int} (h : Is w B g b n F s) (hk : Kept w w' S) (hg : ¬ S g) (hb : 0 < n → ¬ S b) : Is w' B g b n F s := by
  obtain ⟨A, c, cur, h1, h2, h3, h4, h5, h6, h7, h8⟩ := h
  exact ⟨A, c, cur, hk.blk h1 hg, h2, h3, h4, h5, h6, h7, fun hn => ⟨(h8 hn).1, (h8 hn).2.1, hk.blk (h8 hn).2.2.1 (hb hn), (h8 hn).2.2.2⟩⟩
theorem Is.below {w w' : World} {B g b n : Nat} {F : List Int} {s : Int} (h : Is w B g b n F s) (hb : Below w.heap.size w w') : Is w' B g b n F s :=
  h.kept (S := fun _ => False) (kept_below hb) (fun h => h) (fun _ h => h)
/-- A part of the frames reads so. -/
theorem Is.reads {w : World} {B g b n : Nat} {F : List Int} {s : Int} (h : Is w B g b n F s) (hn : 0 < n) {o m : Nat} (hm : o + m ≤ n * 128) : ReadsInt w .u8 (some ⟨b, o, none⟩) m ((F.drop o).take m) := by
  obtain ⟨A, c, cur, hg, hB, h3, h4, h5, h6, h7, h8⟩ := h
  obtain ⟨_, _, hc, ht, _⟩ := h8 hn
  refine ⟨by rw [List.length_take, List.length_drop]; omega, by omega, fun h0 => ⟨_, rfl, fun j hj => ?_⟩⟩
  rw [add_at, blk_cell hc]
  have e : (cur.toList.take (n * 128))[o + j]? = (nums .u8 F)[o + j]? := by rw [ht]
  rw [List.getElem?_take, if_pos (by omega)] at e
  rw [← Array.getElem?_toList, e, nums, List.getElem?_map, List.getD_eq_getElem?_getD, List.getElem?_take, if_pos hj, List.getElem?_drop, List.getElem?_eq_getElem (by omega)]
  rfl

set_option maxHeartbeats 400000 in
theorem frames_nil (w : World) : Calls Try.prog 56 #[.pointer none] w fun e w' => e = .returned (.int .i64 0) ∧ w = w' := by
  go_enter Try.func56, Try.ntmps56
  go_wp2
  go_ret
  exact ⟨rfl, rfl⟩
set_option maxHeartbeats 400000 in
theorem frames_any {w : World} {B g b n : Nat} {F : List Int} {s : Int} (h : Is w B g b n F s) : Calls Try.prog 56 #[.pointer (some ⟨g, 0, none⟩)] w fun e w' => e = .returned (.int .i64 n) ∧ w = w' := by
  obtain ⟨A, c, cur, hg, _⟩ := h
  obtain ⟨x0, x1⟩ := cells2 hg
  clear hg
  go_enter Try.func56, Try.ntmps56
  go_wp2
  go_ret
  exact ⟨rfl, rfl⟩

theorem at_nil (w : World) (sec : Bool) (f o k : Int) : Calls Try.prog 52 #[.pointer none, .bool sec, .int .i64 f, .int .i64 o, .int .i64 k] w fun e w' => e = .returned (.slice none 0 0) ∧ w = w' := by
  go_enter Try.func52, Try.ntmps52
  go_wp2
  all_goals go_ret
  all_goals exact ⟨rfl, rfl⟩
/-- May it be had? -/
def may (n : Nat) (s : Int) (sec : Bool) (f o k : Int) : Bool := decide (0 ≤ f) && decide (f < n) && (sec || decide (s ≤ f)) && decide (0 ≤ o) && decide (0 ≤ k) && decide (o ≤ 128) && decide (k ≤ 128 - o)
theorem may_no {n : Nat} {s : Int} {sec : Bool} {f o k : Int} (h : may n s sec f o k = false) : f < 0 ∨ (n : Int) ≤ f ∨ (sec = false ∧ f < s) ∨ o < 0 ∨ k < 0 ∨ 128 < o ∨ (0 ≤ o ∧ o ≤ 128 ∧ 128 - o < k) := by
  unfold may at h
  cases sec <;> simp only [Bool.and_eq_false_iff, Bool.or_eq_false_iff, decide_eq_false_iff_not, Bool.false_or, Bool.true_or, reduceCtorEq, false_and, or_false, true_and] at h <;> simp only [reduceCtorEq, false_and, false_or, true_and] <;> omega
theorem may_yes {n : Nat} {s : Int} {sec : Bool} {f o k : Int} (h : may n s sec f o k = true) : 0 ≤ f ∧ f < n ∧ (sec = true ∨ s ≤ f) ∧ 0 ≤ o ∧ 0 ≤ k ∧ o ≤ 128 ∧ k ≤ 128 - o := by
  unfold may at h
  simp only [Bool.and_eq_true, Bool.or_eq_true, decide_eq_true_eq] at h
  obtain ⟨⟨⟨⟨⟨⟨h1, h2⟩, h3⟩, h4⟩, h5⟩, h6⟩, h7⟩ := h
  exact ⟨h1, h2, h3, h4, h5, h6, h7⟩
set_option maxHeartbeats 4000000 in
theorem at_no {w : World} {B g b n : Nat} {F : List Int} {s : Int} (h : Is w B g b n F s) (sec : Bool) (f o k : Int) (hm : may n s sec f o k = false) :
    Calls Try.prog 52 #[.pointer (some ⟨g, 0, none⟩), .bool sec, .int .i64 f, .int .i64 o, .int .i64 k] w fun e w' => e = .returned (.slice none 0 0) ∧ w = w' := by
  obtain ⟨A, c, cur, hg, _, hn, _⟩ := h
  obtain ⟨x0, x1⟩ := cells2 hg
  have hN : (n : Int) ≤ 240 := by omega
  clear hg hn
  rcases may_no hm with h1 | h1 | ⟨rfl, h1⟩ | h1 | h1 | h1 | ⟨h1, h2, h3⟩
  all_goals
    clear hm
    go_enter Try.func52, Try.ntmps52
    go_wp2
    all_goals go_ret
    all_goals exact ⟨rfl, rfl⟩
theorem run_at (w : World) (b q o k : Nat) (h : o + k ≤ 128) :
    (Instr.sliceAt 113 (.pointer (some ⟨b, q, none⟩)) (some (.int .i64 o)) (some (.int .i64 ((o : Int) + k))) (some (.int .i64 ((o : Int) + k)))).run Try.prog w = .ok (.slice (some ⟨b, q + (if k = 0 then 0 else o), none⟩) k k) w := by
  have hl : Try.prog.arrayLen 113 = 128 := by kernel_rfl
  have he : Try.prog.elem 113 = 5 := by kernel_rfl
  obtain ⟨i0, hi, hz0, hz1, hz2⟩ := info_parts info5
  have hs : (sizeOf 5).run Try.prog w = .ok 1 w := by simp [sizeOf, typeInfo, hi, hz1]
  have hu : Try.prog.underlying 113 = some (.array (Try.prog.arrayLen 113) (Try.prog.elem 113)) := by rw [hl, he]; exact Try.underlying113
  rw [run_sliceAt_array_lhm w _ _ hu .i64 .i64 .i64 (o : Int) ((o : Int) + k) ((o : Int) + k) (by omega) (by omega) (by omega) (by rw [hl]; omega), he, hs]
  simp only [Result.andThen_ok, slicedAt]
  have e1 : ((o : Int) + k).toNat = o + k := by omega
  have e2 : ((o : Int)).toNat = o := by omega
  rw [e1, e2]
  by_cases hk : k = 0
  · subst hk
    simp
  · rw [if_neg (by omega), if_neg hk, add_at]
    simp
set_option maxHeartbeats 4000000 in
theorem at_ok {w : World} {B g b n : Nat} {F : List Int} {s : Int} (h : Is w B g b n F s) (sec : Bool) (f o k : Nat) (h1 : f < n) (h2 : sec = true ∨ s ≤ f) (h3 : o + k ≤ 128) :
    Calls Try.prog 52 #[.pointer (some ⟨g, 0, none⟩), .bool sec, .int .i64 f, .int .i64 o, .int .i64 k] w fun e w' => e = .returned (.slice (some ⟨b, f * 128 + (if k = 0 then 0 else o), none⟩) k k) ∧ w = w' := by
  obtain ⟨A, c, cur, hg, _, hn, hF, _, hc, hc2, hr⟩ := h
  have hr1 := (hr (by omega)).1
  subst hr1
  obtain ⟨x0, x1⟩ := cells2 hg
  have hN : (n : Int) ≤ 240 := by omega
  have q1 : (f : Int) < (n : Int) := by omega
  have q2 : (o : Int) + (k : Int) ≤ 128 := by omega
  have q3 : (k : Int) ≤ 128 - (o : Int) := by omega
  have hsl := fun w => run_at w b (f * 128) o k h3
  clear hg hn hr
  obtain ⟨z, hz⟩ : ∃ z, (if k = 0 then 0 else o) = z := ⟨_, rfl⟩
  rw [hz] at hsl ⊢
  clear hz
  cases sec with
  | true =>
    clear h2
    go_enter Try.func52, Try.ntmps52
    go_wp2
    go_ret
    exact ⟨rfl, rfl⟩
  | false =>
    have h4 : s ≤ f := by simpa using h2
    clear h2
    go_enter Try.func52, Try.ntmps52
    go_wp2
    go_ret
    exact ⟨rfl, rfl⟩
end Go.Proofs.Ytdpjpmlajjfpgaa.Ram
