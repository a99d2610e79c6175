/- Contracts of Loan and Same: bytes that are lent with more behind, and whether they are as they were. -/
import Derived.Test.YtdpjpmlajjfpgaaRows
import Derived.Test.YtdpjpmlajjfpgaaMem
import Derived.Test.YtdpjpmlajjfpgaaCells
import Derived.Test.YtdpjpmlajjfpgaaWWords
import Derived.WalkKit
import Derived.WalkSpells
import Derived.WalkLawsBesides
import Derived.Below
import Derived.Deep.QuietTactic
import Derived.Outline
namespace Go.Proofs.Ytdpjpmlajjfpgaa.Loan
open Go.RowKit Go.Proofs.Ytdpjpmlajjfpgaa.Mem
open Go.Proofs.YtdpjpmlajjfpgaaW.PrintWords (nums ReadsInt print_append_num print_append_row own_reads own_nil own_alloc string_of_reads)
set_option linter.unusedVariables false

theorem info5 : (Try.prog.info? 5).map (fun i => (i.zero, i.size, i.bytes)) = some (some (.int .u8 0), 1, 1) := by kernel_rfl
theorem underlyingB : Try.prog.underlying 26 = some (.slice 5) := by kernel_rfl
theorem underlyingU : Try.prog.underlying 5 = some (.int .u8) := by kernel_rfl
theorem underlyingS : Try.prog.underlying 9 = some .string := by kernel_rfl
def tailL : List Int := [161, 178, 195, 212, 229]
/-- What lies at block g: l, and the five behind. -/
def Lent (w : World) (g : Nat) (l : List Int) : Prop := ∃ (cs : Array Value) (t : TypeId), w.heap[g]? = some (.cells cs t (0, 0)) ∧ ∀ i, i < l.length + 5 → cs[i]? = some (.int .u8 ((l ++ tailL).getD i 0))
theorem Lent.below {w w' : World} {g : Nat} {l : List Int} (h : Lent w g l) (hb : Below w.heap.size w w') : Lent w' g l := by
  obtain ⟨cs, t, hg, hc⟩ := h
  exact ⟨cs, t, blk_below hg hb, hc⟩
theorem Lent.lt {w : World} {g : Nat} {l : List Int} (h : Lent w g l) : g < w.heap.size := by
  obtain ⟨cs, t, hg, hc⟩ := h
  exact blk_lt hg
theorem add_at (g o j : Nat) : (⟨g, o, none⟩ : Addr).add j = ⟨g, o + j, none⟩ := by unfold Addr.add; split <;> simp_all
/-- A part of what is lent. -/
theorem Lent.reads {w : World} {g : Nat} {l : List Int} (h : Lent w g l) (hl : l.length ≤ 1000) : ReadsInt w .u8 (some ⟨g, 0, none⟩) l.length l ∧ ReadsInt w .u8 (some ⟨g, l.length, none⟩) 5 tailL := by
  obtain ⟨cs, t, hg, hc⟩ := h
  refine ⟨⟨rfl, by omega, fun _ => ⟨_, rfl, fun j hj => ?_⟩⟩, ⟨rfl, by omega, fun _ => ⟨_, rfl, fun j hj => ?_⟩⟩⟩
  · rw [add_at, blk_cell hg, Nat.zero_add, hc j (by omega), List.getD_eq_getElem?_getD, List.getElem?_append_left hj, List.getD_eq_getElem?_getD]
  · rw [add_at, blk_cell hg, hc _ (by omega), List.getD_eq_getElem?_getD, List.getElem?_append_right (by omega), List.getD_eq_getElem?_getD, Nat.add_sub_cancel_left]
theorem own_lent {w : World} {base : Nat} {v : Value} {l : List Int} (ho : w.ownsRow base 5 1 v (l ++ tailL).length (nums .u8 (l ++ tailL))) : ∃ g c, v = .slice (some ⟨g, 0, none⟩) (l ++ tailL).length c ∧ (l ++ tailL).length ≤ c ∧ c ≤ maxLen ∧ base ≤ g ∧ Lent w g l := by
  have hlen : (l ++ tailL).length = l.length + 5 := by rw [List.length_append]; rfl
  rcases ho.2 with ⟨_, hn⟩ | ⟨g, cap, cur, rfl, hb, hg, hnc, hx, hcs, hcur⟩
  · omega
  · refine ⟨g, cap, rfl, hnc, hx, hb, cur, _, hg, fun i hi => ?_⟩
    have h1 := ho.cells (g := g) rfl i (.int .u8 ((l ++ tailL).getD i 0)) (by
      rw [nums, List.getElem?_map, List.getD_eq_getElem?_getD, List.getElem?_eq_getElem (show i < (l ++ tailL).length by omega)]; rfl)
    rw [add_at, Nat.zero_add, blk_cell hg] at h1
    exact h1

theorem bel_alloc2 {B : Nat} {w W : World} (h : Below B w W) (hB : B ≤ W.heap.size) (o : Obj) : Below B w (W.alloc o) := h.alloc hB o
theorem reads5 (w : World) : ReadsInt (w.alloc (.cells #[.int .u8 161, .int .u8 178, .int .u8 195, .int .u8 212, .int .u8 229] 5)) .u8 (some ⟨w.heap.size, 0, none⟩) 5 tailL := by
  refine ⟨rfl, by omega, fun _ => ⟨_, rfl, fun j hj => ?_⟩⟩
  rw [add_at, blk_cell (blk_new _ _)]
  have : j = 0 ∨ j = 1 ∨ j = 2 ∨ j = 3 ∨ j = 4 := by omega
  rcases this with rfl | rfl | rfl | rfl | rfl <;> rfl

set_option maxRecDepth 100000 in
set_option maxHeartbeats 2000000 in
theorem loan_any (w : World) (a : Option Addr) (cap : Nat) (l : List Int) (hl : l.length ≤ 1000) (hr : ReadsInt w .u8 a l.length l) :
    Calls Try.prog 16 #[.slice a l.length cap] w fun e w' => ∃ g c, e = .returned (.slice (some ⟨g, 0, none⟩) l.length c) ∧ l.length + 5 ≤ c ∧ c ≤ 9223372036854775807 ∧ Lent w' g l ∧ Below w.heap.size w w' ∧ w.heap.size ≤ g := by
  have HR := Lib.hid hr
  clear hr
  go_enter Try.func16, Try.ntmps16
  go_wp2_with (first
    | (at_builtin; refine print_append_row w.heap.size rfl (.tmp 4) (.tmp 5) 26 5 .u8 1 rfl underlyingB info5 (by decide) _ [] l a _ cap rfl rfl (own_nil _ _ _ _) HR.out (Below.refl _ _) (Nat.le_refl _) (by simp; omega) ?_; intro v1 w1 ho1 hb1 hg1 hat1; clear hg1 hat1)
    | (at_builtin; refine print_append_row w.heap.size rfl (.tmp 7) (.tmp 8) 26 5 .u8 1 rfl underlyingB info5 (by decide) _ l tailL (some ⟨w1.heap.size, 0, none⟩) 5 5 rfl rfl (own_alloc ho1 _) (reads5 _) (bel_alloc2 hb1 hb1.size _) (Nat.le_trans hb1.size (bel_alloc (Below.refl _ _) _).size) (by omega) ?_; intro v2 w2 ho2 hb2 hg2 hat2; obtain ⟨g, c, rfl, hnc, hcm, hge, hL⟩ := own_lent ho2; have hnc2 : l.length + 5 ≤ c := (by rw [List.length_append] at hnc; exact hnc); have hi1 : (l.length : Int) ≤ (c : Int) := (by omega); clear hg2 hat2)
    | fail)
  go_ret
  exact ⟨g, c, rfl, hnc2, by unfold maxLen at hcm; omega, hL, hb2, hge⟩

theorem conv {w : World} {A : Option Addr} {n c : Nat} {l : List Int} (h : ReadsInt w .u8 A n l) : (convert 26 9 (.slice A n c)).run Try.prog w = .ok (.string (strOfNums l)) w :=
  string_of_reads underlyingB underlyingU underlyingS h
theorem tail_str : strOfNums tailL = ⟨#[161, 178, 195, 212, 229]⟩ := by rfl

set_option maxRecDepth 100000 in
set_option maxHeartbeats 2000000 in
theorem same_any (w : World) (g c : Nat) (a : Option Addr) (cap : Nat) (l : List Int) (hl : l.length ≤ 1000) (hc : l.length + 5 ≤ c) (hc2 : c ≤ 9223372036854775807) (hL : Lent w g l) (hr : ReadsInt w .u8 a l.length l) :
    Calls Try.prog 24 #[.slice (some ⟨g, 0, none⟩) l.length c, .slice a l.length cap] w fun e w' => e = .returned (.bool true) ∧ ∃ n, w' = w.drewN n := by
  have hw5 : IntKind.i64.wrap ((l.length : Int) + 5) = ((l.length + 5 : Nat) : Int) := by rw [IntWalk.i64_in _ (by omega)]; omega
  have hi1 : ((l.length + 5 : Nat) : Int) ≤ (c : Int) := by omega
  have hi2 : (0 : Int) ≤ ((l.length + 5 : Nat) : Int) := by omega
  have hi3 : (l.length : Int) ≤ ((l.length + 5 : Nat) : Int) := by omega
  have hi4 : (l.length : Int) ≤ (c : Int) := by omega
  have hlt : decide ((c : Int) < ((l.length + 5 : Nat) : Int)) = false := decide_eq_false (by omega)
  have cv1 : ∀ n, (convert 26 9 (.slice (some ⟨g, 0, none⟩) l.length c)).run Try.prog (w.drewN n) = .ok (.string (strOfNums l)) (w.drewN n) := fun n => conv (show ReadsInt (w.drewN n) _ _ _ _ from (hL.reads hl).1)
  have cv2 : ∀ n, (convert 26 9 (.slice a l.length cap)).run Try.prog (w.drewN n) = .ok (.string (strOfNums l)) (w.drewN n) := fun n => conv (show ReadsInt (w.drewN n) _ _ _ _ from hr)
  have cv3 : ∀ n c', (convert 26 9 (.slice (some ⟨g, l.length, none⟩) 5 c')).run Try.prog (w.drewN n) = .ok (.string ⟨#[161, 178, 195, 212, 229]⟩) (w.drewN n) := fun n c' => by
    rw [← tail_str]; exact conv (show ReadsInt (w.drewN n) _ _ _ _ from (hL.reads hl).2)
  clear hL hr
  go_enter Try.func24, Try.ntmps24
  go_wp2
  go_quiet (fail)
  go_wp2
  go_ret
  exact ⟨rfl, _, rfl⟩
end Go.Proofs.Ytdpjpmlajjfpgaa.Loan
