/- Contracts of package box: each method of a box at block g, in all its states, and of none. -/
import Derived.Test.YtoimmobljpegmaaRows
import Derived.Test.YtoimmobljpegmaaMem
import Derived.WalkKit
import Derived.WalkSpells
import Derived.WalkLawsBesides
import Derived.Below
import Derived.OneCell
import Derived.Outline
namespace Go.Proofs.Ytoimmobljpegmaa.Box
open Go.RowKit Go.Proofs.Ytoimmobljpegmaa.Mem

structure St where
  s : Int
  t : Int
  h : Bool
  f : Bool

def mapF (x : St) (a b : Int) : Bool × St :=
  if x.h = false ∧ a ≠ b ∧ 0 ≤ a ∧ 0 ≤ b ∧ a < 4096 ∧ b < 4096 then (true, ⟨a, b, true, false⟩) else (false, x)
def unmapF (x : St) : Bool × St := if x.h = true then (true, ⟨0, 0, false, false⟩) else (false, x)
def fillF (x : St) : Bool × St := if x.h = true ∧ x.f = false then (true, ⟨x.s, x.t, x.h, true⟩) else (false, x)
def releaseF (x : St) : Bool × St := if x.f = true then (true, ⟨x.s, x.t, x.h, false⟩) else (false, x)

/-- A box at block g. -/
def Is (w : World) (g : Nat) (x : St) : Prop := w.heap[g]? = some (.cells #[.int .i64 x.s, .int .i64 x.t, .bool x.h, .bool x.f] 67 (0, 0))

theorem Is.cells {w : World} {g : Nat} {s t : Int} {h f : Bool} (H : Is w g ⟨s, t, h, f⟩) :
    w.cell? ⟨g, 0, none⟩ = some (.int .i64 s) ∧ w.cell? ⟨g, 1, none⟩ = some (.int .i64 t) ∧ w.cell? ⟨g, 2, none⟩ = some (.bool h) ∧ w.cell? ⟨g, 3, none⟩ = some (.bool f) ∧
    w.frozen? ⟨g, 0, none⟩ = false ∧ w.frozen? ⟨g, 1, none⟩ = false ∧ w.frozen? ⟨g, 2, none⟩ = false ∧ w.frozen? ⟨g, 3, none⟩ = false :=
  ⟨blk_cell H 0, blk_cell H 1, blk_cell H 2, blk_cell H 3, blk_free H 0, blk_free H 1, blk_free H 2, blk_free H 3⟩

theorem grown_set {w W : World} {g : Nat} (h : w.grownBy W (some g)) (i : Nat) (u : Value) : w.grownBy (W.setCell ⟨g, i, none⟩ u) (some g) := by
  refine ⟨h.os, h.tape, h.output, by simpa [World.setCell] using h.size, fun k hk hne => ?_⟩
  rw [← h.block k hk hne]
  simp only [World.setCell, Array.getElem?_modify]
  rw [if_neg (fun e => hne (by rw [e]))]

theorem grown_refl (w : World) (row : Option Nat) : w.grownBy w row := ⟨rfl, rfl, rfl, Nat.le_refl _, fun _ _ _ => rfl⟩
theorem grown_drewN {w W : World} {row : Option Nat} (h : w.grownBy W row) (n : Nat) : w.grownBy (W.drewN n) row := ⟨h.os, h.tape, h.output, h.size, h.block⟩

theorem Is.set4 {w : World} {g : Nat} {x : St} (H : Is w g x) (s t : Int) (h f : Bool) :
    Is ((((w.setCell ⟨g, 0, none⟩ (.int .i64 s)).setCell ⟨g, 1, none⟩ (.int .i64 t)).setCell ⟨g, 2, none⟩ (.bool h)).setCell ⟨g, 3, none⟩ (.bool f)) g ⟨s, t, h, f⟩ := by
  unfold Is
  have h1 := blk_set H 0 (.int .i64 s)
  have h2 := blk_set h1 1 (.int .i64 t)
  have h3 := blk_set h2 2 (.bool h)
  have h4 := blk_set h3 3 (.bool f)
  simpa using h4
theorem Is.set3 {w : World} {g : Nat} {x : St} (H : Is w g x) (f : Bool) : Is (w.setCell ⟨g, 3, none⟩ (.bool f)) g ⟨x.s, x.t, x.h, f⟩ := by
  unfold Is
  have h4 := blk_set H 3 (.bool f)
  simpa using h4

set_option maxHeartbeats 400000 in
theorem map_ok (w : World) (g : Nat) (a b : Int) (s t : Int) (f : Bool) (H : Is w g ⟨s, t, false, f⟩) (ha : 0 ≤ a) (ha' : a < 4096) (hb : 0 ≤ b) (hb' : b < 4096) (hne : (a == b) = false) :
    Calls Try.prog 22 #[.pointer (some ⟨g, 0, none⟩), .int .i64 a, .int .i64 b] w fun e w' => e = .returned (.bool true) ∧ Is w' g ⟨a, b, true, false⟩ ∧ w.grownBy w' (some g) := by
  obtain ⟨c0, c1, c2, c3, f0, f1, f2, f3⟩ := H.cells
  go_enter Try.func22, Try.ntmps22
  go_wp2
  all_goals
    go_ret
    exact ⟨rfl, H.set4 _ _ _ _, grown_set (grown_set (grown_set (grown_set (grown_refl _ _) _ _) _ _) _ _) _ _⟩

set_option maxHeartbeats 400000 in
theorem map_has (w : World) (g : Nat) (a b : Int) (s t : Int) (f : Bool) (H : Is w g ⟨s, t, true, f⟩) :
    Calls Try.prog 22 #[.pointer (some ⟨g, 0, none⟩), .int .i64 a, .int .i64 b] w fun e w' => e = .returned (.bool false) ∧ w' = w := by
  obtain ⟨c0, c1, c2, c3, f0, f1, f2, f3⟩ := H.cells
  clear H
  go_enter Try.func22, Try.ntmps22
  go_wp2
  all_goals
    go_ret
    exact ⟨rfl, rfl⟩

set_option maxHeartbeats 400000 in
theorem map_same (w : World) (g : Nat) (a : Int) (s t : Int) (f : Bool) (H : Is w g ⟨s, t, false, f⟩) :
    Calls Try.prog 22 #[.pointer (some ⟨g, 0, none⟩), .int .i64 a, .int .i64 a] w fun e w' => e = .returned (.bool false) ∧ w' = w := by
  obtain ⟨c0, c1, c2, c3, f0, f1, f2, f3⟩ := H.cells
  clear H
  go_enter Try.func22, Try.ntmps22
  go_wp2
  all_goals
    go_ret
    exact ⟨rfl, rfl⟩

set_option maxHeartbeats 400000 in
theorem map_bad (w : World) (g : Nat) (a b : Int) (s t : Int) (f : Bool) (H : Is w g ⟨s, t, false, f⟩) (hne : (a == b) = false) (h : a < 0 ∨ b < 0 ∨ 4096 ≤ a ∨ 4096 ≤ b) :
    Calls Try.prog 22 #[.pointer (some ⟨g, 0, none⟩), .int .i64 a, .int .i64 b] w fun e w' => e = .returned (.bool false) ∧ w' = w := by
  obtain ⟨c0, c1, c2, c3, f0, f1, f2, f3⟩ := H.cells
  clear H
  have h' : Hid (a < 0 ∨ b < 0 ∨ 4096 ≤ a ∨ 4096 ≤ b) := Lib.hid h
  clear h
  by_cases hab : a ≤ b
  · by_cases h0 : a < 0
    · go_enter Try.func22, Try.ntmps22
      go_wp2
      all_goals
        go_ret
        exact ⟨rfl, rfl⟩
    · have h1 : 4096 ≤ b := by have := h'.out; omega
      go_enter Try.func22, Try.ntmps22
      go_wp2
      all_goals
        go_ret
        exact ⟨rfl, rfl⟩
  · by_cases h0 : b < 0
    · go_enter Try.func22, Try.ntmps22
      go_wp2
      all_goals
        go_ret
        exact ⟨rfl, rfl⟩
    · have h1 : 4096 ≤ a := by have := h'.out; omega
      go_enter Try.func22, Try.ntmps22
      go_wp2
      all_goals
        go_ret
        exact ⟨rfl, rfl⟩

theorem map_any (w : World) (g : Nat) (a b : Int) (x : St) (r : Bool) (x' : St) (H : Is w g x) (hr : mapF x a b = (r, x')) :
    Calls Try.prog 22 #[.pointer (some ⟨g, 0, none⟩), .int .i64 a, .int .i64 b] w fun e w' => e = .returned (.bool r) ∧ Is w' g x' ∧ w.grownBy w' (some g) := by
  obtain ⟨s, t, h, f⟩ := x
  unfold mapF at hr
  cases h with
  | true =>
    simp at hr
    obtain ⟨rfl, rfl⟩ := hr
    exact (map_has w g a b s t f H).mono fun e w' ⟨he, hw⟩ => ⟨he, by subst hw; exact H, by subst hw; exact grown_refl _ _⟩
  | false =>
    by_cases hab : a = b
    · subst hab
      simp at hr
      obtain ⟨rfl, rfl⟩ := hr
      exact (map_same w g a s t f H).mono fun e w' ⟨he, hw⟩ => ⟨he, by subst hw; exact H, by subst hw; exact grown_refl _ _⟩
    · by_cases hc : 0 ≤ a ∧ 0 ≤ b ∧ a < 4096 ∧ b < 4096
      · rw [if_pos ⟨rfl, hab, hc⟩] at hr
        simp only [Prod.mk.injEq] at hr
        obtain ⟨rfl, rfl⟩ := hr
        exact map_ok w g a b s t f H hc.1 hc.2.2.1 hc.2.1 hc.2.2.2 (by simpa using hab)
      · rw [if_neg (fun h => hc h.2.2)] at hr
        simp only [Prod.mk.injEq] at hr
        obtain ⟨rfl, rfl⟩ := hr
        exact (map_bad w g a b s t f H (by simpa using hab) (by omega)).mono fun e w' ⟨he, hw⟩ => ⟨he, by subst hw; exact H, by subst hw; exact grown_refl _ _⟩

theorem unmap_any (w : World) (g : Nat) (x : St) (r : Bool) (x' : St) (H : Is w g x) (hr : unmapF x = (r, x')) :
    Calls Try.prog 24 #[.pointer (some ⟨g, 0, none⟩)] w fun e w' => e = .returned (.bool r) ∧ Is w' g x' ∧ w.grownBy w' (some g) := by
  obtain ⟨s, t, h, f⟩ := x
  obtain ⟨c0, c1, c2, c3, f0, f1, f2, f3⟩ := H.cells
  cases h <;> (simp [unmapF] at hr; obtain ⟨rfl, rfl⟩ := hr; go_enter Try.func24, Try.ntmps24; go_wp2; go_ret)
  · exact ⟨rfl, H, grown_refl _ _⟩
  · exact ⟨rfl, H.set4 _ _ _ _, grown_set (grown_set (grown_set (grown_set (grown_refl _ _) _ _) _ _) _ _) _ _⟩

theorem fill_any (w : World) (g : Nat) (x : St) (r : Bool) (x' : St) (H : Is w g x) (hr : fillF x = (r, x')) :
    Calls Try.prog 26 #[.pointer (some ⟨g, 0, none⟩)] w fun e w' => e = .returned (.bool r) ∧ Is w' g x' ∧ w.grownBy w' (some g) := by
  obtain ⟨s, t, h, f⟩ := x
  obtain ⟨c0, c1, c2, c3, f0, f1, f2, f3⟩ := H.cells
  cases h <;> cases f <;> (simp [fillF] at hr; obtain ⟨rfl, rfl⟩ := hr; go_enter Try.func26, Try.ntmps26; go_wp2; go_ret)
  · exact ⟨rfl, H, grown_refl _ _⟩
  · exact ⟨rfl, H, grown_refl _ _⟩
  · exact ⟨rfl, H.set3 _, grown_set (grown_refl _ _) _ _⟩
  · exact ⟨rfl, H, grown_refl _ _⟩

theorem release_any (w : World) (g : Nat) (x : St) (r : Bool) (x' : St) (H : Is w g x) (hr : releaseF x = (r, x')) :
    Calls Try.prog 28 #[.pointer (some ⟨g, 0, none⟩)] w fun e w' => e = .returned (.bool r) ∧ Is w' g x' ∧ w.grownBy w' (some g) := by
  obtain ⟨s, t, h, f⟩ := x
  obtain ⟨c0, c1, c2, c3, f0, f1, f2, f3⟩ := H.cells
  cases f <;> (simp [releaseF] at hr; obtain ⟨rfl, rfl⟩ := hr; go_enter Try.func28, Try.ntmps28; go_wp2; go_ret)
  · exact ⟨rfl, H, grown_refl _ _⟩
  · exact ⟨rfl, H.set3 _, grown_set (grown_refl _ _) _ _⟩

theorem pages_any (w : World) (g : Nat) (x : St) (H : Is w g x) :
    Calls Try.prog 30 #[.pointer (some ⟨g, 0, none⟩)] w fun e w' => e = .returned (.tuple #[.int .i64 (if x.h = true then x.s else 0), .int .i64 (if x.h = true then x.t else 0), .bool x.h]) ∧ Is w' g x ∧ w.grownBy w' (some g) := by
  obtain ⟨s, t, h, f⟩ := x
  obtain ⟨c0, c1, c2, c3, f0, f1, f2, f3⟩ := H.cells
  cases h
  · go_enter Try.func30, Try.ntmps30
    go_wp2
    go_ret3
    exact ⟨by simp, H, grown_refl _ _⟩
  · go_enter Try.func30, Try.ntmps30
    go_wp2
    go_quiet (fail)
    go_wp2
    go_ret3
    exact ⟨by simp, H, grown_drewN (grown_refl _ _) _⟩

theorem full_any (w : World) (g : Nat) (x : St) (H : Is w g x) :
    Calls Try.prog 31 #[.pointer (some ⟨g, 0, none⟩)] w fun e w' => e = .returned (.bool x.f) ∧ Is w' g x ∧ w.grownBy w' (some g) := by
  obtain ⟨s, t, h, f⟩ := x
  obtain ⟨c0, c1, c2, c3, f0, f1, f2, f3⟩ := H.cells
  go_enter Try.func31, Try.ntmps31
  go_wp2
  go_ret
  exact ⟨rfl, H, grown_refl _ _⟩

theorem new_any (w : World) :
    Calls Try.prog 21 #[] w fun e w' => e = .returned (.pointer (some ⟨w.heap.size, 0, none⟩)) ∧ Is w' w.heap.size ⟨0, 0, false, false⟩ ∧ w.grownBy w' none := by
  go_enter Try.func21, Try.ntmps21
  go_wp2
  go_ret
  exact ⟨rfl, blk_new _ _, World.grownBy_alloc _ _ _⟩

/-! A box that is none. -/
theorem map_none (w : World) (a b : Int) : Calls Try.prog 22 #[.pointer none, .int .i64 a, .int .i64 b] w fun e w' => e = .returned (.bool false) ∧ w' = w := by
  go_enter Try.func22, Try.ntmps22
  go_wp2
  all_goals
    go_ret
    exact ⟨rfl, rfl⟩
theorem unmap_none (w : World) : Calls Try.prog 24 #[.pointer none] w fun e w' => e = .returned (.bool false) ∧ w' = w := by
  go_enter Try.func24, Try.ntmps24
  go_wp2
  go_ret
  exact ⟨rfl, rfl⟩
theorem fill_none (w : World) : Calls Try.prog 26 #[.pointer none] w fun e w' => e = .returned (.bool false) ∧ w' = w := by
  go_enter Try.func26, Try.ntmps26
  go_wp2
  go_ret
  exact ⟨rfl, rfl⟩
theorem release_none (w : World) : Calls Try.prog 28 #[.pointer none] w fun e w' => e = .returned (.bool false) ∧ w' = w := by
  go_enter Try.func28, Try.ntmps28
  go_wp2
  go_ret
  exact ⟨rfl, rfl⟩
theorem pages_none (w : World) : Calls Try.prog 30 #[.pointer none] w fun e w' => e = .returned (.tuple #[.int .i64 0, .int .i64 0, .bool false]) ∧ w' = w := by
  go_enter Try.func30, Try.ntmps30
  go_wp2
  go_ret3
  exact ⟨rfl, rfl⟩
theorem full_none (w : World) : Calls Try.prog 31 #[.pointer none] w fun e w' => e = .returned (.bool false) ∧ w' = w := by
  go_enter Try.func31, Try.ntmps31
  go_wp2
  go_ret
  exact ⟨rfl, rfl⟩
end Go.Proofs.Ytoimmobljpegmaa.Box
