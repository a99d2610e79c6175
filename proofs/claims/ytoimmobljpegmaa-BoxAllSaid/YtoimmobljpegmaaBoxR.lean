/- Contracts of the reference's box: it goes as the program's does. -/
import Derived.Test.YtoimmobljpegmaaBoxF
namespace Go.Proofs.Ytoimmobljpegmaa.Box
open Go.RowKit Go.Proofs.Ytoimmobljpegmaa.Mem

/-- A reference's box at block g. -/
def RIs (w : World) (g : Nat) (x : St) : Prop := w.heap[g]? = some (.cells #[.bool x.h, .int .i64 x.s, .int .i64 x.t, .bool x.f] 37 (0, 0))

theorem RIs.cells {w : World} {g : Nat} {s t : Int} {h f : Bool} (H : RIs w g ⟨s, t, h, f⟩) :
    w.cell? ⟨g, 1, none⟩ = some (.int .i64 s) ∧ w.cell? ⟨g, 2, none⟩ = some (.int .i64 t) ∧ w.cell? ⟨g, 0, none⟩ = some (.bool h) ∧ w.cell? ⟨g, 3, none⟩ = some (.bool f) ∧
    w.frozen? ⟨g, 0, none⟩ = false ∧ w.frozen? ⟨g, 1, none⟩ = false ∧ w.frozen? ⟨g, 2, none⟩ = false ∧ w.frozen? ⟨g, 3, none⟩ = false :=
  ⟨blk_cell H 1, blk_cell H 2, blk_cell H 0, blk_cell H 3, blk_free H 0, blk_free H 1, blk_free H 2, blk_free H 3⟩

theorem RIs.set4 {w : World} {g : Nat} {x : St} (H : RIs w g x) (s t : Int) (h f : Bool) :
    RIs ((((w.setCell ⟨g, 0, none⟩ (.bool h)).setCell ⟨g, 1, none⟩ (.int .i64 s)).setCell ⟨g, 2, none⟩ (.int .i64 t)).setCell ⟨g, 3, none⟩ (.bool f)) g ⟨s, t, h, f⟩ := by
  unfold RIs
  have h1 := blk_set H 0 (.bool h)
  have h2 := blk_set h1 1 (.int .i64 s)
  have h3 := blk_set h2 2 (.int .i64 t)
  have h4 := blk_set h3 3 (.bool f)
  simpa using h4
theorem RIs.set3 {w : World} {g : Nat} {x : St} (H : RIs w g x) (s t : Int) (h : Bool) :
    RIs (((w.setCell ⟨g, 0, none⟩ (.bool h)).setCell ⟨g, 1, none⟩ (.int .i64 s)).setCell ⟨g, 2, none⟩ (.int .i64 t)) g ⟨s, t, h, x.f⟩ := by
  unfold RIs
  have h1 := blk_set H 0 (.bool h)
  have h2 := blk_set h1 1 (.int .i64 s)
  have h3 := blk_set h2 2 (.int .i64 t)
  simpa using h3
theorem RIs.set1 {w : World} {g : Nat} {x : St} (H : RIs w g x) (f : Bool) : RIs (w.setCell ⟨g, 3, none⟩ (.bool f)) g ⟨x.s, x.t, x.h, f⟩ := by
  unfold RIs
  have h4 := blk_set H 3 (.bool f)
  simpa using h4

/-- What holds of every box that was made and used. -/
def Inv (x : St) : Prop := (x.h = false → x.s = 0 ∧ x.t = 0 ∧ x.f = false)

set_option maxHeartbeats 400000 in
theorem rmap_any (w : World) (g : Nat) (a b : Int) (x : St) (r : Bool) (x' : St) (H : RIs w g x) (hI : Inv x) (hr : mapF x a b = (r, x')) :
    Calls Try.prog 23 #[.pointer (some ⟨g, 0, none⟩), .int .i64 a, .int .i64 b] w fun e w' => e = .returned (.bool r) ∧ RIs w' g x' ∧ w.grownBy w' (some g) := by
  obtain ⟨s, t, h, f⟩ := x
  obtain ⟨c0, c1, c2, c3, f0, f1, f2, f3⟩ := H.cells
  cases h with
  | true =>
    simp [mapF] at hr
    obtain ⟨rfl, rfl⟩ := hr
    clear hI
    go_enter Try.func23, Try.ntmps23
    go_wp2
    go_ret
    exact ⟨rfl, H, grown_refl _ _⟩
  | false =>
    obtain ⟨rfl, rfl, hf⟩ := hI rfl
    have hf' : f = false := hf
    subst hf'
    clear hI hf
    by_cases hab : a = b
    · subst hab
      simp [mapF] at hr
      obtain ⟨rfl, rfl⟩ := hr
      go_enter Try.func23, Try.ntmps23
      go_wp2
      go_ret
      exact ⟨rfl, H, grown_refl _ _⟩
    · have hne : (a == b) = false := by simpa using hab
      clear hab
      by_cases h1 : 0 ≤ a
      · by_cases h2 : a < 4096
        · by_cases h3 : 0 ≤ b
          · by_cases h4 : b < 4096
            · rw [mapF, if_pos ⟨rfl, by simpa using hne, h1, h3, h2, h4⟩] at hr
              simp only [Prod.mk.injEq] at hr
              obtain ⟨rfl, rfl⟩ := hr
              go_enter Try.func23, Try.ntmps23
              go_wp2
              go_ret
              exact ⟨rfl, H.set3 _ _ _, grown_set (grown_set (grown_set (grown_refl _ _) _ _) _ _) _ _⟩
            · rw [mapF, if_neg (fun h => h4 h.2.2.2.2.2)] at hr
              simp only [Prod.mk.injEq] at hr
              obtain ⟨rfl, rfl⟩ := hr
              go_enter Try.func23, Try.ntmps23
              go_wp2
              go_ret
              exact ⟨rfl, H, grown_refl _ _⟩
          · rw [mapF, if_neg (fun h => h3 h.2.2.2.1)] at hr
            simp only [Prod.mk.injEq] at hr
            obtain ⟨rfl, rfl⟩ := hr
            go_enter Try.func23, Try.ntmps23
            go_wp2
            go_ret
            exact ⟨rfl, H, grown_refl _ _⟩
        · rw [mapF, if_neg (fun h => h2 h.2.2.2.2.1)] at hr
          simp only [Prod.mk.injEq] at hr
          obtain ⟨rfl, rfl⟩ := hr
          go_enter Try.func23, Try.ntmps23
          go_wp2
          go_ret
          exact ⟨rfl, H, grown_refl _ _⟩
      · rw [mapF, if_neg (fun h => h1 h.2.2.1)] at hr
        simp only [Prod.mk.injEq] at hr
        obtain ⟨rfl, rfl⟩ := hr
        go_enter Try.func23, Try.ntmps23
        go_wp2
        go_ret
        exact ⟨rfl, H, grown_refl _ _⟩

theorem runmap_any (w : World) (g : Nat) (x : St) (r : Bool) (x' : St) (H : RIs w g x) (hr : unmapF x = (r, x')) :
    Calls Try.prog 25 #[.pointer (some ⟨g, 0, none⟩)] w fun e w' => e = .returned (.bool r) ∧ RIs w' g x' ∧ w.grownBy w' (some g) := by
  obtain ⟨s, t, h, f⟩ := x
  obtain ⟨c0, c1, c2, c3, f0, f1, f2, f3⟩ := H.cells
  cases h <;> (simp [unmapF] at hr; obtain ⟨rfl, rfl⟩ := hr; go_enter Try.func25, Try.ntmps25; go_wp2; go_ret)
  · exact ⟨rfl, H, grown_refl _ _⟩
  · exact ⟨rfl, H.set4 _ _ _ _, grown_set (grown_set (grown_set (grown_set (grown_refl _ _) _ _) _ _) _ _) _ _⟩

theorem rfill_any (w : World) (g : Nat) (x : St) (r : Bool) (x' : St) (H : RIs w g x) (hr : fillF x = (r, x')) :
    Calls Try.prog 27 #[.pointer (some ⟨g, 0, none⟩)] w fun e w' => e = .returned (.bool r) ∧ RIs w' g x' ∧ w.grownBy w' (some g) := by
  obtain ⟨s, t, h, f⟩ := x
  obtain ⟨c0, c1, c2, c3, f0, f1, f2, f3⟩ := H.cells
  cases h <;> cases f <;> (simp [fillF] at hr; obtain ⟨rfl, rfl⟩ := hr; go_enter Try.func27, Try.ntmps27; go_wp2; go_ret)
  · exact ⟨rfl, H, grown_refl _ _⟩
  · exact ⟨rfl, H, grown_refl _ _⟩
  · exact ⟨rfl, H.set1 _, grown_set (grown_refl _ _) _ _⟩
  · exact ⟨rfl, H, grown_refl _ _⟩

theorem rrelease_any (w : World) (g : Nat) (x : St) (r : Bool) (x' : St) (H : RIs w g x) (hr : releaseF x = (r, x')) :
    Calls Try.prog 29 #[.pointer (some ⟨g, 0, none⟩)] w fun e w' => e = .returned (.bool r) ∧ RIs w' g x' ∧ w.grownBy w' (some g) := by
  obtain ⟨s, t, h, f⟩ := x
  obtain ⟨c0, c1, c2, c3, f0, f1, f2, f3⟩ := H.cells
  cases f <;> (simp [releaseF] at hr; obtain ⟨rfl, rfl⟩ := hr; go_enter Try.func29, Try.ntmps29; go_wp2; go_ret)
  · exact ⟨rfl, H.set1 false, grown_set (grown_refl _ _) _ _⟩
  · exact ⟨rfl, H.set1 _, grown_set (grown_refl _ _) _ _⟩

theorem pages_inv (w : World) (g : Nat) (s t : Int) (h f : Bool) (H : Is w g ⟨s, t, h, f⟩) (hI : Inv ⟨s, t, h, f⟩) :
    Calls Try.prog 30 #[.pointer (some ⟨g, 0, none⟩)] w fun e w' => e = .returned (.tuple #[.int .i64 s, .int .i64 t, .bool h]) ∧ ∃ n, w' = w.drewN n := by
  obtain ⟨c0, c1, c2, c3, f0, f1, f2, f3⟩ := H.cells
  clear H
  cases h
  · obtain ⟨h1, h2, h3⟩ := hI rfl
    have h1' : s = 0 := h1
    have h2' : t = 0 := h2
    subst h1' h2'
    clear hI h1 h2 h3
    go_enter Try.func30, Try.ntmps30
    go_wp2
    go_ret3
    exact ⟨rfl, 0, rfl⟩
  · clear hI
    go_enter Try.func30, Try.ntmps30
    go_wp2
    go_quiet (fail)
    go_wp2
    go_ret3
    exact ⟨rfl, _, rfl⟩

theorem full_same (w : World) (g : Nat) (s t : Int) (h f : Bool) (H : Is w g ⟨s, t, h, f⟩) :
    Calls Try.prog 31 #[.pointer (some ⟨g, 0, none⟩)] w fun e w' => e = .returned (.bool f) ∧ w = w' := by
  obtain ⟨c0, c1, c2, c3, f0, f1, f2, f3⟩ := H.cells
  clear H
  go_enter Try.func31, Try.ntmps31
  go_wp2
  go_ret
  exact ⟨rfl, rfl⟩

theorem inv_map {x x' : St} {a b : Int} {r : Bool} (h : Inv x) (hr : mapF x a b = (r, x')) : Inv x' := by
  unfold mapF at hr; split at hr <;> (simp only [Prod.mk.injEq] at hr; obtain ⟨rfl, rfl⟩ := hr)
  · intro h; simp at h
  · exact h
theorem inv_unmap {x x' : St} {r : Bool} (h : Inv x) (hr : unmapF x = (r, x')) : Inv x' := by
  unfold unmapF at hr; split at hr <;> (simp only [Prod.mk.injEq] at hr; obtain ⟨rfl, rfl⟩ := hr)
  · intro _; exact ⟨rfl, rfl, rfl⟩
  · exact h
theorem inv_fill {x x' : St} {r : Bool} (h : Inv x) (hr : fillF x = (r, x')) : Inv x' := by
  unfold fillF at hr; split at hr <;> (simp only [Prod.mk.injEq] at hr; obtain ⟨rfl, rfl⟩ := hr)
  · intro h'; rename_i hc; rw [hc.1] at h'; cases h'
  · exact h
theorem inv_release {x x' : St} {r : Bool} (h : Inv x) (hr : releaseF x = (r, x')) : Inv x' := by
  unfold releaseF at hr; split at hr <;> (simp only [Prod.mk.injEq] at hr; obtain ⟨rfl, rfl⟩ := hr)
  · intro h'; obtain ⟨h1, h2, _⟩ := h h'; exact ⟨h1, h2, rfl⟩
  · exact h
end Go.Proofs.Ytoimmobljpegmaa.Box
