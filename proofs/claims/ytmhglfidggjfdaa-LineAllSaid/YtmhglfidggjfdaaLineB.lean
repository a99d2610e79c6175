/- Contracts of package line: Raise, Tick, Enable, of processors' lines at block g, in all states, and of none. -/
import Derived.Test.YtmhglfidggjfdaaLine
import Derived.Deep.QuietTactic
import Derived.BigQuiet
namespace Go.Proofs.Ytmhglfidggjfdaa.Line
open Go.RowKit Go.Proofs.Ytmhglfidggjfdaa.Mem Go.Proofs.Ytmhglfidggjfdaa.Kept
set_option linter.unusedVariables false
set_option linter.unusedSimpArgs false

/-- A processor's, if there is one. -/
def look (s : List C) (i : Int) : Option C := if 0 ≤ i then s[i.toNat]? else none
theorem look_some {s : List C} {i : Int} {c : C} (h : look s i = some c) : ∃ k : Nat, i = k ∧ s[k]? = some c ∧ k < s.length := by
  unfold look at h
  split at h
  · exact ⟨i.toNat, by omega, h, (List.getElem?_eq_some_iff.1 h).1⟩
  · cases h
theorem look_none {s : List C} {i : Int} (h : look s i = none) : i < 0 ∨ (s.length : Int) ≤ i := by
  unfold look at h
  split at h
  · have := List.getElem?_eq_none_iff.1 h; omega
  · omega
theorem of_look {w : World} {B g b : Nat} {s : List C} (h : Is w B g b s) (hw : Wf s) {i : Int} {k : Nat} (hi : i = k) (hk : k < s.length) : Calls Try.prog 35 #[.pointer (some ⟨g, 0, none⟩), .int .i64 i] w fun e w' => e = .returned (.pointer (some ⟨b, k * 3, none⟩)) ∧ w = w' := by
  subst hi; exact of_ok h hw k hk

def tickF (s : List C) (i : Int) : Bool × List C := match look s i with
  | none => (false, s)
  | some c => (true, s.set i.toNat ⟨c.r, c.o, true⟩)
def enableF (s : List C) (i : Int) (m : Nat) : Bool × List C := match look s i with
  | none => (false, s)
  | some c => (true, s.set i.toNat ⟨c.r, m, c.t⟩)
def raiseF (s : List C) (i n : Int) : Bool × List C := match look s i with
  | none => (false, s)
  | some c => if 0 ≤ n ∧ n < 4 then (true, s.set i.toNat ⟨c.r ||| 1 <<< n.toNat, c.o, c.t⟩) else (false, s)
theorem tick_wf {s : List C} (h : Wf s) (i : Int) : Wf (tickF s i).2 := by
  unfold tickF
  split
  · exact h
  · rename_i c hc
    obtain ⟨k, rfl, h1, h2⟩ := look_some hc
    have := h.get h1
    exact h.set _ _ ⟨this.1, this.2.1⟩
theorem enable_wf {s : List C} (h : Wf s) (i : Int) (m : Nat) (hm : m < 256) : Wf (enableF s i m).2 := by
  unfold enableF
  split
  · exact h
  · rename_i c hc
    obtain ⟨k, rfl, h1, h2⟩ := look_some hc
    have := h.get h1
    exact h.set _ _ ⟨this.1, hm⟩
theorem or_lt : ∀ r < 16, ∀ n < 4, r ||| 1 <<< n < 16 := by decide
theorem bits_or : ∀ r : Nat, r < 16 → ∀ n : Nat, n < 4 → bits .or .u8 (r : Int) ((1 <<< n : Nat) : Int) = ((r ||| 1 <<< n : Nat) : Int) := by decide +kernel
theorem Is.drew {w : World} {B g b : Nat} {s : List C} (h : Is w B g b s) : Is w.drew B g b s := ⟨h.hd, h.bk, h.geg, h.geb⟩
theorem raise_wf {s : List C} (h : Wf s) (i n : Int) : Wf (raiseF s i n).2 := by
  unfold raiseF
  split
  · exact h
  · rename_i c hc
    obtain ⟨k, rfl, h1, h2⟩ := look_some hc
    have := h.get h1
    split
    · exact h.set _ _ ⟨or_lt _ this.1 _ (by omega), this.2.1⟩
    · exact h

theorem tick_nil (w : World) (i : Int) : Calls Try.prog 15 #[.pointer none, .int .i64 i] w fun e w' => e = .returned (.bool false) ∧ w = w' := by
  go_enter Try.func15, Try.ntmps15
  go_wp2_with (first | (go_at_call 35; refine (of_nil _ _).mono ?_; rintro e w1 ⟨rfl, rfl⟩))
  go_ret
  exact ⟨rfl, rfl⟩
theorem enable_nil (w : World) (i m : Int) : Calls Try.prog 17 #[.pointer none, .int .i64 i, .int .u8 m] w fun e w' => e = .returned (.bool false) ∧ w = w' := by
  go_enter Try.func17, Try.ntmps17
  go_wp2_with (first | (go_at_call 35; refine (of_nil _ _).mono ?_; rintro e w1 ⟨rfl, rfl⟩))
  go_ret
  exact ⟨rfl, rfl⟩
theorem raise_nil (w : World) (i n : Int) : Calls Try.prog 13 #[.pointer none, .int .i64 i, .int .i64 n] w fun e w' => e = .returned (.bool false) ∧ w = w' := by
  go_enter Try.func13, Try.ntmps13
  go_wp2_with (first | (go_at_call 35; refine (of_nil _ _).mono ?_; rintro e w1 ⟨rfl, rfl⟩))
  go_ret
  exact ⟨rfl, rfl⟩

set_option maxHeartbeats 1000000 in
theorem tick_any {w : World} {B g b : Nat} {s : List C} (h : Is w B g b s) (hw : Wf s) (i : Int) :
    Calls Try.prog 15 #[.pointer (some ⟨g, 0, none⟩), .int .i64 i] w fun e w' => e = .returned (.bool (tickF s i).1) ∧ Is w' B g b (tickF s i).2 ∧ Kept w w' (fun k => k = b) := by
  cases hl : look s i with
  | none =>
    have e0 : tickF s i = (false, s) := by simp [tickF, hl]
    rw [e0]
    have hn := look_none hl
    clear hl e0
    go_enter Try.func15, Try.ntmps15
    go_wp2_with (first | (go_at_call 35; with_reducible refine (of_no h hw _ hn).mono ?_; rintro e w1 ⟨rfl, rfl⟩))
    go_ret
    exact ⟨rfl, h, kept_refl _ _⟩
  | some c =>
    have e0 : tickF s i = (true, s.set i.toNat ⟨c.r, c.o, true⟩) := by simp [tickF, hl]
    rw [e0]
    obtain ⟨k, rfl, hc, hk⟩ := look_some hl
    have ek : ((k : Int)).toNat = k := by omega
    rw [ek]
    obtain ⟨x0, x1, x2, z0, z1, z2⟩ := h.cell hc
    clear hl e0 ek
    go_enter Try.func15, Try.ntmps15
    go_wp2_with (first | (go_at_call 35; with_reducible refine (of_ok h hw k hk).mono ?_; rintro e w1 ⟨rfl, rfl⟩))
    go_ret
    exact ⟨rfl, h.set _ _ (by simp) (flat_set_t s k c true hc), kept_set (S := fun k => k = b) (kept_refl _ _) rfl _ _⟩
set_option maxHeartbeats 1000000 in
theorem enable_any {w : World} {B g b : Nat} {s : List C} (h : Is w B g b s) (hw : Wf s) (i : Int) (m : Nat) :
    Calls Try.prog 17 #[.pointer (some ⟨g, 0, none⟩), .int .i64 i, .int .u8 (m : Int)] w fun e w' => e = .returned (.bool (enableF s i m).1) ∧ Is w' B g b (enableF s i m).2 ∧ Kept w w' (fun k => k = b) := by
  cases hl : look s i with
  | none =>
    have e0 : enableF s i m = (false, s) := by simp [enableF, hl]
    rw [e0]
    have hn := look_none hl
    clear hl e0
    go_enter Try.func17, Try.ntmps17
    go_wp2_with (first | (go_at_call 35; with_reducible refine (of_no h hw _ hn).mono ?_; rintro e w1 ⟨rfl, rfl⟩))
    go_ret
    exact ⟨rfl, h, kept_refl _ _⟩
  | some c =>
    have e0 : enableF s i m = (true, s.set i.toNat ⟨c.r, m, c.t⟩) := by simp [enableF, hl]
    rw [e0]
    obtain ⟨k, rfl, hc, hk⟩ := look_some hl
    have ek : ((k : Int)).toNat = k := by omega
    rw [ek]
    obtain ⟨x0, x1, x2, z0, z1, z2⟩ := h.cell hc
    clear hl e0 ek
    go_enter Try.func17, Try.ntmps17
    go_wp2_with (first | (go_at_call 35; with_reducible refine (of_ok h hw k hk).mono ?_; rintro e w1 ⟨rfl, rfl⟩))
    go_ret
    exact ⟨rfl, h.set _ _ (by simp) (flat_set_o s k c m hc), kept_set (S := fun k => k = b) (kept_refl _ _) rfl _ _⟩
set_option maxHeartbeats 1000000 in
theorem raise_any {w : World} {B g b : Nat} {s : List C} (h : Is w B g b s) (hw : Wf s) (i n : Int) :
    Calls Try.prog 13 #[.pointer (some ⟨g, 0, none⟩), .int .i64 i, .int .i64 n] w fun e w' => e = .returned (.bool (raiseF s i n).1) ∧ Is w' B g b (raiseF s i n).2 ∧ Kept w w' (fun k => k = b) := by
  cases hl : look s i with
  | none =>
    have e0 : raiseF s i n = (false, s) := by simp [raiseF, hl]
    rw [e0]
    have hn := look_none hl
    clear hl e0
    go_enter Try.func13, Try.ntmps13
    go_wp2_with (first | (go_at_call 35; with_reducible refine (of_no h hw _ hn).mono ?_; rintro e w1 ⟨rfl, rfl⟩))
    go_ret
    exact ⟨rfl, h, kept_refl _ _⟩
  | some c =>
    obtain ⟨k, rfl, hc, hk⟩ := look_some hl
    have ek : ((k : Int)).toNat = k := by omega
    by_cases hn : 0 ≤ n ∧ n < 4
    · have e0 : raiseF s k n = (true, s.set ((k : Int)).toNat ⟨c.r ||| 1 <<< n.toNat, c.o, c.t⟩) := by simp [raiseF, hl, hn]
      rw [e0, ek]
      obtain ⟨x0, x1, x2, z0, z1, z2⟩ := h.cell hc
      have hr := (hw.get hc).1
      obtain ⟨m, rfl⟩ : ∃ m : Nat, n = m := ⟨n.toNat, by omega⟩
      have hm : m < 4 := by omega
      clear hl e0 ek hn
      have hm' : m = 0 ∨ m = 1 ∨ m = 2 ∨ m = 3 := by omega
      rcases hm' with rfl | rfl | rfl | rfl
      · have hb : bits .or .u8 (c.r : Int) 1 = ((c.r ||| 1 <<< 0 : Nat) : Int) := bits_or c.r hr 0 (by decide)
        go_enter Try.func13, Try.ntmps13
        go_wp2_with (first | (go_at_call 35; with_reducible refine (of_ok h hw k hk).mono ?_; rintro e w1 ⟨rfl, rfl⟩))
        go_region
        go_wp2
        go_ret
        exact ⟨rfl, (h.set _ _ (by simp) (flat_set_r s k c _ hc)).drew, kept_drewN (kept_set (S := fun k => k = b) (kept_refl _ _) rfl _ _) 1⟩
      · have hb : bits .or .u8 (c.r : Int) 2 = ((c.r ||| 1 <<< 1 : Nat) : Int) := bits_or c.r hr 1 (by decide)
        go_enter Try.func13, Try.ntmps13
        go_wp2_with (first | (go_at_call 35; with_reducible refine (of_ok h hw k hk).mono ?_; rintro e w1 ⟨rfl, rfl⟩))
        go_region
        go_wp2
        go_ret
        exact ⟨rfl, (h.set _ _ (by simp) (flat_set_r s k c _ hc)).drew, kept_drewN (kept_set (S := fun k => k = b) (kept_refl _ _) rfl _ _) 1⟩
      · have hb : bits .or .u8 (c.r : Int) 4 = ((c.r ||| 1 <<< 2 : Nat) : Int) := bits_or c.r hr 2 (by decide)
        go_enter Try.func13, Try.ntmps13
        go_wp2_with (first | (go_at_call 35; with_reducible refine (of_ok h hw k hk).mono ?_; rintro e w1 ⟨rfl, rfl⟩))
        go_region
        go_wp2
        go_ret
        exact ⟨rfl, (h.set _ _ (by simp) (flat_set_r s k c _ hc)).drew, kept_drewN (kept_set (S := fun k => k = b) (kept_refl _ _) rfl _ _) 1⟩
      · have hb : bits .or .u8 (c.r : Int) 8 = ((c.r ||| 1 <<< 3 : Nat) : Int) := bits_or c.r hr 3 (by decide)
        go_enter Try.func13, Try.ntmps13
        go_wp2_with (first | (go_at_call 35; with_reducible refine (of_ok h hw k hk).mono ?_; rintro e w1 ⟨rfl, rfl⟩))
        go_region
        go_wp2
        go_ret
        exact ⟨rfl, (h.set _ _ (by simp) (flat_set_r s k c _ hc)).drew, kept_drewN (kept_set (S := fun k => k = b) (kept_refl _ _) rfl _ _) 1⟩
    · have e0 : raiseF s k n = (false, s) := by simp only [raiseF, hl, if_neg hn]
      rw [e0]
      have hn' : n < 0 ∨ 4 ≤ n := by omega
      clear hl e0 ek hn
      rcases hn' with h1 | h1
      all_goals
        go_enter Try.func13, Try.ntmps13
        go_wp2_with (first | (go_at_call 35; with_reducible refine (of_ok h hw k hk).mono ?_; rintro e w1 ⟨rfl, rfl⟩))
        go_ret
        exact ⟨rfl, h, kept_refl _ _⟩
end Go.Proofs.Ytmhglfidggjfdaa.Line
