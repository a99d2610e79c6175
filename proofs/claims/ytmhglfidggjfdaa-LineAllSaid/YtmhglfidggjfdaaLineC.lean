/- Contracts of package line: Next, Waits, of processors' lines at block g, in all states, and of none. -/
import Derived.Test.YtmhglfidggjfdaaLineB
namespace Go.Proofs.Ytmhglfidggjfdaa.Line
open Go.RowKit Go.Proofs.Ytmhglfidggjfdaa.Mem Go.Proofs.Ytmhglfidggjfdaa.Kept
set_option linter.unusedVariables false
set_option linter.unusedSimpArgs false

/-- The lowest line among these. -/
def tz (x : Nat) : Nat := if x % 2 = 1 then 0 else if x / 2 % 2 = 1 then 1 else if x / 4 % 2 = 1 then 2 else 3
/-- How many lines these are. -/
def cnt (x : Nat) : Nat := x % 2 + x / 2 % 2 + x / 4 % 2 + x / 8 % 2
def nextC (c : C) : (Nat × Bool × Bool) × C :=
  if c.t = true then ((0, true, true), ⟨c.r, c.o, false⟩) else
  if c.r &&& c.o = 0 then ((0, false, false), c) else ((tz (c.r &&& c.o), false, true), ⟨c.r - 1 <<< tz (c.r &&& c.o), c.o, c.t⟩)
def nextF (s : List C) (i : Int) : (Nat × Bool × Bool) × List C := match look s i with
  | none => ((0, false, false), s)
  | some c => ((nextC c).1, s.set i.toNat (nextC c).2)
def waitsF (s : List C) (i : Int) : Nat := match look s i with
  | none => 0
  | some c => cnt c.r + if c.t = true then 1 else 0
theorem set_self {s : List C} {k : Nat} {c : C} (h : s[k]? = some c) : s.set k c = s := by
  obtain ⟨h1, rfl⟩ := List.getElem?_eq_some_iff.1 h
  exact List.set_getElem_self h1
theorem next_wf {s : List C} (h : Wf s) (i : Int) : Wf (nextF s i).2 := by
  unfold nextF
  split
  · exact h
  · rename_i c hc
    obtain ⟨k, rfl, h1, h2⟩ := look_some hc
    have := h.get h1
    refine h.set _ _ ?_
    unfold nextC
    split
    · exact ⟨this.1, this.2.1⟩
    · split
      · exact ⟨this.1, this.2.1⟩
      · exact ⟨Nat.lt_of_le_of_lt (Nat.sub_le _ _) this.1, this.2.1⟩
theorem bits_and : ∀ r : Nat, r < 16 → ∀ o : Nat, o < 256 → bits .and .u8 (r : Int) (o : Int) = ((r &&& o : Nat) : Int) := by decide +kernel
theorem bits_low : ∀ r : Nat, r < 16 → ∀ m : Nat, m < 16 → r &&& m = m → m ≠ 0 → bits .andNot .u8 (r : Int) (bits .and .u8 (m : Int) (-(m : Int) % 256)) = ((r - 1 <<< tz m : Nat) : Int) := by decide +kernel
theorem and_lt (r o : Nat) (h : r < 16) : r &&& o < 16 := Nat.lt_of_le_of_lt Nat.and_le_left h
set_option maxRecDepth 100000 in
set_option maxHeartbeats 4000000 in
theorem tz_calls (w : World) (x : Nat) (h : x < 16) (h0 : x ≠ 0) : Calls Try.prog 37 #[.int .u8 (x : Int)] w fun e w' => e = .returned (.int .i64 (tz x : Int)) ∧ w = w' := by
  have hx : x = 1 ∨ x = 2 ∨ x = 3 ∨ x = 4 ∨ x = 5 ∨ x = 6 ∨ x = 7 ∨ x = 8 ∨ x = 9 ∨ x = 10 ∨ x = 11 ∨ x = 12 ∨ x = 13 ∨ x = 14 ∨ x = 15 := by omega
  clear h h0
  rcases hx with rfl | rfl | rfl | rfl | rfl | rfl | rfl | rfl | rfl | rfl | rfl | rfl | rfl | rfl | rfl
  all_goals
    go_enter Try.func37, Try.ntmps37
    go_wp2
    go_ret
    exact ⟨by kernel_rfl, rfl⟩
set_option maxRecDepth 100000 in
set_option maxHeartbeats 4000000 in
theorem cnt_calls (w : World) (x : Nat) (h : x < 16) : Calls Try.prog 38 #[.int .u8 (x : Int)] w fun e w' => e = .returned (.int .i64 (cnt x : Int)) ∧ w = w' := by
  have hx : x = 0 ∨ x = 1 ∨ x = 2 ∨ x = 3 ∨ x = 4 ∨ x = 5 ∨ x = 6 ∨ x = 7 ∨ x = 8 ∨ x = 9 ∨ x = 10 ∨ x = 11 ∨ x = 12 ∨ x = 13 ∨ x = 14 ∨ x = 15 := by omega
  clear h
  rcases hx with rfl | rfl | rfl | rfl | rfl | rfl | rfl | rfl | rfl | rfl | rfl | rfl | rfl | rfl | rfl | rfl
  all_goals
    go_enter Try.func38, Try.ntmps38
    go_wp2
    go_ret
    exact ⟨by kernel_rfl, rfl⟩
theorem waits_nil (w : World) (i : Int) : Calls Try.prog 21 #[.pointer none, .int .i64 i] w fun e w' => e = .returned (.int .i64 0) ∧ w = w' := by
  go_enter Try.func21, Try.ntmps21
  go_wp2_with (first | (go_at_call 35; refine (of_nil _ _).mono ?_; rintro e w1 ⟨rfl, rfl⟩))
  go_ret
  exact ⟨rfl, rfl⟩
theorem next_nil (w : World) (i : Int) : Calls Try.prog 19 #[.pointer none, .int .i64 i] w fun e w' => e = .returned (.tuple #[.int .i64 0, .bool false, .bool false]) ∧ w = w' := by
  go_enter Try.func19, Try.ntmps19
  go_wp2_with (first | (go_at_call 35; refine (of_nil _ _).mono ?_; rintro e w1 ⟨rfl, rfl⟩))
  go_ret3
  exact ⟨rfl, rfl⟩
set_option maxHeartbeats 1000000 in
theorem waits_any {w : World} {B g b : Nat} {s : List C} (h : Is w B g b s) (hw : Wf s) (i : Int) :
    Calls Try.prog 21 #[.pointer (some ⟨g, 0, none⟩), .int .i64 i] w fun e w' => e = .returned (.int .i64 (waitsF s i : Int)) ∧ w = w' := by
  cases hl : look s i with
  | none =>
    have e0 : waitsF s i = 0 := by simp [waitsF, hl]
    rw [e0]
    have hn := look_none hl
    clear hl e0
    go_enter Try.func21, Try.ntmps21
    go_wp2_with (first | (go_at_call 35; with_reducible refine (of_no h hw _ hn).mono ?_; rintro e w1 ⟨rfl, rfl⟩))
    go_ret
    exact ⟨rfl, rfl⟩
  | some c =>
    obtain ⟨k, rfl, hc, hk⟩ := look_some hl
    have e0 : waitsF s k = cnt c.r + if c.t = true then 1 else 0 := by simp [waitsF, hl]
    rw [e0]
    obtain ⟨x0, x1, x2, z0, z1, z2⟩ := h.cell hc
    have hr := (hw.get hc).1
    obtain ⟨r, o, t⟩ := c
    have hq : cnt r ≤ 4 := by unfold cnt; omega
    clear hl e0
    cases t
    all_goals
      go_enter Try.func21, Try.ntmps21
      go_wp2_with (first | (go_at_call 35; with_reducible refine (of_ok h hw k hk).mono ?_; rintro e w1 ⟨rfl, rfl⟩) | (go_at_call 38; refine (cnt_calls _ r hr).mono ?_; rintro e w1 ⟨rfl, rfl⟩))
      go_ret
      exact ⟨rfl, rfl⟩
set_option maxRecDepth 100000 in
set_option maxHeartbeats 4000000 in
theorem next_any {w : World} {B g b : Nat} {s : List C} (h : Is w B g b s) (hw : Wf s) (i : Int) :
    Calls Try.prog 19 #[.pointer (some ⟨g, 0, none⟩), .int .i64 i] w fun e w' => e = .returned (.tuple #[.int .i64 ((nextF s i).1.1 : Int), .bool (nextF s i).1.2.1, .bool (nextF s i).1.2.2]) ∧ Is w' B g b (nextF s i).2 ∧ Kept w w' (fun k => k = b) := by
  cases hl : look s i with
  | none =>
    have e0 : nextF s i = ((0, false, false), s) := by simp [nextF, hl]
    rw [e0]
    have hn := look_none hl
    clear hl e0
    go_enter Try.func19, Try.ntmps19
    go_wp2_with (first | (go_at_call 35; with_reducible refine (of_no h hw _ hn).mono ?_; rintro e w1 ⟨rfl, rfl⟩))
    go_ret3
    exact ⟨rfl, h, kept_refl _ _⟩
  | some c =>
    obtain ⟨k, rfl, hc, hk⟩ := look_some hl
    have e0 : nextF s k = ((nextC c).1, s.set k (nextC c).2) := by simp [nextF, hl]
    rw [e0]
    obtain ⟨x0, x1, x2, z0, z1, z2⟩ := h.cell hc
    obtain ⟨hr, ho, _⟩ := hw.get hc
    obtain ⟨r, o, t⟩ := c
    clear hl e0
    cases t with
    | true =>
      have e1 : nextC ⟨r, o, true⟩ = ((0, true, true), ⟨r, o, false⟩) := by simp [nextC]
      rw [e1]
      go_enter Try.func19, Try.ntmps19
      go_wp2_with (first | (go_at_call 35; with_reducible refine (of_ok h hw k hk).mono ?_; rintro e w1 ⟨rfl, rfl⟩))
      go_ret3
      exact ⟨rfl, h.set _ _ (by simp) (flat_set_t s k _ false hc), kept_set (S := fun k => k = b) (kept_refl _ _) rfl _ _⟩
    | false =>
      have hb := bits_and r hr o ho
      have hlt := and_lt r o hr
      by_cases hx : r &&& o = 0
      · have e1 : nextC ⟨r, o, false⟩ = ((0, false, false), ⟨r, o, false⟩) := by simp [nextC, hx]
        rw [e1]
        have hset : s.set k ⟨r, o, false⟩ = s := set_self hc
        rw [hx] at hb
        go_enter Try.func19, Try.ntmps19
        go_wp2_with (first | (go_at_call 35; with_reducible refine (of_ok h hw k hk).mono ?_; rintro e w1 ⟨rfl, rfl⟩))
        go_quiet (fail)
        go_wp2
        go_ret3
        rw [hset]
        exact ⟨rfl, h.drewN _, kept_drewN (kept_refl _ _) _⟩
      · have e1 : nextC ⟨r, o, false⟩ = ((tz (r &&& o), false, true), ⟨r - 1 <<< tz (r &&& o), o, false⟩) := by simp [nextC, hx]
        rw [e1]
        obtain ⟨m, hm⟩ : ∃ m, r &&& o = m := ⟨_, rfl⟩
        rw [hm] at hb hlt hx ⊢
        have hx1 : decide ((m : Int) = 0) = false := decide_eq_false (by omega)
        have hx2 : ((m : Int) == 0) = false := by rw [beq_eq_false_iff_ne]; omega
        have hsub := bits_low r hr m hlt (by rw [← hm, ← Nat.and_assoc, Nat.and_self]) hx
        clear e1
        go_enter Try.func19, Try.ntmps19
        go_wp2_with (first | (go_at_call 35; with_reducible refine (of_ok h hw k hk).mono ?_; rintro e w1 ⟨rfl, rfl⟩))
        go_quiet (fail)
        go_wp2_with (first | (go_at_call 37; with_reducible refine (tz_calls _ m hlt hx).mono ?_; rintro e w1 ⟨rfl, rfl⟩))
        go_ret3
        exact ⟨rfl, (h.drewN _).set _ _ (by simp) (flat_set_r s k _ _ hc), kept_set (S := fun k => k = b) (kept_drewN (kept_refl _ _) _) rfl _ _⟩
end Go.Proofs.Ytmhglfidggjfdaa.Line
