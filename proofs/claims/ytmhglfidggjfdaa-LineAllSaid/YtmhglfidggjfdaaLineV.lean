/- Contracts of the reference's lines: Next, Waits. -/
import Derived.Test.YtmhglfidggjfdaaLineU
namespace Go.Proofs.Ytmhglfidggjfdaa.Line
open Go.RowKit Go.Proofs.Ytmhglfidggjfdaa.Mem Go.Proofs.Ytmhglfidggjfdaa.Kept
set_option linter.unusedVariables false
set_option linter.unusedSimpArgs false
theorem obit_0 : ∀ a : Nat, a < 256 → bits .and .u8 (a : Int) 1 = ((a / 2 ^ 0 % 2 : Nat) : Int) := by decide +kernel
theorem obit_1 : ∀ a : Nat, a < 256 → bits .and .u8 ((a : Int) / 2) 1 = ((a / 2 ^ 1 % 2 : Nat) : Int) := by decide +kernel
theorem obit_2 : ∀ a : Nat, a < 256 → bits .and .u8 ((a : Int) / 4) 1 = ((a / 2 ^ 2 % 2 : Nat) : Int) := by decide +kernel
theorem obit_3 : ∀ a : Nat, a < 256 → bits .and .u8 ((a : Int) / 8) 1 = ((a / 2 ^ 3 % 2 : Nat) : Int) := by decide +kernel
/-- No line below n is both raised and on. -/
def noneB (r o : Nat) : Nat → Bool
  | 0 => true
  | n + 1 => noneB r o n && !(bit r n && bit o n)
def none_ (r o n : Nat) : Prop := noneB r o n = true
theorem none_16 : ∀ r : Nat, r < 16 → ∀ o : Nat, o < 16 → ∀ n : Nat, n < 4 → (!(noneB r o n && bit r n && bit o n) || (decide (r &&& o ≠ 0) && decide (tz (r &&& o) = n))) = true := by decide +kernel
theorem none_4 : ∀ r : Nat, r < 16 → ∀ o : Nat, o < 16 → noneB r o 4 = true → r &&& o = 0 := by decide +kernel
theorem rand_16 : ∀ q : Nat, q < 16 → ∀ o : Nat, o < 256 → q &&& o = q &&& (o % 16) := by decide +kernel
theorem bit_mod (o j : Nat) (hj : j < 4) : bit (o % 16) j = bit o j := by
  unfold bit
  have : j = 0 ∨ j = 1 ∨ j = 2 ∨ j = 3 := by omega
  congr 1
  rcases this with rfl | rfl | rfl | rfl <;> simp only [Nat.reducePow] <;> (apply propext; omega)
theorem none_mod (r o n : Nat) (hn : n ≤ 4) : noneB r (o % 16) n = noneB r o n := by
  induction n with
  | zero => rfl
  | succ n ih => unfold noneB; rw [ih (by omega), bit_mod o n (by omega)]
theorem hit {r o n : Nat} (hr : r < 16) (ho : o < 256) (hn : n < 4) (h : none_ r o n) (h1 : bit r n = true) (h2 : bit o n = true) : nextC ⟨r, o, false⟩ = ((n, false, true), ⟨r - 1 <<< n, o, false⟩) := by
  have a0 := none_16 r hr (o % 16) (by omega) n hn
  have h' : noneB r (o % 16) n = true := by rw [none_mod r o n (by omega)]; exact h
  rw [h', h1, bit_mod o n hn, h2] at a0
  simp only [Bool.and_self, Bool.not_true, Bool.false_or, Bool.and_eq_true, decide_eq_true_eq] at a0
  obtain ⟨a1, a2⟩ := a0
  rw [← rand_16 r hr o ho] at a1 a2
  unfold nextC
  simp only [Bool.false_eq_true, if_false, a1, a2]
theorem miss {r o : Nat} (hr : r < 16) (ho : o < 256) (h : none_ r o 4) : nextC ⟨r, o, false⟩ = ((0, false, false), ⟨r, o, false⟩) := by
  have a1 := none_4 r hr (o % 16) (by omega) (by rw [none_mod r o 4 (by omega)]; exact h)
  rw [← rand_16 r hr o ho] at a1
  unfold nextC
  simp only [Bool.false_eq_true, if_false, a1, if_true]
theorem none_succ {r o n : Nat} (h : none_ r o n) (h1 : ¬ (bit r n = true ∧ bit o n = true)) : none_ r o (n + 1) := by
  unfold none_ noneB
  unfold none_ at h
  rw [h]
  cases hr : bit r n <;> cases ho : bit o n <;> simp_all
theorem bit_clr : ∀ r : Nat, r < 16 → ∀ m : Nat, m < 4 → bit r m = true → (∀ j : Nat, j < 4 → bit (r - 1 <<< m) j = if j = m then false else bit r j) := by decide +kernel
theorem cb_4 : ∀ r : Nat, r < 16 → cb r 4 = cnt r := by decide +kernel
set_option maxRecDepth 100000 in
set_option maxHeartbeats 8000000 in
theorem rwaits_any {w : World} {B g : Nat} {rs : List Nat} {s : List C} (h : RIs w B g rs s) (hw : Wf s) (i : Int) :
    Calls Try.prog 22 #[.pointer (some ⟨g, 0, none⟩), .int .i64 i] w fun e w' => e = .returned (.int .i64 (waitsF s i : Int)) ∧ w = w' := by
  have hh := has_any h hw i
  cases hl : look s i with
  | none =>
    have e0 : waitsF s i = 0 := by simp [waitsF, hl]
    rw [e0]
    rw [hl] at hh
    clear hl e0
    go_enter Try.func22, Try.ntmps22
    go_wp2_with (first | (go_at_call 36; with_reducible refine hh.mono ?_; rintro e w1 ⟨rfl, rfl⟩))
    go_ret
    exact ⟨rfl, rfl⟩
  | some c =>
    obtain ⟨k, rfl, hc, hk⟩ := look_some hl
    have e0 : waitsF s k = cnt c.r + if c.t = true then 1 else 0 := by simp [waitsF, hl]
    rw [e0]
    rw [hl] at hh
    obtain ⟨b0, b1, b2, r, c0, c1, c2, hr, ha⟩ := h.at_ hc
    obtain ⟨q, o, t⟩ := c
    have hq : q < 16 := (hw.get hc).1
    have y1 := ha.h0
    have y2 := ha.x0
    have y4 := ha.h1
    have y5 := ha.x1
    have HX := Lib.hid ha.xr
    have hl3 := hw.1
    have q1 : (k : Int) < (s.length : Int) := by omega
    clear hl e0 ha h hw
    go_enter Try.func22, Try.ntmps22
    go_wp2_with (first | (go_at_call 36; with_reducible refine hh.mono ?_; rintro e w1 ⟨rfl, rfl⟩))
    clear hh
    go_loopw [6, 5] (fun i l wr => ∃ (n : Nat), n ≤ 4 ∧ i = .int .i64 n ∧ l = .int .i64 (cb q n : Int) ∧ w = wr) (fun i _ _ => 4 - (intOf i).toNat)
    case atStart => exact ⟨0, by omega, rfl, rfl, rfl⟩
    case round =>
      obtain ⟨n, hn, rfl, rfl, rfl⟩ := hrel
      have hcb := cb_le q n
      by_cases h4 : n < 4
      · have y3 := HX.out n h4
        have q2 : (n : Int) < 4 := by omega
        have hs : cb q (n + 1) = cb q n + if bit q n = true then 1 else 0 := rfl
        cases hb : bit q n with
        | true =>
          rw [hb] at hs
          replace y3 : w.cell? ⟨r, n, none⟩ = some (.bool true) := by rw [y3, show bit (C.r ⟨q, o, t⟩) n = true from hb]
          rw [if_pos rfl] at hs
          have HS := Lib.hid hs
          clear hs hb
          go_wp2
          go_roundw
          case rel => exact ⟨n + 1, by omega, by go_num, by rw [HS.out]; go_num, trivial⟩
          case measure => simp [intOf]; omega
        | false =>
          rw [hb] at hs
          replace y3 : w.cell? ⟨r, n, none⟩ = some (.bool false) := by rw [y3, show bit (C.r ⟨q, o, t⟩) n = false from hb]
          rw [if_neg (by simp)] at hs
          have HS := Lib.hid hs
          clear hs hb
          go_wp2
          go_roundw
          case rel => exact ⟨n + 1, by omega, by go_num, by rw [HS.out]; rfl, trivial⟩
          case measure => simp [intOf]; omega
      · obtain rfl : n = 4 := by omega
        rw [cb_4 q hq] at hcb ⊢
        cases t
        all_goals
          go_wp2
          go_ret
          exact ⟨rfl, rfl⟩
set_option maxRecDepth 100000 in
set_option maxHeartbeats 8000000 in
theorem rnext_any {w : World} {B g : Nat} {rs : List Nat} {s : List C} (h : RIs w B g rs s) (hw : Wf s) (i : Int) :
    Calls Try.prog 20 #[.pointer (some ⟨g, 0, none⟩), .int .i64 i] w fun e w' => e = .returned (.tuple #[.int .i64 ((nextF s i).1.1 : Int), .bool (nextF s i).1.2.1, .bool (nextF s i).1.2.2]) ∧ RIs w' B g rs (nextF s i).2 ∧ Kept w w' (RSet w B) := by
  have hh := has_any h hw i
  cases hl : look s i with
  | none =>
    have e0 : nextF s i = ((0, false, false), s) := by simp [nextF, hl]
    rw [e0]
    rw [hl] at hh
    clear hl e0
    go_enter Try.func20, Try.ntmps20
    go_wp2_with (first | (go_at_call 36; with_reducible refine hh.mono ?_; rintro e w1 ⟨rfl, rfl⟩))
    go_ret3
    exact ⟨rfl, h, kept_refl _ _⟩
  | some c =>
    obtain ⟨k, rfl, hc, hk⟩ := look_some hl
    have e0 : nextF s k = ((nextC c).1, s.set k (nextC c).2) := by simp [nextF, hl]
    rw [e0]
    rw [hl] at hh
    obtain ⟨b0, b1, b2, r, c0, c1, c2, hr, ha⟩ := h.at_ hc
    obtain ⟨q, o, t⟩ := c
    have hq : q < 16 := (hw.get hc).1
    have ho : o < 256 := (hw.get hc).2.1
    have y1 := ha.h1
    have y2 := ha.x1
    have y3 := ha.f1
    have hl3 := hw.1
    have q1 : (k : Int) < (s.length : Int) := by omega
    clear hl e0
    cases t with
    | true =>
      have e1 : nextC ⟨q, o, true⟩ = ((0, true, true), ⟨q, o, false⟩) := by simp [nextC]
      rw [e1]
      go_enter Try.func20, Try.ntmps20
      go_wp2_with (first | (go_at_call 36; with_reducible refine hh.mono ?_; rintro e w1 ⟨rfl, rfl⟩))
      go_ret3
      exact ⟨rfl, h.setT hc ha false, kept_rset ha.s1 _ _⟩
    | false =>
      have z1 := ha.h0
      have z2 := ha.x0
      have z3 := ha.h2
      have z4 := ha.x2
      have HH := Lib.hid h
      have HA := Lib.hid ha
      have HQ := Lib.hid hq
      have HO := Lib.hid ho
      have HW := Lib.hid hw
      clear h ha hq ho hw
      go_enter Try.func20, Try.ntmps20
      go_wp2_with (first | (go_at_call 36; with_reducible refine hh.mono ?_; rintro e w1 ⟨rfl, rfl⟩))
      clear hh
      go_loopw [7] (fun i wr => ∃ (n : Nat), n ≤ 4 ∧ i = .int .i64 n ∧ none_ q o n ∧ w = wr) (fun i _ => 4 - (intOf i).toNat)
      case atStart => exact ⟨0, by omega, rfl, rfl, rfl⟩
      case round =>
        obtain ⟨n, hn, rfl, hno, rfl⟩ := hrel
        have HNO := Lib.hid hno
        clear hno
        have hn' : n = 0 ∨ n = 1 ∨ n = 2 ∨ n = 3 ∨ n = 4 := by omega
        rcases hn' with rfl | rfl | rfl | rfl | rfl
        · have y5 := HA.out.xr 0 (by omega)
          have y6 := HA.out.fr 0
          have hu := obit_0 o HO.out
          cases hb : bit q 0 with
          | false =>
            replace y5 : w.cell? ⟨r, 0, none⟩ = some (.bool false) := by rw [y5, show bit (C.r ⟨q, o, false⟩) 0 = false from hb]
            have HB := Lib.hid hb
            clear hb hu
            go_wp2
            go_roundw
            case rel => exact ⟨1, by omega, by go_num, none_succ HNO.out (fun e => by rw [HB.out] at e; exact absurd e.1 (by simp)), trivial⟩
            case measure => simp [intOf]
          | true =>
            replace y5 : w.cell? ⟨r, 0, none⟩ = some (.bool true) := by rw [y5, show bit (C.r ⟨q, o, false⟩) 0 = true from hb]
            rcases Nat.mod_two_eq_zero_or_one (o / 2 ^ 0) with h0 | h0
            · have hu' : bits .and .u8 (o : Int) 1 = 0 := by rw [hu, h0]; rfl
              have hz : bit o 0 = false := by unfold bit; rw [h0]; rfl
              have HZ := Lib.hid hz
              clear hb hu h0 hz
              go_wp2
              go_roundw
              case rel => exact ⟨1, by omega, by go_num, none_succ HNO.out (fun e => by rw [HZ.out] at e; exact absurd e.2 (by simp)), trivial⟩
              case measure => simp [intOf]
            · have hu' : bits .and .u8 (o : Int) 1 = 1 := by rw [hu, h0]; rfl
              have hz : bit o 0 = true := by unfold bit; rw [h0]; rfl
              have e1 := hit HQ.out HO.out (n := 0) (by omega) HNO.out hb hz
              have HE := Lib.hid e1
              have HR := Lib.hid (HH.out.setR (m := 0) hc hr false _ (row_set q _ 0 false (by omega) (bit_clr q HQ.out 0 (by omega) hb)))
              clear hb hu h0 hz e1
              go_wp2
              go_ret3
              rw [HE.out]
              exact ⟨rfl, HR.out, kept_rset HA.out.sr _ _⟩
        · have y5 := HA.out.xr 1 (by omega)
          have y6 := HA.out.fr 1
          have hu := obit_1 o HO.out
          cases hb : bit q 1 with
          | false =>
            replace y5 : w.cell? ⟨r, 1, none⟩ = some (.bool false) := by rw [y5, show bit (C.r ⟨q, o, false⟩) 1 = false from hb]
            have HB := Lib.hid hb
            clear hb hu
            go_wp2
            go_roundw
            case rel => exact ⟨2, by omega, by go_num, none_succ HNO.out (fun e => by rw [HB.out] at e; exact absurd e.1 (by simp)), trivial⟩
            case measure => simp [intOf]
          | true =>
            replace y5 : w.cell? ⟨r, 1, none⟩ = some (.bool true) := by rw [y5, show bit (C.r ⟨q, o, false⟩) 1 = true from hb]
            rcases Nat.mod_two_eq_zero_or_one (o / 2 ^ 1) with h0 | h0
            · have hu' : bits .and .u8 ((o : Int) / 2) 1 = 0 := by rw [hu, h0]; rfl
              have hz : bit o 1 = false := by unfold bit; rw [h0]; rfl
              have HZ := Lib.hid hz
              clear hb hu h0 hz
              go_wp2
              go_roundw
              case rel => exact ⟨2, by omega, by go_num, none_succ HNO.out (fun e => by rw [HZ.out] at e; exact absurd e.2 (by simp)), trivial⟩
              case measure => simp [intOf]
            · have hu' : bits .and .u8 ((o : Int) / 2) 1 = 1 := by rw [hu, h0]; rfl
              have hz : bit o 1 = true := by unfold bit; rw [h0]; rfl
              have e1 := hit HQ.out HO.out (n := 1) (by omega) HNO.out hb hz
              have HE := Lib.hid e1
              have HR := Lib.hid (HH.out.setR (m := 1) hc hr false _ (row_set q _ 1 false (by omega) (bit_clr q HQ.out 1 (by omega) hb)))
              clear hb hu h0 hz e1
              go_wp2
              go_ret3
              rw [HE.out]
              exact ⟨rfl, HR.out, kept_rset HA.out.sr _ _⟩
        · have y5 := HA.out.xr 2 (by omega)
          have y6 := HA.out.fr 2
          have hu := obit_2 o HO.out
          cases hb : bit q 2 with
          | false =>
            replace y5 : w.cell? ⟨r, 2, none⟩ = some (.bool false) := by rw [y5, show bit (C.r ⟨q, o, false⟩) 2 = false from hb]
            have HB := Lib.hid hb
            clear hb hu
            go_wp2
            go_roundw
            case rel => exact ⟨3, by omega, by go_num, none_succ HNO.out (fun e => by rw [HB.out] at e; exact absurd e.1 (by simp)), trivial⟩
            case measure => simp [intOf]
          | true =>
            replace y5 : w.cell? ⟨r, 2, none⟩ = some (.bool true) := by rw [y5, show bit (C.r ⟨q, o, false⟩) 2 = true from hb]
            rcases Nat.mod_two_eq_zero_or_one (o / 2 ^ 2) with h0 | h0
            · have hu' : bits .and .u8 ((o : Int) / 4) 1 = 0 := by rw [hu, h0]; rfl
              have hz : bit o 2 = false := by unfold bit; rw [h0]; rfl
              have HZ := Lib.hid hz
              clear hb hu h0 hz
              go_wp2
              go_roundw
              case rel => exact ⟨3, by omega, by go_num, none_succ HNO.out (fun e => by rw [HZ.out] at e; exact absurd e.2 (by simp)), trivial⟩
              case measure => simp [intOf]
            · have hu' : bits .and .u8 ((o : Int) / 4) 1 = 1 := by rw [hu, h0]; rfl
              have hz : bit o 2 = true := by unfold bit; rw [h0]; rfl
              have e1 := hit HQ.out HO.out (n := 2) (by omega) HNO.out hb hz
              have HE := Lib.hid e1
              have HR := Lib.hid (HH.out.setR (m := 2) hc hr false _ (row_set q _ 2 false (by omega) (bit_clr q HQ.out 2 (by omega) hb)))
              clear hb hu h0 hz e1
              go_wp2
              go_ret3
              rw [HE.out]
              exact ⟨rfl, HR.out, kept_rset HA.out.sr _ _⟩
        · have y5 := HA.out.xr 3 (by omega)
          have y6 := HA.out.fr 3
          have hu := obit_3 o HO.out
          cases hb : bit q 3 with
          | false =>
            replace y5 : w.cell? ⟨r, 3, none⟩ = some (.bool false) := by rw [y5, show bit (C.r ⟨q, o, false⟩) 3 = false from hb]
            have HB := Lib.hid hb
            clear hb hu
            go_wp2
            go_roundw
            case rel => exact ⟨4, by omega, by go_num, none_succ HNO.out (fun e => by rw [HB.out] at e; exact absurd e.1 (by simp)), trivial⟩
            case measure => simp [intOf]
          | true =>
            replace y5 : w.cell? ⟨r, 3, none⟩ = some (.bool true) := by rw [y5, show bit (C.r ⟨q, o, false⟩) 3 = true from hb]
            rcases Nat.mod_two_eq_zero_or_one (o / 2 ^ 3) with h0 | h0
            · have hu' : bits .and .u8 ((o : Int) / 8) 1 = 0 := by rw [hu, h0]; rfl
              have hz : bit o 3 = false := by unfold bit; rw [h0]; rfl
              have HZ := Lib.hid hz
              clear hb hu h0 hz
              go_wp2
              go_roundw
              case rel => exact ⟨4, by omega, by go_num, none_succ HNO.out (fun e => by rw [HZ.out] at e; exact absurd e.2 (by simp)), trivial⟩
              case measure => simp [intOf]
            · have hu' : bits .and .u8 ((o : Int) / 8) 1 = 1 := by rw [hu, h0]; rfl
              have hz : bit o 3 = true := by unfold bit; rw [h0]; rfl
              have e1 := hit HQ.out HO.out (n := 3) (by omega) HNO.out hb hz
              have HE := Lib.hid e1
              have HR := Lib.hid (HH.out.setR (m := 3) hc hr false _ (row_set q _ 3 false (by omega) (bit_clr q HQ.out 3 (by omega) hb)))
              clear hb hu h0 hz e1
              go_wp2
              go_ret3
              rw [HE.out]
              exact ⟨rfl, HR.out, kept_rset HA.out.sr _ _⟩
        · have e1 := miss HQ.out HO.out HNO.out
          have HE := Lib.hid e1
          clear e1
          go_wp2
          go_ret3
          rw [HE.out]
          have hs : s.set k ⟨q, o, false⟩ = s := set_self hc
          exact ⟨rfl, by rw [hs]; exact HH.out, kept_refl _ _⟩
end Go.Proofs.Ytmhglfidggjfdaa.Line
