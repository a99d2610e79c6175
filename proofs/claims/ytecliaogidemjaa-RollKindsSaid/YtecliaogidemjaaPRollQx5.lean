/- What the functions come to, printed by stub.py out of the translation; contracts of this session's own stand for what the print does not take. -/
import Derived.Test.YtecliaogidemjaaPRollQx0
import Derived.Test.YtecliaogidemjaaPRollQx1
namespace Go.Proofs.Ytecliaogidemjaa.PRollQ
open Go.RowKit Go.Proofs.YtecliaogidemjaaW.PrintWords Go.Proofs.YtecliaogidemjaaW.PrintLast Go.Proofs.YtecliaogidemjaaW.PrintMore Go.Proofs.Ytecliaogidemjaa.PBootAll Go.Proofs.Ytecliaogidemjaa.Boot Go.Proofs.Ytecliaogidemjaa.Pick
attribute [local go_sem] max2_int min2_int max_two min_two max_three min_three max_four min_four   -- for this text's walks alone
set_option linter.unusedVariables false
set_option linter.unusedSimpArgs false

/-! ### presidioref1_Num: function 32 -/
def presidioref1_Num.l0 : Nat → List Int → Int → Int → Option (Int)
  | 0, _, _, _ => none
  | k + 1, x0, x3, x4 => if x4 ≥ 0 then (if 0 ≤ x4 then (if x4 < (x0.length : Int) then (presidioref1_Num.l0 k x0 (IntKind.u64.wrap ((IntKind.u64.wrap (x3 * 256)) + (IntKind.u64.wrap (rd x0 x4)))) (wrap64 (x4 - 1))) else (none)) else (none)) else (some x3)
def presidioref1_Num.f (k : Nat) (l0 : List Int) : Option (Int) := presidioref1_Num.l0 k l0 0 (wrap64 ((l0.length : Int) - 1))
theorem presidioref1_Num.mono_l : ∀ k, (∀ y0 y1 y2, LeO (presidioref1_Num.l0 k y0 y1 y2) (presidioref1_Num.l0 (k + 1) y0 y1 y2))
  | 0 => fun _ _ _ r h => by simp [presidioref1_Num.l0] at h
  | k + 1 => by
    have ih0 := presidioref1_Num.mono_l k
    · intro y0 y1 y2
      unfold presidioref1_Num.l0
      repeat' first
      | (with_reducible exact ih0 _ _ _)
      | (with_reducible exact LeO.refl _)
      | (with_reducible exact LeO.none _)
      | (with_reducible refine LeO.ite ?_ ?_)
      | (with_reducible refine LeO.bind ?_ (fun _ => ?_))
      | exact ih0 _ _ _
      | exact LeO.none _
      | refine LeO.ite ?_ ?_
      | refine LeO.bind ?_ (fun _ => ?_)
theorem presidioref1_Num.mono : ∀ a0 k, LeO (presidioref1_Num.f k a0) (presidioref1_Num.f (k + 1) a0) := by
  intro a0 k
  have ih0 := presidioref1_Num.mono_l k
  unfold presidioref1_Num.f
  repeat' first
      | (with_reducible exact ih0 _ _ _)
      | (with_reducible exact LeO.refl _)
      | (with_reducible exact LeO.none _)
      | (with_reducible refine LeO.ite ?_ ?_)
      | (with_reducible refine LeO.bind ?_ (fun _ => ?_))
      | exact ih0 _ _ _
      | exact LeO.none _
      | refine LeO.ite ?_ ?_
      | refine LeO.bind ?_ (fun _ => ?_)
set_option maxHeartbeats 8000000 in
set_option maxRecDepth 100000 in
theorem presidioref1_Num.calls (k : Nat) (A0 : Option Addr) (c0 : Nat) (l0 : List Int) (r : Int) (w : World) (hr0 : Kd.C (Kd.int .u8) w A0 l0.length l0) (hc0 : l0.length ≤ c0) (h : presidioref1_Num.f k l0 = some r) :
    Calls Try.prog 32 #[.slice A0 l0.length c0] w fun e w' => e = .returned (.int .u64 r) ∧ Drawn0 w w' := by
  have HR0 := Aside0.mk hr0
  have HC0 := Aside0.mk hc0
  clear hr0 hc0
  have H : (presidioref1_Num.l0 k l0 0 (wrap64 ((l0.length : Int) - 1))) = some r := h
  clear h
  have H' := Aside0.mk H
  clear H
  go_enter Try.func32, Try.ntmps32
  go_wp2
  go_loopg [3, 4] k (fun kq v3 v4 w' => ∃ (x3_1 : Int) (x4_1 : Int), v3 = .int .u64 x3_1 ∧ v4 = .int .i64 x4_1 ∧ Aside0 (presidioref1_Num.l0 kq l0 x3_1 x4_1 = some r) ∧ Aside0 (kq ≤ k) ∧ Drawn0 w w')
  case atStart => exact ⟨(0), (wrap64 ((l0.length : Int) - 1)), (by first | rfl | (simp; done) | (simp [*]; done)), (by first | rfl | (simp; done) | (simp [*]; done)), H', ⟨Nat.le_refl _⟩, by repeat (first | exact Drawn0.refl _ | apply Drawn0.step)⟩
  case round =>
    clear H'
    obtain ⟨x3_1, x4_1, rfl, rfl, HA, HK1, ⟨m1, rfl⟩⟩ := hrel
    cases gk with
    | zero => exact absurd HA.out (by simp [presidioref1_Num.l0])
    | succ k1 =>
      have H := HA.out
      clear HA
      simp only [presidioref1_Num.l0] at H
      by_cases c2 : x4_1 ≥ 0
      · rw [if_pos c2] at H
        have c2b0 : decide (0 ≤ x4_1) = true := decide_eq_true c2
        clear c2
        by_cases c3 : 0 ≤ x4_1
        · rw [if_pos c3] at H
          have c3b0 : decide (0 ≤ x4_1) = true := decide_eq_true c3
          clear c3
          by_cases c4 : x4_1 < (l0.length : Int)
          · rw [if_pos c4] at H
            have c4b0 : decide (x4_1 < (l0.length : Int)) = true := decide_eq_true c4
            clear c4
            have H' := Aside0.mk H
            clear H
            have p197 : 0 ≤ (x4_1 : Int) := of_decide_eq_true (by first | (with_reducible assumption) | assumption)
            have q197 : x4_1 < (l0.length : Int) := of_decide_eq_true (by first | (with_reducible assumption) | assumption)
            obtain ⟨ad197, e197, hx197_0⟩ := Kd.at_int HR0.out x4_1 p197 q197
            cases e197
            replace p197 := eq_true p197
            replace q197 := eq_true q197
            go_wp2
            go_roundg k1
            case measure => have := HK1.out; omega
            case rel => exact ⟨(IntKind.u64.wrap ((IntKind.u64.wrap (x3_1 * 256)) + (IntKind.u64.wrap (rd l0 x4_1)))), (wrap64 (x4_1 - 1)), (by first | rfl | (simp; done) | (simp [*]; done)), (by first | rfl | (simp; done) | (simp [*]; done)), H', ⟨by have := HK1.out; omega⟩, by repeat (first | exact Drawn0.refl _ | apply Drawn0.step)⟩
          · rw [if_neg c4] at H
            exact absurd H (by simp)
        · rw [if_neg c3] at H
          exact absurd H (by simp)
      · rw [if_neg c2] at H
        have c2b0 : decide (0 ≤ x4_1) = false := decide_eq_false c2
        clear c2
        obtain rfl := Option.some.inj H
        go_wp2
        go_ret
        exact ⟨by first | rfl | (simp; done) | (simp [*]; done), by repeat (first | exact Drawn0.refl _ | apply Drawn0.step)⟩

/-! ### presidiolaw16_RollKinds: function 11 -/
mutual
def presidiolaw16_RollKinds.j0 : Nat → List Int → Int → Bool → Int → Int → Int → Int → List (S56) → Option (Bool)
  | 0, _, _, _, _, _, _, _, _ => none
  | k + 1, x5, x6, x41, x213000, x213001, x213002, x213003, x213004 => if x41 = true then (some false) else (presidiolaw16_RollKinds.l0 k x5 x6 0 1 x213000 x213001 x213002 x213003 x213004)
def presidiolaw16_RollKinds.l0 : Nat → List Int → Int → Int → Int → Int → Int → Int → Int → List (S56) → Option (Bool)
  | 0, _, _, _, _, _, _, _, _, _ => none
  | k + 1, x5, x6, x7, x8, x213000, x213001, x213002, x213003, x213004 => if x8 ≤ 2 then ((roll_List.f k x213000 x213001 x213002 x213003 x213004 x8).bind fun bt217 => (if (bt217.1.length : Int) = (wrap64 (8 * bt217.2)) then (presidiolaw16_RollKinds.l1 k x5 x6 (wrap64 (x7 + bt217.2)) x8 bt217.1 bt217.2 0 x213000 x213001 x213002 x213003 x213004) else (some false))) else (some (x7 == x6))
def presidiolaw16_RollKinds.l1 : Nat → List Int → Int → Int → Int → List Int → Int → Int → Int → Int → Int → Int → List (S56) → Option (Bool)
  | 0, _, _, _, _, _, _, _, _, _, _, _, _ => none
  | k + 1, x5, x6, x7, x8, x9, x10, x11, x213000, x213001, x213002, x213003, x213004 => if x11 < x10 then (if 0 ≤ (wrap64 (8 * x11)) then (if (wrap64 (8 * x11)) ≤ (wrap64 ((wrap64 (8 * x11)) + 2)) then (if (wrap64 ((wrap64 (8 * x11)) + 2)) ≤ (x9.length : Int) then ((presidioref1_Num.f k ((x9.take ((wrap64 ((wrap64 (8 * x11)) + 2)) : Int).toNat).drop ((wrap64 (8 * x11)) : Int).toNat)).bind fun t225 => (if (wrap64 (t225)) ≥ x6 then (some false) else (if 0 ≤ (wrap64 (t225)) then (if (wrap64 (t225)) < (x213004.length : Int) then (if ((rd_T56 x213004 (wrap64 (t225))).f5) = x8 then (if (wrap64 (8 * x11)) ≤ (wrap64 ((wrap64 (8 * x11)) + 8)) then (if (wrap64 ((wrap64 (8 * x11)) + 8)) ≤ (x9.length : Int) then (if 0 ≤ (wrap64 (8 * (wrap64 (t225)))) then (if (wrap64 (8 * (wrap64 (t225)))) ≤ (wrap64 ((wrap64 (8 * (wrap64 (t225)))) + 8)) then (if (wrap64 ((wrap64 (8 * (wrap64 (t225)))) + 8)) ≤ (x5.length : Int) then (if (strOfNums ((x9.take ((wrap64 ((wrap64 (8 * x11)) + 8)) : Int).toNat).drop ((wrap64 (8 * x11)) : Int).toNat)).toList = (strOfNums ((x5.take ((wrap64 ((wrap64 (8 * (wrap64 (t225)))) + 8)) : Int).toNat).drop ((wrap64 (8 * (wrap64 (t225)))) : Int).toNat)).toList then (presidiolaw16_RollKinds.l1 k x5 x6 x7 x8 x9 x10 (wrap64 (x11 + 1)) x213000 x213001 x213002 x213003 x213004) else (some false)) else (none)) else (none)) else (none)) else (none)) else (none)) else (some false)) else (none)) else (none)))) else (none)) else (none)) else (none)) else (presidiolaw16_RollKinds.l0 k x5 x6 x7 ((x8 + 1) % 4294967296) x213000 x213001 x213002 x213003 x213004)
end
def presidiolaw16_RollKinds.f (k : Nat) (l0 : List Int) : Option (Bool) := (presidiolaw16_begun.f).bind fun t198 => (if t198 = true then (if (l0.length : Int) > 40 then (some true) else ((presidioplay_Made.f l0).bind fun bt199 => ((presidioplay_Picks_Num.f bt199.1 bt199.2 6).bind fun bt202 => ((presidioplay_Picks_Bill.f bt199.1 bt202.2 (wrap64 (1 + bt202.1))).bind fun bt204 => ((roll_List.f k bt204.1 bt204.2.1 bt204.2.2.1 bt204.2.2.2.1 bt204.2.2.2.2.1 0).bind fun bt213 => (if bt213.2 = (bt204.2.2.2.2.1.length : Int) then (presidiolaw16_RollKinds.j0 k bt213.1 bt213.2 ((bt213.1.length : Int) != (wrap64 (8 * bt213.2))) bt204.1 bt204.2.1 bt204.2.2.1 bt204.2.2.2.1 bt204.2.2.2.2.1) else (presidiolaw16_RollKinds.j0 k bt213.1 bt213.2 true bt204.1 bt204.2.1 bt204.2.2.1 bt204.2.2.2.1 bt204.2.2.2.2.1))))))) else (some false))
theorem presidiolaw16_RollKinds.mono_l : ∀ k, (∀ y0 y1 y2 y3 y4 y5 y6 y7, LeO (presidiolaw16_RollKinds.j0 k y0 y1 y2 y3 y4 y5 y6 y7) (presidiolaw16_RollKinds.j0 (k + 1) y0 y1 y2 y3 y4 y5 y6 y7)) ∧ (∀ y0 y1 y2 y3 y4 y5 y6 y7 y8, LeO (presidiolaw16_RollKinds.l0 k y0 y1 y2 y3 y4 y5 y6 y7 y8) (presidiolaw16_RollKinds.l0 (k + 1) y0 y1 y2 y3 y4 y5 y6 y7 y8)) ∧ (∀ y0 y1 y2 y3 y4 y5 y6 y7 y8 y9 y10 y11, LeO (presidiolaw16_RollKinds.l1 k y0 y1 y2 y3 y4 y5 y6 y7 y8 y9 y10 y11) (presidiolaw16_RollKinds.l1 (k + 1) y0 y1 y2 y3 y4 y5 y6 y7 y8 y9 y10 y11))
  | 0 => ⟨fun _ _ _ _ _ _ _ _ r h => by simp [presidiolaw16_RollKinds.j0] at h, fun _ _ _ _ _ _ _ _ _ r h => by simp [presidiolaw16_RollKinds.l0] at h, fun _ _ _ _ _ _ _ _ _ _ _ _ r h => by simp [presidiolaw16_RollKinds.l1] at h⟩
  | k + 1 => by
    obtain ⟨ih0, ih1, ih2⟩ := presidiolaw16_RollKinds.mono_l k
    refine ⟨?_, ?_, ?_⟩
    · intro y0 y1 y2 y3 y4 y5 y6 y7
      unfold presidiolaw16_RollKinds.j0
      repeat' first
      | (with_reducible exact ih0 _ _ _ _ _ _ _ _)
      | (with_reducible exact ih1 _ _ _ _ _ _ _ _ _)
      | (with_reducible exact ih2 _ _ _ _ _ _ _ _ _ _ _ _)
      | (with_reducible exact presidioref1_Num.mono _ _)
      | (with_reducible exact roll_List.mono _ _ _ _ _ _ _)
      | (with_reducible exact LeO.refl _)
      | (with_reducible exact LeO.none _)
      | (with_reducible refine LeO.ite ?_ ?_)
      | (with_reducible refine LeO.bind ?_ (fun _ => ?_))
      | exact ih0 _ _ _ _ _ _ _ _
      | exact ih1 _ _ _ _ _ _ _ _ _
      | exact ih2 _ _ _ _ _ _ _ _ _ _ _ _
      | exact presidioref1_Num.mono _ _
      | exact roll_List.mono _ _ _ _ _ _ _
      | exact LeO.none _
      | refine LeO.ite ?_ ?_
      | refine LeO.bind ?_ (fun _ => ?_)
    · intro y0 y1 y2 y3 y4 y5 y6 y7 y8
      unfold presidiolaw16_RollKinds.l0
      repeat' first
      | (with_reducible exact ih0 _ _ _ _ _ _ _ _)
      | (with_reducible exact ih1 _ _ _ _ _ _ _ _ _)
      | (with_reducible exact ih2 _ _ _ _ _ _ _ _ _ _ _ _)
      | (with_reducible exact presidioref1_Num.mono _ _)
      | (with_reducible exact roll_List.mono _ _ _ _ _ _ _)
      | (with_reducible exact LeO.refl _)
      | (with_reducible exact LeO.none _)
      | (with_reducible refine LeO.ite ?_ ?_)
      | (with_reducible refine LeO.bind ?_ (fun _ => ?_))
      | exact ih0 _ _ _ _ _ _ _ _
      | exact ih1 _ _ _ _ _ _ _ _ _
      | exact ih2 _ _ _ _ _ _ _ _ _ _ _ _
      | exact presidioref1_Num.mono _ _
      | exact roll_List.mono _ _ _ _ _ _ _
      | exact LeO.none _
      | refine LeO.ite ?_ ?_
      | refine LeO.bind ?_ (fun _ => ?_)
    · intro y0 y1 y2 y3 y4 y5 y6 y7 y8 y9 y10 y11
      unfold presidiolaw16_RollKinds.l1
      repeat' first
      | (with_reducible exact ih0 _ _ _ _ _ _ _ _)
      | (with_reducible exact ih1 _ _ _ _ _ _ _ _ _)
      | (with_reducible exact ih2 _ _ _ _ _ _ _ _ _ _ _ _)
      | (with_reducible exact presidioref1_Num.mono _ _)
      | (with_reducible exact roll_List.mono _ _ _ _ _ _ _)
      | (with_reducible exact LeO.refl _)
      | (with_reducible exact LeO.none _)
      | (with_reducible refine LeO.ite ?_ ?_)
      | (with_reducible refine LeO.bind ?_ (fun _ => ?_))
      | exact ih0 _ _ _ _ _ _ _ _
      | exact ih1 _ _ _ _ _ _ _ _ _
      | exact ih2 _ _ _ _ _ _ _ _ _ _ _ _
      | exact presidioref1_Num.mono _ _
      | exact roll_List.mono _ _ _ _ _ _ _
      | exact LeO.none _
      | refine LeO.ite ?_ ?_
      | refine LeO.bind ?_ (fun _ => ?_)
theorem presidiolaw16_RollKinds.mono : ∀ a0 k, LeO (presidiolaw16_RollKinds.f k a0) (presidiolaw16_RollKinds.f (k + 1) a0) := by
  intro a0 k
  obtain ⟨ih0, ih1, ih2⟩ := presidiolaw16_RollKinds.mono_l k
  unfold presidiolaw16_RollKinds.f
  repeat' first
      | (with_reducible exact ih0 _ _ _ _ _ _ _ _)
      | (with_reducible exact ih1 _ _ _ _ _ _ _ _ _)
      | (with_reducible exact ih2 _ _ _ _ _ _ _ _ _ _ _ _)
      | (with_reducible exact presidioref1_Num.mono _ _)
      | (with_reducible exact roll_List.mono _ _ _ _ _ _ _)
      | (with_reducible exact LeO.refl _)
      | (with_reducible exact LeO.none _)
      | (with_reducible refine LeO.ite ?_ ?_)
      | (with_reducible refine LeO.bind ?_ (fun _ => ?_))
      | exact ih0 _ _ _ _ _ _ _ _
      | exact ih1 _ _ _ _ _ _ _ _ _
      | exact ih2 _ _ _ _ _ _ _ _ _ _ _ _
      | exact presidioref1_Num.mono _ _
      | exact roll_List.mono _ _ _ _ _ _ _
      | exact LeO.none _
      | refine LeO.ite ?_ ?_
      | refine LeO.bind ?_ (fun _ => ?_)
set_option maxHeartbeats 8000000 in
set_option maxRecDepth 100000 in
theorem presidiolaw16_RollKinds.calls (k : Nat) (A0 : Option Addr) (c0 : Nat) (l0 : List Int) (r : Bool) (w : World) (hr0 : Kd.C (Kd.int .u8) w A0 l0.length l0) (hc0 : l0.length ≤ c0) (h : presidiolaw16_RollKinds.f k l0 = some r) :
    Calls Try.prog 11 #[.slice A0 l0.length c0] w fun e w' => e = .returned (.bool r) ∧ Below w.heap.size w w' := by
  have hu41 := Try.underlying41
  have HR0 := Aside0.mk hr0
  have HC0 := Aside0.mk hc0
  clear hr0 hc0
  have HB := Aside0.mk (Below.refl w.heap.size w)
  have H : ((presidiolaw16_begun.f).bind fun t198 => (if t198 = true then (if (l0.length : Int) > 40 then (some true) else ((presidioplay_Made.f l0).bind fun bt199 => ((presidioplay_Picks_Num.f bt199.1 bt199.2 6).bind fun bt202 => ((presidioplay_Picks_Bill.f bt199.1 bt202.2 (wrap64 (1 + bt202.1))).bind fun bt204 => ((roll_List.f k bt204.1 bt204.2.1 bt204.2.2.1 bt204.2.2.2.1 bt204.2.2.2.2.1 0).bind fun bt213 => (if bt213.2 = (bt204.2.2.2.2.1.length : Int) then (presidiolaw16_RollKinds.j0 k bt213.1 bt213.2 ((bt213.1.length : Int) != (wrap64 (8 * bt213.2))) bt204.1 bt204.2.1 bt204.2.2.1 bt204.2.2.2.1 bt204.2.2.2.2.1) else (presidiolaw16_RollKinds.j0 k bt213.1 bt213.2 true bt204.1 bt204.2.1 bt204.2.2.1 bt204.2.2.2.1 bt204.2.2.2.2.1))))))) else (some false))) = some r := h
  clear h
  replace H := Option.bind_eq_some_iff.mp H
  obtain ⟨t198, A20, H⟩ := H
  replace H : (if t198 = true then (if (l0.length : Int) > 40 then (some true) else ((presidioplay_Made.f l0).bind fun bt199 => ((presidioplay_Picks_Num.f bt199.1 bt199.2 6).bind fun bt202 => ((presidioplay_Picks_Bill.f bt199.1 bt202.2 (wrap64 (1 + bt202.1))).bind fun bt204 => ((roll_List.f k bt204.1 bt204.2.1 bt204.2.2.1 bt204.2.2.2.1 bt204.2.2.2.2.1 0).bind fun bt213 => (if bt213.2 = (bt204.2.2.2.2.1.length : Int) then (presidiolaw16_RollKinds.j0 k bt213.1 bt213.2 ((bt213.1.length : Int) != (wrap64 (8 * bt213.2))) bt204.1 bt204.2.1 bt204.2.2.1 bt204.2.2.2.1 bt204.2.2.2.2.1) else (presidiolaw16_RollKinds.j0 k bt213.1 bt213.2 true bt204.1 bt204.2.1 bt204.2.2.1 bt204.2.2.2.1 bt204.2.2.2.2.1))))))) else (some false)) = some r := H
  have A2 := Aside0.mk A20
  clear A20
  by_cases c3 : t198 = true
  · subst c3
    have H1 : (if (l0.length : Int) > 40 then (some true) else ((presidioplay_Made.f l0).bind fun bt199 => ((presidioplay_Picks_Num.f bt199.1 bt199.2 6).bind fun bt202 => ((presidioplay_Picks_Bill.f bt199.1 bt202.2 (wrap64 (1 + bt202.1))).bind fun bt204 => ((roll_List.f k bt204.1 bt204.2.1 bt204.2.2.1 bt204.2.2.2.1 bt204.2.2.2.2.1 0).bind fun bt213 => (if bt213.2 = (bt204.2.2.2.2.1.length : Int) then (presidiolaw16_RollKinds.j0 k bt213.1 bt213.2 ((bt213.1.length : Int) != (wrap64 (8 * bt213.2))) bt204.1 bt204.2.1 bt204.2.2.1 bt204.2.2.2.1 bt204.2.2.2.2.1) else (presidiolaw16_RollKinds.j0 k bt213.1 bt213.2 true bt204.1 bt204.2.1 bt204.2.2.1 bt204.2.2.2.1 bt204.2.2.2.2.1))))))) = some r := by rw [if_pos rfl] at H; exact H
    clear H
    have H := H1
    clear H1
    by_cases c4 : (l0.length : Int) > 40
    · rw [if_pos c4] at H
      have c4b0 : decide (40 < (l0.length : Int)) = true := decide_eq_true c4
      have c4b1 : decide (40 < l0.length) = true := decide_eq_true (by omega)
      clear c4
      obtain rfl := Option.some.inj H
      go_enter Try.func11, Try.ntmps11
      go_wp2_with (first | (go_at_call 29; (with_reducible refine (presidiolaw16_begun.calls  true _ A2.out).mono ?_); rintro e w5 ⟨rfl, hb⟩; have n0_ := Aside0.mk (below_step (by repeat (first | (with_reducible first | exact HB.out | apply below_alloc | apply pw_below_drewN | apply below_drew1) | exact HB.out)) hb); clear HB; have HB := n0_; clear n0_; (try clear hb); (try clear hb2); (try clear hk); (try clear hi)))
      repeat (go_quiet (first | (go_at_call 29; (with_reducible refine (presidiolaw16_begun.calls  true _ A2.out).mono ?_); rintro e w5 ⟨rfl, hb⟩; have n0_ := Aside0.mk (below_step (by repeat (first | (with_reducible first | exact HB.out | apply below_alloc | apply pw_below_drewN | apply below_drew1) | exact HB.out)) hb); clear HB; have HB := n0_; clear n0_; (try clear hb); (try clear hb2); (try clear hk); (try clear hi))); try go_wp2_with (first | (go_at_call 29; (with_reducible refine (presidiolaw16_begun.calls  true _ A2.out).mono ?_); rintro e w5 ⟨rfl, hb⟩; have n0_ := Aside0.mk (below_step (by repeat (first | (with_reducible first | exact HB.out | apply below_alloc | apply pw_below_drewN | apply below_drew1) | exact HB.out)) hb); clear HB; have HB := n0_; clear n0_; (try clear hb); (try clear hb2); (try clear hk); (try clear hi))))
      go_ret
      exact ⟨by first | rfl | (simp [errW_none, errW_some] <;> rfl) | (simp [*, errW_none, errW_some] <;> rfl), by repeat (first | (with_reducible first | exact HB.out | apply below_alloc | apply pw_below_drewN | apply below_drew1) | exact HB.out)⟩
    · rw [if_neg c4] at H
      have c4b0 : decide (40 < (l0.length : Int)) = false := decide_eq_false c4
      have c4b1 : decide (40 < l0.length) = false := decide_eq_false (by omega)
      clear c4
      replace H := Option.bind_eq_some_iff.mp H
      obtain ⟨⟨t199, t200⟩, A60, H⟩ := H
      replace H : ((presidioplay_Picks_Num.f t199 t200 6).bind fun bt202 => ((presidioplay_Picks_Bill.f t199 bt202.2 (wrap64 (1 + bt202.1))).bind fun bt204 => ((roll_List.f k bt204.1 bt204.2.1 bt204.2.2.1 bt204.2.2.2.1 bt204.2.2.2.2.1 0).bind fun bt213 => (if bt213.2 = (bt204.2.2.2.2.1.length : Int) then (presidiolaw16_RollKinds.j0 k bt213.1 bt213.2 ((bt213.1.length : Int) != (wrap64 (8 * bt213.2))) bt204.1 bt204.2.1 bt204.2.2.1 bt204.2.2.2.1 bt204.2.2.2.2.1) else (presidiolaw16_RollKinds.j0 k bt213.1 bt213.2 true bt204.1 bt204.2.1 bt204.2.2.1 bt204.2.2.2.1 bt204.2.2.2.2.1))))) = some r := H
      have A6 := Aside0.mk A60
      clear A60
      replace H := Option.bind_eq_some_iff.mp H
      obtain ⟨⟨t202, t203⟩, A70, H⟩ := H
      replace H : ((presidioplay_Picks_Bill.f t199 t203 (wrap64 (1 + t202))).bind fun bt204 => ((roll_List.f k bt204.1 bt204.2.1 bt204.2.2.1 bt204.2.2.2.1 bt204.2.2.2.2.1 0).bind fun bt213 => (if bt213.2 = (bt204.2.2.2.2.1.length : Int) then (presidiolaw16_RollKinds.j0 k bt213.1 bt213.2 ((bt213.1.length : Int) != (wrap64 (8 * bt213.2))) bt204.1 bt204.2.1 bt204.2.2.1 bt204.2.2.2.1 bt204.2.2.2.2.1) else (presidiolaw16_RollKinds.j0 k bt213.1 bt213.2 true bt204.1 bt204.2.1 bt204.2.2.1 bt204.2.2.2.1 bt204.2.2.2.2.1)))) = some r := H
      have A7 := Aside0.mk A70
      clear A70
      replace H := Option.bind_eq_some_iff.mp H
      obtain ⟨⟨t204, t205, t206, t207, t208, t211⟩, A80, H⟩ := H
      replace H : ((roll_List.f k t204 t205 t206 t207 t208 0).bind fun bt213 => (if bt213.2 = (t208.length : Int) then (presidiolaw16_RollKinds.j0 k bt213.1 bt213.2 ((bt213.1.length : Int) != (wrap64 (8 * bt213.2))) t204 t205 t206 t207 t208) else (presidiolaw16_RollKinds.j0 k bt213.1 bt213.2 true t204 t205 t206 t207 t208))) = some r := H
      have A8 := Aside0.mk A80
      clear A80
      replace H := Option.bind_eq_some_iff.mp H
      obtain ⟨⟨t213, t216⟩, A90, H⟩ := H
      replace H : (if t216 = (t208.length : Int) then (presidiolaw16_RollKinds.j0 k t213 t216 ((t213.length : Int) != (wrap64 (8 * t216))) t204 t205 t206 t207 t208) else (presidiolaw16_RollKinds.j0 k t213 t216 true t204 t205 t206 t207 t208)) = some r := H
      have A9 := Aside0.mk A90
      clear A90
      have HC10 := Aside0.mk H
      clear H
      go_enter Try.func11, Try.ntmps11
      go_upto_region 8 with (first | (go_at_call 29; (with_reducible refine (presidiolaw16_begun.calls  true _ A2.out).mono ?_); rintro e w11 ⟨rfl, hb⟩; have n0_ := Aside0.mk (below_step (by repeat (first | (with_reducible first | exact HB.out | apply below_alloc | apply pw_below_drewN | apply below_drew1) | exact HB.out)) hb); clear HB; have HB := n0_; clear n0_; (try clear hb); (try clear hb2); (try clear hk); (try clear hi)) | (go_at_call 26; (with_reducible refine (presidioplay_Made.calls _ _ l0 t199 t200 w _ ?side1 ?side2 ?side3 A6.out).mono ?_); (case side1 => repeat (first | (with_reducible first | exact HB.out | apply below_alloc | apply pw_below_drewN | apply below_drew1) | exact HB.out)); (case side2 => exact HR0.out); (case side3 => exact HC0.out); rintro e w12 ⟨g201, rfl, hi, hb, hb2⟩; have n0_ := Aside0.mk (hb); have n1_ := Aside0.mk (hi); clear HB; have HB := n0_; have HI201 := n1_; clear n0_ n1_; (try clear hb); (try clear hb2); (try clear hk); (try clear hi)) | (go_at_call 28; (with_reducible refine (presidioplay_Picks_Num.calls g201 t199 t200 6 t202 t203 w _ ?side1 ?side2 A7.out).mono ?_); (case side1 => repeat (first | (with_reducible first | exact HI201.out | apply IsS72.alloc | apply IsS72.drewN | apply IsS72.drew | apply IsS72.set_1) | exact HI201.out)); (case side2 => repeat (first | (with_reducible first | exact HB.out | apply below_alloc | apply pw_below_drewN | apply below_drew1 | refine below_set ?_ (IsS72.ge HI201.out)) | exact HB.out)); rintro e w13 ⟨rfl, hi, hb, hk⟩; have n0_ := Aside0.mk (hb); have n1_ := Aside0.mk (hi); clear HB; clear HI201; have HB := n0_; have HI201 := n1_; clear n0_ n1_; (try clear hb); (try clear hb2); (try clear hk); (try clear hi)) | (go_at_call 27; (with_reducible refine (presidioplay_Picks_Bill.calls g201 t199 t203 (wrap64 (1 + t202)) t204 t205 t206 t207 t208 t211 w _ ?side1 ?side2 A8.out).mono ?_); (case side1 => repeat (first | (with_reducible first | exact HI201.out | apply IsS72.alloc | apply IsS72.drewN | apply IsS72.drew | apply IsS72.set_1) | exact HI201.out)); (case side2 => repeat (first | (with_reducible first | exact HB.out | apply below_alloc | apply pw_below_drewN | apply below_drew1 | refine below_set ?_ (IsS72.ge HI201.out)) | exact HB.out)); rintro e w14 ⟨v209, rfl, ho0, hi, hb, hk⟩; have n0_ := Aside0.mk (Kd.R_lower ho0 (below_size (by repeat (first | (with_reducible first | exact HB.out | apply below_alloc | apply pw_below_drewN | apply below_drew1 | refine below_set ?_ (IsS72.ge HI201.out)) | exact HB.out)))); have n1_ := Aside0.mk (hb); have n2_ := Aside0.mk (hi); clear HB; clear HI201; have HO210 := n0_; have HB := n1_; have HI201 := n2_; clear n0_ n1_ n2_; (try clear hb); (try clear hb2); (try clear hk); (try clear hi); (try clear ho0)) | ((with_reducible refine gate_dst (N := 4) rfl ?_); (try (refine gate_guard (by rfl) ?_; dsimp only)); refine box_event ?hg (N := 4) ?hd (cs := #[.int .i64 0, .int .i64 0, .int .i64 0, .int .i64 0, .slice none 0 0]) (t := 41) ?hr ?_; (case hd => rfl); (case hg => rfl); (case hr => first | (go_simp; done) | (go_simp; rfl)); intro gb212 hg w15 hbox hb; have n0_ := Aside0.mk (Kd.R_below (by (with_reducible repeat (first | apply Kd.R_alloc | apply Kd.R_drewN | apply Kd.R_drew)); exact HO210.out) hb); have n1_ := Aside0.mk (IsS72.below (by repeat (first | (with_reducible first | exact HI201.out | apply IsS72.alloc | apply IsS72.drewN | apply IsS72.drew | apply IsS72.set_1) | exact HI201.out)) hb); have n2_ := Aside0.mk (below_step (by repeat (first | (with_reducible first | exact HB.out | apply below_alloc | apply pw_below_drewN | apply below_drew1 | refine below_set ?_ (IsS72.ge HI201.out)) | exact HB.out)) hb); have n3_ := Aside0.mk (hbox); have n4_ := Aside0.mk ((by rw [hg]; exact (below_size (by repeat (first | (with_reducible first | exact HB.out | apply below_alloc | apply pw_below_drewN | apply below_drew1 | refine below_set ?_ (IsS72.ge HI201.out)) | exact HB.out))) : w.heap.size ≤ gb212)); have n5_ := Aside0.mk ((by rw [hg]; exact (below_size (by repeat (first | (with_reducible first | exact HB.out | apply below_alloc | apply pw_below_drewN | apply below_drew1 | refine below_set ?_ (IsS72.ge HI201.out)) | exact HB.out))) : w.heap.size ≤ gb212)); have n6_ := Aside0.mk ((by rw [hg]; exact Nat.ne_of_lt (IsS72.lt (show IsS72 w _ g201 t199 t211 from by repeat (first | (with_reducible first | exact HI201.out | apply IsS72.alloc | apply IsS72.drewN | apply IsS72.drew | apply IsS72.set_1) | exact HI201.out))) : g201 ≠ gb212)); have n7_ := Aside0.mk ((by rw [hg]; exact Nat.ne_of_gt (IsS72.lt (show IsS72 w _ g201 t199 t211 from by repeat (first | (with_reducible first | exact HI201.out | apply IsS72.alloc | apply IsS72.drewN | apply IsS72.drew | apply IsS72.set_1) | exact HI201.out))) : gb212 ≠ g201)); clear HO210; clear HI201; clear HB; have HO210 := n0_; have HI201 := n1_; have HB := n2_; have BK212 := n3_; have GW212 := n4_; have GE212 := n5_; have NB201_212 := n6_; have NB212_201 := n7_; clear n0_ n1_ n2_ n3_ n4_ n5_ n6_ n7_; clear hb hbox hg; have hnb16 := NB212_201.out; have hnc16 := NB201_212.out; have hcz17_0 : w15.cell? ⟨gb212, 0, none⟩ = some (.int .i64 0) := (blk_cell BK212.out 0).trans rfl; have hcz17_1 : w15.cell? ⟨gb212, 1, none⟩ = some (.int .i64 0) := (blk_cell BK212.out 1).trans rfl; have hcz17_2 : w15.cell? ⟨gb212, 2, none⟩ = some (.int .i64 0) := (blk_cell BK212.out 2).trans rfl; have hcz17_3 : w15.cell? ⟨gb212, 3, none⟩ = some (.int .i64 0) := (blk_cell BK212.out 3).trans rfl; have hcz17_4 : w15.cell? ⟨gb212, 4, none⟩ = some (.slice none 0 0) := (blk_cell BK212.out 4).trans rfl; have hfz17_0 := blk_frozen BK212.out 0; have hfz17_1 := blk_frozen BK212.out 1; have hfz17_2 := blk_frozen BK212.out 2; have hfz17_3 := blk_frozen BK212.out 3; have hfz17_4 := blk_frozen BK212.out 4; obtain ⟨Ao18, co18, eo18⟩ := Kd.R_slice HO210.out; subst eo18) | (go_at_call 30; (with_reducible refine (roll_List.calls k t204 t205 t206 t207 _ _ t208 0 t213 t216 _ ?side1 ?side2 A9.out).mono ?_); (case side1 => refine (Kd.R_reads' (e := 56) (base := w.heap.size) (ok := fun k_ => True) (n := t208.length) (c := co18) ?_).2.2; exact (by (with_reducible repeat (first | apply Kd.R_alloc | apply Kd.R_drewN | apply Kd.R_drew)); exact (Kd.R_mono (Kd.R_far (p := ⟨gb212, 4, none⟩) (Kd.R_far (p := ⟨gb212, 3, none⟩) (Kd.R_far (p := ⟨gb212, 2, none⟩) (Kd.R_far (p := ⟨gb212, 1, none⟩) (Kd.R_far (p := ⟨gb212, 0, none⟩) (Kd.R_types HO210.out BK212.out (by decide)) (fun _ hk => hk.2) (.int .i64 t204)) (fun _ hk => hk.2) (.int .i64 t205)) (fun _ hk => hk.2) (.int .i64 t206)) (fun _ hk => hk.2) (.int .i64 t207)) (fun _ hk => hk.2) (.slice Ao18 t208.length co18)) (fun _ h_ => h_.1)))); (case side2 => exact (Kd.R_reads' HO210.out).2.1); rintro e w19 ⟨v214, rfl, ho0, hb⟩; have n0_ := Aside0.mk (Kd.R_below (by (with_reducible repeat (first | apply Kd.R_alloc | apply Kd.R_drewN | apply Kd.R_drew)); exact (Kd.R_mono (Kd.R_far (p := ⟨gb212, 4, none⟩) (Kd.R_far (p := ⟨gb212, 3, none⟩) (Kd.R_far (p := ⟨gb212, 2, none⟩) (Kd.R_far (p := ⟨gb212, 1, none⟩) (Kd.R_far (p := ⟨gb212, 0, none⟩) (Kd.R_types HO210.out BK212.out (by decide)) (fun _ hk => hk.2) (.int .i64 t204)) (fun _ hk => hk.2) (.int .i64 t205)) (fun _ hk => hk.2) (.int .i64 t206)) (fun _ hk => hk.2) (.int .i64 t207)) (fun _ hk => hk.2) (.slice Ao18 t208.length co18)) (fun _ h_ => h_.1))) hb); have n1_ := Aside0.mk (Kd.R_lower ho0 (below_size (by repeat (first | (with_reducible first | exact HB.out | apply below_alloc | apply pw_below_drewN | apply below_drew1 | refine below_set ?_ (IsS72.ge HI201.out) | refine below_set ?_ GE212.out) | exact HB.out)))); have n2_ := Aside0.mk (IsS72.below (show IsS72 w (((((w15.setCell ⟨gb212, 0, none⟩ (.int .i64 t204)).setCell ⟨gb212, 1, none⟩ (.int .i64 t205)).setCell ⟨gb212, 2, none⟩ (.int .i64 t206)).setCell ⟨gb212, 3, none⟩ (.int .i64 t207)).setCell ⟨gb212, 4, none⟩ (.slice Ao18 t208.length co18)) g201 t199 t211 from by repeat (first | (with_reducible first | exact HI201.out | apply IsS72.alloc | apply IsS72.drewN | apply IsS72.drew | apply IsS72.set_1 | refine IsS72.far ?_ NB201_212.out _) | exact HI201.out)) hb); have n3_ := Aside0.mk (blk_below (g := gb212) (o := .cells #[.int .i64 t204, .int .i64 t205, .int .i64 t206, .int .i64 t207, .slice Ao18 t208.length co18] 41 (0, 0)) (by (with_reducible repeat (first | refine blk_drewN ?_ _ | refine blk_drew ?_ | refine blk_alloc ?_ _)); refine blk_put (cs := #[.int .i64 t204, .int .i64 t205, .int .i64 t206, .int .i64 t207, .slice none 0 0]) ?_ 4 _ rfl; (with_reducible repeat (first | refine blk_drewN ?_ _ | refine blk_drew ?_ | refine blk_alloc ?_ _)); refine blk_put (cs := #[.int .i64 t204, .int .i64 t205, .int .i64 t206, .int .i64 0, .slice none 0 0]) ?_ 3 _ rfl; (with_reducible repeat (first | refine blk_drewN ?_ _ | refine blk_drew ?_ | refine blk_alloc ?_ _)); refine blk_put (cs := #[.int .i64 t204, .int .i64 t205, .int .i64 0, .int .i64 0, .slice none 0 0]) ?_ 2 _ rfl; (with_reducible repeat (first | refine blk_drewN ?_ _ | refine blk_drew ?_ | refine blk_alloc ?_ _)); refine blk_put (cs := #[.int .i64 t204, .int .i64 0, .int .i64 0, .int .i64 0, .slice none 0 0]) ?_ 1 _ rfl; (with_reducible repeat (first | refine blk_drewN ?_ _ | refine blk_drew ?_ | refine blk_alloc ?_ _)); refine blk_put (cs := #[.int .i64 0, .int .i64 0, .int .i64 0, .int .i64 0, .slice none 0 0]) ?_ 0 _ rfl; (with_reducible repeat (first | refine blk_drewN ?_ _ | refine blk_drew ?_ | refine blk_alloc ?_ _)); exact BK212.out) hb); have n4_ := Aside0.mk (below_step (by repeat (first | (with_reducible first | exact HB.out | apply below_alloc | apply pw_below_drewN | apply below_drew1 | refine below_set ?_ (IsS72.ge HI201.out) | refine below_set ?_ GE212.out) | exact HB.out)) hb); clear HO210; clear HI201; clear BK212; clear HB; have HO210 := n0_; have HO215 := n1_; have HI201 := n2_; have BK212 := n3_; have HB := n4_; clear n0_ n1_ n2_ n3_ n4_; (try clear hb); (try clear hb2); (try clear hk); (try clear hi); (try clear ho0)))
      repeat (go_quiet (first | (go_at_call 29; (with_reducible refine (presidiolaw16_begun.calls  true _ A2.out).mono ?_); rintro e w11 ⟨rfl, hb⟩; have n0_ := Aside0.mk (below_step (by repeat (first | (with_reducible first | exact HB.out | apply below_alloc | apply pw_below_drewN | apply below_drew1) | exact HB.out)) hb); clear HB; have HB := n0_; clear n0_; (try clear hb); (try clear hb2); (try clear hk); (try clear hi)) | (go_at_call 26; (with_reducible refine (presidioplay_Made.calls _ _ l0 t199 t200 w _ ?side1 ?side2 ?side3 A6.out).mono ?_); (case side1 => repeat (first | (with_reducible first | exact HB.out | apply below_alloc | apply pw_below_drewN | apply below_drew1) | exact HB.out)); (case side2 => exact HR0.out); (case side3 => exact HC0.out); rintro e w12 ⟨g201, rfl, hi, hb, hb2⟩; have n0_ := Aside0.mk (hb); have n1_ := Aside0.mk (hi); clear HB; have HB := n0_; have HI201 := n1_; clear n0_ n1_; (try clear hb); (try clear hb2); (try clear hk); (try clear hi)) | (go_at_call 28; (with_reducible refine (presidioplay_Picks_Num.calls g201 t199 t200 6 t202 t203 w _ ?side1 ?side2 A7.out).mono ?_); (case side1 => repeat (first | (with_reducible first | exact HI201.out | apply IsS72.alloc | apply IsS72.drewN | apply IsS72.drew | apply IsS72.set_1) | exact HI201.out)); (case side2 => repeat (first | (with_reducible first | exact HB.out | apply below_alloc | apply pw_below_drewN | apply below_drew1 | refine below_set ?_ (IsS72.ge HI201.out)) | exact HB.out)); rintro e w13 ⟨rfl, hi, hb, hk⟩; have n0_ := Aside0.mk (hb); have n1_ := Aside0.mk (hi); clear HB; clear HI201; have HB := n0_; have HI201 := n1_; clear n0_ n1_; (try clear hb); (try clear hb2); (try clear hk); (try clear hi)) | (go_at_call 27; (with_reducible refine (presidioplay_Picks_Bill.calls g201 t199 t203 (wrap64 (1 + t202)) t204 t205 t206 t207 t208 t211 w _ ?side1 ?side2 A8.out).mono ?_); (case side1 => repeat (first | (with_reducible first | exact HI201.out | apply IsS72.alloc | apply IsS72.drewN | apply IsS72.drew | apply IsS72.set_1) | exact HI201.out)); (case side2 => repeat (first | (with_reducible first | exact HB.out | apply below_alloc | apply pw_below_drewN | apply below_drew1 | refine below_set ?_ (IsS72.ge HI201.out)) | exact HB.out)); rintro e w14 ⟨v209, rfl, ho0, hi, hb, hk⟩; have n0_ := Aside0.mk (Kd.R_lower ho0 (below_size (by repeat (first | (with_reducible first | exact HB.out | apply below_alloc | apply pw_below_drewN | apply below_drew1 | refine below_set ?_ (IsS72.ge HI201.out)) | exact HB.out)))); have n1_ := Aside0.mk (hb); have n2_ := Aside0.mk (hi); clear HB; clear HI201; have HO210 := n0_; have HB := n1_; have HI201 := n2_; clear n0_ n1_ n2_; (try clear hb); (try clear hb2); (try clear hk); (try clear hi); (try clear ho0)) | ((with_reducible refine gate_dst (N := 4) rfl ?_); (try (refine gate_guard (by rfl) ?_; dsimp only)); refine box_event ?hg (N := 4) ?hd (cs := #[.int .i64 0, .int .i64 0, .int .i64 0, .int .i64 0, .slice none 0 0]) (t := 41) ?hr ?_; (case hd => rfl); (case hg => rfl); (case hr => first | (go_simp; done) | (go_simp; rfl)); intro gb212 hg w15 hbox hb; have n0_ := Aside0.mk (Kd.R_below (by (with_reducible repeat (first | apply Kd.R_alloc | apply Kd.R_drewN | apply Kd.R_drew)); exact HO210.out) hb); have n1_ := Aside0.mk (IsS72.below (by repeat (first | (with_reducible first | exact HI201.out | apply IsS72.alloc | apply IsS72.drewN | apply IsS72.drew | apply IsS72.set_1) | exact HI201.out)) hb); have n2_ := Aside0.mk (below_step (by repeat (first | (with_reducible first | exact HB.out | apply below_alloc | apply pw_below_drewN | apply below_drew1 | refine below_set ?_ (IsS72.ge HI201.out)) | exact HB.out)) hb); have n3_ := Aside0.mk (hbox); have n4_ := Aside0.mk ((by rw [hg]; exact (below_size (by repeat (first | (with_reducible first | exact HB.out | apply below_alloc | apply pw_below_drewN | apply below_drew1 | refine below_set ?_ (IsS72.ge HI201.out)) | exact HB.out))) : w.heap.size ≤ gb212)); have n5_ := Aside0.mk ((by rw [hg]; exact (below_size (by repeat (first | (with_reducible first | exact HB.out | apply below_alloc | apply pw_below_drewN | apply below_drew1 | refine below_set ?_ (IsS72.ge HI201.out)) | exact HB.out))) : w.heap.size ≤ gb212)); have n6_ := Aside0.mk ((by rw [hg]; exact Nat.ne_of_lt (IsS72.lt (show IsS72 w _ g201 t199 t211 from by repeat (first | (with_reducible first | exact HI201.out | apply IsS72.alloc | apply IsS72.drewN | apply IsS72.drew | apply IsS72.set_1) | exact HI201.out))) : g201 ≠ gb212)); have n7_ := Aside0.mk ((by rw [hg]; exact Nat.ne_of_gt (IsS72.lt (show IsS72 w _ g201 t199 t211 from by repeat (first | (with_reducible first | exact HI201.out | apply IsS72.alloc | apply IsS72.drewN | apply IsS72.drew | apply IsS72.set_1) | exact HI201.out))) : gb212 ≠ g201)); clear HO210; clear HI201; clear HB; have HO210 := n0_; have HI201 := n1_; have HB := n2_; have BK212 := n3_; have GW212 := n4_; have GE212 := n5_; have NB201_212 := n6_; have NB212_201 := n7_; clear n0_ n1_ n2_ n3_ n4_ n5_ n6_ n7_; clear hb hbox hg; have hnb16 := NB212_201.out; have hnc16 := NB201_212.out; have hcz17_0 : w15.cell? ⟨gb212, 0, none⟩ = some (.int .i64 0) := (blk_cell BK212.out 0).trans rfl; have hcz17_1 : w15.cell? ⟨gb212, 1, none⟩ = some (.int .i64 0) := (blk_cell BK212.out 1).trans rfl; have hcz17_2 : w15.cell? ⟨gb212, 2, none⟩ = some (.int .i64 0) := (blk_cell BK212.out 2).trans rfl; have hcz17_3 : w15.cell? ⟨gb212, 3, none⟩ = some (.int .i64 0) := (blk_cell BK212.out 3).trans rfl; have hcz17_4 : w15.cell? ⟨gb212, 4, none⟩ = some (.slice none 0 0) := (blk_cell BK212.out 4).trans rfl; have hfz17_0 := blk_frozen BK212.out 0; have hfz17_1 := blk_frozen BK212.out 1; have hfz17_2 := blk_frozen BK212.out 2; have hfz17_3 := blk_frozen BK212.out 3; have hfz17_4 := blk_frozen BK212.out 4; obtain ⟨Ao18, co18, eo18⟩ := Kd.R_slice HO210.out; subst eo18) | (go_at_call 30; (with_reducible refine (roll_List.calls k t204 t205 t206 t207 _ _ t208 0 t213 t216 _ ?side1 ?side2 A9.out).mono ?_); (case side1 => refine (Kd.R_reads' (e := 56) (base := w.heap.size) (ok := fun k_ => True) (n := t208.length) (c := co18) ?_).2.2; exact (by (with_reducible repeat (first | apply Kd.R_alloc | apply Kd.R_drewN | apply Kd.R_drew)); exact (Kd.R_mono (Kd.R_far (p := ⟨gb212, 4, none⟩) (Kd.R_far (p := ⟨gb212, 3, none⟩) (Kd.R_far (p := ⟨gb212, 2, none⟩) (Kd.R_far (p := ⟨gb212, 1, none⟩) (Kd.R_far (p := ⟨gb212, 0, none⟩) (Kd.R_types HO210.out BK212.out (by decide)) (fun _ hk => hk.2) (.int .i64 t204)) (fun _ hk => hk.2) (.int .i64 t205)) (fun _ hk => hk.2) (.int .i64 t206)) (fun _ hk => hk.2) (.int .i64 t207)) (fun _ hk => hk.2) (.slice Ao18 t208.length co18)) (fun _ h_ => h_.1)))); (case side2 => exact (Kd.R_reads' HO210.out).2.1); rintro e w19 ⟨v214, rfl, ho0, hb⟩; have n0_ := Aside0.mk (Kd.R_below (by (with_reducible repeat (first | apply Kd.R_alloc | apply Kd.R_drewN | apply Kd.R_drew)); exact (Kd.R_mono (Kd.R_far (p := ⟨gb212, 4, none⟩) (Kd.R_far (p := ⟨gb212, 3, none⟩) (Kd.R_far (p := ⟨gb212, 2, none⟩) (Kd.R_far (p := ⟨gb212, 1, none⟩) (Kd.R_far (p := ⟨gb212, 0, none⟩) (Kd.R_types HO210.out BK212.out (by decide)) (fun _ hk => hk.2) (.int .i64 t204)) (fun _ hk => hk.2) (.int .i64 t205)) (fun _ hk => hk.2) (.int .i64 t206)) (fun _ hk => hk.2) (.int .i64 t207)) (fun _ hk => hk.2) (.slice Ao18 t208.length co18)) (fun _ h_ => h_.1))) hb); have n1_ := Aside0.mk (Kd.R_lower ho0 (below_size (by repeat (first | (with_reducible first | exact HB.out | apply below_alloc | apply pw_below_drewN | apply below_drew1 | refine below_set ?_ (IsS72.ge HI201.out) | refine below_set ?_ GE212.out) | exact HB.out)))); have n2_ := Aside0.mk (IsS72.below (show IsS72 w (((((w15.setCell ⟨gb212, 0, none⟩ (.int .i64 t204)).setCell ⟨gb212, 1, none⟩ (.int .i64 t205)).setCell ⟨gb212, 2, none⟩ (.int .i64 t206)).setCell ⟨gb212, 3, none⟩ (.int .i64 t207)).setCell ⟨gb212, 4, none⟩ (.slice Ao18 t208.length co18)) g201 t199 t211 from by repeat (first | (with_reducible first | exact HI201.out | apply IsS72.alloc | apply IsS72.drewN | apply IsS72.drew | apply IsS72.set_1 | refine IsS72.far ?_ NB201_212.out _) | exact HI201.out)) hb); have n3_ := Aside0.mk (blk_below (g := gb212) (o := .cells #[.int .i64 t204, .int .i64 t205, .int .i64 t206, .int .i64 t207, .slice Ao18 t208.length co18] 41 (0, 0)) (by (with_reducible repeat (first | refine blk_drewN ?_ _ | refine blk_drew ?_ | refine blk_alloc ?_ _)); refine blk_put (cs := #[.int .i64 t204, .int .i64 t205, .int .i64 t206, .int .i64 t207, .slice none 0 0]) ?_ 4 _ rfl; (with_reducible repeat (first | refine blk_drewN ?_ _ | refine blk_drew ?_ | refine blk_alloc ?_ _)); refine blk_put (cs := #[.int .i64 t204, .int .i64 t205, .int .i64 t206, .int .i64 0, .slice none 0 0]) ?_ 3 _ rfl; (with_reducible repeat (first | refine blk_drewN ?_ _ | refine blk_drew ?_ | refine blk_alloc ?_ _)); refine blk_put (cs := #[.int .i64 t204, .int .i64 t205, .int .i64 0, .int .i64 0, .slice none 0 0]) ?_ 2 _ rfl; (with_reducible repeat (first | refine blk_drewN ?_ _ | refine blk_drew ?_ | refine blk_alloc ?_ _)); refine blk_put (cs := #[.int .i64 t204, .int .i64 0, .int .i64 0, .int .i64 0, .slice none 0 0]) ?_ 1 _ rfl; (with_reducible repeat (first | refine blk_drewN ?_ _ | refine blk_drew ?_ | refine blk_alloc ?_ _)); refine blk_put (cs := #[.int .i64 0, .int .i64 0, .int .i64 0, .int .i64 0, .slice none 0 0]) ?_ 0 _ rfl; (with_reducible repeat (first | refine blk_drewN ?_ _ | refine blk_drew ?_ | refine blk_alloc ?_ _)); exact BK212.out) hb); have n4_ := Aside0.mk (below_step (by repeat (first | (with_reducible first | exact HB.out | apply below_alloc | apply pw_below_drewN | apply below_drew1 | refine below_set ?_ (IsS72.ge HI201.out) | refine below_set ?_ GE212.out) | exact HB.out)) hb); clear HO210; clear HI201; clear BK212; clear HB; have HO210 := n0_; have HO215 := n1_; have HI201 := n2_; have BK212 := n3_; have HB := n4_; clear n0_ n1_ n2_ n3_ n4_; (try clear hb); (try clear hb2); (try clear hk); (try clear hi); (try clear ho0))); go_upto_region 8 with (first | (go_at_call 29; (with_reducible refine (presidiolaw16_begun.calls  true _ A2.out).mono ?_); rintro e w11 ⟨rfl, hb⟩; have n0_ := Aside0.mk (below_step (by repeat (first | (with_reducible first | exact HB.out | apply below_alloc | apply pw_below_drewN | apply below_drew1) | exact HB.out)) hb); clear HB; have HB := n0_; clear n0_; (try clear hb); (try clear hb2); (try clear hk); (try clear hi)) | (go_at_call 26; (with_reducible refine (presidioplay_Made.calls _ _ l0 t199 t200 w _ ?side1 ?side2 ?side3 A6.out).mono ?_); (case side1 => repeat (first | (with_reducible first | exact HB.out | apply below_alloc | apply pw_below_drewN | apply below_drew1) | exact HB.out)); (case side2 => exact HR0.out); (case side3 => exact HC0.out); rintro e w12 ⟨g201, rfl, hi, hb, hb2⟩; have n0_ := Aside0.mk (hb); have n1_ := Aside0.mk (hi); clear HB; have HB := n0_; have HI201 := n1_; clear n0_ n1_; (try clear hb); (try clear hb2); (try clear hk); (try clear hi)) | (go_at_call 28; (with_reducible refine (presidioplay_Picks_Num.calls g201 t199 t200 6 t202 t203 w _ ?side1 ?side2 A7.out).mono ?_); (case side1 => repeat (first | (with_reducible first | exact HI201.out | apply IsS72.alloc | apply IsS72.drewN | apply IsS72.drew | apply IsS72.set_1) | exact HI201.out)); (case side2 => repeat (first | (with_reducible first | exact HB.out | apply below_alloc | apply pw_below_drewN | apply below_drew1 | refine below_set ?_ (IsS72.ge HI201.out)) | exact HB.out)); rintro e w13 ⟨rfl, hi, hb, hk⟩; have n0_ := Aside0.mk (hb); have n1_ := Aside0.mk (hi); clear HB; clear HI201; have HB := n0_; have HI201 := n1_; clear n0_ n1_; (try clear hb); (try clear hb2); (try clear hk); (try clear hi)) | (go_at_call 27; (with_reducible refine (presidioplay_Picks_Bill.calls g201 t199 t203 (wrap64 (1 + t202)) t204 t205 t206 t207 t208 t211 w _ ?side1 ?side2 A8.out).mono ?_); (case side1 => repeat (first | (with_reducible first | exact HI201.out | apply IsS72.alloc | apply IsS72.drewN | apply IsS72.drew | apply IsS72.set_1) | exact HI201.out)); (case side2 => repeat (first | (with_reducible first | exact HB.out | apply below_alloc | apply pw_below_drewN | apply below_drew1 | refine below_set ?_ (IsS72.ge HI201.out)) | exact HB.out)); rintro e w14 ⟨v209, rfl, ho0, hi, hb, hk⟩; have n0_ := Aside0.mk (Kd.R_lower ho0 (below_size (by repeat (first | (with_reducible first | exact HB.out | apply below_alloc | apply pw_below_drewN | apply below_drew1 | refine below_set ?_ (IsS72.ge HI201.out)) | exact HB.out)))); have n1_ := Aside0.mk (hb); have n2_ := Aside0.mk (hi); clear HB; clear HI201; have HO210 := n0_; have HB := n1_; have HI201 := n2_; clear n0_ n1_ n2_; (try clear hb); (try clear hb2); (try clear hk); (try clear hi); (try clear ho0)) | ((with_reducible refine gate_dst (N := 4) rfl ?_); (try (refine gate_guard (by rfl) ?_; dsimp only)); refine box_event ?hg (N := 4) ?hd (cs := #[.int .i64 0, .int .i64 0, .int .i64 0, .int .i64 0, .slice none 0 0]) (t := 41) ?hr ?_; (case hd => rfl); (case hg => rfl); (case hr => first | (go_simp; done) | (go_simp; rfl)); intro gb212 hg w15 hbox hb; have n0_ := Aside0.mk (Kd.R_below (by (with_reducible repeat (first | apply Kd.R_alloc | apply Kd.R_drewN | apply Kd.R_drew)); exact HO210.out) hb); have n1_ := Aside0.mk (IsS72.below (by repeat (first | (with_reducible first | exact HI201.out | apply IsS72.alloc | apply IsS72.drewN | apply IsS72.drew | apply IsS72.set_1) | exact HI201.out)) hb); have n2_ := Aside0.mk (below_step (by repeat (first | (with_reducible first | exact HB.out | apply below_alloc | apply pw_below_drewN | apply below_drew1 | refine below_set ?_ (IsS72.ge HI201.out)) | exact HB.out)) hb); have n3_ := Aside0.mk (hbox); have n4_ := Aside0.mk ((by rw [hg]; exact (below_size (by repeat (first | (with_reducible first | exact HB.out | apply below_alloc | apply pw_below_drewN | apply below_drew1 | refine below_set ?_ (IsS72.ge HI201.out)) | exact HB.out))) : w.heap.size ≤ gb212)); have n5_ := Aside0.mk ((by rw [hg]; exact (below_size (by repeat (first | (with_reducible first | exact HB.out | apply below_alloc | apply pw_below_drewN | apply below_drew1 | refine below_set ?_ (IsS72.ge HI201.out)) | exact HB.out))) : w.heap.size ≤ gb212)); have n6_ := Aside0.mk ((by rw [hg]; exact Nat.ne_of_lt (IsS72.lt (show IsS72 w _ g201 t199 t211 from by repeat (first | (with_reducible first | exact HI201.out | apply IsS72.alloc | apply IsS72.drewN | apply IsS72.drew | apply IsS72.set_1) | exact HI201.out))) : g201 ≠ gb212)); have n7_ := Aside0.mk ((by rw [hg]; exact Nat.ne_of_gt (IsS72.lt (show IsS72 w _ g201 t199 t211 from by repeat (first | (with_reducible first | exact HI201.out | apply IsS72.alloc | apply IsS72.drewN | apply IsS72.drew | apply IsS72.set_1) | exact HI201.out))) : gb212 ≠ g201)); clear HO210; clear HI201; clear HB; have HO210 := n0_; have HI201 := n1_; have HB := n2_; have BK212 := n3_; have GW212 := n4_; have GE212 := n5_; have NB201_212 := n6_; have NB212_201 := n7_; clear n0_ n1_ n2_ n3_ n4_ n5_ n6_ n7_; clear hb hbox hg; have hnb16 := NB212_201.out; have hnc16 := NB201_212.out; have hcz17_0 : w15.cell? ⟨gb212, 0, none⟩ = some (.int .i64 0) := (blk_cell BK212.out 0).trans rfl; have hcz17_1 : w15.cell? ⟨gb212, 1, none⟩ = some (.int .i64 0) := (blk_cell BK212.out 1).trans rfl; have hcz17_2 : w15.cell? ⟨gb212, 2, none⟩ = some (.int .i64 0) := (blk_cell BK212.out 2).trans rfl; have hcz17_3 : w15.cell? ⟨gb212, 3, none⟩ = some (.int .i64 0) := (blk_cell BK212.out 3).trans rfl; have hcz17_4 : w15.cell? ⟨gb212, 4, none⟩ = some (.slice none 0 0) := (blk_cell BK212.out 4).trans rfl; have hfz17_0 := blk_frozen BK212.out 0; have hfz17_1 := blk_frozen BK212.out 1; have hfz17_2 := blk_frozen BK212.out 2; have hfz17_3 := blk_frozen BK212.out 3; have hfz17_4 := blk_frozen BK212.out 4; obtain ⟨Ao18, co18, eo18⟩ := Kd.R_slice HO210.out; subst eo18) | (go_at_call 30; (with_reducible refine (roll_List.calls k t204 t205 t206 t207 _ _ t208 0 t213 t216 _ ?side1 ?side2 A9.out).mono ?_); (case side1 => refine (Kd.R_reads' (e := 56) (base := w.heap.size) (ok := fun k_ => True) (n := t208.length) (c := co18) ?_).2.2; exact (by (with_reducible repeat (first | apply Kd.R_alloc | apply Kd.R_drewN | apply Kd.R_drew)); exact (Kd.R_mono (Kd.R_far (p := ⟨gb212, 4, none⟩) (Kd.R_far (p := ⟨gb212, 3, none⟩) (Kd.R_far (p := ⟨gb212, 2, none⟩) (Kd.R_far (p := ⟨gb212, 1, none⟩) (Kd.R_far (p := ⟨gb212, 0, none⟩) (Kd.R_types HO210.out BK212.out (by decide)) (fun _ hk => hk.2) (.int .i64 t204)) (fun _ hk => hk.2) (.int .i64 t205)) (fun _ hk => hk.2) (.int .i64 t206)) (fun _ hk => hk.2) (.int .i64 t207)) (fun _ hk => hk.2) (.slice Ao18 t208.length co18)) (fun _ h_ => h_.1)))); (case side2 => exact (Kd.R_reads' HO210.out).2.1); rintro e w19 ⟨v214, rfl, ho0, hb⟩; have n0_ := Aside0.mk (Kd.R_below (by (with_reducible repeat (first | apply Kd.R_alloc | apply Kd.R_drewN | apply Kd.R_drew)); exact (Kd.R_mono (Kd.R_far (p := ⟨gb212, 4, none⟩) (Kd.R_far (p := ⟨gb212, 3, none⟩) (Kd.R_far (p := ⟨gb212, 2, none⟩) (Kd.R_far (p := ⟨gb212, 1, none⟩) (Kd.R_far (p := ⟨gb212, 0, none⟩) (Kd.R_types HO210.out BK212.out (by decide)) (fun _ hk => hk.2) (.int .i64 t204)) (fun _ hk => hk.2) (.int .i64 t205)) (fun _ hk => hk.2) (.int .i64 t206)) (fun _ hk => hk.2) (.int .i64 t207)) (fun _ hk => hk.2) (.slice Ao18 t208.length co18)) (fun _ h_ => h_.1))) hb); have n1_ := Aside0.mk (Kd.R_lower ho0 (below_size (by repeat (first | (with_reducible first | exact HB.out | apply below_alloc | apply pw_below_drewN | apply below_drew1 | refine below_set ?_ (IsS72.ge HI201.out) | refine below_set ?_ GE212.out) | exact HB.out)))); have n2_ := Aside0.mk (IsS72.below (show IsS72 w (((((w15.setCell ⟨gb212, 0, none⟩ (.int .i64 t204)).setCell ⟨gb212, 1, none⟩ (.int .i64 t205)).setCell ⟨gb212, 2, none⟩ (.int .i64 t206)).setCell ⟨gb212, 3, none⟩ (.int .i64 t207)).setCell ⟨gb212, 4, none⟩ (.slice Ao18 t208.length co18)) g201 t199 t211 from by repeat (first | (with_reducible first | exact HI201.out | apply IsS72.alloc | apply IsS72.drewN | apply IsS72.drew | apply IsS72.set_1 | refine IsS72.far ?_ NB201_212.out _) | exact HI201.out)) hb); have n3_ := Aside0.mk (blk_below (g := gb212) (o := .cells #[.int .i64 t204, .int .i64 t205, .int .i64 t206, .int .i64 t207, .slice Ao18 t208.length co18] 41 (0, 0)) (by (with_reducible repeat (first | refine blk_drewN ?_ _ | refine blk_drew ?_ | refine blk_alloc ?_ _)); refine blk_put (cs := #[.int .i64 t204, .int .i64 t205, .int .i64 t206, .int .i64 t207, .slice none 0 0]) ?_ 4 _ rfl; (with_reducible repeat (first | refine blk_drewN ?_ _ | refine blk_drew ?_ | refine blk_alloc ?_ _)); refine blk_put (cs := #[.int .i64 t204, .int .i64 t205, .int .i64 t206, .int .i64 0, .slice none 0 0]) ?_ 3 _ rfl; (with_reducible repeat (first | refine blk_drewN ?_ _ | refine blk_drew ?_ | refine blk_alloc ?_ _)); refine blk_put (cs := #[.int .i64 t204, .int .i64 t205, .int .i64 0, .int .i64 0, .slice none 0 0]) ?_ 2 _ rfl; (with_reducible repeat (first | refine blk_drewN ?_ _ | refine blk_drew ?_ | refine blk_alloc ?_ _)); refine blk_put (cs := #[.int .i64 t204, .int .i64 0, .int .i64 0, .int .i64 0, .slice none 0 0]) ?_ 1 _ rfl; (with_reducible repeat (first | refine blk_drewN ?_ _ | refine blk_drew ?_ | refine blk_alloc ?_ _)); refine blk_put (cs := #[.int .i64 0, .int .i64 0, .int .i64 0, .int .i64 0, .slice none 0 0]) ?_ 0 _ rfl; (with_reducible repeat (first | refine blk_drewN ?_ _ | refine blk_drew ?_ | refine blk_alloc ?_ _)); exact BK212.out) hb); have n4_ := Aside0.mk (below_step (by repeat (first | (with_reducible first | exact HB.out | apply below_alloc | apply pw_below_drewN | apply below_drew1 | refine below_set ?_ (IsS72.ge HI201.out) | refine below_set ?_ GE212.out) | exact HB.out)) hb); clear HO210; clear HI201; clear BK212; clear HB; have HO210 := n0_; have HO215 := n1_; have HI201 := n2_; have BK212 := n3_; have HB := n4_; clear n0_ n1_ n2_ n3_ n4_; (try clear hb); (try clear hb2); (try clear hk); (try clear hi); (try clear ho0))))
      (try simp only [Act.put, List.setIfInBounds_toArray, List.set_cons_zero, List.set_cons_succ])
      go_cut [41] (fun v41 wc => ∃ (kq : Nat) (x41_9 : Bool), v41 = .bool x41_9 ∧ Aside0 (presidiolaw16_RollKinds.j0 kq t213 t216 x41_9 t204 t205 t206 t207 t208 = some r) ∧ Aside0 (kq ≤ k) ∧ Aside0 (Kd.R (Kd.int .u8) 5 wc w.heap.size (fun _ => True) v214 t213) ∧ Aside0 (Kd.R k56 56 wc w.heap.size (fun _ => True) (.slice Ao18 t208.length co18) t208) ∧ Aside0 (wc.heap[gb212]? = some (.cells #[.int .i64 t204, .int .i64 t205, .int .i64 t206, .int .i64 t207, (.slice Ao18 t208.length co18)] 41 (0, 0))) ∧ Aside0 (Below w.heap.size w wc))
      case first =>
        have H := HC10.out
        clear HC10
        by_cases c20 : t216 = (t208.length : Int)
        · rw [if_pos c20] at H
          have c20b0 : (t216 == (t208.length : Int)) = true := beq_iff_eq.mpr c20
          have c20b1 : (t216 != (t208.length : Int)) = false := bne_eq_false_iff_eq.mpr c20
          clear c20
          (first | rw [c20b0] | (simp only [i64_w, i32_w]; rw [c20b0]) | skip)
          have H' := Aside0.mk H
          clear H
          have hnb21 := NB212_201.out
          have hnc21 := NB201_212.out
          have hcz22_0 : w19.cell? ⟨gb212, 0, none⟩ = some (.int .i64 t204) := (blk_cell BK212.out 0).trans rfl
          have hcz22_1 : w19.cell? ⟨gb212, 1, none⟩ = some (.int .i64 t205) := (blk_cell BK212.out 1).trans rfl
          have hcz22_2 : w19.cell? ⟨gb212, 2, none⟩ = some (.int .i64 t206) := (blk_cell BK212.out 2).trans rfl
          have hcz22_3 : w19.cell? ⟨gb212, 3, none⟩ = some (.int .i64 t207) := (blk_cell BK212.out 3).trans rfl
          have hcz22_4 : w19.cell? ⟨gb212, 4, none⟩ = some (.slice Ao18 t208.length co18) := (blk_cell BK212.out 4).trans rfl
          have hfz22_0 := blk_frozen BK212.out 0
          have hfz22_1 := blk_frozen BK212.out 1
          have hfz22_2 := blk_frozen BK212.out 2
          have hfz22_3 := blk_frozen BK212.out 3
          have hfz22_4 := blk_frozen BK212.out 4
          obtain ⟨Ao23, co23, eo23⟩ := Kd.R_slice HO215.out
          subst eo23
          go_wp2
          repeat (go_quiet (fail); try go_wp2)
          go_meet
          case rel => exact ⟨_, (((t213.length : Int) != (wrap64 (8 * t216)))), (by first | rfl | (simp; done) | (simp [*]; done)), H', ⟨by first | omega | exact Nat.le_refl _⟩, ⟨by (with_reducible repeat (first | apply Kd.R_alloc | apply Kd.R_drewN | apply Kd.R_drew)); exact HO215.out⟩, ⟨by (with_reducible repeat (first | apply Kd.R_alloc | apply Kd.R_drewN | apply Kd.R_drew)); exact HO210.out⟩, ⟨by (with_reducible repeat (first | refine blk_drewN ?_ _ | refine blk_drew ?_ | refine blk_alloc ?_ _)); exact BK212.out⟩, ⟨by repeat (first | (with_reducible first | exact HB.out | apply below_alloc | apply pw_below_drewN | apply below_drew1 | refine below_set ?_ (IsS72.ge HI201.out) | refine below_set ?_ GE212.out) | exact HB.out)⟩⟩
        · rw [if_neg c20] at H
          have c20b0 : (t216 == (t208.length : Int)) = false := beq_eq_false_iff_ne.mpr c20
          have c20b1 : (t216 != (t208.length : Int)) = true := bne_iff_ne.mpr c20
          (first | rw [c20b0] | (simp only [i64_w, i32_w]; rw [c20b0]) | skip)
          have H' := Aside0.mk H
          clear H
          have hnb24 := NB212_201.out
          have hnc24 := NB201_212.out
          have hcz25_0 : w19.cell? ⟨gb212, 0, none⟩ = some (.int .i64 t204) := (blk_cell BK212.out 0).trans rfl
          have hcz25_1 : w19.cell? ⟨gb212, 1, none⟩ = some (.int .i64 t205) := (blk_cell BK212.out 1).trans rfl
          have hcz25_2 : w19.cell? ⟨gb212, 2, none⟩ = some (.int .i64 t206) := (blk_cell BK212.out 2).trans rfl
          have hcz25_3 : w19.cell? ⟨gb212, 3, none⟩ = some (.int .i64 t207) := (blk_cell BK212.out 3).trans rfl
          have hcz25_4 : w19.cell? ⟨gb212, 4, none⟩ = some (.slice Ao18 t208.length co18) := (blk_cell BK212.out 4).trans rfl
          have hfz25_0 := blk_frozen BK212.out 0
          have hfz25_1 := blk_frozen BK212.out 1
          have hfz25_2 := blk_frozen BK212.out 2
          have hfz25_3 := blk_frozen BK212.out 3
          have hfz25_4 := blk_frozen BK212.out 4
          go_wp2
          repeat (go_quiet (fail); try go_wp2)
          go_meet
          case rel => exact ⟨_, (true), (by first | rfl | (simp; done) | (simp [*]; done)), H', ⟨by first | omega | exact Nat.le_refl _⟩, ⟨by (with_reducible repeat (first | apply Kd.R_alloc | apply Kd.R_drewN | apply Kd.R_drew)); exact HO215.out⟩, ⟨by (with_reducible repeat (first | apply Kd.R_alloc | apply Kd.R_drewN | apply Kd.R_drew)); exact HO210.out⟩, ⟨by (with_reducible repeat (first | refine blk_drewN ?_ _ | refine blk_drew ?_ | refine blk_alloc ?_ _)); exact BK212.out⟩, ⟨by repeat (first | (with_reducible first | exact HB.out | apply below_alloc | apply pw_below_drewN | apply below_drew1 | refine below_set ?_ (IsS72.ge HI201.out) | refine below_set ?_ GE212.out) | exact HB.out)⟩⟩
      case rest =>
        clear HC10
        try clear c1
        try clear c2
        try clear p2
        try clear c3
        try clear c4
        try clear c4b0
        try clear c4b1
        try clear p6
        try clear c11
        try clear c16
        try clear c20
        try clear c20b0
        try clear c20b1
        try clear c21
        try clear c24
        try clear hcz17_0
        try clear hcz17_1
        try clear hcz17_2
        try clear hcz17_3
        try clear hcz17_4
        try clear hcz22_0
        try clear hcz22_1
        try clear hcz22_2
        try clear hcz22_3
        try clear hcz22_4
        try clear hcz25_0
        try clear hcz25_1
        try clear hcz25_2
        try clear hcz25_3
        try clear hcz25_4
        try clear hfz17_0
        try clear hfz17_1
        try clear hfz17_2
        try clear hfz17_3
        try clear hfz17_4
        try clear hfz22_0
        try clear hfz22_1
        try clear hfz22_2
        try clear hfz22_3
        try clear hfz22_4
        try clear hfz25_0
        try clear hfz25_1
        try clear hfz25_2
        try clear hfz25_3
        try clear hfz25_4
        obtain ⟨kq, x41_9, rfl, HA, HJ9, HO_5, HO_213004, BK212, HB⟩ := hcut
        cases kq with
        | zero => exact absurd HA.out (by simp [presidiolaw16_RollKinds.j0])
        | succ kj9 =>
          have H := HA.out
          clear HA
          simp only [presidiolaw16_RollKinds.j0] at H
          by_cases c26 : x41_9 = true
          · subst c26
            have H1 : (some false) = some r := by rw [if_pos rfl] at H; exact H
            clear H
            have H := H1
            clear H1
            obtain rfl := Option.some.inj H
            go_wp2
            repeat (go_quiet (fail); try go_wp2)
            go_ret
            exact ⟨by first | rfl | (simp [errW_none, errW_some] <;> rfl) | (simp [*, errW_none, errW_some] <;> rfl), by repeat (first | (with_reducible first | exact HB.out | apply below_alloc | apply pw_below_drewN | apply below_drew1 | refine below_set ?_ GE212.out) | exact HB.out)⟩
          · replace c26 := Bool.eq_false_iff.mpr c26
            subst c26
            have H1 : (presidiolaw16_RollKinds.l0 kj9 t213 t216 0 1 t204 t205 t206 t207 t208) = some r := by rw [if_neg (show ¬ (false = true) by decide)] at H; exact H
            clear H
            have H := H1
            clear H1
            have H' := Aside0.mk H
            clear H
            go_wp2
            repeat (go_quiet (fail); try go_wp2)
            go_loopg [7, 8] kj9 (fun kq v7 v8 w' => ∃ (x7_2 : Int) (x8_2 : Int), v7 = .int .i64 x7_2 ∧ v8 = .int .u32 x8_2 ∧ Aside0 (presidiolaw16_RollKinds.l0 kq t213 t216 x7_2 x8_2 t204 t205 t206 t207 t208 = some r) ∧ Aside0 (kq ≤ kj9) ∧ Aside0 (Kd.R (Kd.int .u8) 5 w' w.heap.size (fun _ => True) v214 t213) ∧ Aside0 (Kd.R k56 56 w' w.heap.size (fun _ => True) (.slice Ao18 t208.length co18) t208) ∧ Aside0 (w'.heap[gb212]? = some (.cells #[.int .i64 t204, .int .i64 t205, .int .i64 t206, .int .i64 t207, (.slice Ao18 t208.length co18)] 41 (0, 0))) ∧ Aside0 (Below w.heap.size w w'))
            case atStart => exact ⟨(0), (1), (by first | rfl | (simp; done) | (simp [*]; done)), (by first | rfl | (simp; done) | (simp [*]; done)), H', ⟨Nat.le_refl _⟩, ⟨by (with_reducible repeat (first | apply Kd.R_alloc | apply Kd.R_drewN | apply Kd.R_drew)); exact HO_5.out⟩, ⟨by (with_reducible repeat (first | apply Kd.R_alloc | apply Kd.R_drewN | apply Kd.R_drew)); exact HO_213004.out⟩, ⟨by (with_reducible repeat (first | refine blk_drewN ?_ _ | refine blk_drew ?_ | refine blk_alloc ?_ _)); exact BK212.out⟩, ⟨by repeat (first | (with_reducible first | exact HB.out | apply below_alloc | apply pw_below_drewN | apply below_drew1 | refine below_set ?_ GE212.out) | exact HB.out)⟩⟩
            case round =>
              clear H'
              try clear c1
              try clear c2
              try clear p2
              try clear c3
              try clear c4
              try clear c4b0
              try clear c4b1
              try clear p6
              try clear c11
              try clear c16
              try clear c20
              try clear c20b0
              try clear c20b1
              try clear c21
              try clear c24
              try clear c26
              try clear hcz17_0
              try clear hcz17_1
              try clear hcz17_2
              try clear hcz17_3
              try clear hcz17_4
              try clear hcz22_0
              try clear hcz22_1
              try clear hcz22_2
              try clear hcz22_3
              try clear hcz22_4
              try clear hcz25_0
              try clear hcz25_1
              try clear hcz25_2
              try clear hcz25_3
              try clear hcz25_4
              try clear hfz17_0
              try clear hfz17_1
              try clear hfz17_2
              try clear hfz17_3
              try clear hfz17_4
              try clear hfz22_0
              try clear hfz22_1
              try clear hfz22_2
              try clear hfz22_3
              try clear hfz22_4
              try clear hfz25_0
              try clear hfz25_1
              try clear hfz25_2
              try clear hfz25_3
              try clear hfz25_4
              try clear p2
              try clear p6
              obtain ⟨x7_2, x8_2, rfl, rfl, HA, HK2, HO_5, HO_213004, BK212, HB⟩ := hrel
              cases gk with
              | zero => exact absurd HA.out (by simp [presidiolaw16_RollKinds.l0])
              | succ k2 =>
                have H := HA.out
                clear HA
                simp only [presidiolaw16_RollKinds.l0] at H
                by_cases c27 : x8_2 ≤ 2
                · rw [if_pos c27] at H
                  have c27b0 : decide (x8_2 ≤ 2) = true := decide_eq_true c27
                  clear c27
                  replace H := Option.bind_eq_some_iff.mp H
                  obtain ⟨⟨t217, t220⟩, A280, H⟩ := H
                  replace H : (if (t217.length : Int) = (wrap64 (8 * t220)) then (presidiolaw16_RollKinds.l1 k2 t213 t216 (wrap64 (x7_2 + t220)) x8_2 t217 t220 0 t204 t205 t206 t207 t208) else (some false)) = some r := H
                  have A28 := Aside0.mk A280
                  clear A280
                  by_cases c29 : (t217.length : Int) = (wrap64 (8 * t220))
                  · rw [if_pos c29] at H
                    have c29b0 : ((t217.length : Int) == (wrap64 (8 * t220))) = true := beq_iff_eq.mpr c29
                    have c29b1 : ((t217.length : Int) != (wrap64 (8 * t220))) = false := bne_eq_false_iff_eq.mpr c29
                    clear c29
                    have H' := Aside0.mk H
                    clear H
                    have hcz30_0 : wr.cell? ⟨gb212, 0, none⟩ = some (.int .i64 t204) := (blk_cell BK212.out 0).trans rfl
                    have hcz30_1 : wr.cell? ⟨gb212, 1, none⟩ = some (.int .i64 t205) := (blk_cell BK212.out 1).trans rfl
                    have hcz30_2 : wr.cell? ⟨gb212, 2, none⟩ = some (.int .i64 t206) := (blk_cell BK212.out 2).trans rfl
                    have hcz30_3 : wr.cell? ⟨gb212, 3, none⟩ = some (.int .i64 t207) := (blk_cell BK212.out 3).trans rfl
                    have hcz30_4 : wr.cell? ⟨gb212, 4, none⟩ = some (.slice Ao18 t208.length co18) := (blk_cell BK212.out 4).trans rfl
                    have hfz30_0 := blk_frozen BK212.out 0
                    have hfz30_1 := blk_frozen BK212.out 1
                    have hfz30_2 := blk_frozen BK212.out 2
                    have hfz30_3 := blk_frozen BK212.out 3
                    have hfz30_4 := blk_frozen BK212.out 4
                    go_wp2_with (first | (go_at_call 30; (with_reducible refine (roll_List.calls k2 t204 t205 t206 t207 _ _ t208 x8_2 t217 t220 _ ?side1 ?side2 A28.out).mono ?_); (case side1 => repeat (first | exact (Kd.R_reads' HO_213004.out).2.2 | (with_reducible refine Kd.C_alloc ?_ _) | (with_reducible refine Kd.C_drewN ?_ _) | (with_reducible refine Kd.C_drew ?_))); (case side2 => exact (Kd.R_reads' HO_213004.out).2.1); rintro e w31 ⟨v218, rfl, ho0, hb⟩; have n0_ := Aside0.mk (Kd.R_elder' (by (with_reducible repeat (first | apply Kd.R_alloc | apply Kd.R_drewN | apply Kd.R_drew)); exact HO_5.out) (Kd.R_base ho0) hb); have n1_ := Aside0.mk (Kd.R_below (by (with_reducible repeat (first | apply Kd.R_alloc | apply Kd.R_drewN | apply Kd.R_drew)); exact HO_213004.out) hb); have n2_ := Aside0.mk (Kd.R_lower (Kd.R_new' ho0 (Kd.R_lt (by (with_reducible repeat (first | apply Kd.R_alloc | apply Kd.R_drewN | apply Kd.R_drew)); exact HO_5.out))) (below_size (by repeat (first | (with_reducible first | exact HB.out | apply below_alloc | apply pw_below_drewN | apply below_drew1 | refine below_set ?_ GE212.out) | exact HB.out)))); have n3_ := Aside0.mk (blk_below (g := gb212) (o := .cells #[.int .i64 t204, .int .i64 t205, .int .i64 t206, .int .i64 t207, .slice Ao18 t208.length co18] 41 (0, 0)) (by (with_reducible repeat (first | refine blk_drewN ?_ _ | refine blk_drew ?_ | refine blk_alloc ?_ _)); exact BK212.out) hb); have n4_ := Aside0.mk (below_step (by repeat (first | (with_reducible first | exact HB.out | apply below_alloc | apply pw_below_drewN | apply below_drew1 | refine below_set ?_ GE212.out) | exact HB.out)) hb); clear HO_5; clear HO_213004; clear BK212; clear HB; have HO_5 := n0_; have HO_213004 := n1_; have HO219 := n2_; have BK212 := n3_; have HB := n4_; clear n0_ n1_ n2_ n3_ n4_; (try clear hb); (try clear hb2); (try clear hk); (try clear hi); (try clear ho0); obtain ⟨Ao32, co32, eo32⟩ := Kd.R_slice HO219.out; subst eo32))
                    repeat (go_quiet (first | (go_at_call 30; (with_reducible refine (roll_List.calls k2 t204 t205 t206 t207 _ _ t208 x8_2 t217 t220 _ ?side1 ?side2 A28.out).mono ?_); (case side1 => repeat (first | exact (Kd.R_reads' HO_213004.out).2.2 | (with_reducible refine Kd.C_alloc ?_ _) | (with_reducible refine Kd.C_drewN ?_ _) | (with_reducible refine Kd.C_drew ?_))); (case side2 => exact (Kd.R_reads' HO_213004.out).2.1); rintro e w31 ⟨v218, rfl, ho0, hb⟩; have n0_ := Aside0.mk (Kd.R_elder' (by (with_reducible repeat (first | apply Kd.R_alloc | apply Kd.R_drewN | apply Kd.R_drew)); exact HO_5.out) (Kd.R_base ho0) hb); have n1_ := Aside0.mk (Kd.R_below (by (with_reducible repeat (first | apply Kd.R_alloc | apply Kd.R_drewN | apply Kd.R_drew)); exact HO_213004.out) hb); have n2_ := Aside0.mk (Kd.R_lower (Kd.R_new' ho0 (Kd.R_lt (by (with_reducible repeat (first | apply Kd.R_alloc | apply Kd.R_drewN | apply Kd.R_drew)); exact HO_5.out))) (below_size (by repeat (first | (with_reducible first | exact HB.out | apply below_alloc | apply pw_below_drewN | apply below_drew1 | refine below_set ?_ GE212.out) | exact HB.out)))); have n3_ := Aside0.mk (blk_below (g := gb212) (o := .cells #[.int .i64 t204, .int .i64 t205, .int .i64 t206, .int .i64 t207, .slice Ao18 t208.length co18] 41 (0, 0)) (by (with_reducible repeat (first | refine blk_drewN ?_ _ | refine blk_drew ?_ | refine blk_alloc ?_ _)); exact BK212.out) hb); have n4_ := Aside0.mk (below_step (by repeat (first | (with_reducible first | exact HB.out | apply below_alloc | apply pw_below_drewN | apply below_drew1 | refine below_set ?_ GE212.out) | exact HB.out)) hb); clear HO_5; clear HO_213004; clear BK212; clear HB; have HO_5 := n0_; have HO_213004 := n1_; have HO219 := n2_; have BK212 := n3_; have HB := n4_; clear n0_ n1_ n2_ n3_ n4_; (try clear hb); (try clear hb2); (try clear hk); (try clear hi); (try clear ho0); obtain ⟨Ao32, co32, eo32⟩ := Kd.R_slice HO219.out; subst eo32)); try go_wp2_with (first | (go_at_call 30; (with_reducible refine (roll_List.calls k2 t204 t205 t206 t207 _ _ t208 x8_2 t217 t220 _ ?side1 ?side2 A28.out).mono ?_); (case side1 => repeat (first | exact (Kd.R_reads' HO_213004.out).2.2 | (with_reducible refine Kd.C_alloc ?_ _) | (with_reducible refine Kd.C_drewN ?_ _) | (with_reducible refine Kd.C_drew ?_))); (case side2 => exact (Kd.R_reads' HO_213004.out).2.1); rintro e w31 ⟨v218, rfl, ho0, hb⟩; have n0_ := Aside0.mk (Kd.R_elder' (by (with_reducible repeat (first | apply Kd.R_alloc | apply Kd.R_drewN | apply Kd.R_drew)); exact HO_5.out) (Kd.R_base ho0) hb); have n1_ := Aside0.mk (Kd.R_below (by (with_reducible repeat (first | apply Kd.R_alloc | apply Kd.R_drewN | apply Kd.R_drew)); exact HO_213004.out) hb); have n2_ := Aside0.mk (Kd.R_lower (Kd.R_new' ho0 (Kd.R_lt (by (with_reducible repeat (first | apply Kd.R_alloc | apply Kd.R_drewN | apply Kd.R_drew)); exact HO_5.out))) (below_size (by repeat (first | (with_reducible first | exact HB.out | apply below_alloc | apply pw_below_drewN | apply below_drew1 | refine below_set ?_ GE212.out) | exact HB.out)))); have n3_ := Aside0.mk (blk_below (g := gb212) (o := .cells #[.int .i64 t204, .int .i64 t205, .int .i64 t206, .int .i64 t207, .slice Ao18 t208.length co18] 41 (0, 0)) (by (with_reducible repeat (first | refine blk_drewN ?_ _ | refine blk_drew ?_ | refine blk_alloc ?_ _)); exact BK212.out) hb); have n4_ := Aside0.mk (below_step (by repeat (first | (with_reducible first | exact HB.out | apply below_alloc | apply pw_below_drewN | apply below_drew1 | refine below_set ?_ GE212.out) | exact HB.out)) hb); clear HO_5; clear HO_213004; clear BK212; clear HB; have HO_5 := n0_; have HO_213004 := n1_; have HO219 := n2_; have BK212 := n3_; have HB := n4_; clear n0_ n1_ n2_ n3_ n4_; (try clear hb); (try clear hb2); (try clear hk); (try clear hi); (try clear ho0); obtain ⟨Ao32, co32, eo32⟩ := Kd.R_slice HO219.out; subst eo32)))
                    go_loopg [11] k2 (fun kq v11 w' => ∃ (x11_3 : Int), v11 = .int .i64 x11_3 ∧ Aside0 (presidiolaw16_RollKinds.l1 kq t213 t216 (wrap64 (x7_2 + t220)) x8_2 t217 t220 x11_3 t204 t205 t206 t207 t208 = some r) ∧ Aside0 (kq ≤ k2) ∧ Aside0 (Kd.R (Kd.int .u8) 5 w' w.heap.size (fun k_ => some k_ ≠ ((.slice Ao32 t217.length co32) : Value).ownBlock) v214 t213) ∧ Aside0 (Kd.R (Kd.int .u8) 5 w' w.heap.size (fun k_ => some k_ ≠ (v214 : Value).ownBlock) (.slice Ao32 t217.length co32) t217) ∧ Aside0 (Kd.R k56 56 w' w.heap.size (fun _ => True) (.slice Ao18 t208.length co18) t208) ∧ Aside0 (w'.heap[gb212]? = some (.cells #[.int .i64 t204, .int .i64 t205, .int .i64 t206, .int .i64 t207, (.slice Ao18 t208.length co18)] 41 (0, 0))) ∧ Aside0 (Below w.heap.size w w'))
                    case atStart => exact ⟨(0), (by first | rfl | (simp; done) | (simp [*]; done)), H', ⟨Nat.le_refl _⟩, ⟨by (with_reducible repeat (first | apply Kd.R_alloc | apply Kd.R_drewN | apply Kd.R_drew)); exact Kd.R_mono HO_5.out (fun _ hk => hk.2)⟩, ⟨by (with_reducible repeat (first | apply Kd.R_alloc | apply Kd.R_drewN | apply Kd.R_drew)); exact Kd.R_mono HO219.out (fun _ hk => hk.2)⟩, ⟨by (with_reducible repeat (first | apply Kd.R_alloc | apply Kd.R_drewN | apply Kd.R_drew)); exact HO_213004.out⟩, ⟨by (with_reducible repeat (first | refine blk_drewN ?_ _ | refine blk_drew ?_ | refine blk_alloc ?_ _)); exact BK212.out⟩, ⟨by repeat (first | (with_reducible first | exact HB.out | apply below_alloc | apply pw_below_drewN | apply below_drew1 | refine below_set ?_ GE212.out) | exact HB.out)⟩⟩
                    case round =>
                      clear H'
                      try clear c1
                      try clear c2
                      try clear p2
                      try clear c3
                      try clear c4
                      try clear c4b0
                      try clear c4b1
                      try clear p6
                      try clear c11
                      try clear c16
                      try clear c20
                      try clear c20b0
                      try clear c20b1
                      try clear c21
                      try clear c24
                      try clear c26
                      try clear c27
                      try clear c27b0
                      try clear c29
                      try clear c29b0
                      try clear c29b1
                      try clear hcz17_0
                      try clear hcz17_1
                      try clear hcz17_2
                      try clear hcz17_3
                      try clear hcz17_4
                      try clear hcz22_0
                      try clear hcz22_1
                      try clear hcz22_2
                      try clear hcz22_3
                      try clear hcz22_4
                      try clear hcz25_0
                      try clear hcz25_1
                      try clear hcz25_2
                      try clear hcz25_3
                      try clear hcz25_4
                      try clear hcz30_0
                      try clear hcz30_1
                      try clear hcz30_2
                      try clear hcz30_3
                      try clear hcz30_4
                      try clear hfz17_0
                      try clear hfz17_1
                      try clear hfz17_2
                      try clear hfz17_3
                      try clear hfz17_4
                      try clear hfz22_0
                      try clear hfz22_1
                      try clear hfz22_2
                      try clear hfz22_3
                      try clear hfz22_4
                      try clear hfz25_0
                      try clear hfz25_1
                      try clear hfz25_2
                      try clear hfz25_3
                      try clear hfz25_4
                      try clear hfz30_0
                      try clear hfz30_1
                      try clear hfz30_2
                      try clear hfz30_3
                      try clear hfz30_4
                      try clear p2
                      try clear p6
                      obtain ⟨x11_3, rfl, HA, HK3, HO_5, HO_9, HO_213004, BK212, HB⟩ := hrel
                      cases gk with
                      | zero => exact absurd HA.out (by simp [presidiolaw16_RollKinds.l1])
                      | succ k3 =>
                        have H := HA.out
                        clear HA
                        simp only [presidiolaw16_RollKinds.l1] at H
                        by_cases c33 : x11_3 < t220
                        · rw [if_pos c33] at H
                          have c33b0 : decide (x11_3 < t220) = true := decide_eq_true c33
                          clear c33
                          obtain ⟨ji34, hji34⟩ : ∃ j_ : Int, (wrap64 (8 * x11_3)) = j_ := ⟨_, rfl⟩
                          replace H : (if 0 ≤ (ji34) then (if (ji34) ≤ (wrap64 ((ji34) + 2)) then (if (wrap64 ((ji34) + 2)) ≤ (t217.length : Int) then ((presidioref1_Num.f k3 ((t217.take ((wrap64 ((ji34) + 2)) : Int).toNat).drop ((ji34) : Int).toNat)).bind fun t225 => (if (wrap64 (t225)) ≥ t216 then (some false) else (if 0 ≤ (wrap64 (t225)) then (if (wrap64 (t225)) < (t208.length : Int) then (if ((rd_T56 t208 (wrap64 (t225))).f5) = x8_2 then (if (ji34) ≤ (wrap64 ((ji34) + 8)) then (if (wrap64 ((ji34) + 8)) ≤ (t217.length : Int) then (if 0 ≤ (wrap64 (8 * (wrap64 (t225)))) then (if (wrap64 (8 * (wrap64 (t225)))) ≤ (wrap64 ((wrap64 (8 * (wrap64 (t225)))) + 8)) then (if (wrap64 ((wrap64 (8 * (wrap64 (t225)))) + 8)) ≤ (t213.length : Int) then (if (strOfNums ((t217.take ((wrap64 ((ji34) + 8)) : Int).toNat).drop ((ji34) : Int).toNat)).toList = (strOfNums ((t213.take ((wrap64 ((wrap64 (8 * (wrap64 (t225)))) + 8)) : Int).toNat).drop ((wrap64 (8 * (wrap64 (t225)))) : Int).toNat)).toList then (presidiolaw16_RollKinds.l1 k3 t213 t216 (wrap64 (x7_2 + t220)) x8_2 t217 t220 (wrap64 (x11_3 + 1)) t204 t205 t206 t207 t208) else (some false)) else (none)) else (none)) else (none)) else (none)) else (none)) else (some false)) else (none)) else (none)))) else (none)) else (none)) else (none)) = some r := by first | (rw [hji34] at H; exact H) | (simp only [hji34] at H ⊢; exact H)
                          have hji34w : (IntKind.i64.wrap (8 * x11_3)) = ji34 := (i64_w _).trans hji34
                          by_cases c35 : 0 ≤ (ji34)
                          · rw [if_pos c35] at H
                            have c35b0 := eq_true c35
                            have c35b1 : decide (0 ≤ (ji34)) = true := decide_eq_true c35
                            clear c35
                            by_cases c36 : (ji34) ≤ (wrap64 ((ji34) + 2))
                            · rw [if_pos c36] at H
                              have c36b0 := eq_true c36
                              have c36b1 : decide ((ji34) ≤ (wrap64 ((ji34) + 2))) = true := decide_eq_true c36
                              by_cases c37 : (wrap64 ((ji34) + 2)) ≤ (t217.length : Int)
                              · rw [if_pos c37] at H
                                have c37b0 := eq_true c37
                                have c37b1 : decide ((wrap64 ((ji34) + 2)) ≤ (t217.length : Int)) = true := decide_eq_true c37
                                obtain ⟨y221, hy221⟩ : ∃ y_ : List Int, y_ = ((t217.take ((wrap64 ((ji34) + 2)) : Int).toNat).drop ((ji34) : Int).toNat) := ⟨_, rfl⟩
                                replace H : ((presidioref1_Num.f k3 y221).bind fun t225 => (if (wrap64 (t225)) ≥ t216 then (some false) else (if 0 ≤ (wrap64 (t225)) then (if (wrap64 (t225)) < (t208.length : Int) then (if ((rd_T56 t208 (wrap64 (t225))).f5) = x8_2 then (if (ji34) ≤ (wrap64 ((ji34) + 8)) then (if (wrap64 ((ji34) + 8)) ≤ (t217.length : Int) then (if 0 ≤ (wrap64 (8 * (wrap64 (t225)))) then (if (wrap64 (8 * (wrap64 (t225)))) ≤ (wrap64 ((wrap64 (8 * (wrap64 (t225)))) + 8)) then (if (wrap64 ((wrap64 (8 * (wrap64 (t225)))) + 8)) ≤ (t213.length : Int) then (if (strOfNums ((t217.take ((wrap64 ((ji34) + 8)) : Int).toNat).drop ((ji34) : Int).toNat)).toList = (strOfNums ((t213.take ((wrap64 ((wrap64 (8 * (wrap64 (t225)))) + 8)) : Int).toNat).drop ((wrap64 (8 * (wrap64 (t225)))) : Int).toNat)).toList then (presidiolaw16_RollKinds.l1 k3 t213 t216 (wrap64 (x7_2 + t220)) x8_2 t217 t220 (wrap64 (x11_3 + 1)) t204 t205 t206 t207 t208) else (some false)) else (none)) else (none)) else (none)) else (none)) else (none)) else (some false)) else (none)) else (none)))) = some r := by first | (rw [hy221]; with_reducible exact H) | (have H2_ := (Option.bind_some _ _).symm.trans H; rw [hy221]; with_reducible exact H2_) | (have H2_ := (Option.bind_some _ _).symm.trans H; with_reducible exact H2_) | with_reducible exact H | (rw [hy221]; exact H) | exact H
                                have Ny221 := Aside0.mk hy221
                                clear hy221
                                replace H := Option.bind_eq_some_iff.mp H
                                obtain ⟨t225, A380, H⟩ := H
                                replace H : (if (wrap64 (t225)) ≥ t216 then (some false) else (if 0 ≤ (wrap64 (t225)) then (if (wrap64 (t225)) < (t208.length : Int) then (if ((rd_T56 t208 (wrap64 (t225))).f5) = x8_2 then (if (ji34) ≤ (wrap64 ((ji34) + 8)) then (if (wrap64 ((ji34) + 8)) ≤ (t217.length : Int) then (if 0 ≤ (wrap64 (8 * (wrap64 (t225)))) then (if (wrap64 (8 * (wrap64 (t225)))) ≤ (wrap64 ((wrap64 (8 * (wrap64 (t225)))) + 8)) then (if (wrap64 ((wrap64 (8 * (wrap64 (t225)))) + 8)) ≤ (t213.length : Int) then (if (strOfNums ((t217.take ((wrap64 ((ji34) + 8)) : Int).toNat).drop ((ji34) : Int).toNat)).toList = (strOfNums ((t213.take ((wrap64 ((wrap64 (8 * (wrap64 (t225)))) + 8)) : Int).toNat).drop ((wrap64 (8 * (wrap64 (t225)))) : Int).toNat)).toList then (presidiolaw16_RollKinds.l1 k3 t213 t216 (wrap64 (x7_2 + t220)) x8_2 t217 t220 (wrap64 (x11_3 + 1)) t204 t205 t206 t207 t208) else (some false)) else (none)) else (none)) else (none)) else (none)) else (none)) else (some false)) else (none)) else (none))) = some r := H
                                have A38 := Aside0.mk A380
                                clear A380
                                by_cases c39 : (wrap64 (t225)) ≥ t216
                                · rw [if_pos c39] at H
                                  have c39b0 : decide (t216 ≤ (wrap64 (t225))) = true := decide_eq_true c39
                                  clear c39
                                  obtain rfl := Option.some.inj H
                                  have q40 : ((wrap64 ((ji34) + 2)) : Int) ≤ ((t217.length : Int) : Int) := of_decide_eq_true (by first | (with_reducible assumption) | assumption)
                                  obtain ⟨i040, hi040, _, hsz40, _⟩ := info_parts info5
                                  have hroom40 : t217.length ≤ co32 := (Kd.R_reads' HO_9.out).2.1
                                  have hC40 : Kd.C (Kd.int .u8) _ Ao32 t217.length t217 := (Kd.R_reads' HO_9.out).2.2
                                  have ql40 : ((ji34) : Int) ≤ ((wrap64 ((ji34) + 2)) : Int) := of_decide_eq_true (by first | (with_reducible assumption) | assumption)
                                  have q040 : (0 : Int) ≤ ((ji34) : Int) := of_decide_eq_true (by first | (with_reducible assumption) | assumption)
                                  have hcut40 := cut_mid (P := Try.prog) 49 5 .i64 .i64 Try.underlying49 hi040 1 hsz40 Ao32 t217.length co32 (ji34) (wrap64 ((ji34) + 2)) q040 ql40 q40 hroom40
                                  have hr40 := Kd.C_mid (lo := ((ji34) : Int).toNat) (hi := ((wrap64 ((ji34) + 2)) : Int).toNat) (c := co32) hC40 (by omega) (by omega) hroom40
                                  obtain ⟨A40, hA40⟩ : ∃ A1, A1 = (if co32 = ((ji34) : Int).toNat then Ao32 else (Ao32 : Option Addr).map (·.add (((ji34) : Int).toNat * 1))) := ⟨_, rfl⟩
                                  obtain ⟨c40, hc40⟩ : ∃ c1, c1 = co32 - ((ji34) : Int).toNat := ⟨_, rfl⟩
                                  have hy40 : y221.length = ((wrap64 ((ji34) + 2)) : Int).toNat - ((ji34) : Int).toNat := (by rw [Ny221.out, List.length_drop, List.length_take] <;> omega)
                                  rw [show ((t217).take ((wrap64 ((ji34) + 2)) : Int).toNat).drop ((ji34) : Int).toNat = y221 from Ny221.out.symm] at hr40
                                  replace hr40 : Kd.C (Kd.int .u8) _ A40 y221.length y221 := (by rw [hA40]; exact hr40)
                                  rw [← hy40, ← hA40, ← hc40] at hcut40
                                  have HR224 := Aside0.mk hr40
                                  have HC224 := Aside0.mk (show y221.length ≤ c40 from by rw [hy40, hc40]; exact Nat.sub_le_sub_right (Nat.le_trans (by omega) hroom40) _)
                                  clear hr40 hC40 hroom40 hi040 hsz40 hc40
                                  have KY40 := Aside0.mk hy40
                                  have KA40 := Aside0.mk hA40
                                  clear hy40 hA40
                                  have KL40 := Aside0.mk (show ((wrap64 ((ji34) + 2)) : Int).toNat ≤ t217.length from by omega)
                                  have KM40 := Aside0.mk (show ((ji34) : Int).toNat ≤ ((wrap64 ((ji34) + 2)) : Int).toNat from by omega)
                                  replace q40 := eq_true q40
                                  go_wp2_with (first | (go_at_call 32; (with_reducible refine (presidioref1_Num.calls k3 _ _ y221 t225 _ ?side1 ?side2 A38.out).mono ?_); (case side1 => repeat (first | exact (by repeat (first | (with_reducible exact HR224.out) | (with_reducible refine Kd.C_alloc ?_ _) | (with_reducible refine Kd.C_drewN ?_ _) | (with_reducible refine Kd.C_drew ?_) | exact HR224.out)) | (with_reducible refine Kd.C_alloc ?_ _) | (with_reducible refine Kd.C_drewN ?_ _) | (with_reducible refine Kd.C_drew ?_))); (case side2 => exact HC224.out); rintro e w' ⟨rfl, ⟨nd, rfl⟩⟩; (try first | exact ⟨rfl, _, World.drewN_drewN _ _ _⟩ | exact ⟨rfl, _, Eq.trans (World.drewN_drewN _ _ _) (congrArg (World.drewN _) (Nat.add_assoc _ _ _))⟩)))
                                  repeat (go_quiet (first | (go_at_call 32; (with_reducible refine (presidioref1_Num.calls k3 _ _ y221 t225 _ ?side1 ?side2 A38.out).mono ?_); (case side1 => repeat (first | exact (by repeat (first | (with_reducible exact HR224.out) | (with_reducible refine Kd.C_alloc ?_ _) | (with_reducible refine Kd.C_drewN ?_ _) | (with_reducible refine Kd.C_drew ?_) | exact HR224.out)) | (with_reducible refine Kd.C_alloc ?_ _) | (with_reducible refine Kd.C_drewN ?_ _) | (with_reducible refine Kd.C_drew ?_))); (case side2 => exact HC224.out); rintro e w' ⟨rfl, ⟨nd, rfl⟩⟩; (try first | exact ⟨rfl, _, World.drewN_drewN _ _ _⟩ | exact ⟨rfl, _, Eq.trans (World.drewN_drewN _ _ _) (congrArg (World.drewN _) (Nat.add_assoc _ _ _))⟩))); try go_wp2_with (first | (go_at_call 32; (with_reducible refine (presidioref1_Num.calls k3 _ _ y221 t225 _ ?side1 ?side2 A38.out).mono ?_); (case side1 => repeat (first | exact (by repeat (first | (with_reducible exact HR224.out) | (with_reducible refine Kd.C_alloc ?_ _) | (with_reducible refine Kd.C_drewN ?_ _) | (with_reducible refine Kd.C_drew ?_) | exact HR224.out)) | (with_reducible refine Kd.C_alloc ?_ _) | (with_reducible refine Kd.C_drewN ?_ _) | (with_reducible refine Kd.C_drew ?_))); (case side2 => exact HC224.out); rintro e w' ⟨rfl, ⟨nd, rfl⟩⟩; (try first | exact ⟨rfl, _, World.drewN_drewN _ _ _⟩ | exact ⟨rfl, _, Eq.trans (World.drewN_drewN _ _ _) (congrArg (World.drewN _) (Nat.add_assoc _ _ _))⟩))))
                                  go_ret
                                  exact ⟨by first | rfl | (simp [errW_none, errW_some] <;> rfl) | (simp only [← hji34]; first | rfl | (simp [errW_none, errW_some] <;> rfl)) | (simp [*, errW_none, errW_some] <;> rfl), by repeat (first | (with_reducible first | exact HB.out | apply below_alloc | apply pw_below_drewN | apply below_drew1 | refine below_set ?_ GE212.out) | exact HB.out)⟩
                                · rw [if_neg c39] at H
                                  have c39b0 : decide (t216 ≤ (wrap64 (t225))) = false := decide_eq_false c39
                                  clear c39
                                  obtain ⟨ji41, hji41⟩ : ∃ j_ : Int, (wrap64 (t225)) = j_ := ⟨_, rfl⟩
                                  replace H : (if 0 ≤ (ji41) then (if (ji41) < (t208.length : Int) then (if ((rd_T56 t208 (ji41)).f5) = x8_2 then (if (ji34) ≤ (wrap64 ((ji34) + 8)) then (if (wrap64 ((ji34) + 8)) ≤ (t217.length : Int) then (if 0 ≤ (wrap64 (8 * (ji41))) then (if (wrap64 (8 * (ji41))) ≤ (wrap64 ((wrap64 (8 * (ji41))) + 8)) then (if (wrap64 ((wrap64 (8 * (ji41))) + 8)) ≤ (t213.length : Int) then (if (strOfNums ((t217.take ((wrap64 ((ji34) + 8)) : Int).toNat).drop ((ji34) : Int).toNat)).toList = (strOfNums ((t213.take ((wrap64 ((wrap64 (8 * (ji41))) + 8)) : Int).toNat).drop ((wrap64 (8 * (ji41))) : Int).toNat)).toList then (presidiolaw16_RollKinds.l1 k3 t213 t216 (wrap64 (x7_2 + t220)) x8_2 t217 t220 (wrap64 (x11_3 + 1)) t204 t205 t206 t207 t208) else (some false)) else (none)) else (none)) else (none)) else (none)) else (none)) else (some false)) else (none)) else (none)) = some r := by first | (rw [hji41] at H; exact H) | (simp only [hji41] at H ⊢; exact H)
                                  (try rw [hji41] at c39b0)
                                  (try rw [hji41] at A38)
                                  have hji41w : (IntKind.i64.wrap (t225)) = ji41 := (i64_w _).trans hji41
                                  by_cases c42 : 0 ≤ (ji41)
                                  · rw [if_pos c42] at H
                                    have c42b0 : decide (0 ≤ (ji41)) = true := decide_eq_true c42
                                    clear c42
                                    by_cases c43 : (ji41) < (t208.length : Int)
                                    · rw [if_pos c43] at H
                                      have c43b0 : decide ((ji41) < (t208.length : Int)) = true := decide_eq_true c43
                                      clear c43
                                      by_cases c44 : ((rd_T56 t208 (ji41)).f5) = x8_2
                                      · rw [if_pos c44] at H
                                        have c44b0 : (((rd_T56 t208 (ji41)).f5) == x8_2) = true := beq_iff_eq.mpr c44
                                        have c44b1 : (((rd_T56 t208 (ji41)).f5) != x8_2) = false := bne_eq_false_iff_eq.mpr c44
                                        clear c44
                                        have c45b0 := eq_true (of_decide_eq_true (by first | (with_reducible assumption) | assumption) : 0 ≤ (ji34))
                                        by_cases c46 : (ji34) ≤ (wrap64 ((ji34) + 8))
                                        · rw [if_pos c46] at H
                                          have c46b0 := eq_true c46
                                          have c46b1 : decide ((ji34) ≤ (wrap64 ((ji34) + 8))) = true := decide_eq_true c46
                                          by_cases c47 : (wrap64 ((ji34) + 8)) ≤ (t217.length : Int)
                                          · rw [if_pos c47] at H
                                            have c47b0 := eq_true c47
                                            have c47b1 : decide ((wrap64 ((ji34) + 8)) ≤ (t217.length : Int)) = true := decide_eq_true c47
                                            obtain ⟨y227, hy227⟩ : ∃ y_ : List Int, y_ = ((t217.take ((wrap64 ((ji34) + 8)) : Int).toNat).drop ((ji34) : Int).toNat) := ⟨_, rfl⟩
                                            replace H : (if 0 ≤ (wrap64 (8 * (ji41))) then (if (wrap64 (8 * (ji41))) ≤ (wrap64 ((wrap64 (8 * (ji41))) + 8)) then (if (wrap64 ((wrap64 (8 * (ji41))) + 8)) ≤ (t213.length : Int) then (if (strOfNums y227).toList = (strOfNums ((t213.take ((wrap64 ((wrap64 (8 * (ji41))) + 8)) : Int).toNat).drop ((wrap64 (8 * (ji41))) : Int).toNat)).toList then (presidiolaw16_RollKinds.l1 k3 t213 t216 (wrap64 (x7_2 + t220)) x8_2 t217 t220 (wrap64 (x11_3 + 1)) t204 t205 t206 t207 t208) else (some false)) else (none)) else (none)) else (none)) = some r := by first | (rw [hy227]; with_reducible exact H) | (have H2_ := (Option.bind_some _ _).symm.trans H; rw [hy227]; with_reducible exact H2_) | (have H2_ := (Option.bind_some _ _).symm.trans H; with_reducible exact H2_) | with_reducible exact H | (rw [hy227]; exact H) | exact H
                                            have Ny227 := Aside0.mk hy227
                                            clear hy227
                                            obtain ⟨ji48, hji48⟩ : ∃ j_ : Int, (wrap64 (8 * (ji41))) = j_ := ⟨_, rfl⟩
                                            replace H : (if 0 ≤ (ji48) then (if (ji48) ≤ (wrap64 ((ji48) + 8)) then (if (wrap64 ((ji48) + 8)) ≤ (t213.length : Int) then (if (strOfNums y227).toList = (strOfNums ((t213.take ((wrap64 ((ji48) + 8)) : Int).toNat).drop ((ji48) : Int).toNat)).toList then (presidiolaw16_RollKinds.l1 k3 t213 t216 (wrap64 (x7_2 + t220)) x8_2 t217 t220 (wrap64 (x11_3 + 1)) t204 t205 t206 t207 t208) else (some false)) else (none)) else (none)) else (none)) = some r := by first | (rw [hji48] at H; exact H) | (simp only [hji48] at H ⊢; exact H)
                                            (try rw [hji48] at A38)
                                            have hji48w : (IntKind.i64.wrap (8 * (ji41))) = ji48 := (i64_w _).trans hji48
                                            by_cases c49 : 0 ≤ (ji48)
                                            · rw [if_pos c49] at H
                                              have c49b0 := eq_true c49
                                              have c49b1 : decide (0 ≤ (ji48)) = true := decide_eq_true c49
                                              clear c49
                                              by_cases c50 : (ji48) ≤ (wrap64 ((ji48) + 8))
                                              · rw [if_pos c50] at H
                                                have c50b0 := eq_true c50
                                                have c50b1 : decide ((ji48) ≤ (wrap64 ((ji48) + 8))) = true := decide_eq_true c50
                                                by_cases c51 : (wrap64 ((ji48) + 8)) ≤ (t213.length : Int)
                                                · rw [if_pos c51] at H
                                                  have c51b0 := eq_true c51
                                                  have c51b1 : decide ((wrap64 ((ji48) + 8)) ≤ (t213.length : Int)) = true := decide_eq_true c51
                                                  obtain ⟨y231, hy231⟩ : ∃ y_ : List Int, y_ = ((t213.take ((wrap64 ((ji48) + 8)) : Int).toNat).drop ((ji48) : Int).toNat) := ⟨_, rfl⟩
                                                  replace H : (if (strOfNums y227).toList = (strOfNums y231).toList then (presidiolaw16_RollKinds.l1 k3 t213 t216 (wrap64 (x7_2 + t220)) x8_2 t217 t220 (wrap64 (x11_3 + 1)) t204 t205 t206 t207 t208) else (some false)) = some r := by first | (rw [hy231]; with_reducible exact H) | (have H2_ := (Option.bind_some _ _).symm.trans H; rw [hy231]; with_reducible exact H2_) | (have H2_ := (Option.bind_some _ _).symm.trans H; with_reducible exact H2_) | with_reducible exact H | (rw [hy231]; exact H) | exact H
                                                  have Ny231 := Aside0.mk hy231
                                                  clear hy231
                                                  by_cases c52 : (strOfNums y227).toList = (strOfNums y231).toList
                                                  · rw [if_pos c52] at H
                                                    have c52b0 : ((strOfNums y227).toList == (strOfNums y231).toList) = true := beq_iff_eq.mpr c52
                                                    have c52b1 : ((strOfNums y227).toList != (strOfNums y231).toList) = false := bne_eq_false_iff_eq.mpr c52
                                                    clear c52
                                                    have H' := Aside0.mk H
                                                    clear H
                                                    have q53 : ((wrap64 ((ji34) + 2)) : Int) ≤ ((t217.length : Int) : Int) := of_decide_eq_true (by first | (with_reducible assumption) | assumption)
                                                    obtain ⟨i053, hi053, _, hsz53, _⟩ := info_parts info5
                                                    have hroom53 : t217.length ≤ co32 := (Kd.R_reads' HO_9.out).2.1
                                                    have hC53 : Kd.C (Kd.int .u8) _ Ao32 t217.length t217 := (Kd.R_reads' HO_9.out).2.2
                                                    have ql53 : ((ji34) : Int) ≤ ((wrap64 ((ji34) + 2)) : Int) := of_decide_eq_true (by first | (with_reducible assumption) | assumption)
                                                    have q053 : (0 : Int) ≤ ((ji34) : Int) := of_decide_eq_true (by first | (with_reducible assumption) | assumption)
                                                    have hcut53 := cut_mid (P := Try.prog) 49 5 .i64 .i64 Try.underlying49 hi053 1 hsz53 Ao32 t217.length co32 (ji34) (wrap64 ((ji34) + 2)) q053 ql53 q53 hroom53
                                                    have hr53 := Kd.C_mid (lo := ((ji34) : Int).toNat) (hi := ((wrap64 ((ji34) + 2)) : Int).toNat) (c := co32) hC53 (by omega) (by omega) hroom53
                                                    obtain ⟨A53, hA53⟩ : ∃ A1, A1 = (if co32 = ((ji34) : Int).toNat then Ao32 else (Ao32 : Option Addr).map (·.add (((ji34) : Int).toNat * 1))) := ⟨_, rfl⟩
                                                    obtain ⟨c53, hc53⟩ : ∃ c1, c1 = co32 - ((ji34) : Int).toNat := ⟨_, rfl⟩
                                                    have hy53 : y221.length = ((wrap64 ((ji34) + 2)) : Int).toNat - ((ji34) : Int).toNat := (by rw [Ny221.out, List.length_drop, List.length_take] <;> omega)
                                                    rw [show ((t217).take ((wrap64 ((ji34) + 2)) : Int).toNat).drop ((ji34) : Int).toNat = y221 from Ny221.out.symm] at hr53
                                                    replace hr53 : Kd.C (Kd.int .u8) _ A53 y221.length y221 := (by rw [hA53]; exact hr53)
                                                    rw [← hy53, ← hA53, ← hc53] at hcut53
                                                    have HR224 := Aside0.mk hr53
                                                    have HC224 := Aside0.mk (show y221.length ≤ c53 from by rw [hy53, hc53]; exact Nat.sub_le_sub_right (Nat.le_trans (by omega) hroom53) _)
                                                    clear hr53 hC53 hroom53 hi053 hsz53 hc53
                                                    have KY53 := Aside0.mk hy53
                                                    have KA53 := Aside0.mk hA53
                                                    clear hy53 hA53
                                                    have KL53 := Aside0.mk (show ((wrap64 ((ji34) + 2)) : Int).toNat ≤ t217.length from by omega)
                                                    have KM53 := Aside0.mk (show ((ji34) : Int).toNat ≤ ((wrap64 ((ji34) + 2)) : Int).toNat from by omega)
                                                    replace q53 := eq_true q53
                                                    go_wp2_with (first | (go_at_call 32; (with_reducible refine (presidioref1_Num.calls k3 _ _ y221 t225 _ ?side1 ?side2 A38.out).mono ?_); (case side1 => repeat (first | exact (by repeat (first | (with_reducible exact HR224.out) | (with_reducible refine Kd.C_alloc ?_ _) | (with_reducible refine Kd.C_drewN ?_ _) | (with_reducible refine Kd.C_drew ?_) | exact HR224.out)) | (with_reducible refine Kd.C_alloc ?_ _) | (with_reducible refine Kd.C_drewN ?_ _) | (with_reducible refine Kd.C_drew ?_))); (case side2 => exact HC224.out); rintro e w' ⟨rfl, ⟨nd, rfl⟩⟩; (try first | exact ⟨rfl, _, World.drewN_drewN _ _ _⟩ | exact ⟨rfl, _, Eq.trans (World.drewN_drewN _ _ _) (congrArg (World.drewN _) (Nat.add_assoc _ _ _))⟩); have hcz54_0 : wr.cell? ⟨gb212, 0, none⟩ = some (.int .i64 t204) := (blk_cell BK212.out 0).trans rfl; have hcz54_1 : wr.cell? ⟨gb212, 1, none⟩ = some (.int .i64 t205) := (blk_cell BK212.out 1).trans rfl; have hcz54_2 : wr.cell? ⟨gb212, 2, none⟩ = some (.int .i64 t206) := (blk_cell BK212.out 2).trans rfl; have hcz54_3 : wr.cell? ⟨gb212, 3, none⟩ = some (.int .i64 t207) := (blk_cell BK212.out 3).trans rfl; have hcz54_4 : wr.cell? ⟨gb212, 4, none⟩ = some (.slice Ao18 t208.length co18) := (blk_cell BK212.out 4).trans rfl; have hfz54_0 := blk_frozen BK212.out 0; have hfz54_1 := blk_frozen BK212.out 1; have hfz54_2 := blk_frozen BK212.out 2; have hfz54_3 := blk_frozen BK212.out 3; have hfz54_4 := blk_frozen BK212.out 4; have p226 : 0 ≤ ((ji41) : Int) := of_decide_eq_true (by first | (with_reducible assumption) | assumption); have q226 : (ji41) < (t208.length : Int) := of_decide_eq_true (by first | (with_reducible assumption) | assumption); obtain ⟨ad226, e226, hx226_0, hx226_1, hx226_2, hx226_3, hx226_4, hx226_5, hx226_6, hx226_7, hx226_8⟩ := at_T56 (Kd.R_reads' HO_213004.out).2.2 (ji41) p226 q226; cases e226; replace p226 := eq_true p226; replace q226 := eq_true q226; have q55 : ((wrap64 ((ji34) + 8)) : Int) ≤ ((t217.length : Int) : Int) := of_decide_eq_true (by first | (with_reducible assumption) | assumption); obtain ⟨i055, hi055, _, hsz55, _⟩ := info_parts info5; have hroom55 : t217.length ≤ co32 := (Kd.R_reads' HO_9.out).2.1; have hC55 : Kd.C (Kd.int .u8) _ Ao32 t217.length t217 := (Kd.R_reads' HO_9.out).2.2; have ql55 : ((ji34) : Int) ≤ ((wrap64 ((ji34) + 8)) : Int) := of_decide_eq_true (by first | (with_reducible assumption) | assumption); have q055 : (0 : Int) ≤ ((ji34) : Int) := of_decide_eq_true (by first | (with_reducible assumption) | assumption); have hcut55 := cut_mid (P := Try.prog) 49 5 .i64 .i64 Try.underlying49 hi055 1 hsz55 Ao32 t217.length co32 (ji34) (wrap64 ((ji34) + 8)) q055 ql55 q55 hroom55; have hr55 := Kd.C_mid (lo := ((ji34) : Int).toNat) (hi := ((wrap64 ((ji34) + 8)) : Int).toNat) (c := co32) hC55 (by omega) (by omega) hroom55; obtain ⟨A55, hA55⟩ : ∃ A1, A1 = (if co32 = ((ji34) : Int).toNat then Ao32 else (Ao32 : Option Addr).map (·.add (((ji34) : Int).toNat * 1))) := ⟨_, rfl⟩; obtain ⟨c55, hc55⟩ : ∃ c1, c1 = co32 - ((ji34) : Int).toNat := ⟨_, rfl⟩; have hy55 : y227.length = ((wrap64 ((ji34) + 8)) : Int).toNat - ((ji34) : Int).toNat := (by rw [Ny227.out, List.length_drop, List.length_take] <;> omega); rw [show ((t217).take ((wrap64 ((ji34) + 8)) : Int).toNat).drop ((ji34) : Int).toNat = y227 from Ny227.out.symm] at hr55; replace hr55 : Kd.C (Kd.int .u8) _ A55 y227.length y227 := (by rw [hA55]; exact hr55); rw [← hy55, ← hA55, ← hc55] at hcut55; have HR230 := Aside0.mk hr55; have HC230 := Aside0.mk (show y227.length ≤ c55 from by rw [hy55, hc55]; exact Nat.sub_le_sub_right (Nat.le_trans (by omega) hroom55) _); clear hr55 hC55 hroom55 hi055 hsz55 hc55; have KY55 := Aside0.mk hy55; have KA55 := Aside0.mk hA55; clear hy55 hA55; have KL55 := Aside0.mk (show ((wrap64 ((ji34) + 8)) : Int).toNat ≤ t217.length from by omega); have KM55 := Aside0.mk (show ((ji34) : Int).toNat ≤ ((wrap64 ((ji34) + 8)) : Int).toNat from by omega); replace q55 := eq_true q55; have hcv56 := Kd.C_string (P := Try.prog) (A := A55) (c := c55) Try.underlying49 Try.underlying5 Try.underlying9 (by repeat (first | (with_reducible exact HR230.out) | (with_reducible refine Kd.C_alloc ?_ _) | (with_reducible refine Kd.C_drewN ?_ _) | (with_reducible refine Kd.C_drew ?_) | exact HR230.out)); obtain ⟨Ao58, co58, eo58⟩ := Kd.R_slice HO_5.out; subst eo58; have q57 : ((wrap64 ((ji48) + 8)) : Int) ≤ ((t213.length : Int) : Int) := of_decide_eq_true (by first | (with_reducible assumption) | assumption); obtain ⟨i057, hi057, _, hsz57, _⟩ := info_parts info5; have hroom57 : t213.length ≤ co58 := (Kd.R_reads' HO_5.out).2.1; have hC57 : Kd.C (Kd.int .u8) _ Ao58 t213.length t213 := (Kd.R_reads' HO_5.out).2.2; have ql57 : ((ji48) : Int) ≤ ((wrap64 ((ji48) + 8)) : Int) := of_decide_eq_true (by first | (with_reducible assumption) | assumption); have q057 : (0 : Int) ≤ ((ji48) : Int) := of_decide_eq_true (by first | (with_reducible assumption) | assumption); have hcut57 := cut_mid (P := Try.prog) 49 5 .i64 .i64 Try.underlying49 hi057 1 hsz57 Ao58 t213.length co58 (ji48) (wrap64 ((ji48) + 8)) q057 ql57 q57 hroom57; have hr57 := Kd.C_mid (lo := ((ji48) : Int).toNat) (hi := ((wrap64 ((ji48) + 8)) : Int).toNat) (c := co58) hC57 (by omega) (by omega) hroom57; obtain ⟨A57, hA57⟩ : ∃ A1, A1 = (if co58 = ((ji48) : Int).toNat then Ao58 else (Ao58 : Option Addr).map (·.add (((ji48) : Int).toNat * 1))) := ⟨_, rfl⟩; obtain ⟨c57, hc57⟩ : ∃ c1, c1 = co58 - ((ji48) : Int).toNat := ⟨_, rfl⟩; have hy57 : y231.length = ((wrap64 ((ji48) + 8)) : Int).toNat - ((ji48) : Int).toNat := (by rw [Ny231.out, List.length_drop, List.length_take] <;> omega); rw [show ((t213).take ((wrap64 ((ji48) + 8)) : Int).toNat).drop ((ji48) : Int).toNat = y231 from Ny231.out.symm] at hr57; replace hr57 : Kd.C (Kd.int .u8) _ A57 y231.length y231 := (by rw [hA57]; exact hr57); rw [← hy57, ← hA57, ← hc57] at hcut57; have HR234 := Aside0.mk hr57; have HC234 := Aside0.mk (show y231.length ≤ c57 from by rw [hy57, hc57]; exact Nat.sub_le_sub_right (Nat.le_trans (by omega) hroom57) _); clear hr57 hC57 hroom57 hi057 hsz57 hc57; have KY57 := Aside0.mk hy57; have KA57 := Aside0.mk hA57; clear hy57 hA57; have KL57 := Aside0.mk (show ((wrap64 ((ji48) + 8)) : Int).toNat ≤ t213.length from by omega); have KM57 := Aside0.mk (show ((ji48) : Int).toNat ≤ ((wrap64 ((ji48) + 8)) : Int).toNat from by omega); replace q57 := eq_true q57; have hcv59 := Kd.C_string (P := Try.prog) (A := A57) (c := c57) Try.underlying49 Try.underlying5 Try.underlying9 (by repeat (first | (with_reducible exact HR234.out) | (with_reducible refine Kd.C_alloc ?_ _) | (with_reducible refine Kd.C_drewN ?_ _) | (with_reducible refine Kd.C_drew ?_) | exact HR234.out))))
                                                    have hwq0_ := i64_w ((ji34) + 8)
                                                    have hwq1_ := i64_w ((ji48) + 8)
                                                    have hcvq56_ := fun m_ => Kd.C_string (P := Try.prog) (A := A55) (c := c55) Try.underlying49 Try.underlying5 Try.underlying9 (Kd.C_drewN HR230.out m_)
                                                    have hcvq59_ := fun m_ => Kd.C_string (P := Try.prog) (A := A57) (c := c57) Try.underlying49 Try.underlying5 Try.underlying9 (Kd.C_drewN HR234.out m_)
                                                    repeat (go_quiet (first | (go_at_call 32; (with_reducible refine (presidioref1_Num.calls k3 _ _ y221 t225 _ ?side1 ?side2 A38.out).mono ?_); (case side1 => repeat (first | exact (by repeat (first | (with_reducible exact HR224.out) | (with_reducible refine Kd.C_alloc ?_ _) | (with_reducible refine Kd.C_drewN ?_ _) | (with_reducible refine Kd.C_drew ?_) | exact HR224.out)) | (with_reducible refine Kd.C_alloc ?_ _) | (with_reducible refine Kd.C_drewN ?_ _) | (with_reducible refine Kd.C_drew ?_))); (case side2 => exact HC224.out); rintro e w' ⟨rfl, ⟨nd, rfl⟩⟩; (try first | exact ⟨rfl, _, World.drewN_drewN _ _ _⟩ | exact ⟨rfl, _, Eq.trans (World.drewN_drewN _ _ _) (congrArg (World.drewN _) (Nat.add_assoc _ _ _))⟩); have hcz54_0 : wr.cell? ⟨gb212, 0, none⟩ = some (.int .i64 t204) := (blk_cell BK212.out 0).trans rfl; have hcz54_1 : wr.cell? ⟨gb212, 1, none⟩ = some (.int .i64 t205) := (blk_cell BK212.out 1).trans rfl; have hcz54_2 : wr.cell? ⟨gb212, 2, none⟩ = some (.int .i64 t206) := (blk_cell BK212.out 2).trans rfl; have hcz54_3 : wr.cell? ⟨gb212, 3, none⟩ = some (.int .i64 t207) := (blk_cell BK212.out 3).trans rfl; have hcz54_4 : wr.cell? ⟨gb212, 4, none⟩ = some (.slice Ao18 t208.length co18) := (blk_cell BK212.out 4).trans rfl; have hfz54_0 := blk_frozen BK212.out 0; have hfz54_1 := blk_frozen BK212.out 1; have hfz54_2 := blk_frozen BK212.out 2; have hfz54_3 := blk_frozen BK212.out 3; have hfz54_4 := blk_frozen BK212.out 4; have p226 : 0 ≤ ((ji41) : Int) := of_decide_eq_true (by first | (with_reducible assumption) | assumption); have q226 : (ji41) < (t208.length : Int) := of_decide_eq_true (by first | (with_reducible assumption) | assumption); obtain ⟨ad226, e226, hx226_0, hx226_1, hx226_2, hx226_3, hx226_4, hx226_5, hx226_6, hx226_7, hx226_8⟩ := at_T56 (Kd.R_reads' HO_213004.out).2.2 (ji41) p226 q226; cases e226; replace p226 := eq_true p226; replace q226 := eq_true q226; have q55 : ((wrap64 ((ji34) + 8)) : Int) ≤ ((t217.length : Int) : Int) := of_decide_eq_true (by first | (with_reducible assumption) | assumption); obtain ⟨i055, hi055, _, hsz55, _⟩ := info_parts info5; have hroom55 : t217.length ≤ co32 := (Kd.R_reads' HO_9.out).2.1; have hC55 : Kd.C (Kd.int .u8) _ Ao32 t217.length t217 := (Kd.R_reads' HO_9.out).2.2; have ql55 : ((ji34) : Int) ≤ ((wrap64 ((ji34) + 8)) : Int) := of_decide_eq_true (by first | (with_reducible assumption) | assumption); have q055 : (0 : Int) ≤ ((ji34) : Int) := of_decide_eq_true (by first | (with_reducible assumption) | assumption); have hcut55 := cut_mid (P := Try.prog) 49 5 .i64 .i64 Try.underlying49 hi055 1 hsz55 Ao32 t217.length co32 (ji34) (wrap64 ((ji34) + 8)) q055 ql55 q55 hroom55; have hr55 := Kd.C_mid (lo := ((ji34) : Int).toNat) (hi := ((wrap64 ((ji34) + 8)) : Int).toNat) (c := co32) hC55 (by omega) (by omega) hroom55; obtain ⟨A55, hA55⟩ : ∃ A1, A1 = (if co32 = ((ji34) : Int).toNat then Ao32 else (Ao32 : Option Addr).map (·.add (((ji34) : Int).toNat * 1))) := ⟨_, rfl⟩; obtain ⟨c55, hc55⟩ : ∃ c1, c1 = co32 - ((ji34) : Int).toNat := ⟨_, rfl⟩; have hy55 : y227.length = ((wrap64 ((ji34) + 8)) : Int).toNat - ((ji34) : Int).toNat := (by rw [Ny227.out, List.length_drop, List.length_take] <;> omega); rw [show ((t217).take ((wrap64 ((ji34) + 8)) : Int).toNat).drop ((ji34) : Int).toNat = y227 from Ny227.out.symm] at hr55; replace hr55 : Kd.C (Kd.int .u8) _ A55 y227.length y227 := (by rw [hA55]; exact hr55); rw [← hy55, ← hA55, ← hc55] at hcut55; have HR230 := Aside0.mk hr55; have HC230 := Aside0.mk (show y227.length ≤ c55 from by rw [hy55, hc55]; exact Nat.sub_le_sub_right (Nat.le_trans (by omega) hroom55) _); clear hr55 hC55 hroom55 hi055 hsz55 hc55; have KY55 := Aside0.mk hy55; have KA55 := Aside0.mk hA55; clear hy55 hA55; have KL55 := Aside0.mk (show ((wrap64 ((ji34) + 8)) : Int).toNat ≤ t217.length from by omega); have KM55 := Aside0.mk (show ((ji34) : Int).toNat ≤ ((wrap64 ((ji34) + 8)) : Int).toNat from by omega); replace q55 := eq_true q55; have hcv56 := Kd.C_string (P := Try.prog) (A := A55) (c := c55) Try.underlying49 Try.underlying5 Try.underlying9 (by repeat (first | (with_reducible exact HR230.out) | (with_reducible refine Kd.C_alloc ?_ _) | (with_reducible refine Kd.C_drewN ?_ _) | (with_reducible refine Kd.C_drew ?_) | exact HR230.out)); obtain ⟨Ao58, co58, eo58⟩ := Kd.R_slice HO_5.out; subst eo58; have q57 : ((wrap64 ((ji48) + 8)) : Int) ≤ ((t213.length : Int) : Int) := of_decide_eq_true (by first | (with_reducible assumption) | assumption); obtain ⟨i057, hi057, _, hsz57, _⟩ := info_parts info5; have hroom57 : t213.length ≤ co58 := (Kd.R_reads' HO_5.out).2.1; have hC57 : Kd.C (Kd.int .u8) _ Ao58 t213.length t213 := (Kd.R_reads' HO_5.out).2.2; have ql57 : ((ji48) : Int) ≤ ((wrap64 ((ji48) + 8)) : Int) := of_decide_eq_true (by first | (with_reducible assumption) | assumption); have q057 : (0 : Int) ≤ ((ji48) : Int) := of_decide_eq_true (by first | (with_reducible assumption) | assumption); have hcut57 := cut_mid (P := Try.prog) 49 5 .i64 .i64 Try.underlying49 hi057 1 hsz57 Ao58 t213.length co58 (ji48) (wrap64 ((ji48) + 8)) q057 ql57 q57 hroom57; have hr57 := Kd.C_mid (lo := ((ji48) : Int).toNat) (hi := ((wrap64 ((ji48) + 8)) : Int).toNat) (c := co58) hC57 (by omega) (by omega) hroom57; obtain ⟨A57, hA57⟩ : ∃ A1, A1 = (if co58 = ((ji48) : Int).toNat then Ao58 else (Ao58 : Option Addr).map (·.add (((ji48) : Int).toNat * 1))) := ⟨_, rfl⟩; obtain ⟨c57, hc57⟩ : ∃ c1, c1 = co58 - ((ji48) : Int).toNat := ⟨_, rfl⟩; have hy57 : y231.length = ((wrap64 ((ji48) + 8)) : Int).toNat - ((ji48) : Int).toNat := (by rw [Ny231.out, List.length_drop, List.length_take] <;> omega); rw [show ((t213).take ((wrap64 ((ji48) + 8)) : Int).toNat).drop ((ji48) : Int).toNat = y231 from Ny231.out.symm] at hr57; replace hr57 : Kd.C (Kd.int .u8) _ A57 y231.length y231 := (by rw [hA57]; exact hr57); rw [← hy57, ← hA57, ← hc57] at hcut57; have HR234 := Aside0.mk hr57; have HC234 := Aside0.mk (show y231.length ≤ c57 from by rw [hy57, hc57]; exact Nat.sub_le_sub_right (Nat.le_trans (by omega) hroom57) _); clear hr57 hC57 hroom57 hi057 hsz57 hc57; have KY57 := Aside0.mk hy57; have KA57 := Aside0.mk hA57; clear hy57 hA57; have KL57 := Aside0.mk (show ((wrap64 ((ji48) + 8)) : Int).toNat ≤ t213.length from by omega); have KM57 := Aside0.mk (show ((ji48) : Int).toNat ≤ ((wrap64 ((ji48) + 8)) : Int).toNat from by omega); replace q57 := eq_true q57; have hcv59 := Kd.C_string (P := Try.prog) (A := A57) (c := c57) Try.underlying49 Try.underlying5 Try.underlying9 (by repeat (first | (with_reducible exact HR234.out) | (with_reducible refine Kd.C_alloc ?_ _) | (with_reducible refine Kd.C_drewN ?_ _) | (with_reducible refine Kd.C_drew ?_) | exact HR234.out)))); try go_wp2_with (first | (go_at_call 32; (with_reducible refine (presidioref1_Num.calls k3 _ _ y221 t225 _ ?side1 ?side2 A38.out).mono ?_); (case side1 => repeat (first | exact (by repeat (first | (with_reducible exact HR224.out) | (with_reducible refine Kd.C_alloc ?_ _) | (with_reducible refine Kd.C_drewN ?_ _) | (with_reducible refine Kd.C_drew ?_) | exact HR224.out)) | (with_reducible refine Kd.C_alloc ?_ _) | (with_reducible refine Kd.C_drewN ?_ _) | (with_reducible refine Kd.C_drew ?_))); (case side2 => exact HC224.out); rintro e w' ⟨rfl, ⟨nd, rfl⟩⟩; (try first | exact ⟨rfl, _, World.drewN_drewN _ _ _⟩ | exact ⟨rfl, _, Eq.trans (World.drewN_drewN _ _ _) (congrArg (World.drewN _) (Nat.add_assoc _ _ _))⟩); have hcz54_0 : wr.cell? ⟨gb212, 0, none⟩ = some (.int .i64 t204) := (blk_cell BK212.out 0).trans rfl; have hcz54_1 : wr.cell? ⟨gb212, 1, none⟩ = some (.int .i64 t205) := (blk_cell BK212.out 1).trans rfl; have hcz54_2 : wr.cell? ⟨gb212, 2, none⟩ = some (.int .i64 t206) := (blk_cell BK212.out 2).trans rfl; have hcz54_3 : wr.cell? ⟨gb212, 3, none⟩ = some (.int .i64 t207) := (blk_cell BK212.out 3).trans rfl; have hcz54_4 : wr.cell? ⟨gb212, 4, none⟩ = some (.slice Ao18 t208.length co18) := (blk_cell BK212.out 4).trans rfl; have hfz54_0 := blk_frozen BK212.out 0; have hfz54_1 := blk_frozen BK212.out 1; have hfz54_2 := blk_frozen BK212.out 2; have hfz54_3 := blk_frozen BK212.out 3; have hfz54_4 := blk_frozen BK212.out 4; have p226 : 0 ≤ ((ji41) : Int) := of_decide_eq_true (by first | (with_reducible assumption) | assumption); have q226 : (ji41) < (t208.length : Int) := of_decide_eq_true (by first | (with_reducible assumption) | assumption); obtain ⟨ad226, e226, hx226_0, hx226_1, hx226_2, hx226_3, hx226_4, hx226_5, hx226_6, hx226_7, hx226_8⟩ := at_T56 (Kd.R_reads' HO_213004.out).2.2 (ji41) p226 q226; cases e226; replace p226 := eq_true p226; replace q226 := eq_true q226; have q55 : ((wrap64 ((ji34) + 8)) : Int) ≤ ((t217.length : Int) : Int) := of_decide_eq_true (by first | (with_reducible assumption) | assumption); obtain ⟨i055, hi055, _, hsz55, _⟩ := info_parts info5; have hroom55 : t217.length ≤ co32 := (Kd.R_reads' HO_9.out).2.1; have hC55 : Kd.C (Kd.int .u8) _ Ao32 t217.length t217 := (Kd.R_reads' HO_9.out).2.2; have ql55 : ((ji34) : Int) ≤ ((wrap64 ((ji34) + 8)) : Int) := of_decide_eq_true (by first | (with_reducible assumption) | assumption); have q055 : (0 : Int) ≤ ((ji34) : Int) := of_decide_eq_true (by first | (with_reducible assumption) | assumption); have hcut55 := cut_mid (P := Try.prog) 49 5 .i64 .i64 Try.underlying49 hi055 1 hsz55 Ao32 t217.length co32 (ji34) (wrap64 ((ji34) + 8)) q055 ql55 q55 hroom55; have hr55 := Kd.C_mid (lo := ((ji34) : Int).toNat) (hi := ((wrap64 ((ji34) + 8)) : Int).toNat) (c := co32) hC55 (by omega) (by omega) hroom55; obtain ⟨A55, hA55⟩ : ∃ A1, A1 = (if co32 = ((ji34) : Int).toNat then Ao32 else (Ao32 : Option Addr).map (·.add (((ji34) : Int).toNat * 1))) := ⟨_, rfl⟩; obtain ⟨c55, hc55⟩ : ∃ c1, c1 = co32 - ((ji34) : Int).toNat := ⟨_, rfl⟩; have hy55 : y227.length = ((wrap64 ((ji34) + 8)) : Int).toNat - ((ji34) : Int).toNat := (by rw [Ny227.out, List.length_drop, List.length_take] <;> omega); rw [show ((t217).take ((wrap64 ((ji34) + 8)) : Int).toNat).drop ((ji34) : Int).toNat = y227 from Ny227.out.symm] at hr55; replace hr55 : Kd.C (Kd.int .u8) _ A55 y227.length y227 := (by rw [hA55]; exact hr55); rw [← hy55, ← hA55, ← hc55] at hcut55; have HR230 := Aside0.mk hr55; have HC230 := Aside0.mk (show y227.length ≤ c55 from by rw [hy55, hc55]; exact Nat.sub_le_sub_right (Nat.le_trans (by omega) hroom55) _); clear hr55 hC55 hroom55 hi055 hsz55 hc55; have KY55 := Aside0.mk hy55; have KA55 := Aside0.mk hA55; clear hy55 hA55; have KL55 := Aside0.mk (show ((wrap64 ((ji34) + 8)) : Int).toNat ≤ t217.length from by omega); have KM55 := Aside0.mk (show ((ji34) : Int).toNat ≤ ((wrap64 ((ji34) + 8)) : Int).toNat from by omega); replace q55 := eq_true q55; have hcv56 := Kd.C_string (P := Try.prog) (A := A55) (c := c55) Try.underlying49 Try.underlying5 Try.underlying9 (by repeat (first | (with_reducible exact HR230.out) | (with_reducible refine Kd.C_alloc ?_ _) | (with_reducible refine Kd.C_drewN ?_ _) | (with_reducible refine Kd.C_drew ?_) | exact HR230.out)); obtain ⟨Ao58, co58, eo58⟩ := Kd.R_slice HO_5.out; subst eo58; have q57 : ((wrap64 ((ji48) + 8)) : Int) ≤ ((t213.length : Int) : Int) := of_decide_eq_true (by first | (with_reducible assumption) | assumption); obtain ⟨i057, hi057, _, hsz57, _⟩ := info_parts info5; have hroom57 : t213.length ≤ co58 := (Kd.R_reads' HO_5.out).2.1; have hC57 : Kd.C (Kd.int .u8) _ Ao58 t213.length t213 := (Kd.R_reads' HO_5.out).2.2; have ql57 : ((ji48) : Int) ≤ ((wrap64 ((ji48) + 8)) : Int) := of_decide_eq_true (by first | (with_reducible assumption) | assumption); have q057 : (0 : Int) ≤ ((ji48) : Int) := of_decide_eq_true (by first | (with_reducible assumption) | assumption); have hcut57 := cut_mid (P := Try.prog) 49 5 .i64 .i64 Try.underlying49 hi057 1 hsz57 Ao58 t213.length co58 (ji48) (wrap64 ((ji48) + 8)) q057 ql57 q57 hroom57; have hr57 := Kd.C_mid (lo := ((ji48) : Int).toNat) (hi := ((wrap64 ((ji48) + 8)) : Int).toNat) (c := co58) hC57 (by omega) (by omega) hroom57; obtain ⟨A57, hA57⟩ : ∃ A1, A1 = (if co58 = ((ji48) : Int).toNat then Ao58 else (Ao58 : Option Addr).map (·.add (((ji48) : Int).toNat * 1))) := ⟨_, rfl⟩; obtain ⟨c57, hc57⟩ : ∃ c1, c1 = co58 - ((ji48) : Int).toNat := ⟨_, rfl⟩; have hy57 : y231.length = ((wrap64 ((ji48) + 8)) : Int).toNat - ((ji48) : Int).toNat := (by rw [Ny231.out, List.length_drop, List.length_take] <;> omega); rw [show ((t213).take ((wrap64 ((ji48) + 8)) : Int).toNat).drop ((ji48) : Int).toNat = y231 from Ny231.out.symm] at hr57; replace hr57 : Kd.C (Kd.int .u8) _ A57 y231.length y231 := (by rw [hA57]; exact hr57); rw [← hy57, ← hA57, ← hc57] at hcut57; have HR234 := Aside0.mk hr57; have HC234 := Aside0.mk (show y231.length ≤ c57 from by rw [hy57, hc57]; exact Nat.sub_le_sub_right (Nat.le_trans (by omega) hroom57) _); clear hr57 hC57 hroom57 hi057 hsz57 hc57; have KY57 := Aside0.mk hy57; have KA57 := Aside0.mk hA57; clear hy57 hA57; have KL57 := Aside0.mk (show ((wrap64 ((ji48) + 8)) : Int).toNat ≤ t213.length from by omega); have KM57 := Aside0.mk (show ((ji48) : Int).toNat ≤ ((wrap64 ((ji48) + 8)) : Int).toNat from by omega); replace q57 := eq_true q57; have hcv59 := Kd.C_string (P := Try.prog) (A := A57) (c := c57) Try.underlying49 Try.underlying5 Try.underlying9 (by repeat (first | (with_reducible exact HR234.out) | (with_reducible refine Kd.C_alloc ?_ _) | (with_reducible refine Kd.C_drewN ?_ _) | (with_reducible refine Kd.C_drew ?_) | exact HR234.out)))))
                                                    go_roundg k3
                                                    case measure => have := HJ9.out; have := HK2.out; have := HK3.out; omega
                                                    case rel => exact ⟨(wrap64 (x11_3 + 1)), (by first | rfl | (simp; done) | (simp [*]; done)), H', ⟨by have := HJ9.out; have := HK2.out; have := HK3.out; omega⟩, ⟨by (with_reducible repeat (first | apply Kd.R_alloc | apply Kd.R_drewN | apply Kd.R_drew)); exact HO_5.out⟩, ⟨by (with_reducible repeat (first | apply Kd.R_alloc | apply Kd.R_drewN | apply Kd.R_drew)); exact HO_9.out⟩, ⟨by (with_reducible repeat (first | apply Kd.R_alloc | apply Kd.R_drewN | apply Kd.R_drew)); exact HO_213004.out⟩, ⟨by (with_reducible repeat (first | refine blk_drewN ?_ _ | refine blk_drew ?_ | refine blk_alloc ?_ _)); exact BK212.out⟩, ⟨by repeat (first | (with_reducible first | exact HB.out | apply below_alloc | apply pw_below_drewN | apply below_drew1 | refine below_set ?_ GE212.out) | exact HB.out)⟩⟩
                                                  · rw [if_neg c52] at H
                                                    have c52b0 : ((strOfNums y227).toList == (strOfNums y231).toList) = false := beq_eq_false_iff_ne.mpr c52
                                                    have c52b1 : ((strOfNums y227).toList != (strOfNums y231).toList) = true := bne_iff_ne.mpr c52
                                                    obtain rfl := Option.some.inj H
                                                    have q60 : ((wrap64 ((ji34) + 2)) : Int) ≤ ((t217.length : Int) : Int) := of_decide_eq_true (by first | (with_reducible assumption) | assumption)
                                                    obtain ⟨i060, hi060, _, hsz60, _⟩ := info_parts info5
                                                    have hroom60 : t217.length ≤ co32 := (Kd.R_reads' HO_9.out).2.1
                                                    have hC60 : Kd.C (Kd.int .u8) _ Ao32 t217.length t217 := (Kd.R_reads' HO_9.out).2.2
                                                    have ql60 : ((ji34) : Int) ≤ ((wrap64 ((ji34) + 2)) : Int) := of_decide_eq_true (by first | (with_reducible assumption) | assumption)
                                                    have q060 : (0 : Int) ≤ ((ji34) : Int) := of_decide_eq_true (by first | (with_reducible assumption) | assumption)
                                                    have hcut60 := cut_mid (P := Try.prog) 49 5 .i64 .i64 Try.underlying49 hi060 1 hsz60 Ao32 t217.length co32 (ji34) (wrap64 ((ji34) + 2)) q060 ql60 q60 hroom60
                                                    have hr60 := Kd.C_mid (lo := ((ji34) : Int).toNat) (hi := ((wrap64 ((ji34) + 2)) : Int).toNat) (c := co32) hC60 (by omega) (by omega) hroom60
                                                    obtain ⟨A60, hA60⟩ : ∃ A1, A1 = (if co32 = ((ji34) : Int).toNat then Ao32 else (Ao32 : Option Addr).map (·.add (((ji34) : Int).toNat * 1))) := ⟨_, rfl⟩
                                                    obtain ⟨c60, hc60⟩ : ∃ c1, c1 = co32 - ((ji34) : Int).toNat := ⟨_, rfl⟩
                                                    have hy60 : y221.length = ((wrap64 ((ji34) + 2)) : Int).toNat - ((ji34) : Int).toNat := (by rw [Ny221.out, List.length_drop, List.length_take] <;> omega)
                                                    rw [show ((t217).take ((wrap64 ((ji34) + 2)) : Int).toNat).drop ((ji34) : Int).toNat = y221 from Ny221.out.symm] at hr60
                                                    replace hr60 : Kd.C (Kd.int .u8) _ A60 y221.length y221 := (by rw [hA60]; exact hr60)
                                                    rw [← hy60, ← hA60, ← hc60] at hcut60
                                                    have HR224 := Aside0.mk hr60
                                                    have HC224 := Aside0.mk (show y221.length ≤ c60 from by rw [hy60, hc60]; exact Nat.sub_le_sub_right (Nat.le_trans (by omega) hroom60) _)
                                                    clear hr60 hC60 hroom60 hi060 hsz60 hc60
                                                    have KY60 := Aside0.mk hy60
                                                    have KA60 := Aside0.mk hA60
                                                    clear hy60 hA60
                                                    have KL60 := Aside0.mk (show ((wrap64 ((ji34) + 2)) : Int).toNat ≤ t217.length from by omega)
                                                    have KM60 := Aside0.mk (show ((ji34) : Int).toNat ≤ ((wrap64 ((ji34) + 2)) : Int).toNat from by omega)
                                                    replace q60 := eq_true q60
                                                    go_wp2_with (first | (go_at_call 32; (with_reducible refine (presidioref1_Num.calls k3 _ _ y221 t225 _ ?side1 ?side2 A38.out).mono ?_); (case side1 => repeat (first | exact (by repeat (first | (with_reducible exact HR224.out) | (with_reducible refine Kd.C_alloc ?_ _) | (with_reducible refine Kd.C_drewN ?_ _) | (with_reducible refine Kd.C_drew ?_) | exact HR224.out)) | (with_reducible refine Kd.C_alloc ?_ _) | (with_reducible refine Kd.C_drewN ?_ _) | (with_reducible refine Kd.C_drew ?_))); (case side2 => exact HC224.out); rintro e w' ⟨rfl, ⟨nd, rfl⟩⟩; (try first | exact ⟨rfl, _, World.drewN_drewN _ _ _⟩ | exact ⟨rfl, _, Eq.trans (World.drewN_drewN _ _ _) (congrArg (World.drewN _) (Nat.add_assoc _ _ _))⟩); have hcz61_0 : wr.cell? ⟨gb212, 0, none⟩ = some (.int .i64 t204) := (blk_cell BK212.out 0).trans rfl; have hcz61_1 : wr.cell? ⟨gb212, 1, none⟩ = some (.int .i64 t205) := (blk_cell BK212.out 1).trans rfl; have hcz61_2 : wr.cell? ⟨gb212, 2, none⟩ = some (.int .i64 t206) := (blk_cell BK212.out 2).trans rfl; have hcz61_3 : wr.cell? ⟨gb212, 3, none⟩ = some (.int .i64 t207) := (blk_cell BK212.out 3).trans rfl; have hcz61_4 : wr.cell? ⟨gb212, 4, none⟩ = some (.slice Ao18 t208.length co18) := (blk_cell BK212.out 4).trans rfl; have hfz61_0 := blk_frozen BK212.out 0; have hfz61_1 := blk_frozen BK212.out 1; have hfz61_2 := blk_frozen BK212.out 2; have hfz61_3 := blk_frozen BK212.out 3; have hfz61_4 := blk_frozen BK212.out 4; have p226 : 0 ≤ ((ji41) : Int) := of_decide_eq_true (by first | (with_reducible assumption) | assumption); have q226 : (ji41) < (t208.length : Int) := of_decide_eq_true (by first | (with_reducible assumption) | assumption); obtain ⟨ad226, e226, hx226_0, hx226_1, hx226_2, hx226_3, hx226_4, hx226_5, hx226_6, hx226_7, hx226_8⟩ := at_T56 (Kd.R_reads' HO_213004.out).2.2 (ji41) p226 q226; cases e226; replace p226 := eq_true p226; replace q226 := eq_true q226; have q62 : ((wrap64 ((ji34) + 8)) : Int) ≤ ((t217.length : Int) : Int) := of_decide_eq_true (by first | (with_reducible assumption) | assumption); obtain ⟨i062, hi062, _, hsz62, _⟩ := info_parts info5; have hroom62 : t217.length ≤ co32 := (Kd.R_reads' HO_9.out).2.1; have hC62 : Kd.C (Kd.int .u8) _ Ao32 t217.length t217 := (Kd.R_reads' HO_9.out).2.2; have ql62 : ((ji34) : Int) ≤ ((wrap64 ((ji34) + 8)) : Int) := of_decide_eq_true (by first | (with_reducible assumption) | assumption); have q062 : (0 : Int) ≤ ((ji34) : Int) := of_decide_eq_true (by first | (with_reducible assumption) | assumption); have hcut62 := cut_mid (P := Try.prog) 49 5 .i64 .i64 Try.underlying49 hi062 1 hsz62 Ao32 t217.length co32 (ji34) (wrap64 ((ji34) + 8)) q062 ql62 q62 hroom62; have hr62 := Kd.C_mid (lo := ((ji34) : Int).toNat) (hi := ((wrap64 ((ji34) + 8)) : Int).toNat) (c := co32) hC62 (by omega) (by omega) hroom62; obtain ⟨A62, hA62⟩ : ∃ A1, A1 = (if co32 = ((ji34) : Int).toNat then Ao32 else (Ao32 : Option Addr).map (·.add (((ji34) : Int).toNat * 1))) := ⟨_, rfl⟩; obtain ⟨c62, hc62⟩ : ∃ c1, c1 = co32 - ((ji34) : Int).toNat := ⟨_, rfl⟩; have hy62 : y227.length = ((wrap64 ((ji34) + 8)) : Int).toNat - ((ji34) : Int).toNat := (by rw [Ny227.out, List.length_drop, List.length_take] <;> omega); rw [show ((t217).take ((wrap64 ((ji34) + 8)) : Int).toNat).drop ((ji34) : Int).toNat = y227 from Ny227.out.symm] at hr62; replace hr62 : Kd.C (Kd.int .u8) _ A62 y227.length y227 := (by rw [hA62]; exact hr62); rw [← hy62, ← hA62, ← hc62] at hcut62; have HR230 := Aside0.mk hr62; have HC230 := Aside0.mk (show y227.length ≤ c62 from by rw [hy62, hc62]; exact Nat.sub_le_sub_right (Nat.le_trans (by omega) hroom62) _); clear hr62 hC62 hroom62 hi062 hsz62 hc62; have KY62 := Aside0.mk hy62; have KA62 := Aside0.mk hA62; clear hy62 hA62; have KL62 := Aside0.mk (show ((wrap64 ((ji34) + 8)) : Int).toNat ≤ t217.length from by omega); have KM62 := Aside0.mk (show ((ji34) : Int).toNat ≤ ((wrap64 ((ji34) + 8)) : Int).toNat from by omega); replace q62 := eq_true q62; have hcv63 := Kd.C_string (P := Try.prog) (A := A62) (c := c62) Try.underlying49 Try.underlying5 Try.underlying9 (by repeat (first | (with_reducible exact HR230.out) | (with_reducible refine Kd.C_alloc ?_ _) | (with_reducible refine Kd.C_drewN ?_ _) | (with_reducible refine Kd.C_drew ?_) | exact HR230.out)); obtain ⟨Ao65, co65, eo65⟩ := Kd.R_slice HO_5.out; subst eo65; have q64 : ((wrap64 ((ji48) + 8)) : Int) ≤ ((t213.length : Int) : Int) := of_decide_eq_true (by first | (with_reducible assumption) | assumption); obtain ⟨i064, hi064, _, hsz64, _⟩ := info_parts info5; have hroom64 : t213.length ≤ co65 := (Kd.R_reads' HO_5.out).2.1; have hC64 : Kd.C (Kd.int .u8) _ Ao65 t213.length t213 := (Kd.R_reads' HO_5.out).2.2; have ql64 : ((ji48) : Int) ≤ ((wrap64 ((ji48) + 8)) : Int) := of_decide_eq_true (by first | (with_reducible assumption) | assumption); have q064 : (0 : Int) ≤ ((ji48) : Int) := of_decide_eq_true (by first | (with_reducible assumption) | assumption); have hcut64 := cut_mid (P := Try.prog) 49 5 .i64 .i64 Try.underlying49 hi064 1 hsz64 Ao65 t213.length co65 (ji48) (wrap64 ((ji48) + 8)) q064 ql64 q64 hroom64; have hr64 := Kd.C_mid (lo := ((ji48) : Int).toNat) (hi := ((wrap64 ((ji48) + 8)) : Int).toNat) (c := co65) hC64 (by omega) (by omega) hroom64; obtain ⟨A64, hA64⟩ : ∃ A1, A1 = (if co65 = ((ji48) : Int).toNat then Ao65 else (Ao65 : Option Addr).map (·.add (((ji48) : Int).toNat * 1))) := ⟨_, rfl⟩; obtain ⟨c64, hc64⟩ : ∃ c1, c1 = co65 - ((ji48) : Int).toNat := ⟨_, rfl⟩; have hy64 : y231.length = ((wrap64 ((ji48) + 8)) : Int).toNat - ((ji48) : Int).toNat := (by rw [Ny231.out, List.length_drop, List.length_take] <;> omega); rw [show ((t213).take ((wrap64 ((ji48) + 8)) : Int).toNat).drop ((ji48) : Int).toNat = y231 from Ny231.out.symm] at hr64; replace hr64 : Kd.C (Kd.int .u8) _ A64 y231.length y231 := (by rw [hA64]; exact hr64); rw [← hy64, ← hA64, ← hc64] at hcut64; have HR234 := Aside0.mk hr64; have HC234 := Aside0.mk (show y231.length ≤ c64 from by rw [hy64, hc64]; exact Nat.sub_le_sub_right (Nat.le_trans (by omega) hroom64) _); clear hr64 hC64 hroom64 hi064 hsz64 hc64; have KY64 := Aside0.mk hy64; have KA64 := Aside0.mk hA64; clear hy64 hA64; have KL64 := Aside0.mk (show ((wrap64 ((ji48) + 8)) : Int).toNat ≤ t213.length from by omega); have KM64 := Aside0.mk (show ((ji48) : Int).toNat ≤ ((wrap64 ((ji48) + 8)) : Int).toNat from by omega); replace q64 := eq_true q64; have hcv66 := Kd.C_string (P := Try.prog) (A := A64) (c := c64) Try.underlying49 Try.underlying5 Try.underlying9 (by repeat (first | (with_reducible exact HR234.out) | (with_reducible refine Kd.C_alloc ?_ _) | (with_reducible refine Kd.C_drewN ?_ _) | (with_reducible refine Kd.C_drew ?_) | exact HR234.out))))
                                                    have hwq0_ := i64_w ((ji34) + 8)
                                                    have hwq1_ := i64_w ((ji48) + 8)
                                                    have hcvq63_ := fun m_ => Kd.C_string (P := Try.prog) (A := A62) (c := c62) Try.underlying49 Try.underlying5 Try.underlying9 (Kd.C_drewN HR230.out m_)
                                                    have hcvq66_ := fun m_ => Kd.C_string (P := Try.prog) (A := A64) (c := c64) Try.underlying49 Try.underlying5 Try.underlying9 (Kd.C_drewN HR234.out m_)
                                                    repeat (go_quiet (first | (go_at_call 32; (with_reducible refine (presidioref1_Num.calls k3 _ _ y221 t225 _ ?side1 ?side2 A38.out).mono ?_); (case side1 => repeat (first | exact (by repeat (first | (with_reducible exact HR224.out) | (with_reducible refine Kd.C_alloc ?_ _) | (with_reducible refine Kd.C_drewN ?_ _) | (with_reducible refine Kd.C_drew ?_) | exact HR224.out)) | (with_reducible refine Kd.C_alloc ?_ _) | (with_reducible refine Kd.C_drewN ?_ _) | (with_reducible refine Kd.C_drew ?_))); (case side2 => exact HC224.out); rintro e w' ⟨rfl, ⟨nd, rfl⟩⟩; (try first | exact ⟨rfl, _, World.drewN_drewN _ _ _⟩ | exact ⟨rfl, _, Eq.trans (World.drewN_drewN _ _ _) (congrArg (World.drewN _) (Nat.add_assoc _ _ _))⟩); have hcz61_0 : wr.cell? ⟨gb212, 0, none⟩ = some (.int .i64 t204) := (blk_cell BK212.out 0).trans rfl; have hcz61_1 : wr.cell? ⟨gb212, 1, none⟩ = some (.int .i64 t205) := (blk_cell BK212.out 1).trans rfl; have hcz61_2 : wr.cell? ⟨gb212, 2, none⟩ = some (.int .i64 t206) := (blk_cell BK212.out 2).trans rfl; have hcz61_3 : wr.cell? ⟨gb212, 3, none⟩ = some (.int .i64 t207) := (blk_cell BK212.out 3).trans rfl; have hcz61_4 : wr.cell? ⟨gb212, 4, none⟩ = some (.slice Ao18 t208.length co18) := (blk_cell BK212.out 4).trans rfl; have hfz61_0 := blk_frozen BK212.out 0; have hfz61_1 := blk_frozen BK212.out 1; have hfz61_2 := blk_frozen BK212.out 2; have hfz61_3 := blk_frozen BK212.out 3; have hfz61_4 := blk_frozen BK212.out 4; have p226 : 0 ≤ ((ji41) : Int) := of_decide_eq_true (by first | (with_reducible assumption) | assumption); have q226 : (ji41) < (t208.length : Int) := of_decide_eq_true (by first | (with_reducible assumption) | assumption); obtain ⟨ad226, e226, hx226_0, hx226_1, hx226_2, hx226_3, hx226_4, hx226_5, hx226_6, hx226_7, hx226_8⟩ := at_T56 (Kd.R_reads' HO_213004.out).2.2 (ji41) p226 q226; cases e226; replace p226 := eq_true p226; replace q226 := eq_true q226; have q62 : ((wrap64 ((ji34) + 8)) : Int) ≤ ((t217.length : Int) : Int) := of_decide_eq_true (by first | (with_reducible assumption) | assumption); obtain ⟨i062, hi062, _, hsz62, _⟩ := info_parts info5; have hroom62 : t217.length ≤ co32 := (Kd.R_reads' HO_9.out).2.1; have hC62 : Kd.C (Kd.int .u8) _ Ao32 t217.length t217 := (Kd.R_reads' HO_9.out).2.2; have ql62 : ((ji34) : Int) ≤ ((wrap64 ((ji34) + 8)) : Int) := of_decide_eq_true (by first | (with_reducible assumption) | assumption); have q062 : (0 : Int) ≤ ((ji34) : Int) := of_decide_eq_true (by first | (with_reducible assumption) | assumption); have hcut62 := cut_mid (P := Try.prog) 49 5 .i64 .i64 Try.underlying49 hi062 1 hsz62 Ao32 t217.length co32 (ji34) (wrap64 ((ji34) + 8)) q062 ql62 q62 hroom62; have hr62 := Kd.C_mid (lo := ((ji34) : Int).toNat) (hi := ((wrap64 ((ji34) + 8)) : Int).toNat) (c := co32) hC62 (by omega) (by omega) hroom62; obtain ⟨A62, hA62⟩ : ∃ A1, A1 = (if co32 = ((ji34) : Int).toNat then Ao32 else (Ao32 : Option Addr).map (·.add (((ji34) : Int).toNat * 1))) := ⟨_, rfl⟩; obtain ⟨c62, hc62⟩ : ∃ c1, c1 = co32 - ((ji34) : Int).toNat := ⟨_, rfl⟩; have hy62 : y227.length = ((wrap64 ((ji34) + 8)) : Int).toNat - ((ji34) : Int).toNat := (by rw [Ny227.out, List.length_drop, List.length_take] <;> omega); rw [show ((t217).take ((wrap64 ((ji34) + 8)) : Int).toNat).drop ((ji34) : Int).toNat = y227 from Ny227.out.symm] at hr62; replace hr62 : Kd.C (Kd.int .u8) _ A62 y227.length y227 := (by rw [hA62]; exact hr62); rw [← hy62, ← hA62, ← hc62] at hcut62; have HR230 := Aside0.mk hr62; have HC230 := Aside0.mk (show y227.length ≤ c62 from by rw [hy62, hc62]; exact Nat.sub_le_sub_right (Nat.le_trans (by omega) hroom62) _); clear hr62 hC62 hroom62 hi062 hsz62 hc62; have KY62 := Aside0.mk hy62; have KA62 := Aside0.mk hA62; clear hy62 hA62; have KL62 := Aside0.mk (show ((wrap64 ((ji34) + 8)) : Int).toNat ≤ t217.length from by omega); have KM62 := Aside0.mk (show ((ji34) : Int).toNat ≤ ((wrap64 ((ji34) + 8)) : Int).toNat from by omega); replace q62 := eq_true q62; have hcv63 := Kd.C_string (P := Try.prog) (A := A62) (c := c62) Try.underlying49 Try.underlying5 Try.underlying9 (by repeat (first | (with_reducible exact HR230.out) | (with_reducible refine Kd.C_alloc ?_ _) | (with_reducible refine Kd.C_drewN ?_ _) | (with_reducible refine Kd.C_drew ?_) | exact HR230.out)); obtain ⟨Ao65, co65, eo65⟩ := Kd.R_slice HO_5.out; subst eo65; have q64 : ((wrap64 ((ji48) + 8)) : Int) ≤ ((t213.length : Int) : Int) := of_decide_eq_true (by first | (with_reducible assumption) | assumption); obtain ⟨i064, hi064, _, hsz64, _⟩ := info_parts info5; have hroom64 : t213.length ≤ co65 := (Kd.R_reads' HO_5.out).2.1; have hC64 : Kd.C (Kd.int .u8) _ Ao65 t213.length t213 := (Kd.R_reads' HO_5.out).2.2; have ql64 : ((ji48) : Int) ≤ ((wrap64 ((ji48) + 8)) : Int) := of_decide_eq_true (by first | (with_reducible assumption) | assumption); have q064 : (0 : Int) ≤ ((ji48) : Int) := of_decide_eq_true (by first | (with_reducible assumption) | assumption); have hcut64 := cut_mid (P := Try.prog) 49 5 .i64 .i64 Try.underlying49 hi064 1 hsz64 Ao65 t213.length co65 (ji48) (wrap64 ((ji48) + 8)) q064 ql64 q64 hroom64; have hr64 := Kd.C_mid (lo := ((ji48) : Int).toNat) (hi := ((wrap64 ((ji48) + 8)) : Int).toNat) (c := co65) hC64 (by omega) (by omega) hroom64; obtain ⟨A64, hA64⟩ : ∃ A1, A1 = (if co65 = ((ji48) : Int).toNat then Ao65 else (Ao65 : Option Addr).map (·.add (((ji48) : Int).toNat * 1))) := ⟨_, rfl⟩; obtain ⟨c64, hc64⟩ : ∃ c1, c1 = co65 - ((ji48) : Int).toNat := ⟨_, rfl⟩; have hy64 : y231.length = ((wrap64 ((ji48) + 8)) : Int).toNat - ((ji48) : Int).toNat := (by rw [Ny231.out, List.length_drop, List.length_take] <;> omega); rw [show ((t213).take ((wrap64 ((ji48) + 8)) : Int).toNat).drop ((ji48) : Int).toNat = y231 from Ny231.out.symm] at hr64; replace hr64 : Kd.C (Kd.int .u8) _ A64 y231.length y231 := (by rw [hA64]; exact hr64); rw [← hy64, ← hA64, ← hc64] at hcut64; have HR234 := Aside0.mk hr64; have HC234 := Aside0.mk (show y231.length ≤ c64 from by rw [hy64, hc64]; exact Nat.sub_le_sub_right (Nat.le_trans (by omega) hroom64) _); clear hr64 hC64 hroom64 hi064 hsz64 hc64; have KY64 := Aside0.mk hy64; have KA64 := Aside0.mk hA64; clear hy64 hA64; have KL64 := Aside0.mk (show ((wrap64 ((ji48) + 8)) : Int).toNat ≤ t213.length from by omega); have KM64 := Aside0.mk (show ((ji48) : Int).toNat ≤ ((wrap64 ((ji48) + 8)) : Int).toNat from by omega); replace q64 := eq_true q64; have hcv66 := Kd.C_string (P := Try.prog) (A := A64) (c := c64) Try.underlying49 Try.underlying5 Try.underlying9 (by repeat (first | (with_reducible exact HR234.out) | (with_reducible refine Kd.C_alloc ?_ _) | (with_reducible refine Kd.C_drewN ?_ _) | (with_reducible refine Kd.C_drew ?_) | exact HR234.out)))); try go_wp2_with (first | (go_at_call 32; (with_reducible refine (presidioref1_Num.calls k3 _ _ y221 t225 _ ?side1 ?side2 A38.out).mono ?_); (case side1 => repeat (first | exact (by repeat (first | (with_reducible exact HR224.out) | (with_reducible refine Kd.C_alloc ?_ _) | (with_reducible refine Kd.C_drewN ?_ _) | (with_reducible refine Kd.C_drew ?_) | exact HR224.out)) | (with_reducible refine Kd.C_alloc ?_ _) | (with_reducible refine Kd.C_drewN ?_ _) | (with_reducible refine Kd.C_drew ?_))); (case side2 => exact HC224.out); rintro e w' ⟨rfl, ⟨nd, rfl⟩⟩; (try first | exact ⟨rfl, _, World.drewN_drewN _ _ _⟩ | exact ⟨rfl, _, Eq.trans (World.drewN_drewN _ _ _) (congrArg (World.drewN _) (Nat.add_assoc _ _ _))⟩); have hcz61_0 : wr.cell? ⟨gb212, 0, none⟩ = some (.int .i64 t204) := (blk_cell BK212.out 0).trans rfl; have hcz61_1 : wr.cell? ⟨gb212, 1, none⟩ = some (.int .i64 t205) := (blk_cell BK212.out 1).trans rfl; have hcz61_2 : wr.cell? ⟨gb212, 2, none⟩ = some (.int .i64 t206) := (blk_cell BK212.out 2).trans rfl; have hcz61_3 : wr.cell? ⟨gb212, 3, none⟩ = some (.int .i64 t207) := (blk_cell BK212.out 3).trans rfl; have hcz61_4 : wr.cell? ⟨gb212, 4, none⟩ = some (.slice Ao18 t208.length co18) := (blk_cell BK212.out 4).trans rfl; have hfz61_0 := blk_frozen BK212.out 0; have hfz61_1 := blk_frozen BK212.out 1; have hfz61_2 := blk_frozen BK212.out 2; have hfz61_3 := blk_frozen BK212.out 3; have hfz61_4 := blk_frozen BK212.out 4; have p226 : 0 ≤ ((ji41) : Int) := of_decide_eq_true (by first | (with_reducible assumption) | assumption); have q226 : (ji41) < (t208.length : Int) := of_decide_eq_true (by first | (with_reducible assumption) | assumption); obtain ⟨ad226, e226, hx226_0, hx226_1, hx226_2, hx226_3, hx226_4, hx226_5, hx226_6, hx226_7, hx226_8⟩ := at_T56 (Kd.R_reads' HO_213004.out).2.2 (ji41) p226 q226; cases e226; replace p226 := eq_true p226; replace q226 := eq_true q226; have q62 : ((wrap64 ((ji34) + 8)) : Int) ≤ ((t217.length : Int) : Int) := of_decide_eq_true (by first | (with_reducible assumption) | assumption); obtain ⟨i062, hi062, _, hsz62, _⟩ := info_parts info5; have hroom62 : t217.length ≤ co32 := (Kd.R_reads' HO_9.out).2.1; have hC62 : Kd.C (Kd.int .u8) _ Ao32 t217.length t217 := (Kd.R_reads' HO_9.out).2.2; have ql62 : ((ji34) : Int) ≤ ((wrap64 ((ji34) + 8)) : Int) := of_decide_eq_true (by first | (with_reducible assumption) | assumption); have q062 : (0 : Int) ≤ ((ji34) : Int) := of_decide_eq_true (by first | (with_reducible assumption) | assumption); have hcut62 := cut_mid (P := Try.prog) 49 5 .i64 .i64 Try.underlying49 hi062 1 hsz62 Ao32 t217.length co32 (ji34) (wrap64 ((ji34) + 8)) q062 ql62 q62 hroom62; have hr62 := Kd.C_mid (lo := ((ji34) : Int).toNat) (hi := ((wrap64 ((ji34) + 8)) : Int).toNat) (c := co32) hC62 (by omega) (by omega) hroom62; obtain ⟨A62, hA62⟩ : ∃ A1, A1 = (if co32 = ((ji34) : Int).toNat then Ao32 else (Ao32 : Option Addr).map (·.add (((ji34) : Int).toNat * 1))) := ⟨_, rfl⟩; obtain ⟨c62, hc62⟩ : ∃ c1, c1 = co32 - ((ji34) : Int).toNat := ⟨_, rfl⟩; have hy62 : y227.length = ((wrap64 ((ji34) + 8)) : Int).toNat - ((ji34) : Int).toNat := (by rw [Ny227.out, List.length_drop, List.length_take] <;> omega); rw [show ((t217).take ((wrap64 ((ji34) + 8)) : Int).toNat).drop ((ji34) : Int).toNat = y227 from Ny227.out.symm] at hr62; replace hr62 : Kd.C (Kd.int .u8) _ A62 y227.length y227 := (by rw [hA62]; exact hr62); rw [← hy62, ← hA62, ← hc62] at hcut62; have HR230 := Aside0.mk hr62; have HC230 := Aside0.mk (show y227.length ≤ c62 from by rw [hy62, hc62]; exact Nat.sub_le_sub_right (Nat.le_trans (by omega) hroom62) _); clear hr62 hC62 hroom62 hi062 hsz62 hc62; have KY62 := Aside0.mk hy62; have KA62 := Aside0.mk hA62; clear hy62 hA62; have KL62 := Aside0.mk (show ((wrap64 ((ji34) + 8)) : Int).toNat ≤ t217.length from by omega); have KM62 := Aside0.mk (show ((ji34) : Int).toNat ≤ ((wrap64 ((ji34) + 8)) : Int).toNat from by omega); replace q62 := eq_true q62; have hcv63 := Kd.C_string (P := Try.prog) (A := A62) (c := c62) Try.underlying49 Try.underlying5 Try.underlying9 (by repeat (first | (with_reducible exact HR230.out) | (with_reducible refine Kd.C_alloc ?_ _) | (with_reducible refine Kd.C_drewN ?_ _) | (with_reducible refine Kd.C_drew ?_) | exact HR230.out)); obtain ⟨Ao65, co65, eo65⟩ := Kd.R_slice HO_5.out; subst eo65; have q64 : ((wrap64 ((ji48) + 8)) : Int) ≤ ((t213.length : Int) : Int) := of_decide_eq_true (by first | (with_reducible assumption) | assumption); obtain ⟨i064, hi064, _, hsz64, _⟩ := info_parts info5; have hroom64 : t213.length ≤ co65 := (Kd.R_reads' HO_5.out).2.1; have hC64 : Kd.C (Kd.int .u8) _ Ao65 t213.length t213 := (Kd.R_reads' HO_5.out).2.2; have ql64 : ((ji48) : Int) ≤ ((wrap64 ((ji48) + 8)) : Int) := of_decide_eq_true (by first | (with_reducible assumption) | assumption); have q064 : (0 : Int) ≤ ((ji48) : Int) := of_decide_eq_true (by first | (with_reducible assumption) | assumption); have hcut64 := cut_mid (P := Try.prog) 49 5 .i64 .i64 Try.underlying49 hi064 1 hsz64 Ao65 t213.length co65 (ji48) (wrap64 ((ji48) + 8)) q064 ql64 q64 hroom64; have hr64 := Kd.C_mid (lo := ((ji48) : Int).toNat) (hi := ((wrap64 ((ji48) + 8)) : Int).toNat) (c := co65) hC64 (by omega) (by omega) hroom64; obtain ⟨A64, hA64⟩ : ∃ A1, A1 = (if co65 = ((ji48) : Int).toNat then Ao65 else (Ao65 : Option Addr).map (·.add (((ji48) : Int).toNat * 1))) := ⟨_, rfl⟩; obtain ⟨c64, hc64⟩ : ∃ c1, c1 = co65 - ((ji48) : Int).toNat := ⟨_, rfl⟩; have hy64 : y231.length = ((wrap64 ((ji48) + 8)) : Int).toNat - ((ji48) : Int).toNat := (by rw [Ny231.out, List.length_drop, List.length_take] <;> omega); rw [show ((t213).take ((wrap64 ((ji48) + 8)) : Int).toNat).drop ((ji48) : Int).toNat = y231 from Ny231.out.symm] at hr64; replace hr64 : Kd.C (Kd.int .u8) _ A64 y231.length y231 := (by rw [hA64]; exact hr64); rw [← hy64, ← hA64, ← hc64] at hcut64; have HR234 := Aside0.mk hr64; have HC234 := Aside0.mk (show y231.length ≤ c64 from by rw [hy64, hc64]; exact Nat.sub_le_sub_right (Nat.le_trans (by omega) hroom64) _); clear hr64 hC64 hroom64 hi064 hsz64 hc64; have KY64 := Aside0.mk hy64; have KA64 := Aside0.mk hA64; clear hy64 hA64; have KL64 := Aside0.mk (show ((wrap64 ((ji48) + 8)) : Int).toNat ≤ t213.length from by omega); have KM64 := Aside0.mk (show ((ji48) : Int).toNat ≤ ((wrap64 ((ji48) + 8)) : Int).toNat from by omega); replace q64 := eq_true q64; have hcv66 := Kd.C_string (P := Try.prog) (A := A64) (c := c64) Try.underlying49 Try.underlying5 Try.underlying9 (by repeat (first | (with_reducible exact HR234.out) | (with_reducible refine Kd.C_alloc ?_ _) | (with_reducible refine Kd.C_drewN ?_ _) | (with_reducible refine Kd.C_drew ?_) | exact HR234.out)))))
                                                    go_ret
                                                    exact ⟨by first | rfl | (simp [errW_none, errW_some] <;> rfl) | (simp only [← hji34, ← hji41, ← hji48]; first | rfl | (simp [errW_none, errW_some] <;> rfl)) | (simp [*, errW_none, errW_some] <;> rfl), by repeat (first | (with_reducible first | exact HB.out | apply below_alloc | apply pw_below_drewN | apply below_drew1 | refine below_set ?_ GE212.out) | exact HB.out)⟩
                                                · rw [if_neg c51] at H
                                                  exact absurd H (by simp)
                                              · rw [if_neg c50] at H
                                                exact absurd H (by simp)
                                            · rw [if_neg c49] at H
                                              exact absurd H (by simp)
                                          · rw [if_neg c47] at H
                                            exact absurd H (by simp)
                                        · rw [if_neg c46] at H
                                          exact absurd H (by simp)
                                      · rw [if_neg c44] at H
                                        have c44b0 : (((rd_T56 t208 (ji41)).f5) == x8_2) = false := beq_eq_false_iff_ne.mpr c44
                                        have c44b1 : (((rd_T56 t208 (ji41)).f5) != x8_2) = true := bne_iff_ne.mpr c44
                                        obtain rfl := Option.some.inj H
                                        have q67 : ((wrap64 ((ji34) + 2)) : Int) ≤ ((t217.length : Int) : Int) := of_decide_eq_true (by first | (with_reducible assumption) | assumption)
                                        obtain ⟨i067, hi067, _, hsz67, _⟩ := info_parts info5
                                        have hroom67 : t217.length ≤ co32 := (Kd.R_reads' HO_9.out).2.1
                                        have hC67 : Kd.C (Kd.int .u8) _ Ao32 t217.length t217 := (Kd.R_reads' HO_9.out).2.2
                                        have ql67 : ((ji34) : Int) ≤ ((wrap64 ((ji34) + 2)) : Int) := of_decide_eq_true (by first | (with_reducible assumption) | assumption)
                                        have q067 : (0 : Int) ≤ ((ji34) : Int) := of_decide_eq_true (by first | (with_reducible assumption) | assumption)
                                        have hcut67 := cut_mid (P := Try.prog) 49 5 .i64 .i64 Try.underlying49 hi067 1 hsz67 Ao32 t217.length co32 (ji34) (wrap64 ((ji34) + 2)) q067 ql67 q67 hroom67
                                        have hr67 := Kd.C_mid (lo := ((ji34) : Int).toNat) (hi := ((wrap64 ((ji34) + 2)) : Int).toNat) (c := co32) hC67 (by omega) (by omega) hroom67
                                        obtain ⟨A67, hA67⟩ : ∃ A1, A1 = (if co32 = ((ji34) : Int).toNat then Ao32 else (Ao32 : Option Addr).map (·.add (((ji34) : Int).toNat * 1))) := ⟨_, rfl⟩
                                        obtain ⟨c67, hc67⟩ : ∃ c1, c1 = co32 - ((ji34) : Int).toNat := ⟨_, rfl⟩
                                        have hy67 : y221.length = ((wrap64 ((ji34) + 2)) : Int).toNat - ((ji34) : Int).toNat := (by rw [Ny221.out, List.length_drop, List.length_take] <;> omega)
                                        rw [show ((t217).take ((wrap64 ((ji34) + 2)) : Int).toNat).drop ((ji34) : Int).toNat = y221 from Ny221.out.symm] at hr67
                                        replace hr67 : Kd.C (Kd.int .u8) _ A67 y221.length y221 := (by rw [hA67]; exact hr67)
                                        rw [← hy67, ← hA67, ← hc67] at hcut67
                                        have HR224 := Aside0.mk hr67
                                        have HC224 := Aside0.mk (show y221.length ≤ c67 from by rw [hy67, hc67]; exact Nat.sub_le_sub_right (Nat.le_trans (by omega) hroom67) _)
                                        clear hr67 hC67 hroom67 hi067 hsz67 hc67
                                        have KY67 := Aside0.mk hy67
                                        have KA67 := Aside0.mk hA67
                                        clear hy67 hA67
                                        have KL67 := Aside0.mk (show ((wrap64 ((ji34) + 2)) : Int).toNat ≤ t217.length from by omega)
                                        have KM67 := Aside0.mk (show ((ji34) : Int).toNat ≤ ((wrap64 ((ji34) + 2)) : Int).toNat from by omega)
                                        replace q67 := eq_true q67
                                        go_wp2_with (first | (go_at_call 32; (with_reducible refine (presidioref1_Num.calls k3 _ _ y221 t225 _ ?side1 ?side2 A38.out).mono ?_); (case side1 => repeat (first | exact (by repeat (first | (with_reducible exact HR224.out) | (with_reducible refine Kd.C_alloc ?_ _) | (with_reducible refine Kd.C_drewN ?_ _) | (with_reducible refine Kd.C_drew ?_) | exact HR224.out)) | (with_reducible refine Kd.C_alloc ?_ _) | (with_reducible refine Kd.C_drewN ?_ _) | (with_reducible refine Kd.C_drew ?_))); (case side2 => exact HC224.out); rintro e w' ⟨rfl, ⟨nd, rfl⟩⟩; (try first | exact ⟨rfl, _, World.drewN_drewN _ _ _⟩ | exact ⟨rfl, _, Eq.trans (World.drewN_drewN _ _ _) (congrArg (World.drewN _) (Nat.add_assoc _ _ _))⟩); have hcz68_0 : wr.cell? ⟨gb212, 0, none⟩ = some (.int .i64 t204) := (blk_cell BK212.out 0).trans rfl; have hcz68_1 : wr.cell? ⟨gb212, 1, none⟩ = some (.int .i64 t205) := (blk_cell BK212.out 1).trans rfl; have hcz68_2 : wr.cell? ⟨gb212, 2, none⟩ = some (.int .i64 t206) := (blk_cell BK212.out 2).trans rfl; have hcz68_3 : wr.cell? ⟨gb212, 3, none⟩ = some (.int .i64 t207) := (blk_cell BK212.out 3).trans rfl; have hcz68_4 : wr.cell? ⟨gb212, 4, none⟩ = some (.slice Ao18 t208.length co18) := (blk_cell BK212.out 4).trans rfl; have hfz68_0 := blk_frozen BK212.out 0; have hfz68_1 := blk_frozen BK212.out 1; have hfz68_2 := blk_frozen BK212.out 2; have hfz68_3 := blk_frozen BK212.out 3; have hfz68_4 := blk_frozen BK212.out 4; have p226 : 0 ≤ ((ji41) : Int) := of_decide_eq_true (by first | (with_reducible assumption) | assumption); have q226 : (ji41) < (t208.length : Int) := of_decide_eq_true (by first | (with_reducible assumption) | assumption); obtain ⟨ad226, e226, hx226_0, hx226_1, hx226_2, hx226_3, hx226_4, hx226_5, hx226_6, hx226_7, hx226_8⟩ := at_T56 (Kd.R_reads' HO_213004.out).2.2 (ji41) p226 q226; cases e226; replace p226 := eq_true p226; replace q226 := eq_true q226))
                                        repeat (go_quiet (first | (go_at_call 32; (with_reducible refine (presidioref1_Num.calls k3 _ _ y221 t225 _ ?side1 ?side2 A38.out).mono ?_); (case side1 => repeat (first | exact (by repeat (first | (with_reducible exact HR224.out) | (with_reducible refine Kd.C_alloc ?_ _) | (with_reducible refine Kd.C_drewN ?_ _) | (with_reducible refine Kd.C_drew ?_) | exact HR224.out)) | (with_reducible refine Kd.C_alloc ?_ _) | (with_reducible refine Kd.C_drewN ?_ _) | (with_reducible refine Kd.C_drew ?_))); (case side2 => exact HC224.out); rintro e w' ⟨rfl, ⟨nd, rfl⟩⟩; (try first | exact ⟨rfl, _, World.drewN_drewN _ _ _⟩ | exact ⟨rfl, _, Eq.trans (World.drewN_drewN _ _ _) (congrArg (World.drewN _) (Nat.add_assoc _ _ _))⟩); have hcz68_0 : wr.cell? ⟨gb212, 0, none⟩ = some (.int .i64 t204) := (blk_cell BK212.out 0).trans rfl; have hcz68_1 : wr.cell? ⟨gb212, 1, none⟩ = some (.int .i64 t205) := (blk_cell BK212.out 1).trans rfl; have hcz68_2 : wr.cell? ⟨gb212, 2, none⟩ = some (.int .i64 t206) := (blk_cell BK212.out 2).trans rfl; have hcz68_3 : wr.cell? ⟨gb212, 3, none⟩ = some (.int .i64 t207) := (blk_cell BK212.out 3).trans rfl; have hcz68_4 : wr.cell? ⟨gb212, 4, none⟩ = some (.slice Ao18 t208.length co18) := (blk_cell BK212.out 4).trans rfl; have hfz68_0 := blk_frozen BK212.out 0; have hfz68_1 := blk_frozen BK212.out 1; have hfz68_2 := blk_frozen BK212.out 2; have hfz68_3 := blk_frozen BK212.out 3; have hfz68_4 := blk_frozen BK212.out 4; have p226 : 0 ≤ ((ji41) : Int) := of_decide_eq_true (by first | (with_reducible assumption) | assumption); have q226 : (ji41) < (t208.length : Int) := of_decide_eq_true (by first | (with_reducible assumption) | assumption); obtain ⟨ad226, e226, hx226_0, hx226_1, hx226_2, hx226_3, hx226_4, hx226_5, hx226_6, hx226_7, hx226_8⟩ := at_T56 (Kd.R_reads' HO_213004.out).2.2 (ji41) p226 q226; cases e226; replace p226 := eq_true p226; replace q226 := eq_true q226)); try go_wp2_with (first | (go_at_call 32; (with_reducible refine (presidioref1_Num.calls k3 _ _ y221 t225 _ ?side1 ?side2 A38.out).mono ?_); (case side1 => repeat (first | exact (by repeat (first | (with_reducible exact HR224.out) | (with_reducible refine Kd.C_alloc ?_ _) | (with_reducible refine Kd.C_drewN ?_ _) | (with_reducible refine Kd.C_drew ?_) | exact HR224.out)) | (with_reducible refine Kd.C_alloc ?_ _) | (with_reducible refine Kd.C_drewN ?_ _) | (with_reducible refine Kd.C_drew ?_))); (case side2 => exact HC224.out); rintro e w' ⟨rfl, ⟨nd, rfl⟩⟩; (try first | exact ⟨rfl, _, World.drewN_drewN _ _ _⟩ | exact ⟨rfl, _, Eq.trans (World.drewN_drewN _ _ _) (congrArg (World.drewN _) (Nat.add_assoc _ _ _))⟩); have hcz68_0 : wr.cell? ⟨gb212, 0, none⟩ = some (.int .i64 t204) := (blk_cell BK212.out 0).trans rfl; have hcz68_1 : wr.cell? ⟨gb212, 1, none⟩ = some (.int .i64 t205) := (blk_cell BK212.out 1).trans rfl; have hcz68_2 : wr.cell? ⟨gb212, 2, none⟩ = some (.int .i64 t206) := (blk_cell BK212.out 2).trans rfl; have hcz68_3 : wr.cell? ⟨gb212, 3, none⟩ = some (.int .i64 t207) := (blk_cell BK212.out 3).trans rfl; have hcz68_4 : wr.cell? ⟨gb212, 4, none⟩ = some (.slice Ao18 t208.length co18) := (blk_cell BK212.out 4).trans rfl; have hfz68_0 := blk_frozen BK212.out 0; have hfz68_1 := blk_frozen BK212.out 1; have hfz68_2 := blk_frozen BK212.out 2; have hfz68_3 := blk_frozen BK212.out 3; have hfz68_4 := blk_frozen BK212.out 4; have p226 : 0 ≤ ((ji41) : Int) := of_decide_eq_true (by first | (with_reducible assumption) | assumption); have q226 : (ji41) < (t208.length : Int) := of_decide_eq_true (by first | (with_reducible assumption) | assumption); obtain ⟨ad226, e226, hx226_0, hx226_1, hx226_2, hx226_3, hx226_4, hx226_5, hx226_6, hx226_7, hx226_8⟩ := at_T56 (Kd.R_reads' HO_213004.out).2.2 (ji41) p226 q226; cases e226; replace p226 := eq_true p226; replace q226 := eq_true q226)))
                                        go_ret
                                        exact ⟨by first | rfl | (simp [errW_none, errW_some] <;> rfl) | (simp only [← hji34, ← hji41]; first | rfl | (simp [errW_none, errW_some] <;> rfl)) | (simp [*, errW_none, errW_some] <;> rfl), by repeat (first | (with_reducible first | exact HB.out | apply below_alloc | apply pw_below_drewN | apply below_drew1 | refine below_set ?_ GE212.out) | exact HB.out)⟩
                                    · rw [if_neg c43] at H
                                      exact absurd H (by simp)
                                  · rw [if_neg c42] at H
                                    exact absurd H (by simp)
                              · rw [if_neg c37] at H
                                exact absurd H (by simp)
                            · rw [if_neg c36] at H
                              exact absurd H (by simp)
                          · rw [if_neg c35] at H
                            exact absurd H (by simp)
                        · rw [if_neg c33] at H
                          have c33b0 : decide (x11_3 < t220) = false := decide_eq_false c33
                          clear c33
                          have H' := Aside0.mk H
                          clear H
                          go_wp2
                          repeat (go_quiet (fail); try go_wp2)
                          go_roundg k3
                          case measure => have := HJ9.out; have := HK2.out; have := HK3.out; omega
                          case rel => exact ⟨((wrap64 (x7_2 + t220))), ((x8_2 + 1) % 4294967296), (by first | rfl | (simp; done) | (simp [*]; done)), (by first | rfl | (simp; done) | (simp [*]; done)), H', ⟨by have := HJ9.out; have := HK2.out; have := HK3.out; omega⟩, ⟨by (with_reducible repeat (first | apply Kd.R_alloc | apply Kd.R_drewN | apply Kd.R_drew)); exact Kd.R_mono HO_5.out (fun _ hk => trivial)⟩, ⟨by (with_reducible repeat (first | apply Kd.R_alloc | apply Kd.R_drewN | apply Kd.R_drew)); exact HO_213004.out⟩, ⟨by (with_reducible repeat (first | refine blk_drewN ?_ _ | refine blk_drew ?_ | refine blk_alloc ?_ _)); exact BK212.out⟩, ⟨by repeat (first | (with_reducible first | exact HB.out | apply below_alloc | apply pw_below_drewN | apply below_drew1 | refine below_set ?_ GE212.out) | exact HB.out)⟩⟩
                  · rw [if_neg c29] at H
                    have c29b0 : ((t217.length : Int) == (wrap64 (8 * t220))) = false := beq_eq_false_iff_ne.mpr c29
                    have c29b1 : ((t217.length : Int) != (wrap64 (8 * t220))) = true := bne_iff_ne.mpr c29
                    obtain rfl := Option.some.inj H
                    have hcz69_0 : wr.cell? ⟨gb212, 0, none⟩ = some (.int .i64 t204) := (blk_cell BK212.out 0).trans rfl
                    have hcz69_1 : wr.cell? ⟨gb212, 1, none⟩ = some (.int .i64 t205) := (blk_cell BK212.out 1).trans rfl
                    have hcz69_2 : wr.cell? ⟨gb212, 2, none⟩ = some (.int .i64 t206) := (blk_cell BK212.out 2).trans rfl
                    have hcz69_3 : wr.cell? ⟨gb212, 3, none⟩ = some (.int .i64 t207) := (blk_cell BK212.out 3).trans rfl
                    have hcz69_4 : wr.cell? ⟨gb212, 4, none⟩ = some (.slice Ao18 t208.length co18) := (blk_cell BK212.out 4).trans rfl
                    have hfz69_0 := blk_frozen BK212.out 0
                    have hfz69_1 := blk_frozen BK212.out 1
                    have hfz69_2 := blk_frozen BK212.out 2
                    have hfz69_3 := blk_frozen BK212.out 3
                    have hfz69_4 := blk_frozen BK212.out 4
                    go_wp2_with (first | (go_at_call 30; (with_reducible refine (roll_List.calls k2 t204 t205 t206 t207 _ _ t208 x8_2 t217 t220 _ ?side1 ?side2 A28.out).mono ?_); (case side1 => repeat (first | exact (Kd.R_reads' HO_213004.out).2.2 | (with_reducible refine Kd.C_alloc ?_ _) | (with_reducible refine Kd.C_drewN ?_ _) | (with_reducible refine Kd.C_drew ?_))); (case side2 => exact (Kd.R_reads' HO_213004.out).2.1); rintro e w70 ⟨v218, rfl, ho0, hb⟩; have n0_ := Aside0.mk (Kd.R_elder' (by (with_reducible repeat (first | apply Kd.R_alloc | apply Kd.R_drewN | apply Kd.R_drew)); exact HO_5.out) (Kd.R_base ho0) hb); have n1_ := Aside0.mk (Kd.R_below (by (with_reducible repeat (first | apply Kd.R_alloc | apply Kd.R_drewN | apply Kd.R_drew)); exact HO_213004.out) hb); have n2_ := Aside0.mk (Kd.R_lower (Kd.R_new' ho0 (Kd.R_lt (by (with_reducible repeat (first | apply Kd.R_alloc | apply Kd.R_drewN | apply Kd.R_drew)); exact HO_5.out))) (below_size (by repeat (first | (with_reducible first | exact HB.out | apply below_alloc | apply pw_below_drewN | apply below_drew1 | refine below_set ?_ GE212.out) | exact HB.out)))); have n3_ := Aside0.mk (blk_below (g := gb212) (o := .cells #[.int .i64 t204, .int .i64 t205, .int .i64 t206, .int .i64 t207, .slice Ao18 t208.length co18] 41 (0, 0)) (by (with_reducible repeat (first | refine blk_drewN ?_ _ | refine blk_drew ?_ | refine blk_alloc ?_ _)); exact BK212.out) hb); have n4_ := Aside0.mk (below_step (by repeat (first | (with_reducible first | exact HB.out | apply below_alloc | apply pw_below_drewN | apply below_drew1 | refine below_set ?_ GE212.out) | exact HB.out)) hb); clear HO_5; clear HO_213004; clear BK212; clear HB; have HO_5 := n0_; have HO_213004 := n1_; have HO219 := n2_; have BK212 := n3_; have HB := n4_; clear n0_ n1_ n2_ n3_ n4_; (try clear hb); (try clear hb2); (try clear hk); (try clear hi); (try clear ho0); obtain ⟨Ao71, co71, eo71⟩ := Kd.R_slice HO219.out; subst eo71))
                    repeat (go_quiet (first | (go_at_call 30; (with_reducible refine (roll_List.calls k2 t204 t205 t206 t207 _ _ t208 x8_2 t217 t220 _ ?side1 ?side2 A28.out).mono ?_); (case side1 => repeat (first | exact (Kd.R_reads' HO_213004.out).2.2 | (with_reducible refine Kd.C_alloc ?_ _) | (with_reducible refine Kd.C_drewN ?_ _) | (with_reducible refine Kd.C_drew ?_))); (case side2 => exact (Kd.R_reads' HO_213004.out).2.1); rintro e w70 ⟨v218, rfl, ho0, hb⟩; have n0_ := Aside0.mk (Kd.R_elder' (by (with_reducible repeat (first | apply Kd.R_alloc | apply Kd.R_drewN | apply Kd.R_drew)); exact HO_5.out) (Kd.R_base ho0) hb); have n1_ := Aside0.mk (Kd.R_below (by (with_reducible repeat (first | apply Kd.R_alloc | apply Kd.R_drewN | apply Kd.R_drew)); exact HO_213004.out) hb); have n2_ := Aside0.mk (Kd.R_lower (Kd.R_new' ho0 (Kd.R_lt (by (with_reducible repeat (first | apply Kd.R_alloc | apply Kd.R_drewN | apply Kd.R_drew)); exact HO_5.out))) (below_size (by repeat (first | (with_reducible first | exact HB.out | apply below_alloc | apply pw_below_drewN | apply below_drew1 | refine below_set ?_ GE212.out) | exact HB.out)))); have n3_ := Aside0.mk (blk_below (g := gb212) (o := .cells #[.int .i64 t204, .int .i64 t205, .int .i64 t206, .int .i64 t207, .slice Ao18 t208.length co18] 41 (0, 0)) (by (with_reducible repeat (first | refine blk_drewN ?_ _ | refine blk_drew ?_ | refine blk_alloc ?_ _)); exact BK212.out) hb); have n4_ := Aside0.mk (below_step (by repeat (first | (with_reducible first | exact HB.out | apply below_alloc | apply pw_below_drewN | apply below_drew1 | refine below_set ?_ GE212.out) | exact HB.out)) hb); clear HO_5; clear HO_213004; clear BK212; clear HB; have HO_5 := n0_; have HO_213004 := n1_; have HO219 := n2_; have BK212 := n3_; have HB := n4_; clear n0_ n1_ n2_ n3_ n4_; (try clear hb); (try clear hb2); (try clear hk); (try clear hi); (try clear ho0); obtain ⟨Ao71, co71, eo71⟩ := Kd.R_slice HO219.out; subst eo71)); try go_wp2_with (first | (go_at_call 30; (with_reducible refine (roll_List.calls k2 t204 t205 t206 t207 _ _ t208 x8_2 t217 t220 _ ?side1 ?side2 A28.out).mono ?_); (case side1 => repeat (first | exact (Kd.R_reads' HO_213004.out).2.2 | (with_reducible refine Kd.C_alloc ?_ _) | (with_reducible refine Kd.C_drewN ?_ _) | (with_reducible refine Kd.C_drew ?_))); (case side2 => exact (Kd.R_reads' HO_213004.out).2.1); rintro e w70 ⟨v218, rfl, ho0, hb⟩; have n0_ := Aside0.mk (Kd.R_elder' (by (with_reducible repeat (first | apply Kd.R_alloc | apply Kd.R_drewN | apply Kd.R_drew)); exact HO_5.out) (Kd.R_base ho0) hb); have n1_ := Aside0.mk (Kd.R_below (by (with_reducible repeat (first | apply Kd.R_alloc | apply Kd.R_drewN | apply Kd.R_drew)); exact HO_213004.out) hb); have n2_ := Aside0.mk (Kd.R_lower (Kd.R_new' ho0 (Kd.R_lt (by (with_reducible repeat (first | apply Kd.R_alloc | apply Kd.R_drewN | apply Kd.R_drew)); exact HO_5.out))) (below_size (by repeat (first | (with_reducible first | exact HB.out | apply below_alloc | apply pw_below_drewN | apply below_drew1 | refine below_set ?_ GE212.out) | exact HB.out)))); have n3_ := Aside0.mk (blk_below (g := gb212) (o := .cells #[.int .i64 t204, .int .i64 t205, .int .i64 t206, .int .i64 t207, .slice Ao18 t208.length co18] 41 (0, 0)) (by (with_reducible repeat (first | refine blk_drewN ?_ _ | refine blk_drew ?_ | refine blk_alloc ?_ _)); exact BK212.out) hb); have n4_ := Aside0.mk (below_step (by repeat (first | (with_reducible first | exact HB.out | apply below_alloc | apply pw_below_drewN | apply below_drew1 | refine below_set ?_ GE212.out) | exact HB.out)) hb); clear HO_5; clear HO_213004; clear BK212; clear HB; have HO_5 := n0_; have HO_213004 := n1_; have HO219 := n2_; have BK212 := n3_; have HB := n4_; clear n0_ n1_ n2_ n3_ n4_; (try clear hb); (try clear hb2); (try clear hk); (try clear hi); (try clear ho0); obtain ⟨Ao71, co71, eo71⟩ := Kd.R_slice HO219.out; subst eo71)))
                    go_ret
                    exact ⟨by first | rfl | (simp [errW_none, errW_some] <;> rfl) | (simp [*, errW_none, errW_some] <;> rfl), by repeat (first | (with_reducible first | exact HB.out | apply below_alloc | apply pw_below_drewN | apply below_drew1 | refine below_set ?_ GE212.out) | exact HB.out)⟩
                · rw [if_neg c27] at H
                  have c27b0 : decide (x8_2 ≤ 2) = false := decide_eq_false c27
                  clear c27
                  obtain rfl := Option.some.inj H
                  go_wp2
                  repeat (go_quiet (fail); try go_wp2)
                  go_ret
                  exact ⟨by first | rfl | (simp [errW_none, errW_some] <;> rfl) | (simp [*, errW_none, errW_some] <;> rfl), by repeat (first | (with_reducible first | exact HB.out | apply below_alloc | apply pw_below_drewN | apply below_drew1 | refine below_set ?_ GE212.out) | exact HB.out)⟩
  · replace c3 := Bool.eq_false_iff.mpr c3
    subst c3
    have H1 : (some false) = some r := by rw [if_neg (show ¬ (false = true) by decide)] at H; exact H
    clear H
    have H := H1
    clear H1
    obtain rfl := Option.some.inj H
    go_enter Try.func11, Try.ntmps11
    go_wp2_with (first | (go_at_call 29; (with_reducible refine (presidiolaw16_begun.calls  false _ A2.out).mono ?_); rintro e w72 ⟨rfl, hb⟩; have n0_ := Aside0.mk (below_step (by repeat (first | (with_reducible first | exact HB.out | apply below_alloc | apply pw_below_drewN | apply below_drew1) | exact HB.out)) hb); clear HB; have HB := n0_; clear n0_; (try clear hb); (try clear hb2); (try clear hk); (try clear hi)))
    repeat (go_quiet (first | (go_at_call 29; (with_reducible refine (presidiolaw16_begun.calls  false _ A2.out).mono ?_); rintro e w72 ⟨rfl, hb⟩; have n0_ := Aside0.mk (below_step (by repeat (first | (with_reducible first | exact HB.out | apply below_alloc | apply pw_below_drewN | apply below_drew1) | exact HB.out)) hb); clear HB; have HB := n0_; clear n0_; (try clear hb); (try clear hb2); (try clear hk); (try clear hi))); try go_wp2_with (first | (go_at_call 29; (with_reducible refine (presidiolaw16_begun.calls  false _ A2.out).mono ?_); rintro e w72 ⟨rfl, hb⟩; have n0_ := Aside0.mk (below_step (by repeat (first | (with_reducible first | exact HB.out | apply below_alloc | apply pw_below_drewN | apply below_drew1) | exact HB.out)) hb); clear HB; have HB := n0_; clear n0_; (try clear hb); (try clear hb2); (try clear hk); (try clear hi))))
    go_ret
    exact ⟨by first | rfl | (simp [errW_none, errW_some] <;> rfl) | (simp [*, errW_none, errW_some] <;> rfl), by repeat (first | (with_reducible first | exact HB.out | apply below_alloc | apply pw_below_drewN | apply below_drew1) | exact HB.out)⟩

/-- THE ONE PURE STATEMENT of presidiolaw16_RollKinds: yours. -/
def presidiolaw16_RollKinds.Pure : Prop := ∀ (l0 : List Int), l0.length ≤ maxLen → l0.length * 1 ≤ 140737488351232 → (∀ x ∈ l0, (Lit.int .u8 x).wf = true) → ∃ k, presidiolaw16_RollKinds.f k l0 = some true
theorem presidiolaw16_RollKinds.walk (P : presidiolaw16_RollKinds.Pure) (a0 : Option Addr) (len0 cap0 : Nat) (z0 : List Int) (w : World) (w0 : (a0 = none ∧ len0 = 0 ∧ cap0 = 0 ∧ z0 = []) ∨ ∃ x, a0 = some x ∧ len0 ≤ cap0 ∧ cap0 ≤ maxLen ∧ z0.length = cap0 ∧ (∀ i, i < z0.length → w.cell? (x.add i) = some (.int .u8 (z0.getD i 0))) ∧ ∀ n ∈ z0, (Lit.int .u8 n).wf = true) (y0 : len0 * 1 ≤ 140737488351232) :
    Calls Try.prog 11 #[.slice a0 len0 cap0] w fun e w' => e = .returned (.bool true) ∧ Below w.heap.size w w' := by
  obtain ⟨l0, rfl, hr0, hm0, hw0, hc0⟩ := ReadsInt.ofRowC w0
  obtain ⟨k, h⟩ := P l0 hm0 y0 hw0
  refine (presidiolaw16_RollKinds.calls k _ _ l0 true w (Kd.C_of_reads (d := (0 : Int)) (h1 := fun _ => rfl) hr0) hc0 h).mono ?_
  rintro e w' ⟨rfl, hd⟩
  exact ⟨rfl, hd⟩

end Go.Proofs.Ytecliaogidemjaa.PRollQ
