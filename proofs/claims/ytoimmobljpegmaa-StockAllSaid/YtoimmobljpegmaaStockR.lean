/- The reference's Take, Back, Taken: contracts for every stock. -/
import Derived.Test.YtoimmobljpegmaaStockL
namespace Go.Proofs.Ytoimmobljpegmaa.Stock
open Go.RowKit Go.Proofs.Ytoimmobljpegmaa.Mem
open Go.Proofs.YtoimmobljpegmaaW.PrintWords (bools nums print_append_num print_append_row print_make_of own_reads own_lt own_other own_lit nums_length)
set_option linter.unusedVariables false

set_option maxRecDepth 100000 in
set_option maxHeartbeats 1000000 in
theorem rtake_any (w : World) (g r : Nat) (f : Int) (xs : List Bool) (H : Is 54 w g r f xs) (hf : 0 ≤ f ∧ f ≤ 240) (hl : xs.length ≤ 240) :
    Calls Try.prog 36 #[.pointer (some ⟨g, 0, none⟩)] w (Took 54 w g r f xs) := by
  obtain ⟨c0, c1⟩ := H.cells
  have hgr := H.2.2
  have hrg := H.2.2.symm
  have HH := Lib.hid H
  clear H
  go_enter Try.func36, Try.ntmps36
  go_wp2
  go_loop [4] (fun t4 => ∃ k : Nat, k ≤ xs.length ∧ t4 = .int .i64 k ∧ ∀ j, j < k → xs.getD j false = true) (fun t4 => xs.length - (intOf t4).toNat)
  case atStart => exact ⟨0, by omega, rfl, fun j hj => absurd hj (by omega)⟩
  case round =>
    obtain ⟨k, hk, rfl, hall⟩ := hrel
    have HA := Lib.hid hall
    clear hall
    by_cases hlt : k < xs.length
    · have ck := HH.out.cellAt k hlt
      have fk := HH.out.free k
      cases hv : xs.getD k false with
      | true =>
        rw [hv] at ck
        have HV := Lib.hid hv
        clear hv
        go_wp2
        go_round
        case rel => exact ⟨k + 1, by omega, by go_num, fun j hj => by rcases Nat.lt_succ_iff_lt_or_eq.1 hj with h | h; exact HA.out j h; rw [h]; exact HV.out⟩
        case measure => simp [intOf]; omega
      | false =>
        rw [hv] at ck
        have HV := Lib.hid hv
        clear hv
        go_wp2
        go_ret2
        exact .inl ⟨k, least_some hlt HA.out HV.out, rfl, HH.out.set k true, grown_set (grown_refl _ _) _ _⟩
    · obtain rfl : k = xs.length := by omega
      go_wp2
      go_ret2
      exact .inr ⟨least_none HA.out, rfl, HH.out, grown_refl _ _⟩

set_option maxRecDepth 100000 in
set_option maxHeartbeats 1000000 in
theorem rback_no (w : World) (g r : Nat) (f q : Int) (xs : List Bool) (H : Is 54 w g r f xs) (hf : 0 ≤ f ∧ f ≤ 240) (hl : xs.length ≤ 240) (hq : q ≤ 9223372036854775807) (hq0 : -9223372036854775000 ≤ q) (h : backF f xs q = none) :
    Calls Try.prog 38 #[.pointer (some ⟨g, 0, none⟩), .int .i64 q] w fun e w' => e = .returned (.bool false) ∧ w' = w := by
  obtain ⟨c0, c1⟩ := H.cells
  have HH := Lib.hid H
  clear H
  by_cases h1 : f ≤ q
  · by_cases h2 : q - f < xs.length
    · obtain ⟨k, rfl⟩ : ∃ k : Nat, q = f + k := ⟨(q - f).toNat, by omega⟩
      have hk : k < xs.length := by omega
      have hv : xs.getD k false = false := by
        cases hv : xs.getD k false with
        | false => rfl
        | true =>
          have e : (f + (k : Int) - f).toNat = k := by omega
          rw [backF, if_pos ⟨h1, h2, by rw [e]; exact hv⟩] at h
          cases h
      have ck := HH.out.cellAt k hk
      rw [hv] at ck
      have hw1 : f + (k : Int) - f = k := by omega
      have hd1 : decide (f + (k : Int) < f) = false := decide_eq_false (by omega)
      have hd2 : decide ((xs.length : Int) ≤ (k : Int)) = false := decide_eq_false (by omega)
      have hwk : IntKind.i64.wrap (k : Int) = k := IntWalk.i64_in _ (by omega)
      have hle : ¬ ((xs.length : Int) ≤ (k : Int)) := by omega
      have hge0 : (0 : Int) ≤ k := by omega
      have hltk : (k : Int) < xs.length := by omega
      clear h hv
      go_enter Try.func38, Try.ntmps38
      go_wp2
      go_ret
      exact ⟨rfl, rfl⟩
    · have hwk : IntKind.i64.wrap (q - f) = q - f := IntWalk.i64_in _ (by omega)
      have hd1 : decide (q < f) = false := decide_eq_false (by omega)
      have hle : (xs.length : Int) ≤ q - f := by omega
      clear h
      go_enter Try.func38, Try.ntmps38
      go_wp2
      go_ret
      exact ⟨rfl, rfl⟩
  · have hlt : q < f := by omega
    have hwk : IntKind.i64.wrap (q - f) = q - f := IntWalk.i64_in _ (by omega)
    clear h
    go_enter Try.func38, Try.ntmps38
    go_wp2
    go_ret
    exact ⟨rfl, rfl⟩

set_option maxRecDepth 100000 in
set_option maxHeartbeats 1000000 in
theorem rback_yes (w : World) (g r : Nat) (f : Int) (k : Nat) (xs : List Bool) (H : Is 54 w g r f xs) (hf : 0 ≤ f ∧ f ≤ 240) (hl : xs.length ≤ 240) (hk : k < xs.length) (hv : xs.getD k false = true) :
    Calls Try.prog 38 #[.pointer (some ⟨g, 0, none⟩), .int .i64 (f + k)] w fun e w' => e = .returned (.bool true) ∧ Is 54 w' g r f (xs.set k false) ∧ w.grownBy w' (some r) := by
  obtain ⟨c0, c1⟩ := H.cells
  have hgr := H.2.2
  have hrg := H.2.2.symm
  have HH := Lib.hid H
  have ck := HH.out.cellAt k hk
  have fk := HH.out.free k
  rw [hv] at ck
  clear H hv
  have hw1 : f + (k : Int) - f = k := by omega
  have hd1 : decide (f + (k : Int) < f) = false := decide_eq_false (by omega)
  have hd2 : decide ((xs.length : Int) ≤ (k : Int)) = false := decide_eq_false (by omega)
  have hwk : IntKind.i64.wrap (k : Int) = k := IntWalk.i64_in _ (by omega)
  have hle : ¬ ((xs.length : Int) ≤ (k : Int)) := by omega
  have hge0 : (0 : Int) ≤ k := by omega
  have hltk : (k : Int) < xs.length := by omega
  go_enter Try.func38, Try.ntmps38
  go_wp2
  go_ret
  exact ⟨rfl, HH.out.set k false, grown_set (grown_refl _ _) _ _⟩

set_option maxRecDepth 100000 in
set_option maxHeartbeats 1000000 in
theorem rtaken_any (w : World) (g r : Nat) (f : Int) (xs : List Bool) (H : Is 54 w g r f xs) (hf : 0 ≤ f ∧ f ≤ 240) (hl : xs.length ≤ 240) :
    Calls Try.prog 40 #[.pointer (some ⟨g, 0, none⟩)] w fun e w' => ∃ v, e = .returned v ∧ w'.ownsRow w.heap.size 3 1 v (tk f xs xs.length).length (nums .i64 (tk f xs xs.length)) ∧ Below w.heap.size w w' := by
  obtain ⟨c0, c1⟩ := H.cells
  have HH := Lib.hid H
  have hgs := blk_lt H.1
  have hrs := blk_lt H.2.1
  clear H
  go_enter Try.func40, Try.ntmps40
  go_wp2
  go_loopw [3, 4] (fun t3 t4 wr => ∃ k : Nat, k ≤ xs.length ∧ t4 = .int .i64 k ∧ wr.ownsRow w.heap.size 3 1 t3 (tk f xs k).length (nums .i64 (tk f xs k)) ∧ Below w.heap.size w wr) (fun _ t4 _ => xs.length - (intOf t4).toNat)
  case atStart => exact ⟨0, by omega, rfl, World.ownsRow_nil _ _ _ _, Below.refl _ _⟩
  case round =>
    obtain ⟨k, hk, rfl, ho, hb⟩ := hrel
    have HO := Lib.hid ho
    clear ho
    have hlen := tk_len f xs k
    have d0 : wr.cell? ⟨g, 0, none⟩ = some (.int .i64 f) := (hb.cell (p := ⟨g, 0, none⟩) hgs).trans c0
    have d1 : wr.cell? ⟨g, 1, none⟩ = some (.slice (some ⟨r, 0, none⟩) xs.length xs.length) := (hb.cell (p := ⟨g, 1, none⟩) hgs).trans c1
    by_cases hlt : k < xs.length
    · have ck : wr.cell? ⟨r, k, none⟩ = some (.bool (xs.getD k false)) := (hb.cell (p := ⟨r, k, none⟩) hrs).trans (HH.out.cellAt k hlt)
      cases hv : xs.getD k false with
      | true =>
        rw [hv] at ck
        have HV := Lib.hid hv
        clear hv c0 c1
        go_wp2_with (first
          | (at_builtin; refine print_append_num w.heap.size rfl (.tmp 21) (.tmp 28) 22 3 .i64 8 rfl Try.underlying22 info3 (by decide) _ (tk f xs k) (f + (k : Int)) rfl rfl HO.out hb hb.size (by omega) ?_; intro v1 w1 ho1 hb1 hg1 hat1))
        go_roundw
        case rel => exact ⟨k + 1, by omega, by go_num, by rw [tk_hit f xs k HV.out]; exact ho1, hb1⟩
        case measure => simp [intOf]; omega
      | false =>
        rw [hv] at ck
        have HV := Lib.hid hv
        clear hv c0 c1
        go_wp2
        go_roundw
        case rel => exact ⟨k + 1, by omega, by go_num, by rw [tk_miss f xs k HV.out]; exact HO.out, hb⟩
        case measure => simp [intOf]; omega
    · obtain rfl : k = xs.length := by omega
      go_wp2
      go_ret
      exact ⟨_, rfl, HO.out, hb⟩
end Go.Proofs.Ytoimmobljpegmaa.Stock
