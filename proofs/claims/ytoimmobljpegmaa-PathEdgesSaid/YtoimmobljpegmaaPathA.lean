/- Which edges there are and which events are a path: the program and the reference agree. -/
import Derived.Test.YtoimmobljpegmaaPath
namespace Go.Proofs.Ytoimmobljpegmaa.Path
open Go.RowKit Go.Proofs.Ytoimmobljpegmaa.Mem

theorem ron_val {s n e s' n' : Int} {ok : Bool} (w : World) (hn : n ≤ 9223372036854775807) (h : onF s n e = (s', n', ok)) :
    Calls Try.prog 44 #[.int .i64 s, .int .i64 n, .int .i64 e] w fun r w' => r = .returned (.tuple #[.int .i64 s', .int .i64 n', .bool ok]) ∧ w' = w := by
  have := ron_any s n e w hn
  rw [h] at this
  exact this

set_option maxRecDepth 100000 in
set_option maxHeartbeats 2000000 in
theorem rpath_any (a : Option Addr) (b off cap : Nat) (l : List Int) (w : World) (hl : l.length ≤ 1152921504606846976) (ha : 0 < l.length → a = some ⟨b, off, none⟩)
    (hc : ∀ i, i < l.length → w.cell? ⟨b, off + i, none⟩ = some (.int .i64 (l.getD i 0))) :
    Calls Try.prog 46 #[.slice a l.length cap] w fun r w' => r = .returned (.tuple #[.int .i64 (pathS l 0 0).1, .int .i64 (pathS l 0 0).2.1, .bool (pathS l 0 0).2.2]) ∧ w' = w := by
  obtain ⟨X, hX⟩ : ∃ X, X = pathS l 0 0 := ⟨_, rfl⟩
  rw [← hX]
  have HX := Lib.hid hX
  have HC := Lib.hid hc
  have HA := Lib.hid ha
  clear hX hc ha
  go_enter Try.func46, Try.ntmps46
  go_wp2
  go_loop [5, 6, 7] (fun t5 t6 t7 => ∃ (k : Nat) (s n : Int), k ≤ l.length ∧ 0 ≤ n ∧ n ≤ k ∧ X = pathS (l.drop k) s n ∧ t5 = .int .i64 s ∧ t6 = .int .i64 n ∧ t7 = .int .i64 k) (fun _ _ t7 => l.length - (intOf t7).toNat)
  case atStart => exact ⟨0, 0, 0, by omega, by omega, by omega, HX.out, rfl, rfl, rfl⟩
  case round =>
    obtain ⟨k, s, n, hk, hn0, hn, hX, rfl, rfl, rfl⟩ := hrel
    have HXk := Lib.hid hX
    clear hX
    by_cases hlt : k < l.length
    · obtain ⟨v, hv⟩ : ∃ v, v = l.getD k 0 := ⟨_, rfl⟩
      have hcell : w.cell? ⟨b, off + k, none⟩ = some (.int .i64 v) := by rw [hv]; exact HC.out k hlt
      obtain rfl := HA.out (by omega)
      obtain ⟨⟨s', n', ok⟩, hx⟩ : ∃ x, onF s n v = x := ⟨_, rfl⟩
      have hle := onF_le (s := s) (n := n) (e := v) (by omega) (by omega)
      rw [hx] at hle
      have Hx := Lib.hid hx
      have Hle := Lib.hid hle
      have Hv := Lib.hid hv
      clear hx hle hv
      cases ok
      · go_wp2_with (first | (go_at_call 44; refine (ron_val _ (by omega) Hx.out).mono ?_; rintro e w' ⟨rfl, rfl⟩))
        go_ret3
        refine ⟨ret3 ?_ rfl rfl rfl, rfl⟩
        have h1 := HXk.out
        have hv := Hv.out
        subst hv
        rw [h1]
        exact (pathS_stop l k hlt s n (by rw [Hx.out])).symm
      · go_wp2_with (first | (go_at_call 44; refine (ron_val _ (by omega) Hx.out).mono ?_; rintro e w' ⟨rfl, rfl⟩))
        go_round
        case rel =>
          refine ⟨k + 1, s', n', by omega, Hle.out.1, by have := Hle.out.2; omega, ?_, rfl, rfl, by go_num⟩
          have h1 := HXk.out
          have hv := Hv.out
          subst hv
          have hp := pathS_step l k hlt s n (by rw [Hx.out])
          rw [Hx.out] at hp
          rw [h1]
          exact hp.symm
        case measure => simp [intOf]; omega
    · have hke : k = l.length := by omega
      subst hke
      go_wp2
      go_ret3
      refine ⟨ret3 ?_ rfl rfl rfl, rfl⟩
      have h1 := HXk.out
      rw [h1, List.drop_length]
      rfl

theorem path_val {a : Option Addr} {b off cap : Nat} {l : List Int} (w : World) {s n : Int} {ok : Bool} (h : pathS l 0 0 = (s, n, ok)) (hl : l.length ≤ 1152921504606846976) (ha : 0 < l.length → a = some ⟨b, off, none⟩)
    (hc : ∀ i, i < l.length → w.cell? ⟨b, off + i, none⟩ = some (.int .i64 (l.getD i 0))) :
    Calls Try.prog 45 #[.slice a l.length cap] w fun r w' => r = .returned (.tuple #[.int .i64 s, .int .i64 n, .bool ok]) ∧ w' = w := by
  have := path_any a b off cap l w hl ha hc
  rw [h] at this
  exact this
theorem rpath_val {a : Option Addr} {b off cap : Nat} {l : List Int} (w : World) {s n : Int} {ok : Bool} (h : pathS l 0 0 = (s, n, ok)) (hl : l.length ≤ 1152921504606846976) (ha : 0 < l.length → a = some ⟨b, off, none⟩)
    (hc : ∀ i, i < l.length → w.cell? ⟨b, off + i, none⟩ = some (.int .i64 (l.getD i 0))) :
    Calls Try.prog 46 #[.slice a l.length cap] w fun r w' => r = .returned (.tuple #[.int .i64 s, .int .i64 n, .bool ok]) ∧ w' = w := by
  have := rpath_any a b off cap l w hl ha hc
  rw [h] at this
  exact this

theorem three_cells (w : World) (x y z : Int) : ∀ i, i < [x, y, z].length → (w.alloc (.cells #[.int .i64 x, .int .i64 y, .int .i64 z] 3)).cell? ⟨w.heap.size, 0 + i, none⟩ = some (.int .i64 ([x, y, z].getD i 0)) := by
  intro i hi
  have hb := blk_new w (.cells #[.int .i64 x, .int .i64 y, .int .i64 z] 3)
  rw [Nat.zero_add, blk_cell hb i]
  match i, hi with
  | 0, _ => rfl
  | 1, _ => rfl
  | 2, _ => rfl

set_option maxRecDepth 100000 in
set_option maxHeartbeats 2000000 in
theorem begun (w : World) : Calls Try.prog 42 #[] w fun e w' => e = .returned (.bool true) ∧ Below w.heap.size w w' := by
  have h1 : onF 2 0 3 = (2, 1, true) := by decide +kernel
  have h2 : onF 0 0 3 = (0, 0, false) := by decide +kernel
  have h3 : pathS [1, 2, 5] 0 0 = (0, 0, true) := by decide +kernel
  have H1 := Lib.hid h1
  have H2 := Lib.hid h2
  have H3 := Lib.hid h3
  clear h1 h2 h3
  go_enter Try.func42, Try.ntmps42
  go_wp2_with (first
    | (go_at_call 43; (first | (with_reducible refine (on_val _ (by omega) H1.out).mono ?_) | (with_reducible refine (on_val _ (by omega) H2.out).mono ?_)); rintro e w' ⟨rfl, rfl⟩)
    | (go_at_call 45; refine (path_val (l := [1, 2, 5]) _ H3.out (by decide) (fun _ => rfl) (three_cells _ 1 2 5)).mono ?_; rintro e w' ⟨rfl, rfl⟩))
  go_ret
  exact ⟨rfl, bel_alloc (Below.refl _ _) _⟩

set_option maxRecDepth 100000 in
set_option maxHeartbeats 2000000 in
theorem all (s n e : Int) (a : Option Addr) (b off cap : Nat) (l : List Int) (w : World) (hl : l.length ≤ 1152921504606846976) (ha : 0 < l.length → a = some ⟨b, off, none⟩) (hblt : 0 < l.length → b < w.heap.size)
    (hc : ∀ i, i < l.length → w.cell? ⟨b, off + i, none⟩ = some (.int .i64 (l.getD i 0))) :
    Calls Try.prog 12 #[.int .i64 s, .int .i64 n, .int .i64 e, .slice a l.length cap] w fun e w' => e = .returned (.bool true) ∧ Below w.heap.size w w' := by
  have hb := Below.refl w.heap.size w
  have HC := Lib.hid hc
  have HA := Lib.hid ha
  have HB := Lib.hid hblt
  clear hc ha hblt
  by_cases h20 : 20 < (l.length : Int)
  · go_enter Try.func12, Try.ntmps12
    go_wp2_with (first
      | (go_at_call 42; refine (begun _).mono ?_; rintro e w1 ⟨rfl, hb1⟩; replace hb := bel_chain hb hb1; clear hb1))
    go_ret
    exact ⟨rfl, hb⟩
  · by_cases h40 : 1099511627776 < n
    · go_enter Try.func12, Try.ntmps12
      go_wp2_with (first
        | (go_at_call 42; refine (begun _).mono ?_; rintro e w1 ⟨rfl, hb1⟩; replace hb := bel_chain hb hb1; clear hb1))
      go_ret
      exact ⟨rfl, hb⟩
    · obtain ⟨⟨s', n', ok⟩, hx⟩ : ∃ x, onF s n e = x := ⟨_, rfl⟩
      obtain ⟨⟨s2, n2, ok2⟩, hp⟩ : ∃ x, pathS l 0 0 = x := ⟨_, rfl⟩
      have Hx := Lib.hid hx
      have Hp := Lib.hid hp
      clear hx hp
      go_enter Try.func12, Try.ntmps12
      go_wp2_with (first
        | (go_at_call 42; refine (begun _).mono ?_; rintro e w1 ⟨rfl, hb1⟩; have HC1 : Hid (∀ i, i < l.length → w1.cell? ⟨b, off + i, none⟩ = some (.int .i64 (l.getD i 0))) := Lib.hid (fun i hi => (hb1.cell (p := ⟨b, off + i, none⟩) (HB.out (by omega))).trans (HC.out i hi)); replace hb := bel_chain hb hb1; clear hb1)
        | (go_at_call 43; (with_reducible refine (on_val _ (by omega) Hx.out).mono ?_); rintro e w' ⟨rfl, rfl⟩)
        | (go_at_call 44; (with_reducible refine (ron_val _ (by omega) Hx.out).mono ?_); rintro e w' ⟨rfl, rfl⟩)
        | (go_at_call 45; (with_reducible refine (path_val _ Hp.out hl HA.out HC1.out).mono ?_); rintro e w' ⟨rfl, rfl⟩)
        | (go_at_call 46; (with_reducible refine (rpath_val _ Hp.out hl HA.out HC1.out).mono ?_); rintro e w' ⟨rfl, rfl⟩))
      go_ret
      exact ⟨rfl, hb⟩
end Go.Proofs.Ytoimmobljpegmaa.Path
