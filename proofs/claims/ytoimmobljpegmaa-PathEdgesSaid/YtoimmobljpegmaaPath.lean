/- Contracts of package path and of the reference's paths. -/
import Derived.Test.YtoimmobljpegmaaRows
import Derived.Test.YtoimmobljpegmaaMem
import Derived.Test.YtoimmobljpegmaaFrame
import Derived.WalkKit
import Derived.WalkMore
import Derived.ScopeJumps
import Derived.WalkSpells
import Derived.WalkLawsBesides
import Derived.Outline
namespace Go.Proofs.Ytoimmobljpegmaa.Path
open Go.RowKit Go.Proofs.Ytoimmobljpegmaa.Mem

def onF (s n e : Int) : Int × Int × Bool :=
  if s = 0 ∧ n = 0 ∧ e = 1 then (1, 0, true) else if s = 1 ∧ n = 0 ∧ e = 2 then (2, 0, true) else if s = 1 ∧ n = 0 ∧ e = 7 then (0, 0, true)
  else if s = 2 ∧ 0 ≤ n ∧ e = 3 then (2, wrap64 (n + 1), true) else if s = 2 ∧ 0 < n ∧ e = 4 then (2, n - 1, true)
  else if s = 2 ∧ n = 0 ∧ (e = 5 ∨ e = 6) then (0, 0, true) else (0, 0, false)

theorem tup {a b a' b' : Int} {c c' : Bool} {x : Int × Int × Bool} (h : x = (a', b', c')) (ha : a = a') (hb : b = b') (hc : c = c') :
    Ending.returned (.tuple #[.int .i64 a, .int .i64 b, .bool c]) = Ending.returned (.tuple #[.int .i64 x.1, .int .i64 x.2.1, .bool x.2.2]) := by subst h ha hb hc; rfl

set_option maxHeartbeats 2000000 in
theorem on_any (s n e : Int) (w : World) (hn : n ≤ 9223372036854775807) :
    Calls Try.prog 43 #[.int .i64 s, .int .i64 n, .int .i64 e] w fun r w' => r = .returned (.tuple #[.int .i64 (onF s n e).1, .int .i64 (onF s n e).2.1, .bool (onF s n e).2.2]) ∧ w' = w := by
  obtain ⟨x, hx⟩ : ∃ x, x = onF s n e := ⟨_, rfl⟩
  rw [← hx]
  have HX := Lib.hid hx
  clear hx
  go_enter Try.func43, Try.ntmps43
  go_wp2
  all_goals
    go_ret3
    try (go_wp2; go_ret3)
    (have hq := HX.out; simp only [onF] at hq; refine ⟨?_, rfl⟩; subst hq; (try simp_all); all_goals ((repeat' split) <;> (first | rfl | omega | (simp_all; done) | (simp_all; omega))))
set_option maxHeartbeats 2000000 in
theorem ron_any (s n e : Int) (w : World) (hn : n ≤ 9223372036854775807) :
    Calls Try.prog 44 #[.int .i64 s, .int .i64 n, .int .i64 e] w fun r w' => r = .returned (.tuple #[.int .i64 (onF s n e).1, .int .i64 (onF s n e).2.1, .bool (onF s n e).2.2]) ∧ w' = w := by
  obtain ⟨x, hx⟩ : ∃ x, x = onF s n e := ⟨_, rfl⟩
  rw [← hx]
  have HX := Lib.hid hx
  clear hx
  go_enter Try.func44, Try.ntmps44
  go_wp2
  all_goals
    go_ret3
    (have hq := HX.out; simp only [onF] at hq; refine ⟨?_, rfl⟩; subst hq; (try simp_all); all_goals ((repeat' split) <;> (first | rfl | omega | (simp_all; done) | (simp_all; omega))))

def pathS : List Int → Int → Int → Int × Int × Bool
  | [], s, n => (s, n, true)
  | e :: t, s, n => if (onF s n e).2.2 = true then pathS t (onF s n e).1 (onF s n e).2.1 else (0, 0, false)

theorem onF_le {s n e : Int} (h : n ≤ 9223372036854775806) (h0 : 0 ≤ n) : 0 ≤ (onF s n e).2.1 ∧ (onF s n e).2.1 ≤ n + 1 := by
  have hw : wrap64 (n + 1) = n + 1 := by unfold wrap64; omega
  unfold onF
  rw [hw]
  repeat' split
  all_goals (simp <;> omega)

theorem pathS_step (l : List Int) (k : Nat) (h : k < l.length) (s n : Int) (hy : (onF s n (l.getD k 0)).2.2 = true) : pathS (l.drop (k + 1)) (onF s n (l.getD k 0)).1 (onF s n (l.getD k 0)).2.1 = pathS (l.drop k) s n := by
  rw [List.drop_eq_getElem_cons h]
  have e : l.getD k 0 = l[k] := by simp [List.getD, h]
  rw [e] at hy ⊢
  rw [pathS, if_pos hy]
theorem pathS_stop (l : List Int) (k : Nat) (h : k < l.length) (s n : Int) (hy : (onF s n (l.getD k 0)).2.2 = false) : pathS (l.drop k) s n = (0, 0, false) := by
  rw [List.drop_eq_getElem_cons h]
  have e : l.getD k 0 = l[k] := by simp [List.getD, h]
  rw [e] at hy
  rw [pathS, if_neg (by rw [hy]; decide)]
theorem ret3 {a b a' b' : Int} {c c' : Bool} {x : Int × Int × Bool} (h : (a', b', c') = x) (ha : a = a') (hb : b = b') (hc : c = c') :
    Ending.returned (.tuple #[.int .i64 a, .int .i64 b, .bool c]) = Ending.returned (.tuple #[.int .i64 x.1, .int .i64 x.2.1, .bool x.2.2]) := by subst h ha hb hc; rfl

theorem on_val {s n e s' n' : Int} {ok : Bool} (w : World) (hn : n ≤ 9223372036854775807) (h : onF s n e = (s', n', ok)) :
    Calls Try.prog 43 #[.int .i64 s, .int .i64 n, .int .i64 e] w fun r w' => r = .returned (.tuple #[.int .i64 s', .int .i64 n', .bool ok]) ∧ w' = w := by
  have := on_any s n e w hn
  rw [h] at this
  exact this

set_option maxRecDepth 100000 in
set_option maxHeartbeats 2000000 in
theorem path_any (a : Option Addr) (b off cap : Nat) (l : List Int) (w : World) (hl : l.length ≤ 1152921504606846976) (ha : 0 < l.length → a = some ⟨b, off, none⟩)
    (hc : ∀ i, i < l.length → w.cell? ⟨b, off + i, none⟩ = some (.int .i64 (l.getD i 0))) :
    Calls Try.prog 45 #[.slice a l.length cap] w fun r w' => r = .returned (.tuple #[.int .i64 (pathS l 0 0).1, .int .i64 (pathS l 0 0).2.1, .bool (pathS l 0 0).2.2]) ∧ w' = w := by
  obtain ⟨X, hX⟩ : ∃ X, X = pathS l 0 0 := ⟨_, rfl⟩
  rw [← hX]
  have HX := Lib.hid hX
  have HC := Lib.hid hc
  have HA := Lib.hid ha
  clear hX hc ha
  go_enter Try.func45, Try.ntmps45
  go_wp2
  refine wp_scope_jumps 0 (fun a' w' => w' = w ∧ ∃ (k : Nat) (s n : Int) (u4 u6 u7 u8 u9 u10 u11 u12 u13 u14 u15 u16 u17 u18 u19 u20 u21 u22 u23 u24 u25 : Value), k ≤ l.length ∧ 0 ≤ n ∧ n ≤ k ∧ X = pathS (l.drop k) s n ∧
      a' = { tmps := #[.slice a l.length cap, undef, .int .i64 s, .int .i64 n, u4, .int .i64 k, u6, u7, u8, u9, u10, u11, u12, u13, u14, u15, u16, u17, u18, u19, u20, u21, u22, u23, u24, u25], defers := [] })
    (fun a' _ => l.length - (intOf (a'.tmps.getD 5 undef)).toNat) rfl ?_ ?_
  · by_cases hlt : 0 < l.length
    · obtain ⟨v, hv⟩ : ∃ v, v = l.getD 0 0 := ⟨_, rfl⟩
      have hcell : w.cell? ⟨b, off, none⟩ = some (.int .i64 v) := by rw [hv]; simpa using HC.out 0 hlt
      obtain rfl := HA.out (by omega)
      obtain ⟨⟨s', n', ok⟩, hx⟩ : ∃ x, onF 0 0 v = x := ⟨_, rfl⟩
      have hle := onF_le (s := 0) (n := 0) (e := v) (by omega) (by omega)
      rw [hx] at hle
      have Hx := Lib.hid hx
      have Hle := Lib.hid hle
      have Hv := Lib.hid hv
      clear hx hle hv
      cases ok
      · go_wp2
        go_step3
        go_wp2_with (first | (go_at_call 43; refine (on_val _ (by omega) Hx.out).mono ?_; rintro e w' ⟨rfl, rfl⟩))
        simp only [Exit.jump]
        go_ret3
        refine ⟨ret3 ?_ rfl rfl rfl, rfl⟩
        have h1 := HX.out
        have hv := Hv.out
        subst hv
        rw [h1]
        exact (pathS_stop l 0 hlt 0 0 (by rw [Hx.out])).symm
      · go_wp2
        go_step3
        go_wp2_with (first | (go_at_call 43; refine (on_val _ (by omega) Hx.out).mono ?_; rintro e w' ⟨rfl, rfl⟩))
        go_step3
        refine ⟨rfl, rfl, 1, s', n', _, _, _, _, _, _, _, _, _, _, _, _, _, _, _, _, _, _, _, _, _, by omega, Hle.out.1, by have := Hle.out.2; simpa using this, ?_, rfl⟩
        have h1 := HX.out
        have hv := Hv.out
        subst hv
        have hp := pathS_step l 0 hlt 0 0 (by rw [Hx.out])
        rw [Hx.out] at hp
        rw [h1]
        exact hp.symm
    · have hl0 : l = [] := List.eq_nil_of_length_eq_zero (by omega)
      go_wp2
      go_step3
      go_wp2
      simp only [Exit.jump]
      go_ret3
      refine ⟨ret3 ?_ rfl rfl rfl, rfl⟩
      have h1 := HX.out
      rw [h1, hl0]
      rfl
  · rintro a' w' ⟨rfl, k, s, n, u4, u6, u7, u8, u9, u10, u11, u12, u13, u14, u15, u16, u17, u18, u19, u20, u21, u22, u23, u24, u25, hk, hn0, hn, hX, rfl⟩
    have HXk := Lib.hid hX
    clear hX
    by_cases hlt : k < l.length
    · obtain ⟨v, hv⟩ : ∃ v, v = l.getD k 0 := ⟨_, rfl⟩
      have hcell : w'.cell? ⟨b, off + k, none⟩ = some (.int .i64 v) := by rw [hv]; exact HC.out k hlt
      obtain rfl := HA.out (by omega)
      obtain ⟨⟨s', n', ok⟩, hx⟩ : ∃ x, onF s n v = x := ⟨_, rfl⟩
      have hle := onF_le (s := s) (n := n) (e := v) (by omega) (by omega)
      rw [hx] at hle
      have Hx := Lib.hid hx
      have Hle := Lib.hid hle
      have Hv := Lib.hid hv
      clear hx hle hv
      cases ok
      · go_wp2_with (first | (go_at_call 43; refine (on_val _ (by omega) Hx.out).mono ?_; rintro e w' ⟨rfl, rfl⟩))
        simp only [Exit.jump]
        go_ret3
        refine ⟨ret3 ?_ rfl rfl rfl, rfl⟩
        have h1 := HXk.out
        have hv := Hv.out
        subst hv
        rw [h1]
        exact (pathS_stop l k hlt s n (by rw [Hx.out])).symm
      · go_wp2_with (first | (go_at_call 43; refine (on_val _ (by omega) Hx.out).mono ?_; rintro e w' ⟨rfl, rfl⟩))
        go_step3
        refine ⟨rfl, ⟨rfl, k + 1, s', n', ⟨_, _, _, _, _, _, _, _, _, _, _, _, _, _, _, _, _, _, _, _, _, by omega, Hle.out.1, by have := Hle.out.2; omega, ?_, by go_num⟩⟩, ?_⟩
        · have h1 := HXk.out
          have hv := Hv.out
          subst hv
          have hp := pathS_step l k hlt s n (by rw [Hx.out])
          rw [Hx.out] at hp
          rw [h1]
          exact hp.symm
        · simp [intOf]
          omega
    · have hke : k = l.length := by omega
      subst hke
      go_wp2
      simp only [Exit.jump]
      go_ret3
      refine ⟨ret3 ?_ rfl rfl rfl, rfl⟩
      have h1 := HXk.out
      rw [h1, List.drop_length]
      rfl
end Go.Proofs.Ytoimmobljpegmaa.Path
