/- Bills as bytes: whether numbers fit, walked; the bits of a part. -/
import Derived.Test.YtmhglfidggjfdaaKept
import Derived.Test.YtmhglfidggjfdaaPBillBackx2
import Derived.LoopTactic
namespace Go.Proofs.Ytmhglfidggjfdaa.Bill
open Go Go.RowKit Go.Proofs.Ytmhglfidggjfdaa.Mem Go.Proofs.Ytmhglfidggjfdaa.Kept Go.Proofs.Ytmhglfidggjfdaa.PBillBack Go.Proofs.YtmhglfidggjfdaaW.PrintWords
set_option linter.unusedVariables false
set_option linter.unusedSimpArgs false

/-- A number that goes into a byte. -/
def byB (n : Int) : Bool := decide (0 ≤ n) && decide (n ≤ 255)
theorem byB_in {n : Int} (h : byB n = true) : 0 ≤ n ∧ n ≤ 255 := by unfold byB at h; simpa using h
theorem byB_of {n : Int} (h : 0 ≤ n ∧ n ≤ 255) : byB n = true := by unfold byB; simpa using h
theorem test_any (w : World) (n : Int) : Calls Try.prog 46 #[.int .i64 n] w fun e w' => e = .returned (.bool (!byB n)) ∧ w = w' := by
  by_cases h0 : n < 0
  · have e : byB n = false := by unfold byB; simp; omega
    have H := Lib.hid e
    clear e
    have hd : decide (n < 0) = true := decide_eq_true h0
    go_enter Try.func46, Try.ntmps46
    go_wp2
    go_ret
    exact ⟨by rw [H.out]; rfl, rfl⟩
  · have hd : decide (n < 0) = false := decide_eq_false h0
    by_cases h1 : 255 < n
    · have e : byB n = false := by unfold byB; simp; omega
      have H := Lib.hid e
      clear e
      have hd2 : decide (255 < n) = true := decide_eq_true h1
      go_enter Try.func46, Try.ntmps46
      go_wp2
      go_ret
      exact ⟨by rw [H.out]; rfl, rfl⟩
    · have e : byB n = true := byB_of (by omega)
      have H := Lib.hid e
      clear e
      have hd2 : decide (255 < n) = false := decide_eq_false h1
      go_enter Try.func46, Try.ntmps46
      go_wp2
      go_ret
      exact ⟨by rw [H.out]; rfl, rfl⟩
def IdxPost (w : World) (l : List Int) (e : Ending) (w' : World) : Prop := ∃ z : Int, e = .returned (.int .i64 z) ∧ decide (0 ≤ z) = !l.all byB ∧ w = w'
theorem take_snoc {l : List Int} {k : Nat} (h : k < l.length) : l.take (k + 1) = l.take k ++ [rd l k] := by
  rw [List.take_succ_eq_append_getElem h]; unfold rd; simp [List.getD_eq_getElem?_getD, List.getElem?_eq_getElem h]
theorem rd_in {l : List Int} {k : Nat} (h : k < l.length) : rd l k ∈ l := by
  have e : rd l k = l[k] := by unfold rd; simp [List.getD_eq_getElem?_getD, List.getElem?_eq_getElem h]
  rw [e]; exact List.getElem_mem h
set_option maxHeartbeats 1000000 in
theorem index_any (w : World) (A : Option Addr) (c : Nat) (l : List Int) (hr : Kd.C (Kd.int .i64) w A l.length l) : Calls Try.prog 47 #[.slice A l.length c, .func (.func 46) #[] #[]] w (IdxPost w l) := by
  have hm := Kd.C_max hr
  have HR := Lib.hid hr
  clear hr
  go_enter Try.func47, Try.ntmps47
  go_wp2
  go_loop [8] (fun i => ∃ k : Nat, k ≤ l.length ∧ i = .int .i64 k ∧ Hid ((l.take k).all byB = true)) (fun i => l.length - (intOf i).toNat)
  case atStart => exact ⟨0, Nat.zero_le _, rfl, Lib.hid rfl⟩
  case round =>
    obtain ⟨k, hk, rfl, HA⟩ := hrel
    by_cases hlt : k < l.length
    · obtain ⟨ad, e0, hc⟩ := Kd.at_int HR.out (k : Int) (by omega) (by omega)
      cases e0
      rw [Int.toNat_natCast] at hc
      have hs := Lib.hid (take_snoc hlt)
      have hin := Lib.hid (rd_in hlt)
      obtain ⟨v, hv⟩ : ∃ v, rd l (k : Int) = v := ⟨_, rfl⟩
      rw [hv] at hc hs hin
      clear hv
      by_cases hb : byB v = true
      · have HB := Lib.hid hb
        clear hb
        go_wp2_with (go_at_call 46; refine (test_any _ v).mono ?_; rw [HB.out]; rintro e w' ⟨rfl, rfl⟩)
        go_round
        case rel => exact ⟨k + 1, by omega, by go_num, Lib.hid (by rw [hs.out, List.all_append, HA.out]; simp [HB.out])⟩
        case measure => simp [intOf]; omega
      · have HB := Lib.hid (show byB v = false by simpa using hb)
        clear hb
        go_wp2_with (go_at_call 46; refine (test_any _ v).mono ?_; rw [HB.out]; rintro e w' ⟨rfl, rfl⟩)
        go_ret
        refine ⟨_, rfl, ?_, rfl⟩
        have : l.all byB = false := by
          rw [← Bool.not_eq_true, List.all_eq_true]
          intro h
          have := h v hin.out
          rw [HB.out] at this; cases this
        rw [this]; simp
    · have : k = l.length := by omega
      subst this
      go_wp2
      go_ret
      refine ⟨_, rfl, ?_, rfl⟩
      have h := HA.out
      rw [List.take_length] at h
      rw [h]; rfl
theorem contains_any (w : World) (A : Option Addr) (c : Nat) (l : List Int) (hr : Kd.C (Kd.int .i64) w A l.length l) : Calls Try.prog 45 #[.slice A l.length c, .func (.func 46) #[] #[]] w fun e w' => e = .returned (.bool (!l.all byB)) ∧ w = w' := by
  have HR := Lib.hid hr
  clear hr
  go_enter Try.func45, Try.ntmps45
  go_wp2_with (go_at_call 47; refine (index_any _ _ _ _ HR.out).mono ?_; rintro e w' ⟨z, rfl, hz, rfl⟩)
  go_ret
  exact ⟨rfl, rfl⟩
theorem fits_any (w : World) (A : Option Addr) (c : Nat) (l : List Int) (hr : Kd.C (Kd.int .i64) w A l.length l) : Calls Try.prog 41 #[.slice A l.length c] w fun e w' => e = .returned (.bool (l.all byB)) ∧ w = w' := by
  have HR := Lib.hid hr
  clear hr
  go_enter Try.func41, Try.ntmps41
  go_wp2_with (go_at_call 45; refine (contains_any _ _ _ _ HR.out).mono ?_; rintro e w' ⟨rfl, rfl⟩)
  go_ret
  exact ⟨by simp, rfl⟩
/-- The bits of a part, as pointers. -/
theorem bits_any (w : World) {g : Nat} {p : S60} (hb : w.heap[g]? = some (.cells #[.bool p.f0, .bool p.f1, .bool p.f2, .bool p.f3, .bool p.f4, .int .u32 p.f5, .int .i64 p.f6, .int .i64 p.f7, .int .i64 p.f8] 60 (0, 0))) :
    Calls Try.prog 39 #[.pointer (some ⟨g, 0, none⟩)] w fun e w' => ∃ n, e = .returned (.slice (some ⟨w.heap.size, 0, none⟩) 5 5) ∧ w' = (w.alloc (.cells #[.pointer (some ⟨g, 0, none⟩), .pointer (some ⟨g, 1, none⟩), .pointer (some ⟨g, 2, none⟩), .pointer (some ⟨g, 3, none⟩), .pointer (some ⟨g, 4, none⟩)] 79)).drewN n := by
  have h0 := Mem.blk_cell hb 0
  go_enter Try.func39, Try.ntmps39
  go_wp2
  go_region
  all_goals
    go_wp2
    go_ret
    exact ⟨_, rfl, rfl⟩
end Go.Proofs.Ytmhglfidggjfdaa.Bill
