/- Where pages lie: what the laws ask first; that a page's three numbers are its digits of sixteen. -/
import Derived.Test.YtdpjpmlajjfpgaaWlkB
namespace Go.Proofs.Ytdpjpmlajjfpgaa.Ram
open Go.RowKit Go.Proofs.Ytdpjpmlajjfpgaa.Mem Go.Proofs.Ytdpjpmlajjfpgaa.Kept Go.Proofs.Ytdpjpmlajjfpgaa.Slo Go.Proofs.Ytdpjpmlajjfpgaa.Bits
open Go.Proofs.Ytdpjpmlajjfpgaa.PWalkAll
open Go.Proofs.YtdpjpmlajjfpgaaW.PrintWords (nums ReadsInt results_ct results_ctt gate_dst box_event)
set_option linter.unusedVariables false
set_option linter.unusedSimpArgs false

theorem slot_any (w : World) (a b c v : Int) (h : mayB a b c = true) (hv : a + 4 * c + 4096 * b = v) :
    Calls Try.prog 28 #[.agg #[.int .i64 a, .int .i64 b, .int .i64 c]] w fun e w' => e = .returned (.int .u64 v) ∧ Below w.heap.size w w' :=
  (presidioref1_Slot.calls 1 a b c v w (by rw [rput_f 0 h, hv])).mono fun e w' h => ⟨h.1, h.2⟩
theorem walk_i {w : World} {B g b n : Nat} {F : List Int} {s : Int} (h : Is w B g b n F s) (hF : ∀ x ∈ F, 0 ≤ x ∧ x ≤ 255) (root page f p l E : Int) (hr : wk n s F root page = (f, p, l, E)) :
    Calls Try.prog 31 #[.pointer (some ⟨g, 0, none⟩), .int .i64 root, .int .i64 page] w fun e w' => e = .returned (.tuple #[.agg #[.int .i64 f, .int .i64 p], .int .i64 l, .int .i64 E]) ∧ Below w.heap.size w w' :=
  (walk_any h hF root page).mono fun e w' h => by rw [hr] at h; exact h
def bF1 : List Int := swF 5 0 (List.replicate (5 * 128) 0) true 0 0 4097
def bF2 : List Int := swF 5 0 bF1 true 1 0 8193
def bF3 : List Int := swF 5 0 bF2 true 2 3 16390
theorem bF3_mem : ∀ x ∈ bF3, 0 ≤ x ∧ x ≤ 255 := swF_mem (swF_mem (swF_mem mem_zero (by decide)) (by decide)) (by decide)
theorem bW3 : wk 5 0 bF3 0 3 = (4, 1, 3, 0) := by decide +kernel
theorem bW4 : wk 5 0 bF3 0 4 = (0, 0, 0, -20) := by decide +kernel
set_option maxRecDepth 100000 in
set_option maxHeartbeats 16000000 in
theorem wbegun (w : World) : Calls Try.prog 25 #[] w fun e w' => e = .returned (.bool true) ∧ Below w.heap.size w w' := by
  have hb := Below.refl w.heap.size w
  have hu51 := Try.underlying51
  have hu58 := Try.underlying58
  go_enter Try.func25, Try.ntmps25
  go_wp2_with (first
    | (go_at_call 33; (with_reducible refine (path_in _ 291 (by decide) (by decide)).mono ?_); rintro e w1 ⟨rfl, hb1⟩; replace hb := bel_chain hb hb1; clear hb1)
    | (go_at_call 26; (with_reducible refine (new_i w1 5 0 5 0 (by decide) (by decide)).mono ?_); rintro e w2 ⟨g, b, rfl, H0, hb2⟩; have hB := Lib.hid hb.size; have H := Lib.hid H0; replace hb := bel_chain hb hb2; clear hb2 H0)
    | (go_at_call 28; (with_reducible refine (slot_any _ 1 1 0 4097 (by decide) (by decide)).mono ?_); rintro e w3 ⟨rfl, hb3⟩; have H3 := Lib.hid (H.out.below hb3); replace hb := bel_chain hb hb3; clear hb3 H)
    | (go_at_call 29; (with_reducible refine (setWord_any H3.out true 0 0 4097 (by decide)).mono ?_); rintro e w4 ⟨rfl, H0, hk⟩; replace hb := bel_own hb H3.out hB.out hk; have H4 : Hid (Is w4 _ g b 5 bF1 0) := Lib.hid H0; clear hk H0 H3)
    | (go_at_call 28; (with_reducible refine (slot_any _ 1 2 0 8193 (by decide) (by decide)).mono ?_); rintro e w5 ⟨rfl, hb3⟩; have H5 := Lib.hid (H4.out.below hb3); replace hb := bel_chain hb hb3; clear hb3 H4)
    | (go_at_call 29; (with_reducible refine (setWord_any H5.out true 1 0 8193 (by decide)).mono ?_); rintro e w6 ⟨rfl, H0, hk⟩; replace hb := bel_own hb H5.out hB.out hk; have H6 : Hid (Is w6 _ g b 5 bF2 0) := Lib.hid H0; clear hk H0 H5)
    | (go_at_call 28; (with_reducible refine (slot_any _ 2 4 1 16390 (by decide) (by decide)).mono ?_); rintro e w7 ⟨rfl, hb3⟩; have H7 := Lib.hid (H6.out.below hb3); replace hb := bel_chain hb hb3; clear hb3 H6)
    | (go_at_call 29; (with_reducible refine (setWord_any H7.out true 2 3 16390 (by decide)).mono ?_); rintro e w8 ⟨rfl, H0, hk⟩; replace hb := bel_own hb H7.out hB.out hk; have H8 : Hid (Is w8 _ g b 5 bF3 0) := Lib.hid H0; clear hk H0 H7)
    | (go_at_call 31; (with_reducible refine (walk_i H8.out bF3_mem 0 3 4 1 3 0 bW3).mono ?_); rintro e w9 ⟨rfl, hb3⟩; have H9 := Lib.hid (H8.out.below hb3); replace hb := bel_chain hb hb3; clear hb3 H8)
    | ((with_reducible refine gate_dst (N := 6) rfl ?_); refine box_event ?hg (N := 6) ?hd (cs := #[.int .i64 0, .int .i64 0]) (t := 58) ?hr ?_; (case hd => rfl); (case hg => rfl); (case hr => first | (go_simp; done) | (go_simp; rfl)); intro g6 hge wa BK6 hb6; have hg6 : w9.heap.size ≤ g6 := (by rw [hge]; exact Nat.le_refl _); clear hge; obtain ⟨d0, d1, s0, s1⟩ := cells2f BK6)
    | (go_at_call 31; obtain ⟨wb, eb, BKb, hbb, _⟩ := store2 BK6 hb6 hg6 (.int .i64 4) (.int .i64 1); rw [eb]; (with_reducible refine (walk_i (H9.out.below hbb) bF3_mem 0 4 0 0 0 (-20) bW4).mono ?_); rintro e wc ⟨rfl, hbc⟩; replace BKb := blk_below BKb hbc; replace hb := bel_chain hb (bel_chain hbb hbc); clear hbc hbb eb hb6 BK6 d0 d1 s0 s1; obtain ⟨d0, d1, s0, s1⟩ := cells2f BKb)
    | ((with_reducible refine gate_dst (N := 9) rfl ?_); refine box_event ?hg (N := 9) ?hd (cs := #[.int .i64 0, .int .i64 0]) (t := 58) ?hr ?_; (case hd => rfl); (case hg => rfl); (case hr => first | (go_simp; done) | (go_simp; rfl)); intro g9 hge wd BK9 hb9; have hg9 : w.heap.size ≤ g9 := (by rw [hge]; exact hb.size); have hne : g6 ≠ g9 := (by rw [hge]; exact Nat.ne_of_lt (blk_lt BKb)); clear hge d0 d1 s0 s1; replace BKb := blk_below BKb hb9; replace hb := bel_chain hb hb9; obtain ⟨d0, d1, s0, s1⟩ := cells2f BKb; obtain ⟨q0, q1, r0, r1⟩ := cells2f BK9)
    | fail)
  go_ret
  exact ⟨rfl, (hb.setCell hg9 _).setCell hg9 _⟩
set_option maxRecDepth 100000 in
set_option maxHeartbeats 16000000 in
theorem paths_all (w : World) (p : Int) : Calls Try.prog 8 #[.int .i64 p] w fun e w' => e = .returned (.bool true) ∧ Below w.heap.size w w' := by
  have hb := Below.refl w.heap.size w
  by_cases hp : 0 ≤ p ∧ p < 4096
  · obtain ⟨a, ha⟩ : ∃ a, p / 256 = a := ⟨_, rfl⟩
    obtain ⟨b, hB⟩ : ∃ a, p / 16 % 16 = a := ⟨_, rfl⟩
    obtain ⟨c, hc⟩ : ∃ a, p % 16 = a := ⟨_, rfl⟩
    have a0 : decide (0 ≤ a) = true := decide_eq_true (by omega)
    have a1 : decide (a < 16) = true := decide_eq_true (by omega)
    have b0 : decide (0 ≤ b) = true := decide_eq_true (by omega)
    have b1 : decide (b < 16) = true := decide_eq_true (by omega)
    have c0 : decide (0 ≤ c) = true := decide_eq_true (by omega)
    have c1 : decide (c < 16) = true := decide_eq_true (by omega)
    have p0 : decide (p < 0) = false := decide_eq_false (by omega)
    have p1 : decide (4096 ≤ p) = false := decide_eq_false (by omega)
    have m1 : wrap64 (256 * a) = 256 * a := w64_in (by omega) (by omega)
    have m2 : wrap64 (16 * b) = 16 * b := w64_in (by omega) (by omega)
    have m3 : wrap64 (256 * a + 16 * b) = 256 * a + 16 * b := w64_in (by omega) (by omega)
    have m4 : wrap64 (256 * a + 16 * b + c) = p := by rw [w64_in (by omega) (by omega)]; omega
    have HP := Lib.hid hp
    have HA := Lib.hid ha
    have HB := Lib.hid hB
    have HC := Lib.hid hc
    clear hp ha hB hc
    go_enter Try.func8, Try.ntmps8
    go_wp2_with (first
      | (go_at_call 25; (with_reducible refine (wbegun _).mono ?_); rintro e w1 ⟨rfl, hb1⟩; replace hb := bel_chain hb hb1; clear hb1)
      | (go_at_call 33; (with_reducible refine (path_in _ p HP.out.1 HP.out.2).mono ?_); rw [HA.out, HB.out, HC.out]; rintro e w2 ⟨rfl, hb1⟩; replace hb := bel_chain hb hb1; clear hb1)
      | fail)
    go_ret
    exact ⟨rfl, hb⟩
  · have HP := Lib.hid hp
    by_cases h0 : p < 0
    · have p0 : decide (p < 0) = true := decide_eq_true h0
      clear hp h0
      go_enter Try.func8, Try.ntmps8
      go_wp2_with (first
        | (go_at_call 25; (with_reducible refine (wbegun _).mono ?_); rintro e w1 ⟨rfl, hb1⟩; replace hb := bel_chain hb hb1; clear hb1)
        | (go_at_call 33; (with_reducible refine (path_out _ p HP.out).mono ?_); rintro e w2 ⟨rfl, hb1⟩; replace hb := bel_chain hb hb1; clear hb1)
        | fail)
      go_ret
      exact ⟨rfl, hb⟩
    · have p0 : decide (p < 0) = false := decide_eq_false h0
      have p1 : decide (4096 ≤ p) = true := decide_eq_true (by omega)
      clear hp h0
      go_enter Try.func8, Try.ntmps8
      go_wp2_with (first
        | (go_at_call 25; (with_reducible refine (wbegun _).mono ?_); rintro e w1 ⟨rfl, hb1⟩; replace hb := bel_chain hb hb1; clear hb1)
        | (go_at_call 33; (with_reducible refine (path_out _ p HP.out).mono ?_); rintro e w2 ⟨rfl, hb1⟩; replace hb := bel_chain hb hb1; clear hb1)
        | fail)
      go_ret
      exact ⟨rfl, hb⟩
end Go.Proofs.Ytdpjpmlajjfpgaa.Ram
