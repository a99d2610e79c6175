/- The closed statement on edges: all of them, of up to five takers, and how many. No condition. -/
import Derived.Test.YtoimmobljpegmaaPathA
namespace Go.Proofs.Ytoimmobljpegmaa.Path
open Go.RowKit Go.Proofs.Ytoimmobljpegmaa.Mem

def okAt (i : Nat) : Bool := (onF ((i / 77 : Nat) - 1) ((i / 11 % 7 : Nat) - 1) ((i % 11 : Nat) - 1)).2.2
def E : Nat → Int
  | 0 => 0
  | i + 1 => if okAt i = true then E i + 1 else E i
def ix (s n e : Int) : Nat := (((s + 1) * 7 + (n + 1)) * 11 + (e + 1)).toNat
def cnt (s n e : Int) : Int := E (ix s n e)
theorem E_le : ∀ i, 0 ≤ E i ∧ E i ≤ i
  | 0 => by simp [E]
  | i + 1 => by
    have := E_le i
    simp only [E]
    split <;> omega
theorem cnt_le (s n e : Int) (h1 : s ≤ 4) (h2 : n ≤ 6) (h3 : e ≤ 10) : 0 ≤ cnt s n e ∧ cnt s n e ≤ 1000 := by
  have := E_le (ix s n e)
  unfold cnt
  have h : ix s n e ≤ 1000 := by unfold ix; omega
  omega
theorem cnt_step (s n e : Int) (h1 : -1 ≤ s) (h2 : -1 ≤ n ∧ n ≤ 5) (h3 : -1 ≤ e ∧ e ≤ 9) : cnt s n (e + 1) = if (onF s n e).2.2 = true then cnt s n e + 1 else cnt s n e := by
  unfold cnt
  obtain ⟨i, hi⟩ : ∃ i, ix s n e = i := ⟨_, rfl⟩
  have hi1 : ix s n (e + 1) = i + 1 := by rw [← hi]; unfold ix; omega
  have hs : ((i / 77 : Nat) : Int) - 1 = s := by rw [← hi]; unfold ix; omega
  have hn : ((i / 11 % 7 : Nat) : Int) - 1 = n := by rw [← hi]; unfold ix; omega
  have he : ((i % 11 : Nat) : Int) - 1 = e := by rw [← hi]; unfold ix; omega
  rw [hi, hi1, E]
  unfold okAt
  rw [hs, hn, he]
theorem cnt_n (s n : Int) : cnt s n 10 = cnt s (n + 1) (-1) := by unfold cnt; congr 1; unfold ix; omega
theorem cnt_s (s : Int) : cnt s 6 (-1) = cnt (s + 1) (-1) (-1) := by unfold cnt; congr 1; unfold ix; omega
theorem cnt_0 : cnt (-1) (-1) (-1) = 0 := rfl
theorem cnt_end : cnt 4 (-1) (-1) = 16 := by decide +kernel

theorem onF_cases (s n e : Int) (hn : -1 ≤ n ∧ n ≤ 5) :
    (s = 0 ∧ n = 0 ∧ e = 1 ∧ onF s n e = (1, 0, true)) ∨ (s = 1 ∧ n = 0 ∧ e = 2 ∧ onF s n e = (2, 0, true)) ∨ (s = 1 ∧ n = 0 ∧ e = 7 ∧ onF s n e = (0, 0, true)) ∨
    (s = 2 ∧ 0 ≤ n ∧ e = 3 ∧ onF s n e = (2, n + 1, true)) ∨ (s = 2 ∧ 0 < n ∧ e = 4 ∧ onF s n e = (2, n - 1, true)) ∨ (s = 2 ∧ n = 0 ∧ e = 5 ∧ onF s n e = (0, 0, true)) ∨
    (s = 2 ∧ n = 0 ∧ e = 6 ∧ onF s n e = (0, 0, true)) ∨
    ((¬ (s = 0 ∧ n = 0 ∧ e = 1) ∧ ¬ (s = 1 ∧ n = 0 ∧ e = 2) ∧ ¬ (s = 1 ∧ n = 0 ∧ e = 7) ∧ ¬ (s = 2 ∧ 0 ≤ n ∧ e = 3) ∧ ¬ (s = 2 ∧ 0 < n ∧ e = 4) ∧ ¬ (s = 2 ∧ n = 0 ∧ (e = 5 ∨ e = 6))) ∧ onF s n e = (0, 0, false)) := by
  have hw : wrap64 (n + 1) = n + 1 := by unfold wrap64; omega
  by_cases c1 : s = 0 ∧ n = 0 ∧ e = 1
  · exact .inl ⟨c1.1, c1.2.1, c1.2.2, by rw [onF, if_pos c1]⟩
  · by_cases c2 : s = 1 ∧ n = 0 ∧ e = 2
    · exact .inr (.inl ⟨c2.1, c2.2.1, c2.2.2, by rw [onF, if_neg c1, if_pos c2]⟩)
    · by_cases c3 : s = 1 ∧ n = 0 ∧ e = 7
      · exact .inr (.inr (.inl ⟨c3.1, c3.2.1, c3.2.2, by rw [onF, if_neg c1, if_neg c2, if_pos c3]⟩))
      · by_cases c4 : s = 2 ∧ 0 ≤ n ∧ e = 3
        · exact .inr (.inr (.inr (.inl ⟨c4.1, c4.2.1, c4.2.2, by rw [onF, if_neg c1, if_neg c2, if_neg c3, if_pos c4, hw]⟩)))
        · by_cases c5 : s = 2 ∧ 0 < n ∧ e = 4
          · exact .inr (.inr (.inr (.inr (.inl ⟨c5.1, c5.2.1, c5.2.2, by rw [onF, if_neg c1, if_neg c2, if_neg c3, if_neg c4, if_pos c5]⟩))))
          · by_cases c6 : s = 2 ∧ n = 0 ∧ (e = 5 ∨ e = 6)
            · have ho : onF s n e = (0, 0, true) := by rw [onF, if_neg c1, if_neg c2, if_neg c3, if_neg c4, if_neg c5, if_pos c6]
              rcases c6 with ⟨h1, h2, h3 | h3⟩
              · exact .inr (.inr (.inr (.inr (.inr (.inl ⟨h1, h2, h3, ho⟩)))))
              · exact .inr (.inr (.inr (.inr (.inr (.inr (.inl ⟨h1, h2, h3, ho⟩))))))
            · exact .inr (.inr (.inr (.inr (.inr (.inr (.inr ⟨⟨c1, c2, c3, c4, c5, c6⟩, by rw [onF, if_neg c1, if_neg c2, if_neg c3, if_neg c4, if_neg c5, if_neg c6]⟩))))))

set_option maxRecDepth 100000 in
set_option maxHeartbeats 40000000 in
theorem edges (w : World) : Calls Try.prog 13 #[] w fun e w' => e = .returned (.bool true) ∧ Below w.heap.size w w' := by
  have hb := Below.refl w.heap.size w
  go_enter Try.func13, Try.ntmps13
  go_wp2_with (first
    | (go_at_call 42; refine (begun _).mono ?_; rintro e w1 ⟨rfl, hb1⟩; replace hb := bel_chain hb hb1; clear hb1))
  go_loop [1, 2] (fun t1 t2 => ∃ s : Int, -1 ≤ s ∧ s ≤ 4 ∧ t1 = .int .i64 (cnt s (-1) (-1)) ∧ t2 = .int .i64 s) (fun _ t2 => (4 - intOf t2).toNat)
  case atStart => exact ⟨-1, by omega, by omega, rfl, rfl⟩
  case round =>
    obtain ⟨s, hs0, hs1, rfl, rfl⟩ := hrel
    by_cases hs : s ≤ 3
    · go_wp2
      go_loop [1, 3] (fun t1 t3 => ∃ n : Int, -1 ≤ n ∧ n ≤ 6 ∧ t1 = .int .i64 (cnt s n (-1)) ∧ t3 = .int .i64 n) (fun _ t3 => (6 - intOf t3).toNat)
      case atStart => exact ⟨-1, by omega, by omega, rfl, rfl⟩
      case round =>
        obtain ⟨n, hn0, hn1, rfl, rfl⟩ := hrel
        by_cases hn : n ≤ 5
        · go_wp2
          go_loop [1, 4] (fun t1 t4 => ∃ e : Int, -1 ≤ e ∧ e ≤ 10 ∧ t1 = .int .i64 (cnt s n e) ∧ t4 = .int .i64 e) (fun _ t4 => (10 - intOf t4).toNat)
          case atStart => exact ⟨-1, by omega, by omega, rfl, rfl⟩
          case round =>
            obtain ⟨e, he0, he1, rfl, rfl⟩ := hrel
            by_cases he : e ≤ 9
            · have hst := cnt_step s n e hs0 ⟨hn0, hn⟩ ⟨he0, he⟩
              have hcl := cnt_le s n e (by omega) (by omega) (by omega)
              obtain ⟨ev, hev⟩ : ∃ ev, ev = e + 1 := ⟨_, rfl⟩
              have he0' : -1 ≤ ev := by omega
              have he1' : ev ≤ 10 := by omega
              rw [← hev] at hst
              have Hev := Lib.hid hev
              clear hev
              rcases onF_cases s n e ⟨hn0, hn⟩ with ⟨rfl, rfl, rfl, ho⟩ | ⟨rfl, rfl, rfl, ho⟩ | ⟨rfl, rfl, rfl, ho⟩ | ⟨rfl, hq, rfl, ho⟩ | ⟨rfl, hq, rfl, ho⟩ | ⟨rfl, rfl, rfl, ho⟩ | ⟨rfl, rfl, rfl, ho⟩ | ⟨hno, ho⟩
              · as_aux_lemma =>
                  rw [ho, if_pos rfl] at hst
                  have Hst := Lib.hid hst
                  have Ho := Lib.hid ho
                  clear hst ho
                  go_wp2_with (first | (go_at_call 43; (with_reducible refine (on_val _ (by omega) Ho.out).mono ?_); rintro e w' ⟨rfl, rfl⟩))
                  go_round
                  case rel => exact ⟨ev, he0', he1', by rw [Hst.out], congrArg _ (by have := Hev.out; omega)⟩
                  case measure => first | (simp [intOf]; done) | (simp [intOf]; omega)
              · as_aux_lemma =>
                  rw [ho, if_pos rfl] at hst
                  have Hst := Lib.hid hst
                  have Ho := Lib.hid ho
                  clear hst ho
                  go_wp2_with (first | (go_at_call 43; (with_reducible refine (on_val _ (by omega) Ho.out).mono ?_); rintro e w' ⟨rfl, rfl⟩))
                  go_round
                  case rel => exact ⟨ev, he0', he1', by rw [Hst.out], congrArg _ (by have := Hev.out; omega)⟩
                  case measure => first | (simp [intOf]; done) | (simp [intOf]; omega)
              · as_aux_lemma =>
                  rw [ho, if_pos rfl] at hst
                  have Hst := Lib.hid hst
                  have Ho := Lib.hid ho
                  clear hst ho
                  go_wp2_with (first | (go_at_call 43; (with_reducible refine (on_val _ (by omega) Ho.out).mono ?_); rintro e w' ⟨rfl, rfl⟩))
                  go_round
                  case rel => exact ⟨ev, he0', he1', by rw [Hst.out], congrArg _ (by have := Hev.out; omega)⟩
                  case measure => first | (simp [intOf]; done) | (simp [intOf]; omega)
              · rcases (show n = 0 ∨ 0 < n by omega) with rfl | hnp
                · as_aux_lemma =>
                    rw [ho, if_pos rfl] at hst
                    have Hst := Lib.hid hst
                    have Ho := Lib.hid ho
                    clear hst ho
                    go_wp2_with (first | (go_at_call 43; (with_reducible refine (on_val _ (by omega) Ho.out).mono ?_); rintro e w' ⟨rfl, rfl⟩))
                    go_round
                    case rel => exact ⟨ev, he0', he1', by rw [Hst.out], congrArg _ (by have := Hev.out; omega)⟩
                    case measure => first | (simp [intOf]; done) | (simp [intOf]; omega)
                · have hz : (n == 0) = false := by simp; omega
                  · as_aux_lemma =>
                      rw [ho, if_pos rfl] at hst
                      have Hst := Lib.hid hst
                      have Ho := Lib.hid ho
                      clear hst ho
                      go_wp2_with (first | (go_at_call 43; (with_reducible refine (on_val _ (by omega) Ho.out).mono ?_); rintro e w' ⟨rfl, rfl⟩))
                      go_round
                      case rel => exact ⟨ev, he0', he1', by rw [Hst.out], congrArg _ (by have := Hev.out; omega)⟩
                      case measure => first | (simp [intOf]; done) | (simp [intOf]; omega)
              · have hz : (n == 0) = false := by simp; omega
                · as_aux_lemma =>
                    rw [ho, if_pos rfl] at hst
                    have Hst := Lib.hid hst
                    have Ho := Lib.hid ho
                    clear hst ho
                    go_wp2_with (first | (go_at_call 43; (with_reducible refine (on_val _ (by omega) Ho.out).mono ?_); rintro e w' ⟨rfl, rfl⟩))
                    go_round
                    case rel => exact ⟨ev, he0', he1', by rw [Hst.out], congrArg _ (by have := Hev.out; omega)⟩
                    case measure => first | (simp [intOf]; done) | (simp [intOf]; omega)
              · as_aux_lemma =>
                  rw [ho, if_pos rfl] at hst
                  have Hst := Lib.hid hst
                  have Ho := Lib.hid ho
                  clear hst ho
                  go_wp2_with (first | (go_at_call 43; (with_reducible refine (on_val _ (by omega) Ho.out).mono ?_); rintro e w' ⟨rfl, rfl⟩))
                  go_round
                  case rel => exact ⟨ev, he0', he1', by rw [Hst.out], congrArg _ (by have := Hev.out; omega)⟩
                  case measure => first | (simp [intOf]; done) | (simp [intOf]; omega)
              · as_aux_lemma =>
                  rw [ho, if_pos rfl] at hst
                  have Hst := Lib.hid hst
                  have Ho := Lib.hid ho
                  clear hst ho
                  go_wp2_with (first | (go_at_call 43; (with_reducible refine (on_val _ (by omega) Ho.out).mono ?_); rintro e w' ⟨rfl, rfl⟩))
                  go_round
                  case rel => exact ⟨ev, he0', he1', by rw [Hst.out], congrArg _ (by have := Hev.out; omega)⟩
                  case measure => first | (simp [intOf]; done) | (simp [intOf]; omega)
              · rcases (show s = -1 ∨ s = 0 ∨ s = 1 ∨ s = 2 ∨ s = 3 by omega) with rfl | rfl | rfl | rfl | rfl
                all_goals
                  rcases (show n = -1 ∨ n = 0 ∨ 0 < n by omega) with rfl | rfl | hnp
                  all_goals
                    rcases (show e = 1 ∨ e = 2 ∨ e = 3 ∨ e = 4 ∨ e = 5 ∨ e = 6 ∨ e = 7 ∨ (e < 1 ∨ 7 < e) by omega) with rfl | rfl | rfl | rfl | rfl | rfl | rfl | hoe
                    all_goals first | (exfalso; omega) | skip
                    all_goals as_aux_lemma =>
                      rw [ho, if_neg (by decide)] at hst
                      have hz : Hid True := Lib.hid trivial
                      try have hz0 : (n == 0) = false := by simp; omega
                      try have he1 : (e == 1) = false := by simp; omega
                      try have he2 : (e == 2) = false := by simp; omega
                      try have he3 : (e == 3) = false := by simp; omega
                      try have he4 : (e == 4) = false := by simp; omega
                      try have he5 : (e == 5) = false := by simp; omega
                      try have he6 : (e == 6) = false := by simp; omega
                      try have he7 : (e == 7) = false := by simp; omega
                      try clear hoe
                      clear hno
                      have Hst := Lib.hid hst
                      have Ho := Lib.hid ho
                      clear hst ho
                      go_wp2_with (first | (go_at_call 43; (with_reducible refine (on_val _ (by omega) Ho.out).mono ?_); rintro e w' ⟨rfl, rfl⟩))
                      go_round
                      case rel => exact ⟨ev, he0', he1', by rw [Hst.out], congrArg _ (by have := Hev.out; omega)⟩
                      case measure => first | (simp [intOf]; done) | (simp [intOf]; omega)
            · obtain rfl : e = 10 := by omega
              go_wp2
              go_round
              case rel => exact ⟨n + 1, by omega, by omega, by rw [cnt_n], rfl⟩
              case measure => simp [intOf]; omega
        · obtain rfl : n = 6 := by omega
          go_wp2
          go_round
          case rel => exact ⟨s + 1, by omega, by omega, by rw [cnt_s], rfl⟩
          case measure => simp [intOf]; omega
    · obtain rfl : s = 4 := by omega
      have hce := cnt_end
      go_wp2
      go_ret
      exact ⟨rfl, hb⟩
end Go.Proofs.Ytoimmobljpegmaa.Path
