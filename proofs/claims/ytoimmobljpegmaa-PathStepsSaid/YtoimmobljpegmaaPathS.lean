/- A path is its edges one behind the other, and each front of it is one. -/
import Derived.Test.YtoimmobljpegmaaPathA
import Derived.Test.YtoimmobljpegmaaWWords
namespace Go.Proofs.Ytoimmobljpegmaa.Path
open Go.RowKit Go.Proofs.Ytoimmobljpegmaa.Mem Go.Proofs.YtoimmobljpegmaaW.PrintWords

theorem info3 : (Try.prog.info? 3).map (fun i => (i.zero, i.size, i.bytes)) = some (some (.int .i64 0), 1, 8) := by kernel_rfl
/-- Path of a row of the call's own. -/
theorem path_own {w : World} {base : Nat} {v : Value} {l : List Int} {s n : Int} {ok : Bool} (h : pathS l 0 0 = (s, n, ok)) (hl : l.length ≤ 1152921504606846976) (ho : w.ownsRow base 3 1 v l.length (nums .i64 l)) :
    Calls Try.prog 45 #[v] w fun r w' => r = .returned (.tuple #[.int .i64 s, .int .i64 n, .bool ok]) ∧ w' = w := by
  rcases ho.2 with ⟨rfl, hn⟩ | ⟨g, cap, cur, rfl, _, hg, hnc, _, hcs, hcur⟩
  · obtain rfl : l = [] := List.eq_nil_of_length_eq_zero hn
    exact path_val (a := none) (b := 0) (off := 0) (l := []) w h hl (fun h => absurd h (by simp)) (fun i h => absurd h (by simp))
  · refine path_val (b := g) (off := 0) w h hl (fun _ => rfl) fun i hi => ?_
    have h1 := ho.cells (g := g) rfl i (.int .i64 (l.getD i 0)) (by
      simp [nums, List.getElem?_map, List.getElem?_eq_getElem hi, List.getD_eq_getElem?_getD])
    rw [Nat.zero_add]
    rwa [add_plain] at h1

theorem pathS_snoc (l : List Int) (e s n : Int) : ∀ a b, pathS l a b = (s, n, true) → pathS (l ++ [e]) a b = if (onF s n e).2.2 = true then ((onF s n e).1, (onF s n e).2.1, true) else (0, 0, false) := by
  induction l with
  | nil => intro a b h; simp only [pathS, Prod.mk.injEq] at h; obtain ⟨rfl, rfl, _⟩ := h; simp only [List.nil_append, pathS]
  | cons x t ih =>
    intro a b h
    simp only [pathS, List.cons_append] at h ⊢
    split at h
    · rename_i hx
      rw [if_pos hx]
      exact ih _ _ h
    · simp at h

theorem onF_no {s n e s' n' : Int} (h : onF s n e = (s', n', false)) : s' = 0 ∧ n' = 0 := by
  unfold onF at h
  repeat' split at h
  all_goals simp at h
  exact ⟨h.1.symm, h.2.symm⟩
theorem onF_z {s n e s' n' : Int} (h : onF s n e = (s', n', true)) : s' = 0 → n' = 0 := by
  unfold onF at h
  intro h0
  repeat' split at h
  all_goals simp at h
  all_goals omega
theorem onF_0 (s n : Int) : onF s n 0 = (0, 0, false) := by simp [onF]
theorem onF_s0 (e : Int) : onF 0 0 e = if e = 1 then (1, 0, true) else (0, 0, false) := by
  unfold onF
  by_cases h : e = 1 <;> simp [h]
theorem own_far {W W2 : World} {b : Nat} {e : TypeId} {sz n : Nat} {v : Value} {xs : List Value} {row : Option Nat} (h : W.ownsRow b e sz v n xs) (hg : W.grownBy W2 row) (N : Nat) (hlt : ∀ k, v.ownBlock = some k → k < N)
    (hr : ∀ k, row = some k → N ≤ k) : W2.ownsRow b e sz v n xs := by
  refine own_other h hg ?_
  cases hv : v.ownBlock with
  | none => exact .inl rfl
  | some k =>
    right
    intro he
    have h1 := hlt k hv
    have h2 := hr k he.symm
    omega
theorem far_new (W : World) : ∀ k, (Value.slice (some ⟨W.heap.size, 0, none⟩) 0 0).ownBlock = some k → W.heap.size ≤ k := by
  intro k h
  simp [Value.ownBlock] at h
  omega
theorem far_at {W W1 : World} {v1 : Value} (hs : W.heap.size ≤ W1.heap.size) (hat : v1.ownBlock = (Value.slice (some ⟨W.heap.size, 0, none⟩) 0 0).ownBlock ∨ ∃ b, v1.ownBlock = some b ∧ W1.heap.size ≤ b) : ∀ k, v1.ownBlock = some k → W.heap.size ≤ k := by
  intro k h
  rcases hat with h1 | ⟨b, h1, h2⟩
  · rw [h1] at h; exact far_new W k h
  · rw [h1] at h; cases h; omega

set_option maxRecDepth 100000 in
set_option maxHeartbeats 2000000 in
theorem steps (a : Option Addr) (b off cap : Nat) (l : List Int) (more : Int) (w : World) (hl : l.length ≤ 1152921504606846976) (ha : 0 < l.length → a = some ⟨b, off, none⟩) (hblt : 0 < l.length → b < w.heap.size)
    (hc : ∀ i, i < l.length → w.cell? ⟨b, off + i, none⟩ = some (.int .u8 (l.getD i 0))) (hw : ∀ n ∈ l, (Lit.int .u8 n).wf = true) (hm : 0 ≤ more ∧ more ≤ 255) :
    Calls Try.prog 14 #[.slice a l.length cap, .int .u8 more] w fun e w' => e = .returned (.bool true) ∧ Below w.heap.size w w' := by
  have hb := Below.refl w.heap.size w
  have HC := Lib.hid hc
  have HA := Lib.hid ha
  have HB := Lib.hid hblt
  have HW := Lib.hid hw
  clear hc ha hblt hw
  by_cases h20 : 20 < (l.length : Int)
  · go_enter Try.func14, Try.ntmps14
    go_wp2_with (first
      | (go_at_call 42; refine (begun _).mono ?_; rintro e w1 ⟨rfl, hb1⟩; replace hb := bel_chain hb hb1; clear hb1))
    go_ret
    exact ⟨rfl, hb⟩
  · go_enter Try.func14, Try.ntmps14
    go_wp2_with (first
      | (go_at_call 42; refine (begun _).mono ?_; rintro e w1 ⟨rfl, hb1⟩; replace hb := bel_chain hb hb1; clear hb1))
    go_loopw [5, 6, 7, 8] (fun t5 t6 t7 t8 wr => ∃ (k : Nat) (s n : Int) (ev : List Int), k ≤ l.length ∧ 0 ≤ n ∧ n ≤ k ∧ pathS ev 0 0 = (s, n, true) ∧ (s = 0 → n = 0) ∧ ev.length ≤ k ∧ wr.ownsRow w.heap.size 3 1 t5 ev.length (nums .i64 ev) ∧ Below w.heap.size w wr ∧
        t6 = .int .i64 s ∧ t7 = .int .i64 n ∧ t8 = .int .i64 k) (fun _ _ _ t8 _ => l.length - (intOf t8).toNat)
    case atStart => exact ⟨0, 0, 0, [], by omega, by omega, by omega, rfl, fun _ => rfl, by simp, World.ownsRow_nil _ _ _ _, hb, rfl, rfl, rfl⟩
    case round =>
      obtain ⟨k, s, n, ev, hk, hn0, hn, hp, hsn0, hev, ho, hb, rfl, rfl, rfl⟩ := hrel
      have Hz := Lib.hid hsn0
      clear hsn0
      have Hp := Lib.hid hp
      clear hp
      by_cases hlt : k < l.length
      · obtain ⟨v, hv⟩ : ∃ v, v = l.getD k 0 := ⟨_, rfl⟩
        have hv0 : 0 ≤ v ∧ v ≤ 255 := bounds_u8 (HW.out v (by rw [hv, List.getD_eq_getElem?_getD, List.getElem?_eq_getElem hlt]; exact List.getElem_mem hlt))
        have hcell : wr.cell? ⟨b, off + k, none⟩ = some (.int .u8 v) := (hb.cell (p := ⟨b, off + k, none⟩) (HB.out (by omega))).trans (by rw [hv]; exact HC.out k hlt)
        clear hv
        obtain rfl := HA.out (by omega)
        obtain ⟨⟨s', n', ok⟩, hx⟩ : ∃ x, onF s n (v % 9) = x := ⟨_, rfl⟩
        have hsn := pathS_snoc ev (v % 9) s n 0 0 Hp.out
        rw [hx] at hsn
        have hle := onF_le (s := s) (n := n) (e := v % 9) (by omega) hn0
        rw [hx] at hle
        have Hle := Lib.hid hle
        have Hx := Lib.hid hx
        clear hx hle
        obtain ⟨A5, c5, he5, hr5⟩ := own_reads ho
        subst he5
        have hlen5 : ev.length ≤ 20 := by omega
        have HR5 := Lib.hid hr5
        have HO5 := Lib.hid ho
        clear hr5 ho
        cases ok
        · have HS : Hid (pathS ([] ++ ev ++ [v % 9]) 0 0 = (0, 0, false)) := Lib.hid (by simpa using hsn)
          have H00 : Hid (s' = 0 ∧ n' = 0) := Lib.hid (onF_no Hx.out)
          obtain ⟨rfl, rfl⟩ := H00.out
          clear hsn H00
          have tok1 : True := trivial
          have tok2 : True := trivial
          go_wp2_with (first
            | (go_at_call 43; (with_reducible refine (on_val _ (by omega) Hx.out).mono ?_); rintro e w' ⟨rfl, rfl⟩)
            | (at_builtin; have _t := tok1; refine print_append_row w.heap.size rfl (.tmp 52) (.tmp 53) 22 3 .i64 8 rfl Try.underlying22 info3 (by decide) _ [] ev A5 _ c5 rfl rfl (own_lit _ w.heap.size 3 .i64 [] hb.size (by simp)) (HR5.out.below (bel_alloc (Below.refl _ _) _)) (bel_alloc hb _) (bel_alloc hb _).size (by simp; omega) ?_; intro v1 w1 ho1 hb1 hg1 hat1; clear tok1; have P5 := Lib.hid (own_far (HO5.out.alloc _) hg1 _ (own_lt HO5.out) (far_new _)); have F1 := Lib.hid (far_at (bel_alloc (Below.refl _ _) _).size hat1); clear hg1 hat1)
            | (at_builtin; have _t := tok2; refine print_append_num w.heap.size rfl (.tmp 54) (.tmp 56) 22 3 .i64 8 rfl Try.underlying22 info3 (by decide) _ ([] ++ ev) (v % 9) rfl rfl ho1 hb1 hb1.size (by simp; omega) ?_; intro v2 w2 ho2 hb2 hg2 hat2; clear tok2; have Q5 := Lib.hid (own_far P5.out hg2 _ (own_lt HO5.out) F1.out); have HO2 := Lib.hid ho2; clear hg2 hat2 ho1 hb1 ho2)
            | (go_at_call 45; (with_reducible refine (path_own (l := [] ++ ev ++ [v % 9]) HS.out (by simp; omega) HO2.out).mono ?_); rintro e w' ⟨rfl, rfl⟩))
          go_roundw
          case rel => exact ⟨k + 1, s, n, ev, by omega, hn0, by omega, Hp.out, Hz.out, by omega, Q5.out, hb2, rfl, rfl, by go_num⟩
          case measure => simp [intOf]; omega
        · have HS : Hid (pathS ([] ++ ev ++ [v % 9]) 0 0 = (s', n', true)) := Lib.hid (by simpa using hsn)
          clear hsn
          have tok1 : True := trivial
          have tok2 : True := trivial
          go_wp2_with (first
            | (go_at_call 43; (with_reducible refine (on_val _ (by omega) Hx.out).mono ?_); rintro e w' ⟨rfl, rfl⟩)
            | (at_builtin; have _t := tok1; refine print_append_row w.heap.size rfl (.tmp 52) (.tmp 53) 22 3 .i64 8 rfl Try.underlying22 info3 (by decide) _ [] ev A5 _ c5 rfl rfl (own_lit _ w.heap.size 3 .i64 [] hb.size (by simp)) (HR5.out.below (bel_alloc (Below.refl _ _) _)) (bel_alloc hb _) (bel_alloc hb _).size (by simp; omega) ?_; intro v1 w1 ho1 hb1 hg1 hat1; clear tok1; have P5 := Lib.hid (own_far (HO5.out.alloc _) hg1 _ (own_lt HO5.out) (far_new _)); have F1 := Lib.hid (far_at (bel_alloc (Below.refl _ _) _).size hat1); clear hg1 hat1)
            | (at_builtin; have _t := tok2; refine print_append_num w.heap.size rfl (.tmp 54) (.tmp 56) 22 3 .i64 8 rfl Try.underlying22 info3 (by decide) _ ([] ++ ev) (v % 9) rfl rfl ho1 hb1 hb1.size (by simp; omega) ?_; intro v2 w2 ho2 hb2 hg2 hat2; clear tok2; have Q5 := Lib.hid (own_far P5.out hg2 _ (own_lt HO5.out) F1.out); have HO2 := Lib.hid ho2; clear hg2 hat2 ho1 hb1 ho2)
            | (go_at_call 45; (with_reducible refine (path_own (l := [] ++ ev ++ [v % 9]) HS.out (by simp; omega) HO2.out).mono ?_); rintro e w' ⟨rfl, rfl⟩)
            | (at_builtin; refine print_append_num w.heap.size rfl (.tmp 76) (.tmp 78) 22 3 .i64 8 rfl Try.underlying22 info3 (by decide) _ ev (v % 9) rfl rfl Q5.out hb2 hb2.size (by omega) ?_; intro v3 w3 ho3 hb3 hg3 hat3))
          go_roundw
          case rel => exact ⟨k + 1, s', n', ev ++ [v % 9], by omega, Hle.out.1, by have := Hle.out.2; omega, HS.out, onF_z Hx.out, by simp; omega, ho3, hb3, rfl, rfl, by go_num⟩
          case measure => simp [intOf]; omega
      · obtain ⟨A5, c5, he5, hr5⟩ := own_reads ho
        subst he5
        have hlen5 : ev.length ≤ 20 := by omega
        have HR5 := Lib.hid hr5
        have HO5 := Lib.hid ho
        have HS0 : Hid (pathS ([] ++ ev ++ [0]) 0 0 = (0, 0, false)) := Lib.hid (by
          have := pathS_snoc ev 0 s n 0 0 Hp.out
          rw [onF_0] at this
          simpa using this)
        clear hr5 ho
        have tok1 : True := trivial
        by_cases hs : s = 0
        · have hn0' : n = 0 := Hz.out hs
          subst hs hn0'
          by_cases he : more % 9 = 1
          · have Hx : Hid (onF 0 0 (more % 9) = (1, 0, true)) := Lib.hid (by rw [onF_s0, if_pos he])
            have heb : (more % 9 == 1) = true := by simpa using he
            clear he
            go_wp2_with (first
            | (at_builtin; have _t := tok1; refine print_append_row w.heap.size rfl (.tmp 89) (.tmp 90) 22 3 .i64 8 rfl Try.underlying22 info3 (by decide) _ [] ev A5 _ c5 rfl rfl (own_lit _ w.heap.size 3 .i64 [] hb.size (by simp)) (HR5.out.below (bel_alloc (Below.refl _ _) _)) (bel_alloc hb _) (bel_alloc hb _).size (by simp; omega) ?_; intro v1 w1 ho1 hb1 hg1 hat1; clear tok1 hg1 hat1)
            | (at_builtin; refine print_append_num w.heap.size rfl (.tmp 91) (.tmp 92) 22 3 .i64 8 rfl Try.underlying22 info3 (by decide) _ ([] ++ ev) 0 rfl rfl ho1 hb1 hb1.size (by simp; omega) ?_; intro v2 w2 ho2 hb2 hg2 hat2; have HO2 := Lib.hid ho2; clear hg2 hat2 ho1 hb1 ho2)
            | (go_at_call 45; (with_reducible refine (path_own (l := ev) Hp.out (by omega) HO5.out).mono ?_); rintro e w' ⟨rfl, rfl⟩)
            | (go_at_call 45; (with_reducible refine (path_own (l := [] ++ ev ++ [0]) HS0.out (by simp; omega) HO2.out).mono ?_); rintro e w' ⟨rfl, rfl⟩)
            | (go_at_call 43; (with_reducible refine (on_val _ (by omega) Hx.out).mono ?_); rintro e w' ⟨rfl, rfl⟩))
            go_ret
            exact ⟨rfl, hb2⟩
          · have Hx : Hid (onF 0 0 (more % 9) = (0, 0, false)) := Lib.hid (by rw [onF_s0, if_neg he])
            have heb : (more % 9 == 1) = false := by simpa using he
            clear he
            go_wp2_with (first
            | (at_builtin; have _t := tok1; refine print_append_row w.heap.size rfl (.tmp 89) (.tmp 90) 22 3 .i64 8 rfl Try.underlying22 info3 (by decide) _ [] ev A5 _ c5 rfl rfl (own_lit _ w.heap.size 3 .i64 [] hb.size (by simp)) (HR5.out.below (bel_alloc (Below.refl _ _) _)) (bel_alloc hb _) (bel_alloc hb _).size (by simp; omega) ?_; intro v1 w1 ho1 hb1 hg1 hat1; clear tok1 hg1 hat1)
            | (at_builtin; refine print_append_num w.heap.size rfl (.tmp 91) (.tmp 92) 22 3 .i64 8 rfl Try.underlying22 info3 (by decide) _ ([] ++ ev) 0 rfl rfl ho1 hb1 hb1.size (by simp; omega) ?_; intro v2 w2 ho2 hb2 hg2 hat2; have HO2 := Lib.hid ho2; clear hg2 hat2 ho1 hb1 ho2)
            | (go_at_call 45; (with_reducible refine (path_own (l := ev) Hp.out (by omega) HO5.out).mono ?_); rintro e w' ⟨rfl, rfl⟩)
            | (go_at_call 45; (with_reducible refine (path_own (l := [] ++ ev ++ [0]) HS0.out (by simp; omega) HO2.out).mono ?_); rintro e w' ⟨rfl, rfl⟩)
            | (go_at_call 43; (with_reducible refine (on_val _ (by omega) Hx.out).mono ?_); rintro e w' ⟨rfl, rfl⟩))
            go_ret
            exact ⟨rfl, hb2⟩
        · have hsb : (s != 0) = true := by simpa using hs
          clear hs
          obtain ⟨⟨s', n', ok⟩, hx⟩ : ∃ x, onF s n (more % 9) = x := ⟨_, rfl⟩
          have Hx := Lib.hid hx
          clear hx
          go_wp2_with (first
            | (at_builtin; have _t := tok1; refine print_append_row w.heap.size rfl (.tmp 89) (.tmp 90) 22 3 .i64 8 rfl Try.underlying22 info3 (by decide) _ [] ev A5 _ c5 rfl rfl (own_lit _ w.heap.size 3 .i64 [] hb.size (by simp)) (HR5.out.below (bel_alloc (Below.refl _ _) _)) (bel_alloc hb _) (bel_alloc hb _).size (by simp; omega) ?_; intro v1 w1 ho1 hb1 hg1 hat1; clear tok1 hg1 hat1)
            | (at_builtin; refine print_append_num w.heap.size rfl (.tmp 91) (.tmp 92) 22 3 .i64 8 rfl Try.underlying22 info3 (by decide) _ ([] ++ ev) 0 rfl rfl ho1 hb1 hb1.size (by simp; omega) ?_; intro v2 w2 ho2 hb2 hg2 hat2; have HO2 := Lib.hid ho2; clear hg2 hat2 ho1 hb1 ho2)
            | (go_at_call 45; (with_reducible refine (path_own (l := ev) Hp.out (by omega) HO5.out).mono ?_); rintro e w' ⟨rfl, rfl⟩)
            | (go_at_call 45; (with_reducible refine (path_own (l := [] ++ ev ++ [0]) HS0.out (by simp; omega) HO2.out).mono ?_); rintro e w' ⟨rfl, rfl⟩)
            | (go_at_call 43; (with_reducible refine (on_val _ (by omega) Hx.out).mono ?_); rintro e w' ⟨rfl, rfl⟩))
          go_ret
          exact ⟨rfl, hb2⟩
end Go.Proofs.Ytoimmobljpegmaa.Path
