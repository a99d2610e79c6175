/- Steps one behind the other are those of the first lot, then those of the second. -/
import Derived.Test.YtoimmobljpegmaaPhaseW
namespace Go.Proofs.Ytoimmobljpegmaa.Phase
open Go.RowKit Go.Proofs.Ytoimmobljpegmaa.Mem Go.Maps
open Go.Proofs.YtoimmobljpegmaaW.PrintWords (nums ReadsInt print_append_num print_append_row own_reads own_lt own_other own_lit nums_length add_plain)
set_option linter.unusedVariables false

theorem info3 : (Try.prog.info? 3).map (fun i => (i.zero, i.size, i.bytes)) = some (some (.int .i64 0), 1, 8) := by kernel_rfl
/-- A slice of numbers, by the cells behind it. -/
def Plain (w : World) (v : Value) (l : List Int) : Prop :=
  (v = .slice none 0 0 ∧ l = []) ∨ ∃ g cap, v = .slice (some ⟨g, 0, none⟩) l.length cap ∧ g < w.heap.size ∧ ∀ i, i < l.length → w.cell? ⟨g, 0 + i, none⟩ = some (.int .i64 (l.getD i 0))
theorem Plain.below {w w' : World} {v : Value} {l : List Int} (h : Plain w v l) (hb : Below w.heap.size w w') : Plain w' v l := by
  rcases h with h | ⟨g, cap, rfl, hg, hc⟩
  · exact .inl h
  · exact .inr ⟨g, cap, rfl, Nat.lt_of_lt_of_le hg hb.size, fun i hi => (hb.cell (p := ⟨g, 0 + i, none⟩) hg).trans (hc i hi)⟩
theorem own_plain {w : World} {base : Nat} {v : Value} {l : List Int} (ho : w.ownsRow base 3 1 v l.length (nums .i64 l)) : Plain w v l := by
  rcases ho.2 with ⟨rfl, hn⟩ | ⟨g, cap, cur, rfl, _, hg, hnc, _, hcs, hcur⟩
  · exact .inl ⟨rfl, List.eq_nil_of_length_eq_zero hn⟩
  · refine .inr ⟨g, cap, rfl, blk_lt hg, fun i hi => ?_⟩
    have h1 := ho.cells (g := g) rfl i (.int .i64 (l.getD i 0)) (by
      simp [nums, List.getElem?_map, List.getElem?_eq_getElem hi, List.getD_eq_getElem?_getD])
    rw [Nat.zero_add]
    rwa [add_plain] at h1
theorem way_plain {w : World} {v : Value} {l : List Int} {p q : Int} {ok : Bool} (h : ways l p = (q, ok)) (hp : (Lit.int .i64 p).wf = true) (hl : l.length ≤ 100) (hw : ∀ n ∈ l, (Lit.int .i64 n).wf = true) (hr : Plain w v l) :
    Calls Try.prog 18 #[.int .i64 p, v] w fun r w' => r = .returned (.tuple #[.int .i64 q, .bool ok]) ∧ Below w.heap.size w w' := by
  rcases hr with ⟨rfl, rfl⟩ | ⟨g, cap, rfl, hg, hc⟩
  · exact way_val (a := none) (b := 0) (off := 0) (l := []) w h hp (by simp) (fun h => absurd h (by simp)) (fun h => absurd h (by simp)) (fun i h => absurd h (by simp)) hw
  · exact way_val (b := g) (off := 0) w h hp (by omega) (fun _ => rfl) (fun _ => hg) hc hw
theorem ways_app (x y : List Int) (p q : Int) (ok : Bool) (h : ways x p = (q, ok)) : ways (x ++ y) p = if ok = true then ways y q else (0, false) := by
  induction x generalizing p with
  | nil =>
    simp only [ways, Prod.mk.injEq] at h
    obtain ⟨rfl, rfl⟩ := h
    rfl
  | cons e t ih =>
    simp only [ways] at h
    simp only [List.cons_append, ways]
    split at h
    · rename_i h1
      rw [if_pos h1]
      exact ih _ h
    · rename_i h1
      simp only [Prod.mk.injEq] at h
      obtain ⟨rfl, rfl⟩ := h
      rw [if_neg h1]
      rfl
theorem ways_no (x : List Int) (p q : Int) (h : ways x p = (q, false)) : q = 0 := by
  induction x generalizing p with
  | nil => simp [ways] at h
  | cons e t ih =>
    simp only [ways] at h
    split at h
    · exact ih _ h
    · simp at h; exact h.symm
theorem ways_in (x : List Int) (p : Int) (hp : 0 ≤ p ∧ p ≤ 5) : 0 ≤ (ways x p).1 ∧ (ways x p).1 ≤ 5 := by
  induction x generalizing p with
  | nil => exact hp
  | cons e t ih =>
    simp only [ways]
    split
    · exact ih _ (nx_in _ _)
    · simp

set_option maxRecDepth 100000 in
set_option maxHeartbeats 4000000 in
theorem joins (p0 : Int) (hp0 : 0 ≤ p0 ∧ p0 ≤ 255) (a : Option Addr) (b off cap : Nat) (l : List Int) (a2 : Option Addr) (b2 off2 cap2 : Nat) (l2 : List Int) (w : World)
    (hl : l.length ≤ 1152921504606846976) (ha : 0 < l.length → a = some ⟨b, off, none⟩) (hblt : 0 < l.length → b < w.heap.size)
    (hc : ∀ i, i < l.length → w.cell? ⟨b, off + i, none⟩ = some (.int .u8 (l.getD i 0))) (hw : ∀ n ∈ l, (Lit.int .u8 n).wf = true)
    (hl2 : l2.length ≤ 1152921504606846976) (ha2 : 0 < l2.length → a2 = some ⟨b2, off2, none⟩) (hblt2 : 0 < l2.length → b2 < w.heap.size)
    (hc2 : ∀ i, i < l2.length → w.cell? ⟨b2, off2 + i, none⟩ = some (.int .u8 (l2.getD i 0))) (hw2 : ∀ n ∈ l2, (Lit.int .u8 n).wf = true) :
    Calls Try.prog 6 #[.int .u8 p0, .slice a l.length cap, .slice a2 l2.length cap2] w fun e w' => e = .returned (.bool true) ∧ Below w.heap.size w w' := by
  have hb := Below.refl w.heap.size w
  have HC := Lib.hid hc
  have HA := Lib.hid ha
  have HB := Lib.hid hblt
  have HW := Lib.hid hw
  have HC2 := Lib.hid hc2
  have HA2 := Lib.hid ha2
  have HB2 := Lib.hid hblt2
  have HW2 := Lib.hid hw2
  clear hc ha hblt hw hc2 ha2 hblt2 hw2
  have h5 : Int.tmod p0 5 = p0 % 5 := Int.tmod_eq_emod_of_nonneg hp0.1
  have hm1 : IntKind.u8.wrap (p0 % 5) = p0 % 5 := IntWalk.u8_in _ (by omega)
  obtain ⟨from_, hfrom⟩ : ∃ z : Int, 1 + p0 % 5 = z := ⟨_, rfl⟩
  have hfr : 1 ≤ from_ ∧ from_ ≤ 5 := by omega
  have hm2 : IntKind.i64.wrap (1 + p0 % 5) = from_ := by rw [IntWalk.i64_in _ (by omega)]; exact hfrom
  clear hfrom
  by_cases h12 : 8 < (l.length : Int)
  · go_enter Try.func6, Try.ntmps6
    go_wp2_with (first
      | (go_at_call 15; refine (begun _).mono ?_; rintro e w1 ⟨rfl, hb1⟩; replace hb := bel_chain hb hb1; clear hb1)
      | fail)
    go_ret
    exact ⟨rfl, hb⟩
  by_cases h13 : 8 < (l2.length : Int)
  · go_enter Try.func6, Try.ntmps6
    go_wp2_with (first
      | (go_at_call 15; refine (begun _).mono ?_; rintro e w1 ⟨rfl, hb1⟩; replace hb := bel_chain hb hb1; clear hb1)
      | fail)
    go_ret
    exact ⟨rfl, hb⟩
  go_enter Try.func6, Try.ntmps6
  go_wp2_with (first
    | (go_at_call 15; refine (begun _).mono ?_; rintro e w1 ⟨rfl, hb1⟩; replace hb := bel_chain hb hb1; clear hb1)
    | fail)
  go_loopw [7, 9] (fun t7 t9 wr => ∃ (k : Nat) (ev : List Int), k ≤ l.length ∧ ev.length = k ∧ (∀ n ∈ ev, (Lit.int .i64 n).wf = true) ∧ wr.ownsRow w.heap.size 3 1 t7 ev.length (nums .i64 ev) ∧ Below w.heap.size w wr ∧ t9 = .int .i64 k) (fun _ t9 _ => l.length - (intOf t9).toNat)
  case atStart => exact ⟨0, [], by omega, rfl, by simp, World.ownsRow_nil _ _ _ _, hb, rfl⟩
  case round =>
    obtain ⟨k, ev, hk, hek, hew, ho, hb, rfl⟩ := hrel
    by_cases hlt : (k : Int) < l.length
    · obtain ⟨v, hv⟩ : ∃ v, v = l.getD k 0 := ⟨_, rfl⟩
      have hv0 : 0 ≤ v ∧ v ≤ 255 := bounds_u8 (HW.out v (by rw [hv, List.getD_eq_getElem?_getD, List.getElem?_eq_getElem (by omega)]; exact List.getElem_mem _))
      have hcell : wr.cell? ⟨b, off + k, none⟩ = some (.int .u8 v) := (hb.cell (p := ⟨b, off + k, none⟩) (HB.out (by omega))).trans (by rw [hv]; exact HC.out k (by omega))
      clear hv
      obtain rfl := HA.out (by omega)
      have hvw : (Lit.int .i64 (v % 9)).wf = true := wf_in (by omega)
      go_wp2_with (first
        | (at_builtin; refine print_append_num w.heap.size rfl (.tmp 34) (.tmp 41) 22 3 .i64 8 rfl Try.underlying22 info3 (by decide) _ ev (v % 9) rfl rfl ho hb hb.size (by omega) ?_; intro v3 w3 ho3 hb3 hg3 hat3)
        | fail)
      go_roundw
      case rel =>
        refine ⟨k + 1, ev ++ [v % 9], by omega, by simp [hek], ?_, ho3, hb3, by go_num⟩
        intro n hn
        rcases List.mem_append.1 hn with h | h
        · exact hew n h
        · rw [List.mem_singleton.1 h]; exact hvw
      case measure => simp [intOf]; omega
    · obtain ⟨A5, c5, he5, hr5⟩ := own_reads ho
      subst he5
      have hp5 := own_plain ho
      have hl5 : ev.length ≤ 8 := by omega
      have HEW := Lib.hid hew
      clear ho hew hek
      obtain ⟨wr0, hwr⟩ : ∃ z, z = wr := ⟨_, rfl⟩
      subst hwr
      go_wp2
      go_loopw [8, 10] (fun t8 t10 w2 => ∃ (k : Nat) (ev : List Int), k ≤ l2.length ∧ ev.length = k ∧ (∀ n ∈ ev, (Lit.int .i64 n).wf = true) ∧ w2.ownsRow wr0.heap.size 3 1 t8 ev.length (nums .i64 ev) ∧ Below wr0.heap.size wr0 w2 ∧ t10 = .int .i64 k) (fun _ t10 _ => l2.length - (intOf t10).toNat)
      case atStart => exact ⟨0, [], by omega, rfl, by simp, World.ownsRow_nil _ _ _ _, Below.refl _ _, rfl⟩
      case round =>
        obtain ⟨k2, ey, hk2, hek2, hey, ho2, hb2, rfl⟩ := hrel
        by_cases hlt2 : (k2 : Int) < l2.length
        · obtain ⟨v, hv⟩ : ∃ v, v = l2.getD k2 0 := ⟨_, rfl⟩
          have hv0 : 0 ≤ v ∧ v ≤ 255 := bounds_u8 (HW2.out v (by rw [hv, List.getD_eq_getElem?_getD, List.getElem?_eq_getElem (by omega)]; exact List.getElem_mem _))
          have hcell : wr.cell? ⟨b2, off2 + k2, none⟩ = some (.int .u8 v) := ((bel_then hb hb.size hb2).cell (p := ⟨b2, off2 + k2, none⟩) (HB2.out (by omega))).trans (by rw [hv]; exact HC2.out k2 (by omega))
          clear hv
          obtain rfl := HA2.out (by omega)
          have hvw : (Lit.int .i64 (v % 9)).wf = true := wf_in (by omega)
          go_wp2_with (first
            | (at_builtin; refine print_append_num wr0.heap.size rfl (.tmp 49) (.tmp 56) 22 3 .i64 8 rfl Try.underlying22 info3 (by decide) _ ey (v % 9) rfl rfl ho2 hb2 hb2.size (by omega) ?_; intro v3 w3 ho3 hb3 hg3 hat3)
            | fail)
          go_roundw
          case rel =>
            refine ⟨k2 + 1, ey ++ [v % 9], by omega, by simp [hek2], ?_, ho3, hb3, by go_num⟩
            intro n hn
            rcases List.mem_append.1 hn with h | h
            · exact hey n h
            · rw [List.mem_singleton.1 h]; exact hvw
          case measure => simp [intOf]; omega
        · obtain ⟨A6, c6, he6, hr6⟩ := own_reads ho2
          subst he6
          have hp6 := own_plain ho2
          have hl6 : ey.length ≤ 8 := by omega
          have hr5' := hr5.below hb2
          have hp5' := hp5.below hb2
          have hbb := bel_then hb hb.size hb2
          obtain ⟨⟨mid, ok⟩, h1⟩ : ∃ z, ways ev from_ = z := ⟨_, rfl⟩
          obtain ⟨⟨en, is⟩, h2⟩ : ∃ z, ways ey mid = z := ⟨_, rfl⟩
          have h3 : ways ([] ++ ev ++ ey) from_ = if ok = true then (en, is) else (0, false) := by
            rw [List.nil_append, ways_app _ _ _ _ _ h1, h2]
          have hfw : (Lit.int .i64 from_).wf = true := wf_in (by omega)
          have hmw : (Lit.int .i64 mid).wf = true := wf_in (by have := ways_in ev from_ (by omega); rw [h1] at this; simp at this; omega)
          have hall : ∀ n ∈ [] ++ ev ++ ey, (Lit.int .i64 n).wf = true := by
            intro n hn
            simp only [List.nil_append] at hn
            rcases List.mem_append.1 hn with h | h
            · exact HEW.out n h
            · exact hey n h
          have H1 := Lib.hid h1
          have H2 := Lib.hid h2
          have H3 := Lib.hid h3
          have HEY := Lib.hid hey
          have HALL := Lib.hid hall
          have R5 := Lib.hid hr5'
          have R6 := Lib.hid hr6
          have P5 := Lib.hid hp5'
          have P6 := Lib.hid hp6
          clear h1 h2 h3 hey hall hr5 hr5' hr6 hp5 hp5' hp6 ho2 hek2
          have HNO : Hid (ok = false → mid = 0) := Lib.hid (fun h => ways_no ev from_ mid (by rw [← h]; exact H1.out))
          have tok1 : True := trivial
          have tok2 : True := trivial
          cases ok
          all_goals
            (try (obtain rfl := HNO.out rfl))
            clear HNO
            go_wp2_with (first
              | (go_at_call 18; have _t := tok1; (with_reducible refine (way_plain H1.out hfw (by omega) HEW.out P5.out).mono ?_); clear tok1; rintro e w3 ⟨rfl, hb3⟩; have P6b := Lib.hid (P6.out.below hb3); have R5b := Lib.hid (R5.out.below hb3); have R6b := Lib.hid (R6.out.below hb3); have hbc := bel_then hbb hbb.size hb3; clear P5 P6 R5 R6)
              | (go_at_call 18; have _t := tok2; (with_reducible refine (way_plain H2.out hmw (by omega) HEY.out P6b.out).mono ?_); clear tok2; rintro e w4 ⟨rfl, hb4⟩; have R5c := Lib.hid (R5b.out.below hb4); have R6c := Lib.hid (R6b.out.below hb4); have hbd := bel_then hbc hbc.size hb4; clear R5b R6b P6b hb4)
              | (at_builtin; refine print_append_row w4.heap.size rfl (.tmp 76) (.tmp 77) 22 3 .i64 8 rfl Try.underlying22 info3 (by decide) _ [] ev A5 _ c5 rfl rfl (own_lit _ w4.heap.size 3 .i64 [] (Nat.le_refl _) (by simp)) (R5c.out.below (bel_alloc (Below.refl _ _) _)) (bel_alloc (Below.refl _ _) _) (bel_alloc (Below.refl _ _) _).size (by simp; omega) ?_; intro v5 w5 ho5 hb5 hg5 hat5; have R6d := Lib.hid (R6c.out.below hb5); clear R5c R6c hg5 hat5)
              | (at_builtin; refine print_append_row w4.heap.size rfl (.tmp 78) (.tmp 79) 22 3 .i64 8 rfl Try.underlying22 info3 (by decide) _ ([] ++ ev) ey A6 _ c6 rfl rfl ho5 R6d.out hb5 hb5.size (by simp; omega) ?_; intro v6 w6 ho6 hb6 hg6 hat6; have P7 := Lib.hid (own_plain ho6); have hbe := bel_then hbd hbd.size hb6; clear ho6 hb6 hg6 hat6 R6d)
              | (go_at_call 18; (with_reducible refine (way_plain H3.out hfw (by simp; omega) HALL.out P7.out).mono ?_); rintro e w7 ⟨rfl, hb7⟩; have hbf := bel_then hbe hbe.size hb7)
              | fail)
            go_ret
            exact ⟨rfl, hbf⟩
end Go.Proofs.Ytoimmobljpegmaa.Phase
