/- The statement that one processor's lines are not another one's, walked. -/
import Derived.Test.YtmhglfidggjfdaaLineP
namespace Go.Proofs.Ytmhglfidggjfdaa.Line
open Go.RowKit Go.Proofs.Ytmhglfidggjfdaa.Mem Go.Proofs.Ytmhglfidggjfdaa.Kept
set_option linter.unusedVariables false
set_option linter.unusedSimpArgs false

/-- The lines and the marks beside them. -/
structure Mk (w : World) (B g b q : Nat) (V : List Nat) : Prop where
  is : Is w B g b (sOf V)
  mr : w.heap[q]? = some (.cells (flatB V).toArray 40 (0, 0))
  ne : q ≠ b
  ge : B ≤ q
  len : V.length = 3
  lt : ∀ v ∈ V, v < 32
theorem Mk.get {w : World} {B g b q : Nat} {V : List Nat} (h : Mk w B g b q V) {c : Nat} (hc : c < 3) : ∃ v, V[c]? = some v ∧ v < 32 := by
  have : c < V.length := by rw [h.len]; exact hc
  exact ⟨V[c], List.getElem?_eq_getElem this, h.lt _ (List.getElem_mem this)⟩
theorem Mk.mark {w : World} {B g b q : Nat} {V : List Nat} (h : Mk w B g b q V) {c v n : Nat} (hc : V[c]? = some v) (hn : n < 5) : w.cell? ⟨q, c * 5 + n, none⟩ = some (.bool (bit v n)) ∧ w.frozen? ⟨q, c * 5 + n, none⟩ = false := by
  refine ⟨?_, blk_free h.mr _⟩
  rw [blk_cell h.mr]
  simpa using flatB_at V c v n hc hn
theorem Mk.drewN {w : World} {B g b q : Nat} {V : List Nat} (h : Mk w B g b q V) (n : Nat) : Mk (w.drewN n) B g b q V := ⟨h.is.drewN n, h.mr, h.ne, h.ge, h.len, h.lt⟩
/-- Behind a call that turned the lines, and a mark that was set so. -/
theorem Mk.put {w w' : World} {B g b q : Nat} {V : List Nat} (h : Mk w B g b q V) {c v n v' : Nat} {x : Bool} (hc : V[c]? = some v) (hn : n < 5) (hv : v' < 32) (hi : Is w' B g b (sOf (V.set c v'))) (hk : Kept w w' (fun k => k = b)) (hb : ∀ j, j < 5 → bit v' j = if j = n then x else bit v j) (hqg : q ≠ g) :
    Mk (w'.setCell ⟨q, c * 5 + n, none⟩ (.bool x)) B g b q (V.set c v') := by
  have hq : w'.heap[q]? = some (.cells (flatB V).toArray 40 (0, 0)) := hk.blk h.mr h.ne
  refine ⟨⟨blk_far hi.hd hqg.symm _, blk_far hi.bk h.ne.symm _, hi.geg, hi.geb⟩, ?_, h.ne, h.ge, by rw [List.length_set]; exact h.len, fun y hy => ?_⟩
  · have := blk_set hq (c * 5 + n) (.bool x)
    rw [this]
    simp [flatB_set V c v n v' x hc hn hb]
  · rcases List.mem_or_eq_of_mem_set hy with h1 | h1
    · exact h.lt y h1
    · subst h1; exact hv
theorem Mk.bel {w w1 w2 : World} {B g b q : Nat} {V : List Nat} (hb : Below w.heap.size w w1) (h : Mk w1 B g b q V) (hB : w.heap.size ≤ B) (hk : Kept w1 w2 (fun k => k = b)) : Below w.heap.size w w2 := bel_row hb h.is hB hk
theorem Mk.neg {w : World} {B g b q : Nat} {V : List Nat} (h : Mk w B g b q V) : q ≠ g := by
  intro e
  have h1 := h.mr
  rw [e, h.is.hd] at h1
  injection h1 with h1
  injection h1 with _ h1
  exact absurd h1 (by decide)
theorem tick_3 {V : List Nat} (h : V.length = 3) : tickF (sOf V) 3 = (false, sOf V) := by
  have : look (sOf V) 3 = none := by
    unfold look
    rw [if_pos (by omega)]
    exact List.getElem?_eq_none_iff.2 (by simp [sOf, h])
  unfold tickF
  rw [this]
theorem raise_04 {V : List Nat} {v : Nat} (h : V[0]? = some v) : raiseF (sOf V) 0 4 = (false, sOf V) := by
  have := look_s h
  unfold raiseF
  rw [show ((0 : Nat) : Int) = 0 from rfl] at this
  rw [this]
  show (if (0 : Int) ≤ 4 ∧ (4 : Int) < 4 then _ else _) = _
  rw [if_neg (by omega)]
theorem raise_m1 (V : List Nat) : raiseF (sOf V) (-1) 0 = (false, sOf V) := by
  have : look (sOf V) (-1) = none := by
    unfold look
    rw [if_neg (by omega)]
  unfold raiseF
  rw [this]
theorem rem3 (x : Nat) : (x : Int).tmod 3 = ((x % 3 : Nat) : Int) := by rw [Int.tmod_eq_emod_of_nonneg (by omega)]; rfl
set_option maxRecDepth 100000 in
set_option maxHeartbeats 8000000 in
theorem apart_any (w : World) (A : Option Addr) (b0 o0 cap : Nat) (l : List Int) (hl : ∀ x ∈ l, 0 ≤ x ∧ x ≤ 255) (ha : 0 < l.length → A = some ⟨b0, o0, none⟩)
    (hc : ∀ i, i < l.length → w.cell? ⟨b0, o0 + i, none⟩ = some (.int .u8 (l.getD i 0))) :
    Calls Try.prog 5 #[.slice A l.length cap] w fun e w' => e = .returned (.bool true) ∧ Below w.heap.size w w' := by
  by_cases h30 : 30 < l.length
  · have h30' : 30 < (l.length : Int) := by omega
    clear hl ha hc
    generalize l.length = n at *
    go_enter Try.func5, Try.ntmps5
    go_wp2_with (first
      | (go_at_call 10; refine (begun _).mono ?_; rintro e w1 ⟨rfl, hb1⟩)
      | fail)
    go_ret
    exact ⟨rfl, hb1⟩
  · have h30' : (l.length : Int) ≤ 30 := by omega
    have HL := Lib.hid hl
    have HA := Lib.hid ha
    have HC := Lib.hid hc
    clear hl ha hc
    obtain ⟨n, hn⟩ : ∃ n, l.length = n := ⟨_, rfl⟩
    have HN := Lib.hid hn
    rw [hn]
    rw [hn] at h30 h30'
    clear hn
    go_enter Try.func5, Try.ntmps5
    go_wp2_with (first
      | (go_at_call 10; refine (begun _).mono ?_; rintro e w1 ⟨rfl, hb1⟩)
      | (go_at_call 11; refine (new_any _ _).mono ?_; rintro e w2 ⟨g, b, rfl, H2, hb2'⟩; have hb2 := bel_chain hb1 hb2'; have hB := hb1.size; clear hb2'; replace H2 : Is w2 _ g b (sOf [0, 0, 0]) := H2)
      | fail)
    have M0 : Mk (w2.alloc (.cells (flatB [0, 0, 0]).toArray 40)) w1.heap.size g b w2.heap.size [0, 0, 0] := by
      have hl := H2.lt
      refine ⟨⟨blk_alloc H2.hd _, blk_alloc H2.bk _, H2.geg, H2.geb⟩, blk_new _ _, by omega, by omega, rfl, ?_⟩
      intro v hv
      simp at hv
      omega
    have hb2' := bel_alloc hb2 (.cells (flatB [0, 0, 0]).toArray 40)
    have hge : w.heap.size ≤ w2.heap.size := hb2.size
    generalize hq : w2.heap.size = q at *
    clear hq H2 hb2
    go_loopw [5] (fun i wr => ∃ (k : Nat) (V : List Nat), k ≤ n ∧ i = .int .i64 k ∧ Mk wr w1.heap.size g b q V ∧ Below w.heap.size w wr) (fun i _ => n - (intOf i).toNat)
    case atStart => exact ⟨0, _, by omega, rfl, M0, hb2'⟩
    case round =>
      obtain ⟨k, V, hk, rfl, H, hb⟩ := hrel
      clear M0 hb2'
      by_cases hkn : k < n
      · obtain rfl := HA.out (by rw [HN.out]; omega)
        have hcell := HC.out k (by rw [HN.out]; omega)
        have hin := HL.out (l.getD k 0) (by
          have hkl : k < l.length := by rw [HN.out]; omega
          rw [List.getD_eq_getElem?_getD, List.getElem?_eq_getElem hkl]; exact List.getElem_mem hkl)
        obtain ⟨x, hx⟩ : ∃ x : Nat, l.getD k 0 = x := ⟨(l.getD k 0).toNat, by omega⟩
        rw [hx] at hcell hin
        have hx256 : x < 256 := by omega
        have ck : wr.cell? ⟨b0, o0 + k, none⟩ = some (.int .u8 x) := (hb.cell (p := ⟨b0, _, none⟩) (World.block_lt_of_cell? w _ hcell)).trans hcell
        clear hcell hx hin
        go_wp2
        go_quiet (fail)
        obtain ⟨c, hc, hc3⟩ : ∃ c : Nat, (x : Int) % 3 = c ∧ c < 3 := ⟨x % 3, by omega, by omega⟩
        obtain ⟨m, hm, hm5⟩ : ∃ m : Nat, (x : Int) / 3 % 5 = m ∧ m < 5 := ⟨x / 3 % 5, by omega, by omega⟩
        rw [hc, hm]
        clear hc hm ck
        obtain ⟨v, hv, hv32⟩ := H.get hc3
        have hor := or_32 v hv32 m hm5
        by_cases h4 : m = 4
        · subst h4
          have E := tick_s hv hv32
          go_wp2_with (first
            | (go_at_call 15; with_reducible refine (tick_c (H.drewN _).is (wf_s H.len) _ E).mono ?_; rintro e w3 ⟨rfl, H3, W3, k3⟩; have hb3 := bel_row (bel_drewN hb _) (H.drewN _).is hB k3; have HQ := k3.blk (H.drewN _).mr H.ne; have fz := blk_free HQ (c * 5 + 4); have x0 : w3.cell? ⟨q, c * 5 + 4, none⟩ = some (.bool (bit v 4)) := (blk_cell HQ _).trans (by simpa using flatB_at V c v 4 hv hm5); clear HQ)
            | fail)
          go_roundw
          case rel => exact ⟨k + 1, _, by omega, by go_num, (H.drewN _).put hv hm5 hor H3 k3 (bit_or v hv32 4 hm5) H.neg, bel_set hb3 hge _ _⟩
          case measure => simp [intOf]; omega
        · have h41 : decide ((m : Int) = 4) = false := decide_eq_false (by omega)
          have h42 : ((m : Int) == 4) = false := by rw [beq_eq_false_iff_ne]; omega
          have h43 : (m : Int) < 4 := by omega
          have E := raise_s hv hv32 (show m < 4 by omega)
          go_wp2_with (first
            | (go_at_call 13; with_reducible refine (raise_c (H.drewN _).is (wf_s H.len) _ _ E).mono ?_; rintro e w3 ⟨rfl, H3, W3, k3⟩; have hb3 := bel_row (bel_drewN hb _) (H.drewN _).is hB k3; have HQ := k3.blk (H.drewN _).mr H.ne; have fz := blk_free HQ (c * 5 + m); have x0 : w3.cell? ⟨q, c * 5 + m, none⟩ = some (.bool (bit v m)) := (blk_cell HQ _).trans (by simpa using flatB_at V c v m hv hm5); clear HQ)
            | fail)
          go_roundw
          case rel => exact ⟨k + 1, _, by omega, by go_num, (H.drewN _).put hv hm5 hor H3 k3 (bit_or v hv32 m hm5) H.neg, bel_set hb3 hge _ _⟩
          case measure => simp [intOf]; omega
      · obtain rfl : k = n := by omega
        clear HL HA HC HN
        go_wp2
        go_loopw [8] (fun i wr => ∃ (c : Nat) (V : List Nat), c ≤ 3 ∧ i = .int .i64 c ∧ Mk wr w1.heap.size g b q V ∧ Below w.heap.size w wr) (fun i _ => 3 - (intOf i).toNat)
        case atStart => exact ⟨0, V, by omega, rfl, H, hb⟩
        case round =>
          rename_i wr0
          clear H hb
          obtain ⟨c, V, hc, rfl, H, hb⟩ := hrel
          by_cases hc3 : c < 3
          · obtain ⟨v, hv, hv32⟩ := H.get hc3
            go_wp2
            go_loopw [9, 10] (fun i l wr' => ∃ (m : Nat), m ≤ 5 ∧ l = .int .i64 m ∧ i = .int .i64 (cb v m : Int) ∧ Mk wr' w1.heap.size g b q V ∧ Below w.heap.size w wr') (fun _ i _ => 5 - (intOf i).toNat)
            case atStart => exact ⟨0, by omega, rfl, rfl, H, hb⟩
            case round =>
              clear H hb
              obtain ⟨m, hm, rfl, rfl, H, hb⟩ := hrel
              have hcb := cb_le v m
              by_cases hm5 : m < 5
              · obtain ⟨x0, fz⟩ := H.mark hv hm5
                have hs : cb v (m + 1) = cb v m + if bit v m = true then 1 else 0 := rfl
                have q1 : (m : Int) ≤ 4 := by omega
                cases hbt : bit v m with
                | true =>
                  rw [hbt] at x0 hs
                  rw [if_pos rfl] at hs
                  have HS := Lib.hid hs
                  clear hs hbt
                  go_wp2
                  go_roundw
                  case rel => exact ⟨m + 1, by omega, by go_num, by rw [HS.out]; go_num, H, hb⟩
                  case measure => simp [intOf]; omega
                | false =>
                  rw [hbt] at x0 hs
                  rw [if_neg (by simp)] at hs
                  have HS := Lib.hid hs
                  clear hs hbt
                  go_wp2
                  go_roundw
                  case rel => exact ⟨m + 1, by omega, by go_num, by rw [HS.out]; rfl, H, hb⟩
                  case measure => simp [intOf]; omega
              · obtain rfl : m = 5 := by omega
                rw [cb_5 v hv32] at hcb ⊢
                have E := waits_s hv hv32
                go_wp2_with (first
                  | (go_at_call 21; with_reducible refine (waits_c H.is (wf_s H.len) _ E).mono ?_; rintro e w3 ⟨rfl, rfl⟩)
                  | fail)
                clear E
                go_loopw [9] (fun i wr' => ∃ (V : List Nat) (v : Nat), V[c]? = some v ∧ v < 32 ∧ i = .int .i64 (cnt5 v : Int) ∧ Mk wr' w1.heap.size g b q V ∧ Below w.heap.size w wr') (fun i _ => (intOf i).toNat)
                case atStart => exact ⟨V, v, hv, hv32, rfl, H, hb⟩
                case round =>
                  clear H hb hv hv32 hcb
                  obtain ⟨V, v, hv, hv32, rfl, H, hb⟩ := hrel
                  have hcl := cnt_le v hv32
                  by_cases hv0 : v = 0
                  · subst hv0
                    have E := next_0 hv
                    have hz : cnt5 0 = 0 := rfl
                    rw [hz]
                    clear hcl hz
                    go_wp2_with (first
                      | (go_at_call 19; with_reducible refine (next_c H.is (wf_s H.len) _ E).mono ?_; rintro e w4 ⟨rfl, H4, W4, k4⟩; have hb4 := bel_row hb H.is hB k4; have HQ := k4.blk H.mr H.ne)
                      | fail)
                    go_roundw
                    case rel => exact ⟨c + 1, V, by omega, by go_num, ⟨H4, HQ, H.ne, H.ge, H.len, H.lt⟩, hb4⟩
                    case measure => simp [intOf]; omega
                  · have hs := cnt_sub v hv32 hv0
                    obtain ⟨z, hz⟩ : ∃ z, cnt5 (v - 1 <<< nv v) = z := ⟨_, rfl⟩
                    have HZ := Lib.hid hz
                    have hv' : v - 1 <<< nv v < 32 := Nat.lt_of_le_of_lt (Nat.sub_le _ _) hv32
                    have E := next_s hv hv32 hv0
                    have hn5 := nv_lt v
                    obtain ⟨u, hu⟩ : ∃ u, nv v = u := ⟨_, rfl⟩
                    have hbs := bit_sub v hv32 hv0
                    have hbn := bit_nv v hv32 hv0
                    rw [hz] at hs
                    rw [hs] at hcl ⊢
                    clear hs hz
                    by_cases h16 : 16 ≤ v
                    · have h4 : nv v = 4 := by unfold nv; rw [if_pos h16]
                      rw [h4] at hv' E hbs hbn HZ
                      rw [if_pos h16, decide_eq_true h16] at E
                      have HB := Lib.hid hbs
                      clear hbs hn5 hu h4 h16
                      have hn5 : 4 < 5 := by omega
                      go_wp2_with (first
                        | (go_at_call 19; with_reducible refine (next_c H.is (wf_s H.len) _ E).mono ?_; rintro e w4 ⟨rfl, H4, W4, k4⟩; have hb4 := bel_row hb H.is hB k4; have HQ := k4.blk H.mr H.ne; have fz := blk_free HQ (c * 5 + 4); have x0 : w4.cell? ⟨q, c * 5 + 4, none⟩ = some (.bool true) := (blk_cell HQ _).trans (by rw [← hbn]; simpa using flatB_at V c v 4 hv hn5); clear HQ)
                        | fail)
                      go_roundw
                      case rel => exact ⟨_, _, List.getElem?_set_self (by rw [H.len]; exact hc3), hv', by rw [HZ.out], H.put hv hn5 hv' H4 k4 HB.out H.neg, bel_set hb4 hge _ _⟩
                      case measure => simp [intOf]
                    · have h4 : nv v = tz v := by unfold nv; rw [if_neg h16]
                      rw [if_neg h16, decide_eq_false h16, ← h4, hu] at E
                      rw [hu] at hv' hbs hbn HZ hn5
                      have hu4 : u < 4 ∨ u = 4 := by omega
                      have HB := Lib.hid hbs
                      clear hbs hu h4 h16
                      go_wp2_with (first
                        | (go_at_call 19; with_reducible refine (next_c H.is (wf_s H.len) _ E).mono ?_; rintro e w4 ⟨rfl, H4, W4, k4⟩; have hb4 := bel_row hb H.is hB k4; have HQ := k4.blk H.mr H.ne; have fz := blk_free HQ (c * 5 + u); have x0 : w4.cell? ⟨q, c * 5 + u, none⟩ = some (.bool true) := (blk_cell HQ _).trans (by rw [← hbn]; simpa using flatB_at V c v u hv hn5); clear HQ)
                        | fail)
                      go_roundw
                      case rel => exact ⟨_, _, List.getElem?_set_self (by rw [H.len]; exact hc3), hv', by rw [HZ.out], H.put hv hn5 hv' H4 k4 HB.out H.neg, bel_set hb4 hge _ _⟩
                      case measure => simp [intOf]
          · obtain rfl : c = 3 := by omega
            have E1 := tick_3 H.len
            obtain ⟨v, hv, _⟩ := H.get (c := 0) (by omega)
            have E2 := raise_04 hv
            have E3 := raise_m1 V
            go_wp2_with (first
              | (go_at_call 15; with_reducible refine (tick_c H.is (wf_s H.len) _ E1).mono ?_; rintro e w4 ⟨rfl, H4, W4, k4⟩; have hb4 := bel_row hb H.is hB k4)
              | (go_at_call 13; with_reducible refine (raise_c H4 W4 _ _ E2).mono ?_; rintro e w5 ⟨rfl, H5, W5, k5⟩; have hb5 := bel_row hb4 H4 hB k5)
              | (go_at_call 13; with_reducible refine (raise_c H5 W5 _ _ E3).mono ?_; rintro e w6 ⟨rfl, H6, W6, k6⟩; have hb6 := bel_row hb5 H5 hB k6)
              | fail)
            go_ret
            exact ⟨rfl, hb6⟩
end Go.Proofs.Ytmhglfidggjfdaa.Line
