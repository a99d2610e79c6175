/- However it is cut it is the same in the end, and whole just then: the walk. -/
import Derived.Test.YtlohonlcoedfhaaPieceF
import Derived.Test.YtlohonlcoedfhaaRegH
namespace Go.Proofs.Ytlohonlcoedfhaa.Piece
open Go.RowKit Go.Proofs.Ytlohonlcoedfhaa.Mem
open Go.Proofs.YtlohonlcoedfhaaW.PrintWords (nums ReadsInt own_reads own_reads' own_lit own_nil own_le print_append_row own_alloc)
set_option linter.unusedVariables false

/-- A part of what reads. -/
theorem reads_mid {w : World} {b o n k m : Nat} {L : List Int} (h : ReadsInt w .u8 (some ⟨b, o, none⟩) n L) (hm : k + m ≤ n) : ReadsInt w .u8 (some ⟨b, o + k, none⟩) m ((L.drop k).take m) := by
  refine ⟨by rw [List.length_take, List.length_drop]; have := h.1; omega, by have := h.2.1; omega, fun h0 => ?_⟩
  obtain ⟨ad, e, hc⟩ := h.2.2 (by omega)
  injection e with e
  subst e
  refine ⟨_, rfl, fun j hj => ?_⟩
  have := hc (k + j) (by omega)
  rw [Loan.add_at] at this ⊢
  rw [Nat.add_assoc, this, List.getD_eq_getElem?_getD, List.getD_eq_getElem?_getD, List.getElem?_take, if_pos hj, List.getElem?_drop]
theorem reads_cell {w : World} {b o n j : Nat} {L : List Int} (h : ReadsInt w .u8 (some ⟨b, o, none⟩) n L) (hj : j < n) : w.cell? ⟨b, o + j, none⟩ = some (.int .u8 (L.getD j 0)) := by
  obtain ⟨ad, e, hc⟩ := h.2.2 (by omega)
  injection e with e
  subst e
  have := hc j hj
  rwa [Loan.add_at] at this
theorem take_mid (L : List Int) (k m : Nat) : L.take k ++ (L.drop k).take m = L.take (k + m) := by rw [← List.take_add]

theorem lt1 {l : List Int} {k : Nat} (h : l.length = k) : (k : Int) - ((l.length : Nat) : Int) < ((1 : Nat) : Int) := by rw [h]; omega
theorem at_take {w : World} {B g : Nat} {R : Option Nat} {L M : List Int} {all : Int} (h : At w B g R L all) (e : L = M) : At w B g R M all := e ▸ h
set_option maxRecDepth 100000 in
set_option maxHeartbeats 8000000 in
theorem cuts (w : World) (b o cap : Nat) (l : List Int) (a2 : Option Addr) (cap2 : Nat) (l2 : List Int) (b2 o2 : Nat) (ha2 : 0 < l2.length → a2 = some ⟨b2, o2, none⟩)
    (hl1 : 1 ≤ l.length) (hl : l.length ≤ 400) (hcap : l.length ≤ cap) (hcm : cap ≤ 9223372036854775807) (hr : ReadsInt w .u8 (some ⟨b, o, none⟩) l.length l) (hl2 : l2.length ≤ 30) (hr2 : ReadsInt w .u8 a2 l2.length l2) (hw2 : ∀ x ∈ l2, 0 ≤ x ∧ x ≤ 255) :
    Calls Try.prog 13 #[.slice (some ⟨b, o, none⟩) l.length cap, .slice a2 l2.length cap2] w fun e w' => e = .returned (.bool true) ∧ Below w.heap.size w w' := by
  have hb := Below.refl w.heap.size w
  have R := Lib.hid hr
  have R2 := Lib.hid hr2
  obtain ⟨N, hN⟩ : ∃ N, l.length = N := ⟨_, rfl⟩
  have q0 : (0 : Int) ≤ (N : Int) := by omega
  have q1 : (N : Int) ≤ 400 := by omega
  have q2 : (1 : Int) ≤ (N : Int) := by omega
  have q3 : ((l2.length : Nat) : Int) ≤ 30 := by omega
  have HN := Lib.hid hN
  have Q0 : Hid (((([] : List Int).length : Nat) : Int) ≤ (N : Int)) := Lib.hid (by simp)
  have d1 : decide ((N : Int) < 1) = false := decide_eq_false (by omega)
  have d2 : decide (400 < (N : Int)) = false := decide_eq_false (by omega)
  have d3 : decide (30 < ((l2.length : Nat) : Int)) = false := decide_eq_false (by omega)
  rw [hN] at R hcap hl hl1 ⊢
  clear hr hr2 hN
  go_enter Try.func13, Try.ntmps13
  go_wp2_with (first
    | (go_at_call 34; (with_reducible refine (begun _).mono ?_); rintro e w1 ⟨rfl, hb1⟩; replace hb := bel_chain hb hb1; clear hb1)
    | (go_at_call 35; (with_reducible refine (new_ok w1 w1.heap.size (Nat.le_refl _) N q2 q1).mono ?_); rintro e w2 ⟨rfl, H, hb2⟩; have H2 := Lib.hid H; have hgN := hb.size; replace hb := bel_chain hb hb2; clear H hb2)
    | fail)
  have HB : w.heap.size ≤ w1.heap.size := hgN
  have H2' := H2.out
  clear H2
  obtain ⟨G, hG⟩ : ∃ G, w1.heap.size = G := ⟨_, rfl⟩
  rw [hG] at H2' HB ⊢
  clear hG hgN
  go_loopw [7, 8] (fun a i wr => ∃ (k j : Nat) (RR : Option Nat), k ≤ N ∧ j ≤ k ∧ a = .int .i64 k ∧ i = .int .i64 j ∧ Hid (At wr G G RR (l.take k) N) ∧ Hid (Below w.heap.size w wr)) (fun a i _ => N - (intOf a).toNat)
  case atStart => exact ⟨0, 0, none, by omega, by omega, rfl, rfl, Lib.hid H2', Lib.hid hb⟩
  case round =>
    clear H2' hb
    obtain ⟨k, j, RR, hk, hj, rfl, rfl, HA, HBel⟩ := hrel
    by_cases hlt : k < N
    · have hRw := Lib.hid (R.out.below HBel.out)
      obtain ⟨m0, hm0e⟩ : ∃ m0 : Nat, (N : Int) - (k : Int) = (m0 : Int) := ⟨N - k, by omega⟩
      have hm4 : (m0 : Int) ≤ 400 := by omega
      have hm1 : (1 : Int) ≤ (m0 : Int) := by omega
      by_cases hjl : j < l2.length
      · have e2 := ha2 (by omega)
        have R2w := R2.out.below HBel.out
        rw [e2] at R2w
        have x0 := reads_cell R2w hjl
        obtain ⟨z, hz⟩ : ∃ z, l2.getD j 0 = z := ⟨_, rfl⟩
        have hzb : 0 ≤ z ∧ z ≤ 255 := by
          rw [← hz, List.getD_eq_getElem?_getD, List.getElem?_eq_getElem hjl]
          exact hw2 _ (List.getElem_mem hjl)
        rw [hz] at x0
        subst e2
        have v1_ : IntKind.i64.wrap z = z := IntWalk.i64_in _ (by omega)
        obtain ⟨z1, hz1⟩ : ∃ z1 : Nat, 1 + z = (z1 : Int) := ⟨(1 + z).toNat, by omega⟩
        have v2_ : IntKind.i64.wrap (1 + z) = (z1 : Int) := by rw [IntWalk.i64_in _ (by omega)]; exact hz1
        have hz4 : (z1 : Int) ≤ 256 := by omega
        have hz5 : (1 : Int) ≤ (z1 : Int) := by omega
        clear hz R2w
        by_cases hmz : z1 < m0
        · have hmz' : (z1 : Int) < (m0 : Int) := by omega
          have hkm : k + z1 ≤ N := by omega
          have hm0 : 0 < z1 := by omega
          have QL : Hid ((((l.take k).length : Nat) : Int) + (z1 : Int) ≤ (N : Int)) := Lib.hid (by rw [List.length_take, HN.out]; omega)
          have HM := Lib.hid (reads_mid hRw.out hkm)
          have QT : Hid ((((l.take (k + z1)).length : Nat) : Int) ≤ (N : Int)) := Lib.hid (by rw [List.length_take, HN.out]; omega)
          have ET : Hid ((N : Int) - (((l.take (k + z1)).length : Nat) : Int) = (N : Int) - ((k : Int) + (z1 : Int))) := Lib.hid (by rw [List.length_take, HN.out]; omega)
          obtain ⟨bb, hbb⟩ : ∃ bb, (((k : Int) + (z1 : Int)) == (N : Int)) = bb := ⟨_, rfl⟩
          have DB : Hid (decide ((N : Int) - (((l.take k).length : Nat) : Int) - (z1 : Int) = 0) = bb) := Lib.hid (by rw [← hbb, Bool.eq_iff_iff, List.length_take, HN.out]; simp; omega)
          have hc1 : ((k : Int) + (z1 : Int)) ≤ (cap : Int) := by omega
          have hc2 : (k : Int) ≤ (k : Int) + (z1 : Int) := by omega
          go_wp2_with (first
            | (go_at_call 37; (with_reducible refine (add_ok (all := N) (some ⟨b, o + k, none⟩) z1 (cap - k) HA.out HA.out.base q0 q1 hm0 QL.out HM.out bb DB.out).mono ?_); rintro e w3 ⟨rfl, ⟨R3, H, _⟩, hk3⟩; have H3 := Lib.hid (at_take H (take_mid l k z1)); have HB3 := Lib.hid (bel_kept HBel.out HA.out HB hk3); clear H hk3)
            | (go_at_call 39; (with_reducible refine (left_m (all := N) H3.out q0 q1 QT.out ET.out).mono ?_); rintro e w4 ⟨rfl, hb4⟩; have H4 := Lib.hid (H3.out.below hb4); have HB4 := Lib.hid (bel_chain HB3.out hb4); clear hb4 H3)
            | fail)
          go_roundw
          case rel => exact ⟨k + z1, j + 1, R3, by omega, by omega, by go_num, by go_num, H4, HB4⟩
          case measure => simp [intOf]; omega
        · have hmz' : (m0 : Int) ≤ (z1 : Int) := by omega
          have hkm : k + m0 ≤ N := by omega
          have hm0 : 0 < m0 := by omega
          have QL : Hid ((((l.take k).length : Nat) : Int) + (m0 : Int) ≤ (N : Int)) := Lib.hid (by rw [List.length_take, HN.out]; omega)
          have HM := Lib.hid (reads_mid hRw.out hkm)
          have QT : Hid ((((l.take (k + m0)).length : Nat) : Int) ≤ (N : Int)) := Lib.hid (by rw [List.length_take, HN.out]; omega)
          have ET : Hid ((N : Int) - (((l.take (k + m0)).length : Nat) : Int) = (N : Int) - ((k : Int) + (m0 : Int))) := Lib.hid (by rw [List.length_take, HN.out]; omega)
          obtain ⟨bb, hbb⟩ : ∃ bb, (((k : Int) + (m0 : Int)) == (N : Int)) = bb := ⟨_, rfl⟩
          have DB : Hid (decide ((N : Int) - (((l.take k).length : Nat) : Int) - (m0 : Int) = 0) = bb) := Lib.hid (by rw [← hbb, Bool.eq_iff_iff, List.length_take, HN.out]; simp; omega)
          have hc1 : ((k : Int) + (m0 : Int)) ≤ (cap : Int) := by omega
          have hc2 : (k : Int) ≤ (k : Int) + (m0 : Int) := by omega
          go_wp2_with (first
            | (go_at_call 37; (with_reducible refine (add_ok (all := N) (some ⟨b, o + k, none⟩) m0 (cap - k) HA.out HA.out.base q0 q1 hm0 QL.out HM.out bb DB.out).mono ?_); rintro e w3 ⟨rfl, ⟨R3, H, _⟩, hk3⟩; have H3 := Lib.hid (at_take H (take_mid l k m0)); have HB3 := Lib.hid (bel_kept HBel.out HA.out HB hk3); clear H hk3)
            | (go_at_call 39; (with_reducible refine (left_m (all := N) H3.out q0 q1 QT.out ET.out).mono ?_); rintro e w4 ⟨rfl, hb4⟩; have H4 := Lib.hid (H3.out.below hb4); have HB4 := Lib.hid (bel_chain HB3.out hb4); clear hb4 H3)
            | fail)
          go_roundw
          case rel => exact ⟨k + m0, j + 1, R3, by omega, by omega, by go_num, by go_num, H4, HB4⟩
          case measure => simp [intOf]; omega
      · have hge : ¬ ((j : Int) < ((l2.length : Nat) : Int)) := by omega
        have hkm : k + m0 ≤ N := by omega
        have hm0 : 0 < m0 := by omega
        have QL : Hid ((((l.take k).length : Nat) : Int) + (m0 : Int) ≤ (N : Int)) := Lib.hid (by rw [List.length_take, HN.out]; omega)
        have HM := Lib.hid (reads_mid hRw.out hkm)
        have QT : Hid ((((l.take (k + m0)).length : Nat) : Int) ≤ (N : Int)) := Lib.hid (by rw [List.length_take, HN.out]; omega)
        have ET : Hid ((N : Int) - (((l.take (k + m0)).length : Nat) : Int) = (N : Int) - ((k : Int) + (m0 : Int))) := Lib.hid (by rw [List.length_take, HN.out]; omega)
        obtain ⟨bb, hbb⟩ : ∃ bb, (((k : Int) + (m0 : Int)) == (N : Int)) = bb := ⟨_, rfl⟩
        have DB : Hid (decide ((N : Int) - (((l.take k).length : Nat) : Int) - (m0 : Int) = 0) = bb) := Lib.hid (by rw [← hbb, Bool.eq_iff_iff, List.length_take, HN.out]; simp; omega)
        have hc1 : ((k : Int) + (m0 : Int)) ≤ (cap : Int) := by omega
        have hc2 : (k : Int) ≤ (k : Int) + (m0 : Int) := by omega
        go_wp2_with (first
          | (go_at_call 37; (with_reducible refine (add_ok (all := N) (some ⟨b, o + k, none⟩) m0 (cap - k) HA.out HA.out.base q0 q1 hm0 QL.out HM.out bb DB.out).mono ?_); rintro e w3 ⟨rfl, ⟨R3, H, _⟩, hk3⟩; have H3 := Lib.hid (at_take H (take_mid l k m0)); have HB3 := Lib.hid (bel_kept HBel.out HA.out HB hk3); clear H hk3)
          | (go_at_call 39; (with_reducible refine (left_m (all := N) H3.out q0 q1 QT.out ET.out).mono ?_); rintro e w4 ⟨rfl, hb4⟩; have H4 := Lib.hid (H3.out.below hb4); have HB4 := Lib.hid (bel_chain HB3.out hb4); clear hb4 H3)
          | fail)
        go_roundw
        case rel => exact ⟨k + m0, j + 1, R3, by omega, by omega, by go_num, by go_num, H4, HB4⟩
        case measure => simp [intOf]; omega
    · have hkN : k = N := by omega
      subst hkN
      have EN : Hid (l.length ≤ 400) := Lib.hid (by rw [HN.out]; omega)
      have e0 : l.take k = l := List.take_of_length_le (by rw [HN.out]; exact Nat.le_refl _)
      have H4 := Lib.hid ((at_take HA.out e0).below (bel_alloc (Below.refl _ _) (.cells #[.int .u8 1] 5)))
      have hb4 := bel_alloc HBel.out (.cells #[.int .u8 1] 5)
      have QG : Hid (((l.length : Nat) : Int) ≤ (k : Int)) := Lib.hid (by rw [HN.out]; omega)
      clear HA e0
      go_wp2_with (first
        | (go_at_call 37; (with_reducible refine (add_nom (all := k) (some ⟨wr.heap.size, 0, none⟩) 1 1 H4.out q0 q1 QG.out (Or.inr (lt1 HN.out))).mono ?_); rintro e w5 ⟨rfl, hb5⟩; have H5 := Lib.hid (H4.out.below hb5); have hbE0 := Lib.hid (bel_chain hb4 hb5); clear hb5 H4 hb4)
        | fail)
      have Hd : At w5.drew G G RR l k := H5.out
      have Rd : ReadsInt w5.drew .u8 (some ⟨b, o, none⟩) k l := R.out.below (bel_drew hbE0.out)
      have hbE := bel_drew hbE0.out
      refine wp_region_noPanic ?_
      refine RegH.startH_ (n := 11) (S := fun w' => ((convert 25 9 (.slice (some ⟨b, o, none⟩) k cap)).run Try.prog w' = .ok (.string (strOfNums l)) w')) #[false, false, false, false, false, false, false, false, false, false, false] (by kernel_rfl) rfl rfl (Loan.conv (c := cap) Rd) (fun hHeld0 => ?_)
      refine RegH.takeH_ (i := 0) (N := (some 102)) (v := ?_) (a' := ?_) #[true, false, false, false, false, false, false, false, false, false, false] rfl rfl (by kernel_rfl) (by kernel_rfl) (by kernel_rfl) rfl (fun _ _ _ h => h) (Or.inl ⟨by rfl, ?_⟩) hHeld0 ?_ ?_
      rotate_left
      · rintro w' s0
        go_simp
        with_reducible rfl
      rotate_left
      · simp only [Act.put, List.setIfInBounds_toArray, List.set_cons_zero, List.set_cons_succ]
        rfl
      refine RegH.takeH_ (i := 1) (N := (some 103)) (v := ?_) (a' := ?_) #[true, true, false, false, false, false, false, false, false, false, false] rfl rfl (by kernel_rfl) (by kernel_rfl) (by kernel_rfl) rfl (fun _ _ _ h => h) (Or.inl ⟨by rfl, ?_⟩) hHeld0 ?_ ?_
      rotate_left
      · rintro w' s0
        go_simp
        with_reducible rfl
      rotate_left
      · simp only [Act.put, List.setIfInBounds_toArray, List.set_cons_zero, List.set_cons_succ]
        rfl
      refine RegH.takeH_ (i := 2) (N := (some 104)) (v := ?_) (a' := ?_) #[true, true, true, false, false, false, false, false, false, false, false] rfl rfl (by kernel_rfl) (by kernel_rfl) (by kernel_rfl) rfl (fun _ _ _ h => h) (Or.inl ⟨by rfl, ?_⟩) hHeld0 ?_ ?_
      rotate_left
      · rintro w' s0
        go_simp
        with_reducible rfl
      rotate_left
      · simp only [Act.put, List.setIfInBounds_toArray, List.set_cons_zero, List.set_cons_succ]
        rfl
      refine RegH.takeH_ (i := 3) (N := (some 105)) (v := ?_) (a' := ?_) #[true, true, true, true, false, false, false, false, false, false, false] rfl rfl (by kernel_rfl) (by kernel_rfl) (by kernel_rfl) rfl (fun _ _ _ h => h) (Or.inl ⟨by rfl, ?_⟩) hHeld0 ?_ ?_
      rotate_left
      · rintro w' s0
        go_simp
        with_reducible rfl
      rotate_left
      · simp only [Act.put, List.setIfInBounds_toArray, List.set_cons_zero, List.set_cons_succ]
        rfl
      refine RegH.takeH_ (i := 6) (N := (some 108)) (v := ?_) (a' := ?_) #[true, true, true, true, false, false, true, false, false, false, false] rfl rfl (by kernel_rfl) (by kernel_rfl) (by kernel_rfl) rfl (fun _ _ _ h => h) (Or.inl ⟨by rfl, ?_⟩) hHeld0 ?_ ?_
      rotate_left
      · rintro w' s0
        go_simp
        with_reducible rfl
      rotate_left
      · simp only [Act.put, List.setIfInBounds_toArray, List.set_cons_zero, List.set_cons_succ]
        rfl
      refine RegH.takeH_ (i := 7) (N := (some 109)) (v := ?_) (a' := ?_) #[true, true, true, true, false, false, true, true, false, false, false] rfl rfl (by kernel_rfl) (by kernel_rfl) (by kernel_rfl) rfl (fun _ _ _ h => h) (Or.inl ⟨by rfl, ?_⟩) hHeld0 ?_ ?_
      rotate_left
      · rintro w' s0
        go_simp
        with_reducible rfl
      rotate_left
      · simp only [Act.put, List.setIfInBounds_toArray, List.set_cons_zero, List.set_cons_succ]
        rfl
      refine RegH.oneH_ (i := 4) (N := (some 106)) #[true, true, true, true, true, false, true, true, false, false, false] rfl rfl (by kernel_rfl) rfl (fun K hK => ?_)
      refine Go.Proofs.YtlohonlcoedfhaaW.PrintLast.goes_ Try.func38 (by kernel_rfl) rfl #[.pointer (some ⟨G, 0, none⟩)] (by rfl) rfl rfl (by (try simp only [List.map_toArray, List.map_cons, List.map_nil]); first | done | rfl) ?_
      refine (bytes_n Hd EN.out HN.out).mono ?_
      rintro e w6 ⟨A6, c6, rfl, hc6, hr6, hb6⟩
      refine ⟨_, rfl, ?_⟩
      have R6 := Rd.below hb6
      have hbF := bel_chain hbE hb6
      refine hK.out _ _ (Loan.conv (c := cap) R6) (fun hHeld1 => ?_)
      clear hK K hHeld0
      refine RegH.heldMono (S' := fun w' => ((convert 25 9 (.slice (some ⟨b, o, none⟩) k cap)).run Try.prog w' = .ok (.string (strOfNums l)) w') ∧ ((convert 25 9 (.slice A6 k c6)).run Try.prog w' = .ok (.string (strOfNums l)) w')) (fun w' ⟨s0, s1⟩ => s0) _ _ _ _ ?_
      have h_0 := hHeld1
      have hHeld2 := And.intro h_0 (Loan.conv (c := c6) hr6)
      clear h_0
      simp only [Act.put, List.setIfInBounds_toArray, List.set_cons_zero, List.set_cons_succ]
      refine RegH.takeH_ (i := 5) (N := (some 107)) (v := ?_) (a' := ?_) #[true, true, true, true, true, true, true, true, false, false, false] rfl rfl (by kernel_rfl) (by kernel_rfl) (by kernel_rfl) rfl (fun _ _ _ h => h) (Or.inl ⟨by rfl, ?_⟩) hHeld2 ?_ ?_
      rotate_left
      · rintro w' ⟨s0, s1⟩
        go_simp
        with_reducible rfl
      rotate_left
      · simp only [Act.put, List.setIfInBounds_toArray, List.set_cons_zero, List.set_cons_succ]
        rfl
      refine RegH.takeH_ (i := 8) (N := (some 110)) (v := ?_) (a' := ?_) #[true, true, true, true, true, true, true, true, true, false, false] rfl rfl (by kernel_rfl) (by kernel_rfl) (by kernel_rfl) rfl (fun _ _ _ h => h) (Or.inl ⟨by rfl, ?_⟩) hHeld2 ?_ ?_
      rotate_left
      · rintro w' ⟨s0, s1⟩
        go_simp
        with_reducible rfl
      rotate_left
      · simp only [Act.put, List.setIfInBounds_toArray, List.set_cons_zero, List.set_cons_succ]
        rfl
      refine RegH.takeH_ (i := 9) (N := (some 111)) (v := ?_) (a' := ?_) #[true, true, true, true, true, true, true, true, true, true, false] rfl rfl (by kernel_rfl) (by kernel_rfl) (by kernel_rfl) rfl (fun _ _ _ h => h) (Or.inl ⟨by rfl, ?_⟩) hHeld2 ?_ ?_
      rotate_left
      · rintro w' ⟨s0, s1⟩
        go_simp
        with_reducible rfl
      rotate_left
      · simp only [Act.put, List.setIfInBounds_toArray, List.set_cons_zero, List.set_cons_succ]
        rfl
      refine RegH.takeH_ (i := 10) (N := (some 4)) (v := ?_) (a' := ?_) #[true, true, true, true, true, true, true, true, true, true, true] rfl rfl (by kernel_rfl) (by kernel_rfl) (by kernel_rfl) rfl (fun _ _ _ h => h) (Or.inl ⟨by rfl, ?_⟩) hHeld2 ?_ ?_
      rotate_left
      · rintro w' ⟨s0, s1⟩
        go_simp
        with_reducible rfl
      rotate_left
      · simp only [Act.put, List.setIfInBounds_toArray, List.set_cons_zero, List.set_cons_succ]
        rfl
      refine RegH.doneH_ (by kernel_rfl) ?_
      refine NoPanic.normal ?_
      go_wp2
      go_ret
      exact ⟨rfl, hbF⟩
end Go.Proofs.Ytlohonlcoedfhaa.Piece
