/- Bills that come back: the plain law. -/
import Derived.Test.YtmhglfidggjfdaaBillF
import Derived.Test.YtmhglfidggjfdaaPick
namespace Go.Proofs.Ytmhglfidggjfdaa.Bill
open Go Go.RowKit Go.Proofs.YtmhglfidggjfdaaW.PrintWords
open Go.Proofs.Ytmhglfidggjfdaa.PBillBack (S60 z60 k60 rd_T60 at_T60)
open Go.Proofs.Ytmhglfidggjfdaa.Pick (bst bT pk pk_in bst_in bst_len part0 part1 cnt5 cnt5_in min12 dev1)
set_option linter.unusedVariables false
set_option linter.unusedSimpArgs false
/-- A row that is a bill has the length that its seventh byte says. -/
theorem good_len {c : List Int} {F T S C : Int} {l : List S60} (h7 : 7 ≤ c.length) (h : putB F T S C l = c) : (c.length : Int) = 7 + 8 * rd c 6 ∧ rd c 6 = l.length := by
  unfold putB at h
  split at h
  · rw [← h]
    have e : rd (headL F T S C l.length ++ l.flatMap rowP) 6 = l.length := rfl
    rw [e, List.length_append, rows_len]
    refine ⟨?_, rfl⟩
    simp [headL]
  · rw [← h] at h7; simp at h7
theorem take_bad_len {c : List Int} (h : (c.length : Int) ≠ 7 + 8 * rd c 6) : takeB c = (0, 0, 0, 0, [], -2) := by
  unfold takeB
  rw [if_neg]
  intro h2
  exact h (good_len h2.1 h2.2).1
theorem part_row (p : S60) (s : List Int) (h0 : 0 ≤ p.f5) (h1 : p.f5 ≤ 4294967295) (h2 : fitP p = true) : partO (rowP p ++ s) = p := by
  have q6 : byB p.f6 = true ∧ byB p.f7 = true ∧ byB p.f8 = true := by
    unfold fitP at h2; simp only [Bool.and_eq_true] at h2; exact ⟨h2.1.1, h2.1.2, h2.2⟩
  have e1 : idO (rowP p) = p.f5 := by
    rw [idO_eq]
    · show p.f5 / 16777216 * 16777216 + p.f5 / 65536 % 256 * 65536 + p.f5 / 256 % 256 * 256 + p.f5 % 256 = p.f5
      omega
    · intro x hx
      have a6 := byB_in q6.1
      have a7 := byB_in q6.2.1
      have a8 := byB_in q6.2.2
      have ab : 0 ≤ bK p 5 ∧ bK p 5 ≤ 255 := by unfold bK bB; (repeat' split) <;> omega
      simp only [rowP, List.mem_cons, List.not_mem_nil, or_false] at hx
      rcases hx with rfl | rfl | rfl | rfl | rfl | rfl | rfl | rfl <;> first | exact ab | exact a6 | exact a7 | exact a8 | omega
  have e2 : idO (rowP p ++ s) = p.f5 := e1
  have e3 : ∀ b0 b1 b2 b3 b4 : Bool, bitO (bB b0 b1 b2 b3 b4 5) 0 = b0 ∧ bitO (bB b0 b1 b2 b3 b4 5) 1 = b1 ∧ bitO (bB b0 b1 b2 b3 b4 5) 2 = b2 ∧ bitO (bB b0 b1 b2 b3 b4 5) 3 = b3 ∧ bitO (bB b0 b1 b2 b3 b4 5) 4 = b4 := by decide +kernel
  have e4 := e3 p.f0 p.f1 p.f2 p.f3 p.f4
  obtain ⟨a0, a1, a2, a3, a4⟩ := e4
  unfold partO
  rw [e2]
  show (⟨bitO (bB p.f0 p.f1 p.f2 p.f3 p.f4 5) 0, bitO (bB p.f0 p.f1 p.f2 p.f3 p.f4 5) 1, bitO (bB p.f0 p.f1 p.f2 p.f3 p.f4 5) 2, bitO (bB p.f0 p.f1 p.f2 p.f3 p.f4 5) 3, bitO (bB p.f0 p.f1 p.f2 p.f3 p.f4 5) 4, p.f5, p.f6, p.f7, p.f8⟩ : S60) = p
  rw [a0, a1, a2, a3, a4]
theorem parts_row : ∀ l : List S60, WfL l → l.all fitP = true → partsO l.length (l.flatMap rowP) = l
  | [], _, _ => rfl
  | p :: t, hw, hf => by
    have hp := hw p (List.mem_cons_self ..)
    rw [List.all_cons, Bool.and_eq_true] at hf
    have ih := parts_row t (fun q hq => hw q (List.mem_cons_of_mem _ hq)) hf.2
    show partsO (t.length + 1) (rowP p ++ t.flatMap rowP) = p :: t
    show (if 8 ≤ (rowP p ++ t.flatMap rowP).length then partO (rowP p ++ t.flatMap rowP) :: partsO t.length ((rowP p ++ t.flatMap rowP).drop 8) else []) = _
    have e8 : (rowP p ++ t.flatMap rowP).drop 8 = t.flatMap rowP := rfl
    rw [if_pos (by rw [List.length_append, rowP_len]; omega), part_row p _ hp.1 hp.2 hf.1, e8, ih]
/-- A bill that fits comes back. -/
theorem take_put {F T S C : Int} {l : List S60} (hw : WfL l) (hh : hdB F T S C l.length = true) (hf : l.all fitP = true) : (putB F T S C l).length = 7 + 8 * l.length ∧ takeB (putB F T S C l) = (F, T, S, C, l, 0) ∧ rd (putB F T S C l) 6 = l.length := by
  have e : putB F T S C l = headL F T S C l.length ++ l.flatMap rowP := by unfold putB; rw [hh, hf]; rfl
  have el : (putB F T S C l).length = 7 + 8 * l.length := by rw [e, List.length_append, rows_len]; rfl
  have eb : billL (putB F T S C l) = l := by
    rw [e]
    show partsO (l.length : Int).toNat (l.flatMap rowP) = l
    rw [Int.toNat_natCast, parts_row l hw hf]
  refine ⟨el, ?_, by rw [e]; rfl⟩
  unfold takeB
  have r2 : rd (putB F T S C l) 2 = F := by rw [e]; rfl
  have r3 : rd (putB F T S C l) 3 = T := by rw [e]; rfl
  have r4 : rd (putB F T S C l) 4 = S := by rw [e]; rfl
  have r5 : rd (putB F T S C l) 5 = C := by rw [e]; rfl
  rw [eb, r2, r3, r4, r5, if_pos ⟨by rw [el]; omega, rfl⟩]
theorem put_in {F T S C : Int} {l : List S60} (hw : WfL l) : BytesIn (putB F T S C l) := by
  unfold putB
  split
  · rename_i h
    rw [Bool.and_eq_true] at h
    obtain ⟨hh, hf⟩ := h
    unfold hdB at hh
    simp only [Bool.and_eq_true] at hh
    obtain ⟨⟨⟨⟨b1, b2⟩, b3⟩, b4⟩, b5⟩ := hh
    have b1 := byB_in b1
    have b2 := byB_in b2
    have b3 := byB_in b3
    have b4 := byB_in b4
    have b5 := byB_in b5
    intro x hx
    rcases List.mem_append.1 hx with hx | hx
    · simp only [headL, List.mem_cons, List.not_mem_nil, or_false] at hx
      rcases hx with rfl | rfl | rfl | rfl | rfl | rfl | rfl <;> omega
    · obtain ⟨p, hp, hx⟩ := List.mem_flatMap.1 hx
      have hp5 := hw p hp
      have hq := List.all_eq_true.1 hf p hp
      unfold fitP at hq
      simp only [Bool.and_eq_true] at hq
      have a6 := byB_in hq.1.1
      have a7 := byB_in hq.1.2
      have a8 := byB_in hq.2
      have ab : 0 ≤ bK p 5 ∧ bK p 5 ≤ 255 := by unfold bK bB; (repeat' split) <;> omega
      simp only [rowP, List.mem_cons, List.not_mem_nil, or_false] at hx
      rcases hx with rfl | rfl | rfl | rfl | rfl | rfl | rfl | rfl <;> first | exact ab | exact a6 | exact a7 | exact a8 | omega
  · intro x hx; cases hx
/-- A cut row, a longer row. -/
theorem rd_take {b : List Int} {k : Nat} (h : 7 ≤ k) : rd (b.take k) 6 = rd b 6 := by
  unfold rd
  show (b.take k).getD 6 0 = b.getD 6 0
  rw [List.getD_eq_getElem?_getD, List.getD_eq_getElem?_getD, List.getElem?_take_of_lt (by omega)]
theorem take_cut {F T S C : Int} {l : List S60} (hw : WfL l) (hh : hdB F T S C l.length = true) (hf : l.all fitP = true) {k : Nat} (hk : k < 7 + 8 * l.length) : takeB ((putB F T S C l).take k) = (0, 0, 0, 0, [], -2) := by
  obtain ⟨e1, _, e3⟩ := take_put hw hh hf
  by_cases h7 : 7 ≤ k
  · refine take_bad_len ?_
    rw [rd_take h7, e3, List.length_take, e1]
    omega
  · unfold takeB
    rw [if_neg]
    intro h
    have := h.1
    rw [List.length_take] at this
    omega
theorem take_more {F T S C : Int} {l : List S60} (hw : WfL l) (hh : hdB F T S C l.length = true) (hf : l.all fitP = true) (x : Int) : takeB (putB F T S C l ++ [x]) = (0, 0, 0, 0, [], -2) := by
  obtain ⟨e1, _, e3⟩ := take_put hw hh hf
  refine take_bad_len ?_
  have e : rd (putB F T S C l ++ [x]) 6 = rd (putB F T S C l) 6 := by
    unfold rd
    show (putB F T S C l ++ [x]).getD 6 0 = (putB F T S C l).getD 6 0
    rw [List.getD_eq_getElem?_getD, List.getD_eq_getElem?_getD, List.getElem?_append_left (by omega)]
  rw [e, e3, List.length_append, e1]
  simp
  omega
/-- Whatever a row reads as: no bill, or the bill whose row it is. -/
theorem take_or {c : List Int} : takeB c = (0, 0, 0, 0, [], -2) ∨ ∃ F T S C l, takeB c = (F, T, S, C, l, 0) ∧ putB F T S C l = c := by
  by_cases h : 7 ≤ c.length ∧ putB (rd c 2) (rd c 3) (rd c 4) (rd c 5) (billL c) = c
  · exact Or.inr ⟨_, _, _, _, _, by unfold takeB; rw [if_pos h], h.2⟩
  · exact Or.inl (by unfold takeB; rw [if_neg h])
/-- The bills that are made fit. -/
theorem bst_fit (l : List Int) (n0 : Nat) (T : Int) (hT : 0 ≤ T ∧ T ≤ 42) : ∀ k, k ≤ 6 → ∀ p ∈ (bst l n0 T k).1, (0 ≤ p.f5 ∧ p.f5 ≤ 4294967295) ∧ fitP p = true
  | 0, _, p, hp => by cases hp
  | k + 1, hk, p, hp => by
    have hb := bst_in l n0 T k
    rcases List.mem_append.1 hp with hp | hp
    · exact bst_fit l n0 T hT k (by omega) p hp
    · obtain ⟨h1, h2, h3, h4⟩ := hb
      generalize (bst l n0 T k).2.1 = sec at h1 h2 hp
      generalize (bst l n0 T k).2.2 = nrm at h3 h4 hp
      have h5 : nrm ≤ T + 126 := by split at h4 <;> omega
      clear h4
      have hm : ∀ x, 0 ≤ min12 (cnt5 x) ∧ min12 (cnt5 x) ≤ 18 := fun x => by have := cnt5_in x; unfold min12; split <;> omega
      have hd : ∀ n, 0 ≤ dev1 l n k ∧ dev1 l n k ≤ 6 := fun n => by unfold dev1; split <;> omega
      rw [List.mem_singleton] at hp
      subst hp
      by_cases h0 : k = 0
      · rw [if_pos h0]
        have q := pk_in l (n0 + 2 + 4) (m := 2) (by decide)
        refine ⟨?_, ?_⟩
        · show 0 ≤ 1 + pk l (n0 + 2 + 4) 2 ∧ 1 + pk l (n0 + 2 + 4) 2 ≤ 4294967295; omega
        · show (byB nrm && byB 18 && byB 0) = true
          rw [byB_of (n := nrm) (by omega)]; rfl
      · rw [if_neg h0]
        have q := pk_in l (n0 + 8 * k + 5) (m := 2) (by decide)
        have qc := cnt5_in (pk l (n0 + 8 * k + 6) 5)
        have qm := hm (pk l (n0 + 8 * k + 6) 5)
        have qd := hd (n0 + 8 * k)
        unfold part1
        split
        · refine ⟨?_, ?_⟩
          · show 0 ≤ 1 + pk l (n0 + 8 * k + 5) 2 ∧ 1 + pk l (n0 + 8 * k + 5) 2 ≤ 4294967295; omega
          · show (byB sec && byB (cnt5 (pk l (n0 + 8 * k + 6) 5)) && byB (dev1 l (n0 + 8 * k) k)) = true
            rw [byB_of (n := sec) (by omega), byB_of (n := cnt5 (pk l (n0 + 8 * k + 6) 5)) (by omega), byB_of (n := dev1 l (n0 + 8 * k) k) (by omega)]; rfl
        · refine ⟨?_, ?_⟩
          · show 0 ≤ 1 + pk l (n0 + 8 * k + 5) 2 ∧ 1 + pk l (n0 + 8 * k + 5) 2 ≤ 4294967295; omega
          · show (byB nrm && byB (min12 (cnt5 (pk l (n0 + 8 * k + 6) 5))) && byB (dev1 l (n0 + 8 * k) k)) = true
            rw [byB_of (n := nrm) (by omega), byB_of (n := min12 (cnt5 (pk l (n0 + 8 * k + 6) 5))) (by omega), byB_of (n := dev1 l (n0 + 8 * k) k) (by omega)]; rfl
theorem made_fit (l : List Int) (n0 P : Nat) (hP : P ≤ 6) : WfL (bst l n0 (bT l n0 P) P).1 ∧ hdB (bT l n0 P + 140) (bT l n0 P) 60 (1 + pk l n0 3) (bst l n0 (bT l n0 P) P).1.length = true ∧ (bst l n0 (bT l n0 P) P).1.all fitP = true := by
  have q := pk_in l (n0 + 1) (m := 3) (by decide)
  have q0 := pk_in l n0 (m := 3) (by decide)
  have hT : 0 ≤ bT l n0 P ∧ bT l n0 P ≤ 42 := by
    unfold bT
    have : P = 0 ∨ P = 1 ∨ P = 2 ∨ P = 3 ∨ P = 4 ∨ P = 5 ∨ P = 6 := by omega
    rcases this with rfl | rfl | rfl | rfl | rfl | rfl | rfl <;> omega
  have h := bst_fit l n0 (bT l n0 P) hT P hP
  refine ⟨fun p hp => (h p hp).1, ?_, List.all_eq_true.2 fun p hp => (h p hp).2⟩
  unfold hdB
  rw [bst_len, byB_of (n := bT l n0 P + 140) (by omega), byB_of (n := bT l n0 P) (by omega), byB_of (n := 1 + pk l n0 3) (by omega), byB_of (n := (P : Int)) (by omega)]
  rfl
end Go.Proofs.Ytmhglfidggjfdaa.Bill
