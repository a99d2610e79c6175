/- Bills as bytes: what the reference's printed functions come to. -/
import Derived.Test.YtmhglfidggjfdaaBillTake
import Derived.Test.YtmhglfidggjfdaaPBillRx2
import Derived.Test.YtmhglfidggjfdaaPBillRx3
import Derived.Test.YtmhglfidggjfdaaPBillRx5
import Derived.Test.YtmhglfidggjfdaaPBillRx6
namespace Go.Proofs.Ytmhglfidggjfdaa.Bill
open Go Go.RowKit Go.Proofs.YtmhglfidggjfdaaW.PrintWords
open Go.Proofs.Ytmhglfidggjfdaa.PBillBack (S60 z60 rd_T60)
set_option linter.unusedVariables false
set_option linter.unusedSimpArgs false

theorem rbits_b : ∀ b0 b1 b2 b3 b4 : Bool, PBillR.presidioref6_Bits.f 6 b0 b1 b2 b3 b4 0 0 0 0 = some (bB b0 b1 b2 b3 b4 5) := by decide +kernel
theorem rbits_k {k : Nat} (h : 6 ≤ k) (p : S60) : PBillR.presidioref6_Bits.f k p.f0 p.f1 p.f2 p.f3 p.f4 p.f5 p.f6 p.f7 p.f8 = some (bK p 5) := by
  refine at_rounds (fun k => PBillR.presidioref6_Bits.mono _ _ _ _ _ _ _ _ _ k) h ?_
  have h := rbits_b p.f0 p.f1 p.f2 p.f3 p.f4
  unfold PBillR.presidioref6_Bits.f at h ⊢
  exact h
theorem byteOf_f (n : Int) : PBillR.presidioref6_byteOf.f n = some (byB n) := by
  unfold PBillR.presidioref6_byteOf.f byB
  by_cases h : n ≥ 0
  · rw [if_pos h, decide_eq_true (show 0 ≤ n from h), Bool.true_and]
  · rw [if_neg h, decide_eq_false (show ¬ 0 ≤ n from h), Bool.false_and]
theorem rd_get {l : List S60} {k : Nat} (h : k < l.length) : rd_T60 l k = l[k] := by unfold rd_T60; simp [List.getD_eq_getElem?_getD, List.getElem?_eq_getElem h]
theorem put_l0 (F T S C : Int) (l : List S60) (hl : l.length ≤ 1000) (hw : WfL l) : ∀ (d i k : Nat) (acc : List Int), i + d = l.length → d + 8 ≤ k → acc.length = 7 + 8 * i →
    PBillR.presidioref6_PutBill.l0 k acc i F T S C l = some (if (l.drop i).all fitP = true then acc ++ (l.drop i).flatMap rowP else []) := by
  intro d
  induction d with
  | zero =>
    intro i k acc hi hk ha
    obtain ⟨k, rfl⟩ : ∃ m, k = m + 1 := ⟨k - 1, by omega⟩
    rw [PBillR.presidioref6_PutBill.l0, if_neg (by omega), List.drop_of_length_le (by omega)]
    simp
  | succ d ih =>
    intro i k acc hi hk ha
    obtain ⟨k, rfl⟩ : ∃ m, k = m + 1 := ⟨k - 1, by omega⟩
    have hlt : i < l.length := by omega
    have hd : l.drop i = l[i] :: l.drop (i + 1) := List.drop_eq_getElem_cons hlt
    have hrd := rd_get hlt
    have hp5 := hw _ (List.getElem_mem hlt)
    obtain ⟨p, hp⟩ : ∃ p, l[i] = p := ⟨_, rfl⟩
    rw [hp] at hd hrd hp5
    have hwr := Lib.hid (show wrap64 ((i : Int) + 1) = ((i + 1 : Nat) : Int) from by unfold wrap64; omega)
    rw [PBillR.presidioref6_PutBill.l0, if_pos (by omega), if_pos (by omega), hrd, byteOf_f, Option.bind_some]
    by_cases f6 : byB p.f6 = true
    · rw [if_pos f6, byteOf_f, Option.bind_some]
      by_cases f7 : byB p.f7 = true
      · rw [if_pos f7, byteOf_f, Option.bind_some]
        by_cases f8 : byB p.f8 = true
        · have b6 := byB_in f6
          have b7 := byB_in f7
          have b8 := byB_in f8
          have hb := bK_in p
          rw [if_pos f8, rbits_k (by omega), Option.bind_some, Option.bind_some]
          have e1 : bK p 5 % 256 = bK p 5 := by omega
          have e2 : p.f5 / 16777216 % 256 = p.f5 / 16777216 := by omega
          have e6 : p.f6 % 256 = p.f6 := by omega
          have e7 : p.f7 % 256 = p.f7 := by omega
          have e8 : p.f8 % 256 = p.f8 := by omega
          rw [e1, e2, e6, e7, e8, if_pos (by simp; omega), hwr.out, ih (i + 1) k _ (by omega) (by omega) (by simp; omega), hd]
          have hf : fitP p = true := by unfold fitP; rw [f6, f7, f8]; rfl
          rw [List.all_cons, hf, Bool.true_and, List.flatMap_cons, ← List.append_assoc]
          rfl
        · rw [if_neg f8, hd]
          have hf : fitP p = false := by unfold fitP; rw [f6, f7]; simpa using f8
          rw [List.all_cons, hf, Bool.false_and, if_neg (by simp)]
      · rw [if_neg f7, hd]
        have hf : fitP p = false := by unfold fitP; rw [f6]; simp [f7]
        rw [List.all_cons, hf, Bool.false_and, if_neg (by simp)]
    · rw [if_neg f6, hd]
      have hf : fitP p = false := by unfold fitP; simp [f6]
      rw [List.all_cons, hf, Bool.false_and, if_neg (by simp)]
theorem put_j0 (F T S C : Int) (l : List S60) (hl : l.length ≤ 1000) (hw : WfL l) {k : Nat} (hk : l.length + 10 ≤ k) (x : Bool) (hx : x = !hdB F T S C l.length) : PBillR.presidioref6_PutBill.j0 k x F T S C l = some (putB F T S C l) := by
  obtain ⟨k, rfl⟩ : ∃ m, k = m + 1 := ⟨k - 1, by omega⟩
  rw [PBillR.presidioref6_PutBill.j0]
  unfold putB
  by_cases h : hdB F T S C l.length = true
  · rw [if_neg (by rw [hx, h]; simp)]
    have hb := h
    unfold hdB at hb
    simp only [Bool.and_eq_true] at hb
    obtain ⟨⟨⟨⟨b1, b2⟩, b3⟩, b4⟩, b5⟩ := hb
    have b1 := byB_in b1
    have b2 := byB_in b2
    have b3 := byB_in b3
    have b4 := byB_in b4
    have b5 := byB_in b5
    have e1 : F % 256 = F := by omega
    have e2 : T % 256 = T := by omega
    have e3 : S % 256 = S := by omega
    have e4 : C % 256 = C := by omega
    have e5 : (l.length : Int) % 256 = l.length := by omega
    rw [e1, e2, e3, e4, e5]
    have := put_l0 F T S C l hl hw l.length 0 k [80, 77, F, T, S, C, (l.length : Int)] (by omega) (by omega) (by simp)
    rw [show ((0 : Nat) : Int) = 0 from rfl] at this
    rw [this, h, Bool.true_and, List.drop_zero]
    rfl
  · have h2 : hdB F T S C l.length = false := by simpa using h
    rw [if_pos (by rw [hx, h2]; rfl), h2, Bool.false_and, if_neg (by simp)]
theorem put_f (F T S C : Int) (l : List S60) (hl : l.length ≤ 1000) (hw : WfL l) {k : Nat} (hk : l.length + 10 ≤ k) : PBillR.presidioref6_PutBill.f k F T S C l = some (putB F T S C l) := by
  unfold PBillR.presidioref6_PutBill.f
  rw [byteOf_f, Option.bind_some]
  by_cases h1 : byB F = true
  · rw [if_pos h1, byteOf_f, Option.bind_some]
    by_cases h2 : byB T = true
    · rw [if_pos h2, byteOf_f, Option.bind_some]
      by_cases h3 : byB S = true
      · rw [if_pos h3, byteOf_f, Option.bind_some]
        by_cases h4 : byB C = true
        · rw [if_pos h4, byteOf_f, Option.bind_some]
          exact put_j0 F T S C l hl hw hk _ (by unfold hdB; rw [h1, h2, h3, h4]; rfl)
        · rw [if_neg h4]; exact put_j0 F T S C l hl hw hk _ (by unfold hdB; simp [h4])
      · rw [if_neg h3]; exact put_j0 F T S C l hl hw hk _ (by unfold hdB; simp [h3])
    · rw [if_neg h2]; exact put_j0 F T S C l hl hw hk _ (by unfold hdB; simp [h2])
  · rw [if_neg h1]; exact put_j0 F T S C l hl hw hk _ (by unfold hdB; simp [h1])

instance decS60 : DecidableEq S60 := fun p q => decidable_of_iff (p.f0 = q.f0 ∧ p.f1 = q.f1 ∧ p.f2 = q.f2 ∧ p.f3 = q.f3 ∧ p.f4 = q.f4 ∧ p.f5 = q.f5 ∧ p.f6 = q.f6 ∧ p.f7 = q.f7 ∧ p.f8 = q.f8) (by
  constructor
  · rintro ⟨h0, h1, h2, h3, h4, h5, h6, h7, h8⟩
    cases p; cases q
    simp_all
  · rintro rfl
    simp)
/-- Whether two bills are the same. -/
def sameB (F T S C : Int) (l : List S60) (F' T' S' C' : Int) (l' : List S60) : Bool := decide (F = F' ∧ T = T' ∧ S = S' ∧ C = C' ∧ l = l')
theorem neP (p q : S60) : (!(p.f0 == q.f0) || (!(p.f1 == q.f1) || (!(p.f2 == q.f2) || (!(p.f3 == q.f3) || (!(p.f4 == q.f4) || (!(p.f5 == q.f5) || (!(p.f6 == q.f6) || (!(p.f7 == q.f7) || !(p.f8 == q.f8))))))))) = !decide (p = q) := by
  by_cases h : p = q
  · subst h; simp
  · rw [decide_eq_false h, Bool.not_false]
    cases hE : (!(p.f0 == q.f0) || (!(p.f1 == q.f1) || (!(p.f2 == q.f2) || (!(p.f3 == q.f3) || (!(p.f4 == q.f4) || (!(p.f5 == q.f5) || (!(p.f6 == q.f6) || (!(p.f7 == q.f7) || !(p.f8 == q.f8)))))))))
    · exfalso
      apply h
      simp only [Bool.or_eq_false_iff, Bool.not_eq_false', beq_iff_eq] at hE
      obtain ⟨h0, h1, h2, h3, h4, h5, h6, h7, h8⟩ := hE
      cases p; cases q
      simp_all
    · rfl
theorem dec_cons (a b : S60) (s t : List S60) : decide (a :: s = b :: t) = (decide (a = b) && decide (s = t)) := by
  by_cases h : a = b <;> by_cases h2 : s = t <;> simp [h, h2]
theorem eq_l0 (l l' : List S60) (hl : l.length = l'.length) (hm : l.length ≤ 1000) : ∀ (d i k : Nat), i + d = l.length → d + 1 ≤ k → PBillR.api_Part.l0 k l l' l.length i = some (decide (l.drop i = l'.drop i)) := by
  intro d
  induction d with
  | zero =>
    intro i k hi hk
    obtain ⟨k, rfl⟩ : ∃ m, k = m + 1 := ⟨k - 1, by omega⟩
    rw [PBillR.api_Part.l0, if_neg (by omega), List.drop_of_length_le (by omega), List.drop_of_length_le (by omega)]
    simp
  | succ d ih =>
    intro i k hi hk
    obtain ⟨k, rfl⟩ : ∃ m, k = m + 1 := ⟨k - 1, by omega⟩
    have hlt : i < l.length := by omega
    have hlt' : i < l'.length := by omega
    have hd : l.drop i = l[i] :: l.drop (i + 1) := List.drop_eq_getElem_cons hlt
    have hd' : l'.drop i = l'[i] :: l'.drop (i + 1) := List.drop_eq_getElem_cons hlt'
    have hwr := Lib.hid (show wrap64 ((i : Int) + 1) = ((i + 1 : Nat) : Int) from by unfold wrap64; omega)
    rw [PBillR.api_Part.l0, if_pos (by omega), if_pos (by omega), if_pos (by omega), if_pos (by omega), rd_get hlt, rd_get hlt', neP, hwr.out, hd, hd']
    by_cases h : l[i] = l'[i]
    · rw [dec_cons, decide_eq_true h, if_neg (by simp), ih (i + 1) k (by omega) (by omega), Bool.true_and]
    · rw [dec_cons, decide_eq_false h, if_pos (by simp), Bool.false_and]
theorem eq_f (l l' : List S60) (hm : l.length ≤ 1000) {k : Nat} (hk : l.length + 1 ≤ k) : PBillR.api_Part.f k l l' = some (decide (l = l')) := by
  unfold PBillR.api_Part.f
  by_cases h : (l.length : Int) = (l'.length : Int)
  · rw [if_pos h]
    have := eq_l0 l l' (by omega) hm l.length 0 k (by omega) (by omega)
    exact this
  · rw [if_neg h, decide_eq_false (fun e => h (by rw [e]))]
theorem same_f (F T S C : Int) (l : List S60) (F' T' S' C' : Int) (l' : List S60) (hm : l.length ≤ 1000) {k : Nat} (hk : l.length + 1 ≤ k) : PBillR.bill_Same.f k F T S C l F' T' S' C' l' = some (sameB F T S C l F' T' S' C' l') := by
  unfold PBillR.bill_Same.f sameB
  by_cases h1 : F = F'
  · by_cases h2 : T = T'
    · by_cases h3 : S = S'
      · by_cases h4 : C = C'
        · rw [if_pos h1, if_pos h2, if_pos h3, if_pos h4, eq_f l l' hm hk, Option.bind_some]; simp [h1, h2, h3, h4]
        · rw [if_pos h1, if_pos h2, if_pos h3, if_neg h4]; simp [h4]
      · rw [if_pos h1, if_pos h2, if_neg h3]; simp [h3]
    · rw [if_pos h1, if_neg h2]; simp [h2]
  · rw [if_neg h1]; simp [h1]
theorem rsame_l0 (F T S C F' T' S' C' : Int) (l l' : List S60) (hl : l.length = l'.length) (hm : l.length ≤ 1000) : ∀ (d i k : Nat), i + d = l.length → d + 1 ≤ k → PBillR.presidioref6_SameBill.l0 k i F T S C l F' T' S' C' l' = some (decide (l.drop i = l'.drop i)) := by
  intro d
  induction d with
  | zero =>
    intro i k hi hk
    obtain ⟨k, rfl⟩ : ∃ m, k = m + 1 := ⟨k - 1, by omega⟩
    rw [PBillR.presidioref6_SameBill.l0, if_neg (by omega), List.drop_of_length_le (by omega), List.drop_of_length_le (by omega)]
    simp
  | succ d ih =>
    intro i k hi hk
    obtain ⟨k, rfl⟩ : ∃ m, k = m + 1 := ⟨k - 1, by omega⟩
    have hlt : i < l.length := by omega
    have hlt' : i < l'.length := by omega
    have hd : l.drop i = l[i] :: l.drop (i + 1) := List.drop_eq_getElem_cons hlt
    have hd' : l'.drop i = l'[i] :: l'.drop (i + 1) := List.drop_eq_getElem_cons hlt'
    have hwr := Lib.hid (show wrap64 ((i : Int) + 1) = ((i + 1 : Nat) : Int) from by unfold wrap64; omega)
    rw [PBillR.presidioref6_SameBill.l0, if_pos (by omega), if_pos (by omega), if_pos (by omega), rd_get hlt, rd_get hlt', neP, hwr.out, hd, hd']
    by_cases h : l[i] = l'[i]
    · rw [dec_cons, decide_eq_true h, if_neg (by simp), ih (i + 1) k (by omega) (by omega), Bool.true_and]
    · rw [dec_cons, decide_eq_false h, if_pos (by simp), Bool.false_and]
theorem rsame_f (F T S C : Int) (l : List S60) (F' T' S' C' : Int) (l' : List S60) (hm : l.length ≤ 1000) {k : Nat} (hk : l.length + 2 ≤ k) : PBillR.presidioref6_SameBill.f k F T S C l F' T' S' C' l' = some (sameB F T S C l F' T' S' C' l') := by
  obtain ⟨k, rfl⟩ : ∃ m, k = m + 1 := ⟨k - 1, by omega⟩
  have hj : PBillR.presidioref6_SameBill.j0 (k + 1) true F T S C l F' T' S' C' l' = some false := by rw [PBillR.presidioref6_SameBill.j0, if_pos rfl]
  unfold PBillR.presidioref6_SameBill.f sameB
  by_cases h1 : F = F'
  · by_cases h2 : T = T'
    · by_cases h3 : S = S'
      · by_cases h4 : C = C'
        · rw [if_pos h1, if_pos h2, if_pos h3, if_pos h4, PBillR.presidioref6_SameBill.j0]
          by_cases h5 : (l.length : Int) = (l'.length : Int)
          · have := rsame_l0 F T S C F' T' S' C' l l' (by omega) hm l.length 0 k (by omega) (by omega)
            rw [if_neg (by simp [h5])]
            rw [show ((0 : Nat) : Int) = 0 from rfl] at this
            rw [this]
            simp [h1, h2, h3, h4]
          · rw [if_pos (by simpa using h5)]
            have : ¬ l = l' := fun e => h5 (by rw [e])
            simp [this]
        · rw [if_pos h1, if_pos h2, if_pos h3, if_neg h4, hj]; simp [h4]
      · rw [if_pos h1, if_pos h2, if_neg h3, hj]; simp [h3]
    · rw [if_pos h1, if_neg h2, hj]; simp [h2]
  · rw [if_neg h1, hj]; simp [h1]
end Go.Proofs.Ytmhglfidggjfdaa.Bill
