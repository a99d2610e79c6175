/- Bills that come back: what a row that reads as a bill is. -/
import Derived.Test.YtmhglfidggjfdaaBillH
namespace Go.Proofs.Ytmhglfidggjfdaa.Bill
open Go Go.RowKit Go.Proofs.YtmhglfidggjfdaaW.PrintWords
open Go.Proofs.Ytmhglfidggjfdaa.PBillBack (S60 z60 k60 rd_T60 at_T60)
set_option linter.unusedVariables false
set_option linter.unusedSimpArgs false
theorem rd_byte {r : List Int} (h : BytesIn r) (i : Int) : 0 ≤ rd r i ∧ rd r i ≤ 255 := by
  unfold rd
  rw [List.getD_eq_getElem?_getD]
  cases he : r[i.toNat]? with
  | none => simp
  | some v => exact h v (List.mem_of_getElem? he)
theorem wf_parts : ∀ (m : Nat) (r : List Int), BytesIn r → WfL (partsO m r)
  | 0, _, _ => fun p hp => by cases hp
  | m + 1, r, h => by
    show WfL (if 8 ≤ r.length then partO r :: partsO m (r.drop 8) else [])
    split
    · intro p hp
      rcases List.mem_cons.1 hp with rfl | hp
      · show 0 ≤ idO r ∧ idO r ≤ 4294967295
        rw [idO_eq h]
        have a1 := rd_byte h 1
        have a2 := rd_byte h 2
        have a3 := rd_byte h 3
        have a4 := rd_byte h 4
        omega
      · exact wf_parts m _ (fun x hx => h x (List.mem_of_mem_drop hx)) p hp
    · intro p hp; cases hp
theorem take_or2 {c : List Int} (hb : BytesIn c) : takeB c = (0, 0, 0, 0, [], -2) ∨ ∃ F T S C l, takeB c = (F, T, S, C, l, 0) ∧ putB F T S C l = c ∧ WfL l ∧ l.length ≤ c.length := by
  by_cases h : 7 ≤ c.length ∧ putB (rd c 2) (rd c 3) (rd c 4) (rd c 5) (billL c) = c
  · refine Or.inr ⟨_, _, _, _, _, by unfold takeB; rw [if_pos h], h.2, wf_parts _ _ (fun x hx => hb x (List.mem_of_mem_drop hx)), ?_⟩
    have := good_len h.1 h.2
    omega
  · exact Or.inl (by unfold takeB; rw [if_neg h])
theorem same_dec {b c : List Int} {F T S C F' T' S' C' : Int} {l l' : List S60} (e : takeB b = (F, T, S, C, l, 0)) (p : putB F T S C l = b) (e' : takeB c = (F', T', S', C', l', 0)) (p' : putB F' T' S' C' l' = c) : sameB F' T' S' C' l' F T S C l = decide (c = b) := by
  unfold sameB
  by_cases h : c = b
  · subst h
    rw [e] at e'
    simp only [Prod.mk.injEq] at e'
    obtain ⟨rfl, rfl, rfl, rfl, rfl, _⟩ := e'
    simp
  · rw [decide_eq_false h, decide_eq_false]
    rintro ⟨rfl, rfl, rfl, rfl, rfl⟩
    exact h (p'.symm.trans p)
theorem str_dec {a b : List Int} (ha : BytesIn a) (hb : BytesIn b) : (strOfNums a = strOfNums b) ↔ a = b := by
  refine ⟨fun h => ?_, fun h => by rw [h]⟩
  have h2 := congrArg ByteArray.data h
  have h3 : (strOfNums a).data.toList = (strOfNums b).data.toList := by rw [h2]
  rw [strOfNums_data, strOfNums_data] at h3
  exact map_u8 (l := []) ha hb h3
end Go.Proofs.Ytmhglfidggjfdaa.Bill
