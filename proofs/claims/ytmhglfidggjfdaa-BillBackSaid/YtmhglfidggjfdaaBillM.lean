/- Bills as bytes: which bytes bills are, by the reference and by the program. -/
import Derived.Test.YtmhglfidggjfdaaBillL
import Derived.Laws.BitsLemmas
namespace Go.Proofs.Ytmhglfidggjfdaa.Bill
open Go Go.RowKit Go.Proofs.YtmhglfidggjfdaaW.PrintWords
open Go.Proofs.Ytmhglfidggjfdaa.PBillBack (S60 z60 rd_T60)
set_option linter.unusedVariables false
set_option linter.unusedSimpArgs false

theorem bit_fin : ∀ m : Fin 256, decide (Go.bits .and .u8 (m.val : Int) 1 > 0) = bitO (m.val : Int) 0 ∧ decide (Go.bits .and .u8 (m.val : Int) 2 > 0) = bitO (m.val : Int) 1 ∧ decide (Go.bits .and .u8 (m.val : Int) 4 > 0) = bitO (m.val : Int) 2 ∧
    decide (Go.bits .and .u8 (m.val : Int) 8 > 0) = bitO (m.val : Int) 3 ∧ decide (Go.bits .and .u8 (m.val : Int) 16 > 0) = bitO (m.val : Int) 4 ∧ bB (bitO (m.val : Int) 0) (bitO (m.val : Int) 1) (bitO (m.val : Int) 2) (bitO (m.val : Int) 3) (bitO (m.val : Int) 4) 5 = (m.val : Int) % 32 := by decide +kernel
theorem bit_int {x : Int} (h : 0 ≤ x ∧ x ≤ 255) : decide (Go.bits .and .u8 x 1 > 0) = bitO x 0 ∧ decide (Go.bits .and .u8 x 2 > 0) = bitO x 1 ∧ decide (Go.bits .and .u8 x 4 > 0) = bitO x 2 ∧
    decide (Go.bits .and .u8 x 8 > 0) = bitO x 3 ∧ decide (Go.bits .and .u8 x 16 > 0) = bitO x 4 ∧ bB (bitO x 0) (bitO x 1) (bitO x 2) (bitO x 3) (bitO x 4) 5 = x % 32 := by
  have h1 := bit_fin ⟨x.toNat, by omega⟩
  have h2 : ((x.toNat : Nat) : Int) = x := by omega
  simp only [h2] at h1
  exact h1
theorem u32_all (n : Int) (h0 : 0 ≤ n) (h1 : n < 2 ^ 32) : IntKind.u32.wrap n = n := by rw [IntKind.wrap_u32]; omega
theorem idO_eq {r : List Int} (hb : ∀ x ∈ r, 0 ≤ x ∧ x ≤ 255) : idO r = rd r 1 * 16777216 + rd r 2 * 65536 + rd r 3 * 256 + rd r 4 := by
  have y1 := byte_rd hb 1
  have y2 := byte_rd hb 2
  have y3 := byte_rd hb 3
  have y4 := byte_rd hb 4
  unfold idO
  rw [bits_join .u32 32 (by decide) u32_all 24 (rd r 1 * 16777216) (rd r 2 * 65536) (by omega) (by omega) (by omega) (by omega) (by omega) (by omega)]
  rw [bits_join .u32 32 (by decide) u32_all 16 (rd r 1 * 16777216 + rd r 2 * 65536) (rd r 3 * 256) (by omega) (by omega) (by omega) (by omega) (by omega) (by omega)]
  rw [bits_join .u32 32 (by decide) u32_all 8 (rd r 1 * 16777216 + rd r 2 * 65536 + rd r 3 * 256) (rd r 4) (by omega) (by omega) (by omega) (by omega) (by omega) (by omega)]
theorem row_part {r : List Int} (hb : ∀ x ∈ r, 0 ≤ x ∧ x ≤ 255) : rowP (partO r) = [rd r 0 % 32, rd r 1, rd r 2, rd r 3, rd r 4, rd r 5, rd r 6, rd r 7] := by
  have y0 := byte_rd hb 0
  have y1 := byte_rd hb 1
  have y2 := byte_rd hb 2
  have y3 := byte_rd hb 3
  have y4 := byte_rd hb 4
  have h0 := (bit_int y0).2.2.2.2.2
  have hi := idO_eq hb
  unfold rowP
  have e0 : bK (partO r) 5 = rd r 0 % 32 := h0
  have e5 : (partO r).f5 = rd r 1 * 16777216 + rd r 2 * 65536 + rd r 3 * 256 + rd r 4 := hi
  rw [e0, e5]
  have q1 : (rd r 1 * 16777216 + rd r 2 * 65536 + rd r 3 * 256 + rd r 4) / 16777216 = rd r 1 := by omega
  have q2 : (rd r 1 * 16777216 + rd r 2 * 65536 + rd r 3 * 256 + rd r 4) / 65536 % 256 = rd r 2 := by omega
  have q3 : (rd r 1 * 16777216 + rd r 2 * 65536 + rd r 3 * 256 + rd r 4) / 256 % 256 = rd r 3 := by omega
  have q4 : (rd r 1 * 16777216 + rd r 2 * 65536 + rd r 3 * 256 + rd r 4) % 256 = rd r 4 := by omega
  rw [q1, q2, q3, q4]
  rfl
theorem take8 {r : List Int} (h : 8 ≤ r.length) : r = [rd r 0, rd r 1, rd r 2, rd r 3, rd r 4, rd r 5, rd r 6, rd r 7] ++ r.drop 8 := by
  obtain ⟨a0, a1, a2, a3, a4, a5, a6, a7, t, rfl⟩ : ∃ a0 a1 a2 a3 a4 a5 a6 a7 t, r = a0 :: a1 :: a2 :: a3 :: a4 :: a5 :: a6 :: a7 :: t := by
    rcases r with _ | ⟨a0, _ | ⟨a1, _ | ⟨a2, _ | ⟨a3, _ | ⟨a4, _ | ⟨a5, _ | ⟨a6, _ | ⟨a7, t⟩⟩⟩⟩⟩⟩⟩⟩
    all_goals first | exact ⟨_, _, _, _, _, _, _, _, _, rfl⟩ | (simp at h; done) | (simp at h; omega)
  rfl
theorem fit_part {r : List Int} (hb : ∀ x ∈ r, 0 ≤ x ∧ x ≤ 255) : fitP (partO r) = true := by
  unfold fitP
  have y5 := byte_rd hb 5
  have y6 := byte_rd hb 6
  have y7 := byte_rd hb 7
  show (byB (rd r 5) && byB (rd r 6) && byB (rd r 7)) = true
  rw [byB_of y5, byB_of y6, byB_of y7]; rfl
def headOk : Nat → List Int → Bool
  | 0, _ => true
  | d + 1, r => decide (rd r 0 ≤ 31) && headOk d (r.drop 8)
theorem drop_bytes {r : List Int} (hb : ∀ x ∈ r, 0 ≤ x ∧ x ≤ 255) (k : Nat) : ∀ x ∈ r.drop k, 0 ≤ x ∧ x ≤ 255 := fun x hx => hb x (List.mem_of_mem_drop hx)
theorem parts_good : ∀ (m : Nat) (r : List Int), (∀ x ∈ r, 0 ≤ x ∧ x ≤ 255) → r.length = 8 * m → headOk m r = true → (partsO m r).flatMap rowP = r ∧ (partsO m r).length = m ∧ (partsO m r).all fitP = true
  | 0, r, hb, hl, hh => by
    have : r = [] := List.eq_nil_of_length_eq_zero (by omega)
    subst this
    exact ⟨rfl, rfl, rfl⟩
  | m + 1, r, hb, hl, hh => by
    simp only [headOk, Bool.and_eq_true, decide_eq_true_eq] at hh
    obtain ⟨h1, h2, h3⟩ := parts_good m (r.drop 8) (drop_bytes hb 8) (by rw [List.length_drop]; omega) hh.2
    rw [parts_more (by omega) (by omega), Nat.add_sub_cancel]
    refine ⟨?_, by rw [List.length_cons, h2], by rw [List.all_cons, fit_part hb, h3]; rfl⟩
    rw [List.flatMap_cons, h1, row_part hb]
    have y0 := byte_rd hb 0
    rw [show rd r 0 % 32 = rd r 0 by omega]
    exact (take8 (by omega)).symm
theorem parts_bad : ∀ (m : Nat) (r : List Int), (∀ x ∈ r, 0 ≤ x ∧ x ≤ 255) → (partsO m r).length = m → (partsO m r).flatMap rowP = r → headOk m r = true
  | 0, r, hb, hl, hf => rfl
  | m + 1, r, hb, hl, hf => by
    have h8 : 8 ≤ r.length := by
      rcases Nat.lt_or_ge r.length 8 with h | h
      · rw [parts_end (Or.inr h)] at hl; simp at hl
      · exact h
    rw [parts_more (by omega) h8, Nat.add_sub_cancel] at hl hf
    rw [List.flatMap_cons, row_part hb] at hf
    have e := hf.trans (take8 h8)
    simp only [List.cons_append, List.nil_append, List.cons.injEq, true_and] at e
    have y0 := byte_rd hb 0
    simp only [headOk, Bool.and_eq_true, decide_eq_true_eq]
    exact ⟨by omega, parts_bad m (r.drop 8) (drop_bytes hb 8) (by simpa using hl) e.2⟩
def refB (b : List Int) : Int × Int × Int × Int × List S60 × Int :=
  if rd b 0 = 80 ∧ rd b 1 = 77 ∧ b.length = 7 + 8 * (rd b 6).toNat ∧ headOk (rd b 6).toNat (b.drop 7) = true then (rd b 2, rd b 3, rd b 4, rd b 5, billL b, 0) else (0, 0, 0, 0, [], -2)
theorem take7 {b : List Int} (h : 7 ≤ b.length) : b = [rd b 0, rd b 1, rd b 2, rd b 3, rd b 4, rd b 5, rd b 6] ++ b.drop 7 := by
  obtain ⟨a0, a1, a2, a3, a4, a5, a6, t, rfl⟩ : ∃ a0 a1 a2 a3 a4 a5 a6 t, b = a0 :: a1 :: a2 :: a3 :: a4 :: a5 :: a6 :: t := by
    rcases b with _ | ⟨a0, _ | ⟨a1, _ | ⟨a2, _ | ⟨a3, _ | ⟨a4, _ | ⟨a5, _ | ⟨a6, t⟩⟩⟩⟩⟩⟩⟩
    all_goals first | exact ⟨_, _, _, _, _, _, _, _, rfl⟩ | (simp at h; done) | (simp at h; omega)
  rfl
/-- The program's answer is the reference's. -/
theorem take_ref {b : List Int} (hb : ∀ x ∈ b, 0 ≤ x ∧ x ≤ 255) : takeB b = refB b := by
  unfold takeB refB
  have y2 := byte_rd hb 2
  have y3 := byte_rd hb 3
  have y4 := byte_rd hb 4
  have y5 := byte_rd hb 5
  have y6 := byte_rd hb 6
  by_cases h : rd b 0 = 80 ∧ rd b 1 = 77 ∧ b.length = 7 + 8 * (rd b 6).toNat ∧ headOk (rd b 6).toNat (b.drop 7) = true
  · obtain ⟨h0, h1, h2, h3⟩ := h
    obtain ⟨g1, g2, g3⟩ := parts_good (rd b 6).toNat (b.drop 7) (drop_bytes hb 7) (by rw [List.length_drop]; omega) h3
    have hbl : billL b = partsO (rd b 6).toNat (b.drop 7) := rfl
    have hput : putB (rd b 2) (rd b 3) (rd b 4) (rd b 5) (billL b) = b := by
      unfold putB
      rw [hbl, g1, g2, g3, Bool.and_true]
      have hh : hdB (rd b 2) (rd b 3) (rd b 4) (rd b 5) ((rd b 6).toNat : Int) = true := by
        unfold hdB
        rw [byB_of y2, byB_of y3, byB_of y4, byB_of y5, byB_of (by omega)]; rfl
      rw [if_pos hh]
      have ht := take7 (b := b) (by omega)
      rw [h0, h1] at ht
      unfold headL
      rw [show (((rd b 6).toNat : Nat) : Int) = rd b 6 by omega]
      exact ht.symm
    rw [if_pos (show 7 ≤ b.length ∧ putB (rd b 2) (rd b 3) (rd b 4) (rd b 5) (billL b) = b from ⟨by omega, hput⟩), if_pos (show rd b 0 = 80 ∧ rd b 1 = 77 ∧ b.length = 7 + 8 * (rd b 6).toNat ∧ headOk (rd b 6).toNat (b.drop 7) = true from ⟨h0, h1, h2, h3⟩)]
  · have hn : ¬ (7 ≤ b.length ∧ putB (rd b 2) (rd b 3) (rd b 4) (rd b 5) (billL b) = b) := by
     rintro ⟨h7, hput⟩
     apply h
     unfold putB at hput
     split at hput
     · rename_i hc
       simp only [Bool.and_eq_true] at hc
       have e := hput.trans (take7 h7)
       simp only [headL, List.cons_append, List.nil_append, List.cons.injEq, true_and] at e
       obtain ⟨e0, e1, e6, er⟩ := e
       have hbl : billL b = partsO (rd b 6).toNat (b.drop 7) := rfl
       have hm : (billL b).length = (rd b 6).toNat := by omega
       rw [hbl] at er hm
       refine ⟨e0.symm, e1.symm, ?_, parts_bad _ _ (drop_bytes hb 7) hm er⟩
       have hl := congrArg List.length er
       rw [rows_len, hm, List.length_drop] at hl
       omega
     · rw [← hput] at h7; simp at h7
    rw [if_neg hn, if_neg h]
theorem ref_l0 (F T S C : Int) (b : List Int) (hb : ∀ x ∈ b, 0 ≤ x ∧ x ≤ 255) (m : Nat) (hm : m ≤ 255) (hl : b.length = 7 + 8 * m) : ∀ (d j k : Nat) (acc : List S60), j + d = m → d + 1 ≤ k → acc.length = j →
    PBillR.presidioref6_TakeBill.l0 k b ((7 + 8 * j : Nat) : Int) F T S C acc = some (if headOk d (b.drop (7 + 8 * j)) = true then (F, T, S, C, acc ++ partsO d (b.drop (7 + 8 * j)), 0) else (0, 0, 0, 0, [], -2)) := by
  intro d
  induction d with
  | zero =>
    intro j k acc hj hk ha
    obtain ⟨k, rfl⟩ : ∃ n, k = n + 1 := ⟨k - 1, by omega⟩
    rw [PBillR.presidioref6_TakeBill.l0, if_neg (by omega)]
    simp [headOk, partsO]
  | succ d ih =>
    intro j k acc hj hk ha
    obtain ⟨k, rfl⟩ : ∃ n, k = n + 1 := ⟨k - 1, by omega⟩
    have hw : ∀ t : Nat, t ≤ 8 → wrap64 (((7 + 8 * j : Nat) : Int) + (t : Int)) = ((7 + 8 * j + t : Nat) : Int) := fun t ht => by unfold wrap64; omega
    have w1 := Lib.hid (show wrap64 (((7 + 8 * j : Nat) : Int) + 1) = ((7 + 8 * j + 1 : Nat) : Int) from hw 1 (by decide))
    have w2 := Lib.hid (show wrap64 (((7 + 8 * j : Nat) : Int) + 2) = ((7 + 8 * j + 2 : Nat) : Int) from hw 2 (by decide))
    have w3 := Lib.hid (show wrap64 (((7 + 8 * j : Nat) : Int) + 3) = ((7 + 8 * j + 3 : Nat) : Int) from hw 3 (by decide))
    have w4 := Lib.hid (show wrap64 (((7 + 8 * j : Nat) : Int) + 4) = ((7 + 8 * j + 4 : Nat) : Int) from hw 4 (by decide))
    have w5 := Lib.hid (show wrap64 (((7 + 8 * j : Nat) : Int) + 5) = ((7 + 8 * j + 5 : Nat) : Int) from hw 5 (by decide))
    have w6 := Lib.hid (show wrap64 (((7 + 8 * j : Nat) : Int) + 6) = ((7 + 8 * j + 6 : Nat) : Int) from hw 6 (by decide))
    have w7 := Lib.hid (show wrap64 (((7 + 8 * j : Nat) : Int) + 7) = ((7 + 8 * j + 7 : Nat) : Int) from hw 7 (by decide))
    have w8 := Lib.hid (show wrap64 (((7 + 8 * j : Nat) : Int) + 8) = ((7 + 8 * (j + 1) : Nat) : Int) from hw 8 (by decide))
    clear hw
    obtain ⟨r, hr⟩ : ∃ r, b.drop (7 + 8 * j) = r := ⟨_, rfl⟩
    have hbr : ∀ x ∈ r, 0 ≤ x ∧ x ≤ 255 := hr ▸ drop_bytes hb _
    have hrl : r.length = 8 * (d + 1) := by rw [← hr, List.length_drop]; omega
    rw [hr]
    have r0 : rd b ((7 + 8 * j : Nat) : Int) = rd r 0 := by have := rd_drop (b := b) (7 + 8 * j) 0; rw [hr] at this; exact this.symm
    have r1 : rd b ((7 + 8 * j + 1 : Nat) : Int) = rd r 1 := by have := rd_drop (b := b) (7 + 8 * j) 1; rw [hr] at this; exact this.symm
    have r2 : rd b ((7 + 8 * j + 2 : Nat) : Int) = rd r 2 := by have := rd_drop (b := b) (7 + 8 * j) 2; rw [hr] at this; exact this.symm
    have r3 : rd b ((7 + 8 * j + 3 : Nat) : Int) = rd r 3 := by have := rd_drop (b := b) (7 + 8 * j) 3; rw [hr] at this; exact this.symm
    have r4 : rd b ((7 + 8 * j + 4 : Nat) : Int) = rd r 4 := by have := rd_drop (b := b) (7 + 8 * j) 4; rw [hr] at this; exact this.symm
    have r5 : rd b ((7 + 8 * j + 5 : Nat) : Int) = rd r 5 := by have := rd_drop (b := b) (7 + 8 * j) 5; rw [hr] at this; exact this.symm
    have r6 : rd b ((7 + 8 * j + 6 : Nat) : Int) = rd r 6 := by have := rd_drop (b := b) (7 + 8 * j) 6; rw [hr] at this; exact this.symm
    have r7 : rd b ((7 + 8 * j + 7 : Nat) : Int) = rd r 7 := by have := rd_drop (b := b) (7 + 8 * j) 7; rw [hr] at this; exact this.symm
    have y0 := byte_rd hbr 0
    have y1 := byte_rd hbr 1
    have y2 := byte_rd hbr 2
    have y3 := byte_rd hbr 3
    have y4 := byte_rd hbr 4
    have y5 := byte_rd hbr 5
    have y6 := byte_rd hbr 6
    have y7 := byte_rd hbr 7
    rw [PBillR.presidioref6_TakeBill.l0, if_pos (by omega), if_pos (by omega), r0]
    by_cases h31 : rd r 0 ≤ 31
    · rw [if_neg (by omega), w1.out, w2.out, w3.out, w4.out, w5.out, w6.out, w7.out, w8.out, r1, r2, r3, r4, r5, r6, r7]
      rw [if_pos (by omega), if_pos (by omega), if_pos (by omega), if_pos (by omega), if_pos (by omega), if_pos (by omega), if_pos (by omega), if_pos (by omega), if_pos (by omega), if_pos (by omega), if_pos (by omega), if_pos (by omega), if_pos (by omega), if_pos (by omega), if_pos (by omega)]
      obtain ⟨t0, t1, t2, t3, t4, _⟩ := bit_int y0
      rw [t0, t1, t2, t3, t4]
      have m1 : (rd r 1 % 4294967296 * 16777216) % 4294967296 = rd r 1 * 16777216 := by omega
      have m2 : (rd r 2 % 4294967296 * 65536) % 4294967296 = rd r 2 * 65536 := by omega
      have m3 : (rd r 3 % 4294967296 * 256) % 4294967296 = rd r 3 * 256 := by omega
      have m4 : rd r 4 % 4294967296 = rd r 4 := by omega
      have v5 : wrap64 (rd r 5) = rd r 5 := by unfold wrap64; omega
      have v6 : wrap64 (rd r 6) = rd r 6 := by unfold wrap64; omega
      have v7 : wrap64 (rd r 7) = rd r 7 := by unfold wrap64; omega
      rw [m1, m2, m3, m4, v5, v6, v7]
      clear v5 v6 v7
      rw [ih (j + 1) k _ (by omega) (by omega) (by rw [List.length_append, ha]; rfl)]
      have hd8 : b.drop (7 + 8 * (j + 1)) = r.drop 8 := by rw [show 7 + 8 * (j + 1) = 7 + 8 * j + 8 by omega, ← List.drop_drop, hr]
      rw [hd8, parts_more (m := d + 1) (r := r) (by omega) (by omega), Nat.add_sub_cancel, List.append_assoc]
      have hh : headOk (d + 1) r = headOk d (r.drop 8) := by
        simp only [headOk]; rw [decide_eq_true h31, Bool.true_and]
      rw [hh]
      rfl
    · rw [if_pos (by omega)]
      have hh : headOk (d + 1) r = false := by
        simp only [headOk]; rw [decide_eq_false h31, Bool.false_and]
      rw [hh]
      simp
theorem take_f {b : List Int} (hb : ∀ x ∈ b, 0 ≤ x ∧ x ≤ 255) {k : Nat} (hk : 260 ≤ k) : PBillR.presidioref6_TakeBill.f k b = some (takeB b) := by
  rw [take_ref hb]
  obtain ⟨k, rfl⟩ : ∃ n, k = n + 1 := ⟨k - 1, by omega⟩
  have y6 := byte_rd hb 6
  have y2 := byte_rd hb 2
  have y3 := byte_rd hb 3
  have y4 := byte_rd hb 4
  have y5 := byte_rd hb 5
  have hj : PBillR.presidioref6_TakeBill.j0 (k + 1) b true = some (0, 0, 0, 0, [], -2) := by rw [PBillR.presidioref6_TakeBill.j0, if_pos rfl]
  unfold PBillR.presidioref6_TakeBill.f
  by_cases h7 : (b.length : Int) < 7
  · rw [if_pos h7, hj]
    unfold refB
    rw [if_neg (by omega)]
  · rw [if_neg h7, if_pos (by omega)]
    unfold refB
    by_cases h0 : rd b 0 = 80
    · rw [if_pos h0, if_pos (by omega)]
      by_cases h1 : rd b 1 = 77
      · rw [if_pos h1, if_pos (by omega)]
        have v6 : wrap64 (7 + wrap64 (8 * wrap64 (rd b 6))) = 7 + 8 * rd b 6 := by unfold wrap64; omega
        rw [v6, PBillR.presidioref6_TakeBill.j0]
        clear v6
        by_cases hl : (b.length : Int) = 7 + 8 * rd b 6
        · rw [if_neg (by simp [hl]), if_pos (by omega), if_pos (by omega), if_pos (by omega), if_pos (by omega)]
          have v2 : wrap64 (rd b 2) = rd b 2 := by unfold wrap64; omega
          have v3 : wrap64 (rd b 3) = rd b 3 := by unfold wrap64; omega
          have v4 : wrap64 (rd b 4) = rd b 4 := by unfold wrap64; omega
          have v5 : wrap64 (rd b 5) = rd b 5 := by unfold wrap64; omega
          rw [v2, v3, v4, v5]
          clear v2 v3 v4 v5
          have := ref_l0 (rd b 2) (rd b 3) (rd b 4) (rd b 5) b hb (rd b 6).toNat (by omega) (by omega) (rd b 6).toNat 0 k [] (by omega) (by omega) rfl
          rw [show ((7 + 8 * 0 : Nat) : Int) = 7 from rfl, show 7 + 8 * 0 = 7 from rfl, List.nil_append] at this
          rw [this]
          congr 1
          by_cases hh : headOk (rd b 6).toNat (b.drop 7) = true
          · rw [if_pos hh, if_pos ⟨h0, h1, by omega, hh⟩]; rfl
          · rw [if_neg hh, if_neg (fun h => hh h.2.2.2)]
        · rw [if_pos (by simpa using hl), if_neg (by omega)]
      · rw [if_neg h1, hj, if_neg (fun h => h1 h.2.1)]
    · rw [if_neg h0, hj, if_neg (fun h => h0 h.1)]
end Go.Proofs.Ytmhglfidggjfdaa.Bill
