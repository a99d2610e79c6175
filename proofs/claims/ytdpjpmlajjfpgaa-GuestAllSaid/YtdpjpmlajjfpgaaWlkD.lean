/- Words that are set and read again; that a block says sixteen pages in a row (plain). -/
import Derived.Test.YtdpjpmlajjfpgaaWlkC
namespace Go.Proofs.Ytdpjpmlajjfpgaa.Ram
open Go.RowKit Go.Proofs.Ytdpjpmlajjfpgaa.Mem Go.Proofs.Ytdpjpmlajjfpgaa.Kept Go.Proofs.Ytdpjpmlajjfpgaa.Slo Go.Proofs.Ytdpjpmlajjfpgaa.Bits
set_option linter.unusedVariables false
set_option linter.unusedSimpArgs false

theorem mayW_mk {n : Nat} {s f k : Int} (h0 : 0 ≤ f) (h1 : f < n) (h2 : 0 ≤ k) (h3 : k < 16) : mayW n s true f k = true := by
  unfold mayW
  simp only [Bool.and_eq_true, Bool.or_eq_true, decide_eq_true_eq]
  exact ⟨⟨⟨⟨h0, h1⟩, Or.inl trivial⟩, h2⟩, h3⟩
theorem wd_sw {n : Nat} {s : Int} {F : List Int} {f k v f' k' : Int} (hF : F.length = n * 128) (h : mayW n s true f k = true) (h' : mayW n s true f' k' = true) (hv : 0 ≤ v ∧ v ≤ 18446744073709551615) :
    wdV n s (swF n s F true f k v) true f' k' = if f' = f ∧ k' = k then v else wdV n s F true f' k' := by
  obtain ⟨a1, a2, _, a4, a5⟩ := mayW_yes h
  obtain ⟨b1, b2, _, b4, b5⟩ := mayW_yes h'
  obtain ⟨f, rfl⟩ : ∃ j : Nat, f = (j : Int) := ⟨f.toNat, by omega⟩
  obtain ⟨k, rfl⟩ : ∃ j : Nat, k = (j : Int) := ⟨k.toNat, by omega⟩
  obtain ⟨f', rfl⟩ : ∃ j : Nat, f' = (j : Int) := ⟨f'.toNat, by omega⟩
  obtain ⟨k', rfl⟩ : ∃ j : Nat, k' = (j : Int) := ⟨k'.toNat, by omega⟩
  unfold wdV swF
  rw [if_pos h, if_pos h']
  simp only [Int.toNat_natCast]
  have hl : (low8 v).length = 8 := rfl
  by_cases he : (f' : Int) = f ∧ (k' : Int) = k
  · rw [if_pos he]
    obtain ⟨e1, e2⟩ := he
    have e1 : f' = f := by omega
    have e2 : k' = k := by omega
    subst e1 e2
    rw [part_same hF (by omega) (by omega) hl, num_low v hv.1 hv.2]
  · rw [if_neg he, part_other hF (by omega) (by rw [hl]; omega) (by omega) (by omega) (by rw [hl]; omega), if_pos h']
theorem wd_zero {n : Nat} {s : Int} {f k : Int} (h : mayW n s true f k = true) : wdV n s (List.replicate (n * 128) 0) true f k = 0 := by
  obtain ⟨b1, b2, _, b4, b5⟩ := mayW_yes h
  unfold wdV
  rw [if_pos h, part_zero (by omega) (by omega)]
  rfl
theorem swF_len {n : Nat} {s : Int} {F : List Int} {f k v : Int} (hF : F.length = n * 128) : (swF n s F true f k v).length = n * 128 := by
  unfold swF
  by_cases h : mayW n s true f k = true
  · obtain ⟨b1, b2, _, b4, b5⟩ := mayW_yes h
    rw [if_pos h, splice_len (by rw [hF]; show _ + 8 ≤ _; omega), hF]
  · rw [if_neg h, hF]
theorem ent_sw {n : Nat} {s : Int} {F : List Int} {f k v t j : Int} (hF : F.length = n * 128) (h : mayW n s true f k = true) (hv : 0 ≤ v ∧ v ≤ 18446744073709551615) :
    ent n s (swF n s F true f k v) t j = if t = f ∧ j = k then tk v else ent n s F t j := by
  unfold ent
  by_cases h' : mayW n s true t j = true
  · rw [if_pos h', if_pos h', wd_sw hF h h' hv]
    split <;> rfl
  · rw [if_neg h', if_neg h', if_neg]
    rintro ⟨rfl, rfl⟩
    exact h' h
theorem ent_zero {n : Nat} {s : Int} {t j : Int} (h : mayW n s true t j = true) : ent n s (List.replicate (n * 128) 0) t j = (0, 0, 0, 0) := by
  unfold ent
  rw [if_pos h, wd_zero h]
  rfl
/-- Memory with a table and a block. -/
def blkF (A B f q : Int) : List Int := swF 60 60 (swF 60 60 (List.replicate (60 * 128) 0) true 1 A 8193) true 2 B (3 + 4 * q + 4096 * f)
theorem blk_wk {G f q p : Int} (hG : 0 ≤ G ∧ G ≤ 255) (hf : 0 ≤ f ∧ f < 50) (hq : 1 ≤ q ∧ q ≤ 7) :
    wk 60 60 (blkF (G / 16) (G % 16) f q) 1 p = if 0 ≤ p - 16 * G ∧ p - 16 * G < 16 ∧ f + (p - 16 * G) < 60 then (f + (p - 16 * G), q, 2, 0) else (0, 0, 0, -20) := by
  have z : (List.replicate (60 * 128) (0 : Int)).length = 60 * 128 := List.length_replicate
  have e1 : ∀ k, 0 ≤ k → k < 16 → ent 60 60 (blkF (G / 16) (G % 16) f q) 1 k = if k = G / 16 then (1, 2, 0, 0) else (0, 0, 0, 0) := by
    intro k h0 h1
    unfold blkF
    rw [ent_sw (swF_len z) (mayW_mk (by decide) (by decide) (by omega) (by omega)) (by omega), if_neg (fun h => absurd h.1 (by decide)), ent_sw z (mayW_mk (by decide) (by decide) (by omega) (by omega)) (by decide), ent_zero (mayW_mk (by decide) (by decide) h0 h1)]
    by_cases hk : k = G / 16
    · rw [if_pos ⟨rfl, hk⟩, if_pos hk]; rfl
    · rw [if_neg (fun h => hk h.2), if_neg hk]
  have e2 : ∀ k, 0 ≤ k → k < 16 → ent 60 60 (blkF (G / 16) (G % 16) f q) 2 k = if k = G % 16 then (3, f, q, 0) else (0, 0, 0, 0) := by
    intro k h0 h1
    unfold blkF
    rw [ent_sw (swF_len z) (mayW_mk (by decide) (by decide) (by omega) (by omega)) (by omega), ent_sw z (mayW_mk (by decide) (by decide) (by omega) (by omega)) (by decide), ent_zero (mayW_mk (by decide) (by decide) h0 h1)]
    by_cases hk : k = G % 16
    · rw [if_pos ⟨rfl, hk⟩, if_pos hk]
      refine tk_put (a := 3) (b := f) (c := q) ?_
      unfold mayB
      simp
      omega
    · rw [if_neg (fun h => hk h.2), if_neg (fun h => absurd h.1 (by decide)), if_neg hk]
  unfold wk
  by_cases hp : 0 ≤ p ∧ p < 4096
  · rw [if_pos hp, e1 _ (by omega) (by omega)]
    by_cases ha : p / 256 = G / 16
    · rw [if_pos ha]
      dsimp only
      rw [if_pos rfl, e2 _ (by omega) (by omega)]
      by_cases hb : p / 16 % 16 = G % 16
      · rw [if_pos hb]
        dsimp only
        rw [if_pos rfl]
        unfold lf
        have hm : p % 16 = p - 16 * G := by omega
        rw [hm]
        by_cases hl : f + (p - 16 * G) < ((60 : Nat) : Int)
        · rw [if_pos hl, if_pos (by omega)]
        · rw [if_neg hl, if_neg (by omega)]
      · rw [if_neg hb, if_neg (show ¬ (0 ≤ p - 16 * G ∧ p - 16 * G < 16 ∧ f + (p - 16 * G) < 60) by omega)]
        rfl
    · rw [if_neg ha, if_neg (show ¬ (0 ≤ p - 16 * G ∧ p - 16 * G < 16 ∧ f + (p - 16 * G) < 60) by omega)]
      rfl
  · rw [if_neg hp, if_neg (show ¬ (0 ≤ p - 16 * G ∧ p - 16 * G < 16 ∧ f + (p - 16 * G) < 60) by omega)]
end Go.Proofs.Ytdpjpmlajjfpgaa.Ram
