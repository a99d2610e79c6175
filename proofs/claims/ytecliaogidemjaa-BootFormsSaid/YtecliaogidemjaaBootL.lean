/- A bill's first leaves: what the printed functions come to. -/
import Derived.Test.YtecliaogidemjaaBootR
import Derived.Test.YtecliaogidemjaaPick
namespace Go.Proofs.Ytecliaogidemjaa.Boot
open Go.RowKit Go.Proofs.Ytecliaogidemjaa.PBootAll Go.Proofs.YtecliaogidemjaaW.PrintWords
set_option linter.unusedVariables false
set_option linter.unusedSimpArgs false

/-- n leaves from the i-th on. -/
def lvs (base : Int) : Nat → Nat → List S47
  | _, 0 => []
  | i, n + 1 => ⟨base + i, 7⟩ :: lvs base (i + 1) n
def lvP (l : List S56) (p : Int) : List S47 := if 0 ≤ p ∧ p < l.length then lvs (rd_T56 l p).f6 0 (rd_T56 l p).f7.toNat else []
theorem lvs_len (base : Int) : ∀ (n i : Nat), (lvs base i n).length = n
  | 0, _ => rfl
  | n + 1, i => by show (lvs base (i + 1) n).length + 1 = n + 1; rw [lvs_len base n]
theorem lvs_get (base : Int) : ∀ (n i j : Nat), j < n → (lvs base i n).getD j z47 = ⟨base + (i + j : Nat), 7⟩
  | 0, i, j, h => by omega
  | n + 1, i, 0, h => rfl
  | n + 1, i, j + 1, h => by
    show (lvs base (i + 1) n).getD j z47 = _
    rw [lvs_get base n (i + 1) j (by omega), show i + 1 + j = i + (j + 1) by omega]
theorem first_l0 (base : Int) (hb : -1000000 ≤ base ∧ base ≤ 1000000) (s0 s1 s2 s3 s4 : Bool) (f5 f7 f8 : Int) : ∀ (n k : Nat) (acc : List S47) (i : Nat), n < k → acc.length + n ≤ 2000 → i + n ≤ 1000 →
    boot_First.l0 k acc ((i + n : Nat) : Int) (i : Int) s0 s1 s2 s3 s4 f5 base f7 f8 = some (acc ++ lvs base i n)
  | 0, k, acc, i, hk, ha, hi => by
    obtain ⟨k, rfl⟩ : ∃ m, k = m + 1 := ⟨k - 1, by omega⟩
    simp only [boot_First.l0]
    rw [if_neg (by omega)]
    simp [lvs]
  | n + 1, k, acc, i, hk, ha, hi => by
    obtain ⟨k, rfl⟩ : ∃ m, k = m + 1 := ⟨k - 1, by omega⟩
    simp only [boot_First.l0]
    have e1 : wrap64 (base + (i : Int)) = base + i := by unfold wrap64; omega
    have e2 : wrap64 ((i : Int) + 1) = ((i + 1 : Nat) : Int) := by unfold wrap64; omega
    rw [if_pos (by omega), if_pos (by omega), e1, e2, show i + (n + 1) = (i + 1) + n by omega]
    rw [first_l0 base hb s0 s1 s2 s3 s4 f5 f7 f8 n k _ (i + 1) (by omega) (by rw [List.length_append, List.length_singleton]; omega) (by omega)]
    rw [List.append_assoc]
    rfl
theorem rfirst_l0 (F T S C : Int) (l : List S56) (p : Int) (hp0 : 0 ≤ p) (hp1 : p < l.length) (N : Nat) (base : Int) (h6 : (rd_T56 l p).f6 = base) (h7 : (rd_T56 l p).f7 = (N : Int)) (hb : -1000000 ≤ base ∧ base ≤ 1000000) (n : Nat) : ∀ (k : Nat) (acc : List S47) (i : Nat), n < k → acc.length + n ≤ 2000 → i + n ≤ 1000 → i + n = N →
    presidioref6_First.l0 k p acc (i : Int) F T S C l = some (acc ++ lvs base i n) := by
  induction n with
  | zero =>
    intro k acc i hk ha hi hn
    obtain ⟨k, rfl⟩ : ∃ m, k = m + 1 := ⟨k - 1, by omega⟩
    simp only [presidioref6_First.l0, h6, h7]
    rw [if_pos hp0, if_pos hp1, if_neg (by omega)]
    simp [lvs]
  | succ n ih =>
    intro k acc i hk ha hi hn
    obtain ⟨k, rfl⟩ : ∃ m, k = m + 1 := ⟨k - 1, by omega⟩
    simp only [presidioref6_First.l0, h6, h7]
    have e1 : wrap64 (base + (i : Int)) = base + i := by unfold wrap64; omega
    have e2 : wrap64 ((i : Int) + 1) = ((i + 1 : Nat) : Int) := by unfold wrap64; omega
    rw [e1, e2]
    clear e1 e2
    rw [if_pos hp0, if_pos hp1, if_pos (by omega), if_pos (by omega)]
    rw [ih k (acc ++ [(⟨base + (i : Int), 7⟩ : S47)]) (i + 1) (by omega) (by rw [List.length_append, List.length_singleton]; omega) (by omega) (by omega)]
    rw [List.append_assoc]
    rfl
def LvIn (l : List S56) (p : Int) : Prop := 0 ≤ p → p < l.length → 0 ≤ (rd_T56 l p).f7 ∧ (rd_T56 l p).f7 ≤ 1000 ∧ -1000000 ≤ (rd_T56 l p).f6 ∧ (rd_T56 l p).f6 ≤ 1000000
theorem first_f (F T S C : Int) (l : List S56) (p : Int) (h : LvIn l p) : boot_First.f 1002 F T S C l p = some (lvP l p) := by
  unfold boot_First.f lvP
  by_cases h0 : p < 0
  · rw [if_pos h0, if_neg (by omega)]; rfl
  · rw [if_neg h0]
    by_cases h1 : p < l.length
    · rw [if_pos ⟨by omega, h1⟩]
      obtain ⟨a0, a1, a2, a3⟩ := h (by omega) h1
      rw [show (1002 : Nat) = 1001 + 1 from rfl]
      simp only [boot_First.j0]
      rw [if_neg (by simp; omega), if_pos (by omega), if_pos h1]
      have e : mx (rd_T56 l p).f7 0 = ((0 + (rd_T56 l p).f7.toNat : Nat) : Int) := by unfold mx; split <;> omega
      rw [e]
      exact first_l0 _ ⟨a2, a3⟩ _ _ _ _ _ _ _ _ _ 1001 [] 0 (by omega) (by simp; omega) (by omega)
    · rw [if_neg (by omega)]
      rw [show (1002 : Nat) = 1001 + 1 from rfl]
      simp only [boot_First.j0]
      rw [if_pos (by simp; omega)]
theorem rfirst_f (F T S C : Int) (l : List S56) (p : Int) (h : LvIn l p) : presidioref6_First.f 1002 F T S C l p = some (lvP l p) := by
  unfold presidioref6_First.f lvP
  by_cases h0 : p < 0
  · rw [if_pos h0, if_neg (by omega)]; rfl
  · rw [if_neg h0]
    by_cases h1 : p < l.length
    · rw [if_pos ⟨by omega, h1⟩]
      obtain ⟨a0, a1, a2, a3⟩ := h (by omega) h1
      rw [show (1002 : Nat) = 1001 + 1 from rfl]
      simp only [presidioref6_First.j0]
      rw [if_neg (by simp; omega)]
      exact rfirst_l0 F T S C l p (by omega) h1 (rd_T56 l p).f7.toNat _ rfl (by omega) ⟨a2, a3⟩ _ 1001 [] 0 (by omega) (by simp; omega) (by omega) (by omega)
    · rw [if_neg (by omega)]
      rw [show (1002 : Nat) = 1001 + 1 from rfl]
      simp only [presidioref6_First.j0]
      rw [if_pos (by simp; omega)]
/-- A bill that may be has parts whose frames are few. -/
theorem okl_in {F T S : Int} (hF : F ≤ 240) (hT : 0 ≤ T) (hS : 0 ≤ S) (hTS : T + S ≤ F) : ∀ (l : List S56) (u d : Int → Bool), okl F T S l u d = true → ∀ p ∈ l, 1 ≤ p.f7 ∧ p.f7 ≤ 32 ∧ 0 ≤ p.f6 ∧ p.f6 ≤ 240
  | [], u, d, h, p, hp => by cases hp
  | q :: t, u, d, h, p, hp => by
    unfold okl at h
    rw [Bool.and_eq_true] at h
    rcases List.mem_cons.1 hp with rfl | hp
    · have h1 := h.1
      unfold okp okh at h1
      simp only [Bool.and_eq_true, decide_eq_true_eq] at h1
      obtain ⟨⟨⟨⟨⟨⟨⟨a, b⟩, c⟩, e⟩, _⟩, _⟩, _⟩, _⟩ := h1
      refine ⟨a, b, ?_, ?_⟩ <;> (cases hs : p.f0 <;> simp [hs] at c e <;> omega)
    · exact okl_in hF hT hS hTS t _ _ h.2 p hp
theorem rd_mem {l : List S56} {p : Int} (h0 : 0 ≤ p) (h1 : p < l.length) : rd_T56 l p ∈ l := by
  unfold rd_T56
  rw [List.getD_eq_getElem?_getD, List.getElem?_eq_getElem (show p.toNat < l.length by omega)]
  exact List.getElem_mem _
theorem chk_in {F T S C : Int} {l : List S56} (h : chk F T S C l = true) : (F ≤ 240 ∧ 0 ≤ T ∧ 0 ≤ S ∧ T + S ≤ F ∧ 1 ≤ C ∧ C ≤ 3 ∧ 1 ≤ l.length ∧ l.length ≤ 6 ∧ 5 ≤ T.tdiv l.length) ∧ ∀ p ∈ l, 1 ≤ p.f7 ∧ p.f7 ≤ 32 ∧ 0 ≤ p.f6 ∧ p.f6 ≤ 240 := by
  unfold chk at h
  rw [Bool.and_eq_true, Bool.and_eq_true] at h
  obtain ⟨⟨h1, h2⟩, h3⟩ := h
  simp only [hdr, Bool.and_eq_true, decide_eq_true_eq] at h1
  obtain ⟨⟨⟨⟨⟨⟨⟨⟨⟨a1, a2⟩, a3⟩, a4⟩, a5⟩, a6⟩, a7⟩, a8⟩, a9⟩, a10⟩ := h1
  exact ⟨⟨a1, a2, a3, by omega, a6, a7, by omega, by omega, a10⟩, okl_in a1 a2 a3 (by omega) l _ _ h3⟩
theorem chk_lv {F T S C : Int} {l : List S56} (h : chk F T S C l = true) (p : Int) : LvIn l p := fun h0 h1 => by
  have := (chk_in h).2 _ (rd_mem h0 h1)
  omega
end Go.Proofs.Ytecliaogidemjaa.Boot
