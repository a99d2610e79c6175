/- The bills that are made out of numbers may be. -/
import Derived.Test.YtecliaogidemjaaPick
import Derived.Test.YtecliaogidemjaaBootR
namespace Go.Proofs.Ytecliaogidemjaa.Pick
open Go Go.Proofs.Ytecliaogidemjaa.PBootAll Go.Proofs.Ytecliaogidemjaa.Boot
set_option linter.unusedVariables false
set_option linter.unusedSimpArgs false

def ulst : List S56 → (Int → Bool) → (Int → Bool)
  | [], u => u
  | p :: t, u => ulst t (addU u p.f6 p.f7.toNat)
def dlst : List S56 → (Int → Bool) → (Int → Bool)
  | [], d => d
  | p :: t, d => dlst t (addD d p.f8)
theorem ulst_snoc : ∀ (l : List S56) (p : S56) (u : Int → Bool), ulst (l ++ [p]) u = addU (ulst l u) p.f6 p.f7.toNat
  | [], p, u => rfl
  | q :: t, p, u => ulst_snoc t p _
theorem dlst_snoc : ∀ (l : List S56) (p : S56) (d : Int → Bool), dlst (l ++ [p]) d = addD (dlst l d) p.f8
  | [], p, d => rfl
  | q :: t, p, d => dlst_snoc t p _
theorem okl_snoc (F T S : Int) : ∀ (l : List S56) (p : S56) (u d : Int → Bool), okl F T S (l ++ [p]) u d = (okl F T S l u d && okp F T S p.f0 p.f6 p.f7 p.f8 (ulst l u) (dlst l d))
  | [], p, u, d => by simp [okl, ulst, dlst]
  | q :: t, p, u, d => by
    show (okp F T S q.f0 q.f6 q.f7 q.f8 u d && okl F T S (t ++ [p]) _ _) = _
    rw [okl_snoc F T S t p, ← Bool.and_assoc]
    rfl
theorem bst_head (l : List Int) (n0 : Nat) (T : Int) : ∀ k, (bst l n0 T (k + 1)).1.head? = some (part0 l (n0 + 2) T (T + 60)).1
  | 0 => rfl
  | k + 1 => by
    show ((bst l n0 T (k + 1)).1 ++ [_]).head? = _
    rw [List.head?_append, bst_head l n0 T k]
    rfl
/-- What is taken behind k parts. -/
def Inv (l : List Int) (n0 : Nat) (T : Int) (k : Nat) : Prop :=
  okl (T + 140) T 60 (bst l n0 T k).1 (fun _ => false) (fun _ => false) = true ∧
  (∀ j, ulst (bst l n0 T k).1 (fun _ => false) j = true → (T ≤ j ∧ j < (bst l n0 T k).2.1) ∨ (T + 60 ≤ j ∧ j < (bst l n0 T k).2.2)) ∧
  (∀ j, dlst (bst l n0 T k).1 (fun _ => false) j = true → 1 ≤ j ∧ j < k)
theorem inv_step {T sec nrm s2 n2 : Int} {k : Nat} {ps : List S56} {p : S56} (hk : k ≤ 5) (h1 : T ≤ sec) (h2 : sec ≤ T + 60) (h3 : T + 60 ≤ nrm)
    (hok : okl (T + 140) T 60 ps (fun _ => false) (fun _ => false) = true) (hu : ∀ j, ulst ps (fun _ => false) j = true → (T ≤ j ∧ j < sec) ∨ (T + 60 ≤ j ∧ j < nrm)) (hd : ∀ j, dlst ps (fun _ => false) j = true → 1 ≤ j ∧ j < k)
    (hc : 1 ≤ p.f7 ∧ p.f7 ≤ 32) (hv : p.f8 = 0 ∨ (p.f8 = k ∧ 1 ≤ k ∧ k < 5))
    (hp : (p.f0 = true ∧ p.f6 = sec ∧ sec + p.f7 ≤ T + 60 ∧ s2 = sec + p.f7 ∧ n2 = nrm) ∨ (p.f0 = false ∧ p.f6 = nrm ∧ nrm + p.f7 ≤ T + 140 ∧ s2 = sec ∧ n2 = nrm + p.f7)) :
    okl (T + 140) T 60 (ps ++ [p]) (fun _ => false) (fun _ => false) = true ∧ (∀ j, ulst (ps ++ [p]) (fun _ => false) j = true → (T ≤ j ∧ j < s2) ∨ (T + 60 ≤ j ∧ j < n2)) ∧ (∀ j, dlst (ps ++ [p]) (fun _ => false) j = true → 1 ≤ j ∧ j < (k + 1 : Nat)) := by
  refine ⟨?_, fun j hj => ?_, fun j hj => ?_⟩
  · rw [okl_snoc, hok, Bool.true_and]
    have hdv : dlst ps (fun _ => false) p.f8 = false := by
      by_cases h : dlst ps (fun _ => false) p.f8 = true
      · have := hd _ h; omega
      · simpa using h
    have hfr : frB (ulst ps (fun _ => false)) p.f6 p.f7.toNat = true := frB_iff.2 fun i hi => by
      by_cases h : ulst ps (fun _ => false) (p.f6 + i) = true
      · have := hu _ h; rcases hp with hp | hp <;> omega
      · simpa using h
    unfold okp okh
    rw [hdv, hfr]
    rcases hp with ⟨e0, e1, e2, _⟩ | ⟨e0, e1, e2, _⟩
    · simp only [e0, if_true, Bool.and_eq_true, decide_eq_true_eq, Bool.not_false, Bool.and_true]
      omega
    · simp only [e0, Bool.false_eq_true, if_false, Bool.and_eq_true, decide_eq_true_eq, Bool.not_false, Bool.and_true]
      omega
  · rw [ulst_snoc] at hj
    unfold addU at hj
    simp only [Bool.or_eq_true, Bool.and_eq_true, decide_eq_true_eq] at hj
    rcases hj with hj | hj
    · have := hu _ hj
      rcases hp with hp | hp <;> omega
    · rcases hp with hp | hp <;> omega
  · rw [dlst_snoc] at hj
    unfold addD at hj
    split at hj
    · rename_i e
      simp only [decide_eq_true_eq] at hj
      omega
    · have := hd _ hj
      omega
theorem bst_inv (l : List Int) (n0 : Nat) (T : Int) : ∀ k, k ≤ 6 → Inv l n0 T k
  | 0, _ => ⟨rfl, fun j h => by simp [bst, ulst] at h, fun j h => by simp [bst, dlst] at h⟩
  | k + 1, hk => by
    obtain ⟨h1, h2, h3⟩ := bst_inv l n0 T k (by omega)
    obtain ⟨b1, b2, b3, b4⟩ := bst_in l n0 T k
    have hst : bst l n0 T (k + 1) = ((bst l n0 T k).1 ++ [(if k = 0 then part0 l (n0 + 2) (bst l n0 T k).2.1 (bst l n0 T k).2.2 else part1 l (n0 + 8 * k) k T (bst l n0 T k).2.1 (bst l n0 T k).2.2).1], (if k = 0 then part0 l (n0 + 2) (bst l n0 T k).2.1 (bst l n0 T k).2.2 else part1 l (n0 + 8 * k) k T (bst l n0 T k).2.1 (bst l n0 T k).2.2).2) := rfl
    unfold Inv
    rw [hst]
    have hcc := cnt5_in (pk l (n0 + 8 * k + 6) 5)
    have hm : 4 ≤ min12 (cnt5 (pk l (n0 + 8 * k + 6) 5)) ∧ min12 (cnt5 (pk l (n0 + 8 * k + 6) 5)) ≤ 12 := by unfold min12; split <;> omega
    by_cases h0 : k = 0
    · rw [if_pos h0] at b4
      rw [if_pos h0]
      exact inv_step (by omega) b1 b2 b3 h1 h2 h3 ⟨by show (1 : Int) ≤ 18; decide, by show (18 : Int) ≤ 32; decide⟩ (Or.inl rfl) (Or.inr ⟨rfl, rfl, by show (bst l n0 T k).2.2 + 18 ≤ _; omega, rfl, rfl⟩)
    · rw [if_neg h0] at b4
      rw [if_neg h0]
      have hd : dev1 l (n0 + 8 * k) k = 0 ∨ (dev1 l (n0 + 8 * k) k = k ∧ 1 ≤ k ∧ k < 5) := by
        unfold dev1
        split
        · rename_i h; exact Or.inr ⟨rfl, by omega, h.2⟩
        · exact Or.inl rfl
      unfold part1
      split
      · rename_i hs
        exact inv_step (by omega) b1 b2 b3 h1 h2 h3 (by show 1 ≤ cnt5 _ ∧ cnt5 _ ≤ 32; omega) hd (Or.inl ⟨rfl, rfl, hs.2, rfl, rfl⟩)
      · exact inv_step (by omega) b1 b2 b3 h1 h2 h3 (by show 1 ≤ min12 _ ∧ min12 _ ≤ 32; omega) hd (Or.inr ⟨rfl, rfl, by show (bst l n0 T k).2.2 + min12 _ ≤ _; omega, rfl, rfl⟩)
theorem bT_in (l : List Int) (n0 P : Nat) (hP : P ≤ 6) : 0 ≤ bT l n0 P ∧ bT l n0 P ≤ 42 := by
  unfold bT
  have b1 := pk_in l (n0 + 1) (m := 3) (by decide)
  obtain ⟨q, hq⟩ : ∃ q : Nat, pk l (n0 + 1) 3 = (q : Int) := ⟨(pk l (n0 + 1) 3).toNat, by omega⟩
  rw [hq] at b1 ⊢
  have := Nat.mul_le_mul hP (show 5 + q ≤ 7 by omega)
  constructor
  · exact Int.mul_nonneg (by omega) (by omega)
  · exact_mod_cast this
/-- A bill that is made may be. -/
theorem made_ok (l : List Int) (n0 P : Nat) (h0 : 1 ≤ P) (h1 : P ≤ 6) : chk (bT l n0 P + 140) (bT l n0 P) 60 (1 + pk l n0 3) (bst l n0 (bT l n0 P) P).1 = true := by
  obtain ⟨T, hT⟩ : ∃ T, bT l n0 P = T := ⟨_, rfl⟩
  have ht := bT_in l n0 P h1
  have b0 := pk_in l n0 (m := 3) (by decide)
  have b1 := pk_in l (n0 + 1) (m := 3) (by decide)
  have hdiv : T.tdiv P = 5 + pk l (n0 + 1) 3 := by
    rw [← hT]
    unfold bT
    exact Int.mul_tdiv_cancel_left _ (by omega)
  have hlen := bst_len l n0 T P
  have hinv := (bst_inv l n0 T P h1).1
  rw [hT] at ht ⊢
  unfold chk
  rw [hinv, Bool.and_true, Bool.and_eq_true]
  refine ⟨?_, ?_⟩
  · unfold hdr
    rw [hlen, hdiv]
    simp only [Bool.and_eq_true, decide_eq_true_eq]
    omega
  · obtain ⟨k, rfl⟩ : ∃ k, P = k + 1 := ⟨P - 1, by omega⟩
    have hh := bst_head l n0 T k
    cases hl : (bst l n0 T (k + 1)).1 with
    | nil => rw [hl] at hlen; simp at hlen
    | cons p t =>
      rw [hl] at hh
      injection hh with hh
      subst hh
      rfl
end Go.Proofs.Ytecliaogidemjaa.Pick
