/- Who is there: what roll.List comes to, and a bill that is made. -/
import Derived.Test.YtecliaogidemjaaPRollQx1
namespace Go.Proofs.Ytecliaogidemjaa.RollC
open Go Go.RowKit Go.Proofs.Ytecliaogidemjaa.PRollQ Go.Proofs.YtecliaogidemjaaW.PrintWords Go.Proofs.Ytecliaogidemjaa.Boot Go.Proofs.Ytecliaogidemjaa.Pick
open Go.Proofs.Ytecliaogidemjaa.PBootAll (S56 z56 rd_T56)
set_option linter.unusedVariables false
set_option linter.unusedSimpArgs false

def bN (b0 b1 b2 b3 b4 : Bool) : Int := (if b0 then 1 else 0) + (if b1 then 2 else 0) + (if b2 then 4 else 0) + (if b3 then 8 else 0) + (if b4 then 16 else 0)
theorem bN_in (b0 b1 b2 b3 b4 : Bool) : 0 ≤ bN b0 b1 b2 b3 b4 ∧ bN b0 b1 b2 b3 b4 ≤ 31 := by cases b0 <;> cases b1 <;> cases b2 <;> cases b3 <;> cases b4 <;> decide
theorem bits_b : ∀ b0 b1 b2 b3 b4 : Bool, roll_bits.f 6 b0 b1 b2 b3 b4 0 0 0 0 = some (bN b0 b1 b2 b3 b4) := by decide +kernel
theorem bits_f (b0 b1 b2 b3 b4 : Bool) (z5 z6 z7 z8 : Int) : roll_bits.f 6 b0 b1 b2 b3 b4 z5 z6 z7 z8 = some (bN b0 b1 b2 b3 b4) := by
  have h := bits_b b0 b1 b2 b3 b4
  unfold roll_bits.f at h ⊢
  exact h
theorem bits_k {k : Nat} (h : 6 ≤ k) (b0 b1 b2 b3 b4 : Bool) (z5 z6 z7 z8 : Int) : roll_bits.f k b0 b1 b2 b3 b4 z5 z6 z7 z8 = some (bN b0 b1 b2 b3 b4) :=
  at_rounds (fun k => roll_bits.mono _ _ _ _ _ _ _ _ _ k) h (bits_f ..)
/-- Eight bytes of one part. -/
def rowOf (C : Int) (i : Nat) (p : S56) : List Int := [(i : Int), 0, if i = 0 then C else 1, 0, bN p.f0 p.f1 p.f2 p.f3 p.f4, 0, 0, 0]
def rows (C id : Int) : Nat → List S56 → List Int
  | _, [] => []
  | i, p :: t => (if id ≠ 0 ∧ p.f5 ≠ id then [] else rowOf C i p) ++ rows C id (i + 1) t
def cnt (id : Int) : List S56 → Int
  | [] => 0
  | p :: t => (if id ≠ 0 ∧ p.f5 ≠ id then 0 else 1) + cnt id t
theorem rd_nat {l : List S56} {k : Nat} (h : k < l.length) : rd_T56 l k = l[k] := by unfold rd_T56; simp [List.getD_eq_getElem?_getD, List.getElem?_eq_getElem h]

theorem list_l0 (F T S C : Int) (ps : List S56) (id : Int) (hC : 0 ≤ C ∧ C ≤ 255) (hl : ps.length ≤ 6) : ∀ (d i k : Nat) (acc : List Int) (n : Int), i + d = ps.length → 2 * d + 8 ≤ k → acc.length ≤ 8 * i → 0 ≤ n → n ≤ i →
    roll_List.l0 k id acc n ps ps.length i F T S C ps = some (acc ++ rows C id i (ps.drop i), n + cnt id (ps.drop i)) := by
  intro d
  induction d with
  | zero =>
    intro i k acc n hi hk ha hn hn2
    obtain ⟨k, rfl⟩ : ∃ m, k = m + 1 := ⟨k - 1, by omega⟩
    simp only [roll_List.l0]
    rw [if_neg (by omega), List.drop_of_length_le (by omega)]
    simp [rows, cnt]
  | succ d ih =>
    intro i k acc n hi hk ha hn hn2
    obtain ⟨k, rfl⟩ : ∃ m, k = m + 2 := ⟨k - 2, by omega⟩
    have hlt : i < ps.length := by omega
    have hd : ps.drop i = ps[i] :: ps.drop (i + 1) := List.drop_eq_getElem_cons hlt
    have hrd := rd_nat hlt
    obtain ⟨p, hp⟩ : ∃ p, ps[i] = p := ⟨_, rfl⟩
    rw [hp] at hd hrd
    have hw : wrap64 ((i : Int) + 1) = ((i + 1 : Nat) : Int) := by unfold wrap64; omega
    have hn1 : wrap64 (n + 1) = n + 1 := by unfold wrap64; omega
    have key : ∀ b : Bool, b = decide (id ≠ 0 ∧ p.f5 ≠ id) → roll_List.j1 (k + 1) id acc n i ps ps.length i b F T S C ps p.f0 p.f1 p.f2 p.f3 p.f4 p.f5 p.f6 p.f7 p.f8 = some (acc ++ rows C id i (ps.drop i), n + cnt id (ps.drop i)) := by
      intro b hb
      simp only [roll_List.j1]
      by_cases hs : id ≠ 0 ∧ p.f5 ≠ id
      · rw [if_pos (by rw [hb]; exact decide_eq_true hs), hw, ih (i + 1) k acc n (by omega) (by omega) (by omega) hn (by omega), hd]
        simp only [rows, cnt]
        rw [if_pos hs, if_pos hs]
        simp
      · rw [if_neg (by rw [hb, decide_eq_false hs]; simp)]
        have e1 : (i : Int) % 256 = i := by omega
        have e2 : C % 256 = C := by omega
        by_cases h0 : (i : Int) = 0
        · have h0' : i = 0 := by omega
          rw [if_pos h0, bits_k (by omega)]
          simp only [Option.bind_some]
          rw [if_pos (by simp; omega), hw, hn1, ih (i + 1) k _ _ (by omega) (by omega) (by simp; omega) (by omega) (by omega), hd]
          simp only [rows, cnt]
          rw [if_neg hs, if_neg hs, e1, e2]
          simp only [rowOf, if_pos h0', List.append_assoc, Int.add_assoc]
        · have h0' : ¬ i = 0 := by omega
          rw [if_neg h0, bits_k (by omega)]
          simp only [Option.bind_some]
          rw [if_pos (by simp; omega), hw, hn1, ih (i + 1) k _ _ (by omega) (by omega) (by simp; omega) (by omega) (by omega), hd]
          simp only [rows, cnt]
          rw [if_neg hs, if_neg hs, e1]
          simp only [rowOf, if_neg h0', List.append_assoc, Int.add_assoc]
    rw [show k + 2 = (k + 1) + 1 from rfl]
    simp only [roll_List.l0]
    rw [if_pos (by omega), if_pos (by omega), if_pos (by omega), hrd]
    by_cases h0 : id = 0
    · rw [if_pos h0]
      exact key false (by simp [h0])
    · rw [if_neg h0]
      exact key _ (by by_cases h1 : p.f5 = id <;> simp [h0, h1])

def lst (F T S C : Int) (ps : List S56) (id : Int) : List Int × Int := if chk F T S C ps = true then (rows C id 0 ps, cnt id ps) else ([], 0)
def WfP (ps : List S56) : Prop := ∀ p ∈ ps, (Lit.int .i64 p.f8).wf = true
theorem list_k {k : Nat} (hk : 24 ≤ k) {F T S C : Int} {ps : List S56} (hw : WfP ps) (id : Int) : roll_List.f k F T S C ps id = some (lst F T S C ps id) := by
  unfold roll_List.f boot_Check.f lst
  rw [if_pos (show ∀ p ∈ ps, (Lit.int .i64 p.f8).wf = true from hw)]
  simp only [Option.bind_some]
  unfold chkE
  by_cases h : chk F T S C ps = true
  · have hi := (chk_in h).1
    rw [if_pos h, if_pos rfl, if_pos h]
    have := list_l0 F T S C ps id (by omega) (by omega) ps.length 0 k [] 0 (by omega) (by omega) (by simp) (by omega) (by simp)
    simpa using this
  · rw [if_neg h, if_neg (by decide), if_neg h]
theorem byte_in {x : Int} (h : (Lit.int .u8 x).wf = true) : 0 ≤ x ∧ x ≤ 255 := by
  simp only [Lit.wf, Bool.and_eq_true, decide_eq_true_eq] at h
  exact h
theorem okl_dev {F T S : Int} : ∀ (l : List S56) (u d : Int → Bool), okl F T S l u d = true → ∀ p ∈ l, 0 ≤ p.f8 ∧ p.f8 ≤ 4
  | [], u, d, h, p, hp => by cases hp
  | q :: t, u, d, h, p, hp => by
    unfold okl at h
    rw [Bool.and_eq_true] at h
    rcases List.mem_cons.1 hp with rfl | hp
    · have h1 := h.1
      unfold okp okh at h1
      simp only [Bool.and_eq_true, decide_eq_true_eq] at h1
      obtain ⟨⟨⟨⟨⟨⟨⟨_, _⟩, _⟩, _⟩, a⟩, b⟩, _⟩, _⟩ := h1
      exact ⟨a, b⟩
    · exact okl_dev t _ _ h.2 p hp
theorem bst_id (l : List Int) (n0 : Nat) (T : Int) : ∀ k, ∀ p ∈ (bst l n0 T k).1, p.f5 = 1 ∨ p.f5 = 2
  | 0, p, hp => by cases hp
  | k + 1, p, hp => by
    unfold bst at hp
    rcases List.mem_append.1 hp with hp | hp
    · exact bst_id l n0 T k p hp
    · have hp := List.mem_singleton.1 hp
      subst hp
      have h1 := pk_in l (n0 + 2 + 4) (m := 2) (by decide)
      have h2 := pk_in l (n0 + 8 * k + 5) (m := 2) (by decide)
      by_cases h0 : k = 0
      · rw [if_pos h0]
        show 1 + pk l (n0 + 2 + 4) 2 = 1 ∨ 1 + pk l (n0 + 2 + 4) 2 = 2
        omega
      · rw [if_neg h0]
        unfold part1
        split <;> (simp only []; omega)
/-- A bill made of numbers: what the first choices come to. -/
theorem bill_made {l : List Int} (hx : ∀ x ∈ l, 0 ≤ x ∧ x ≤ 255) (hl : l.length ≤ 40) : ∃ (T C : Int) (ps : List S56) (q : Int) (P : Nat), presidioplay_Picks_Num.f l 0 6 = some ((P : Int), posI l 1) ∧ P < 6 ∧
    presidioplay_Picks_Bill.f l (posI l 1) (wrap64 (1 + (P : Int))) = some (T + 140, T, 60, C, ps, q) ∧ chk (T + 140) T 60 C ps = true ∧ WfP ps ∧ (∀ p ∈ ps, p.f5 = 1 ∨ p.f5 = 2) := by
  have hp := pk_in l 0 (m := 6) (by decide)
  refine ⟨bT l (posI l 1).toNat ((pk l 0 6).toNat + 1), 1 + pk l (posI l 1).toNat 3, (bst l (posI l 1).toNat (bT l (posI l 1).toNat ((pk l 0 6).toNat + 1)) ((pk l 0 6).toNat + 1)).1, posI l (posn (posI l 1).toNat ((pk l 0 6).toNat + 1)), (pk l 0 6).toNat, ?_, by omega, ?_, ?_, ?_, ?_⟩
  · have h := num_f hx (by omega) 0 (m := 6) (by decide)
    have e : ((pk l 0 6).toNat : Int) = pk l 0 6 := by omega
    rw [e]
    have e0 : posI l 0 = 0 := by unfold posI; omega
    rw [e0] at h
    exact h
  · have e : wrap64 (1 + ((pk l 0 6).toNat : Int)) = (((pk l 0 6).toNat + 1 : Nat) : Int) := by unfold wrap64; omega
    have e1 : (0 : Int) ≤ posI l 1 ∧ posI l 1 ≤ l.length := by unfold posI; omega
    rw [e]
    unfold presidioplay_Picks_Bill.f
    rw [if_pos ⟨hx, by omega, e1.1, e1.2, by omega, by omega⟩, Int.toNat_natCast]
  · exact made_ok _ _ _ (by omega) (by omega)
  · intro p hp'
    have h1 := made_ok l (posI l 1).toNat ((pk l 0 6).toNat + 1) (by omega) (by omega)
    have h2 := h1
    unfold chk at h2
    rw [Bool.and_eq_true, Bool.and_eq_true] at h2
    have h3 := okl_dev _ _ _ h2.2 p hp'
    exact wf_in (by omega)
  · exact bst_id l _ _ _
end Go.Proofs.Ytecliaogidemjaa.RollC
