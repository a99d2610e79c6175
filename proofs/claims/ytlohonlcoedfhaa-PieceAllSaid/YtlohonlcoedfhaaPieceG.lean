/- Contracts of package piece: Add in one piece, and how two pieces lie beside one another. -/
import Derived.Test.YtlohonlcoedfhaaPieceF
namespace Go.Proofs.Ytlohonlcoedfhaa.Piece
open Go.RowKit Go.Proofs.Ytlohonlcoedfhaa.Mem
open Go.Proofs.YtlohonlcoedfhaaW.PrintWords (nums ReadsInt own_reads own_reads')
set_option linter.unusedVariables false

/-- May it be added? -/
def addY (L l : List Int) (all : Int) : Bool := decide (0 < l.length) && decide ((L.length : Int) + l.length ≤ all)
def addL (L l : List Int) (all : Int) : List Int := if addY L l all = true then L ++ l else L
def addB (L l : List Int) (all : Int) : Bool := addY L l all && decide (all - (L.length : Int) - l.length = 0)
def addE (L l : List Int) (all : Int) : Int := if addY L l all = true then 0 else -2
theorem addL_len {L l : List Int} {all : Int} (h : (L.length : Int) ≤ all) : ((addL L l all).length : Int) ≤ all := by
  unfold addL
  by_cases hy : addY L l all = true
  · rw [if_pos hy, List.length_append]
    simp [addY] at hy
    omega
  · rw [if_neg hy]; exact h

theorem add_any {w : World} {B g : Nat} {R : Option Nat} {L l : List Int} {all : Int} (A : Option Addr) (n c : Nat) (h : At w B g R L all) (h0 : 0 ≤ all) (h1 : all ≤ 400) (hl : (L.length : Int) ≤ all) (hn : l.length = n) (hr : ReadsInt w .u8 A n l) :
    Calls Try.prog 37 #[.pointer (some ⟨g, 0, none⟩), .slice A n c] w fun e w' => e = .returned (.tuple #[.bool (addB L l all), .int .i64 (addE L l all)]) ∧
      (∃ R', At w' B g R' (addL L l all) all ∧ (R' = R ∨ ∃ k, R' = some k ∧ w.heap.size ≤ k)) ∧ Kept w w' (Sof g R) := by
  subst hn
  unfold addB addE addL
  by_cases hy : addY L l all = true
  · simp only [hy, if_true, Bool.true_and]
    simp [addY] at hy
    exact add_ok A _ c h h.base h0 h1 hy.1 hy.2 hr _ rfl
  · have hy' : addY L l all = false := by simpa using hy
    simp only [hy', Bool.false_and, if_neg (show ¬ (false = true) by decide)]
    have hno : l.length = 0 ∨ all - L.length < l.length := by
      simp only [addY, Bool.and_eq_false_iff, decide_eq_false_iff_not] at hy'
      omega
    refine (add_no A _ c h h0 h1 hl hno).mono fun e w' ⟨he, m, hw⟩ => ?_
    subst hw
    exact ⟨he, ⟨R, h, .inl rfl⟩, kept_drewN (kept_refl _ _) _⟩
theorem radd_any {w : World} {B g : Nat} {R : Option Nat} {L l : List Int} {all : Int} (A : Option Addr) (n c : Nat) (h : RAt w B g R L all) (h0 : 0 ≤ all) (h1 : all ≤ 400) (hl : (L.length : Int) ≤ all) (hn : l.length = n) (hr : ReadsInt w .u8 A n l) :
    Calls Try.prog 40 #[.pointer (some ⟨g, 0, none⟩), .slice A n c] w fun e w' => e = .returned (.tuple #[.bool (addB L l all), .int .i64 (addE L l all)]) ∧
      (∃ R', RAt w' B g R' (addL L l all) all ∧ (R' = R ∨ ∀ k, R' = some k → w.heap.size ≤ k)) ∧ Kept w w' (fun k => k = g) := by
  subst hn
  unfold addB addE addL
  by_cases hy : addY L l all = true
  · simp only [hy, if_true, Bool.true_and]
    simp [addY] at hy
    exact (radd_ok A _ c h (Nat.le_of_lt (Nat.lt_of_le_of_lt h.lt.1 h.lt.2)) h0 h1 hy.1 hy.2 hr _ rfl).mono fun e w' ⟨he, ⟨R', h1, h2⟩, hk⟩ => ⟨he, ⟨R', h1, .inr h2⟩, hk⟩
  · have hy' : addY L l all = false := by simpa using hy
    simp only [hy', Bool.false_and, if_neg (show ¬ (false = true) by decide)]
    have hno : l.length = 0 ∨ all - L.length < l.length := by
      simp only [addY, Bool.and_eq_false_iff, decide_eq_false_iff_not] at hy'
      omega
    refine (radd_no A _ c h h0 h1 hl hno).mono fun e w' ⟨he, m, hw⟩ => ?_
    subst hw
    exact ⟨he, ⟨R, h, .inl rfl⟩, kept_drewN (kept_refl _ _) _⟩

/-- Two rows are apart. -/
def Sep (R R' : Option Nat) : Prop := ∀ k, R = some k → R' ≠ some k
/-- The program's pieces and the reference's, side by side. -/
structure Both (w : World) (B g g' : Nat) (R R' : Option Nat) (L : List Int) (all : Int) : Prop where
  p : At w B g R L all
  r : RAt w B g' R' L all
  s : Sep R R'
theorem at_type {w : World} {B g k : Nat} {R : Option Nat} {L : List Int} {all : Int} (h : At w B g R L all) (hk : R = some k) : ∃ cs, w.heap[k]? = some (.cells cs 5 (0, 0)) := by
  obtain ⟨A, c, hg, ho, rfl, hB⟩ := h
  exact (own_lt ho hk).2.2
theorem rat_type {w : World} {B g k : Nat} {R : Option Nat} {L : List Int} {all : Int} (h : RAt w B g R L all) (hk : R = some k) : ∃ cs, w.heap[k]? = some (.cells cs 5 (0, 0)) := by
  obtain ⟨A, c, hg, ho, rfl, hB⟩ := h
  exact (own_lt ho hk).2.2
theorem apart {w : World} {B B' g g' : Nat} {R R' : Option Nat} {L L' : List Int} {all all' : Int} (h : At w B g R L all) (h' : RAt w B' g' R' L' all') : g ≠ g' ∧ R ≠ some g' ∧ R' ≠ some g := by
  refine ⟨fun e => ?_, fun e => ?_, fun e => ?_⟩
  · subst e
    obtain ⟨A, c, hg, _⟩ := h
    obtain ⟨A', c', hg', _⟩ := h'
    rw [hg] at hg'
    injection hg' with h3
    injection h3 with _ h3 _
    exact absurd h3 (by decide)
  · obtain ⟨cs, h5⟩ := at_type h e
    obtain ⟨A', c', hg', _⟩ := h'
    rw [hg'] at h5
    injection h5 with h3
    injection h3 with _ h3 _
    exact absurd h3 (by decide)
  · obtain ⟨cs, h5⟩ := rat_type h' e
    obtain ⟨A', c', hg', _⟩ := h
    rw [hg'] at h5
    injection h5 with h3
    injection h3 with _ h3 _
    exact absurd h3 (by decide)
theorem Both.below {w w' : World} {B g g' : Nat} {R R' : Option Nat} {L : List Int} {all : Int} (h : Both w B g g' R R' L all) (hb : Below w.heap.size w w') : Both w' B g g' R R' L all :=
  ⟨h.p.below hb, h.r.below hb, h.s⟩
/-- Behind the program's Add: the reference's lie as before. -/
theorem Both.after {w w' : World} {B g g' : Nat} {R R' R2 : Option Nat} {L M : List Int} {all : Int} (h : Both w B g g' R R' L all) (hk : Kept w w' (Sof g R)) (hp : At w' B g R2 M all) (hR : R2 = R ∨ ∃ k, R2 = some k ∧ w.heap.size ≤ k) :
    RAt w' B g' R' L all ∧ Sep R2 R' := by
  obtain ⟨a1, a2, a3⟩ := apart h.p h.r
  refine ⟨h.r.kept hk ?_ ?_, ?_⟩
  · rintro (e | e)
    · exact a1 e.symm
    · exact a2 e
  · rintro k hk (e | e)
    · exact a3 (by rw [hk, e])
    · exact h.s k e hk
  · intro k hk hk'
    rcases hR with e | ⟨j, e, hj⟩
    · exact h.s k (e ▸ hk) hk'
    · rw [e] at hk
      injection hk with hk
      have := (h.r.row hk').2.1
      omega
theorem Both.over {w w' : World} {B g g' : Nat} {R R' R2 : Option Nat} {L M : List Int} {all : Int} (hp : At w B g R M all) (hr : RAt w B g' R' L all) (hs : Sep R R') (hk : Kept w w' (fun k => k = g')) (hr2 : RAt w' B g' R2 M all) (hR : R2 = R' ∨ ∀ k, R2 = some k → w.heap.size ≤ k) :
    Both w' B g g' R R2 M all := by
  obtain ⟨a1, a2, a3⟩ := apart hp hr
  refine ⟨hp.kept hk a1 (fun k hk e => a2 (by rw [hk, e])), hr2, ?_⟩
  intro k hk hk'
  rcases hR with e | e
  · exact hs k hk (e ▸ hk')
  · have := e k hk'
    have := (hp.row hk).2.1
    omega
theorem lent_kept {w w' : World} {S : Nat → Prop} {gg : Nat} {l : List Int} (h : Loan.Lent w gg l) (hk : Kept w w' S) (hS : ¬ S gg) : Loan.Lent w' gg l := by
  obtain ⟨cs, t, hg, hc⟩ := h
  exact ⟨cs, t, hk.blk hg hS, hc⟩
end Go.Proofs.Ytlohonlcoedfhaa.Piece
