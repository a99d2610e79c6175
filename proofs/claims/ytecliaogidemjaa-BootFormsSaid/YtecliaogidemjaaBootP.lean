/- Which bills may be: plain. -/
import Derived.Test.YtecliaogidemjaaPBootAllx0
namespace Go.Proofs.Ytecliaogidemjaa.Boot
open Go Go.Proofs.Ytecliaogidemjaa.PBootAll
set_option linter.unusedVariables false

/-- Of the first k numbers from b on none is in u. -/
def frB (u : Int → Bool) (b : Int) : Nat → Bool
  | 0 => true
  | k + 1 => frB u b k && !u (b + k)
def addU (u : Int → Bool) (b : Int) (k : Nat) : Int → Bool := fun j => u j || (decide (b ≤ j) && decide (j < b + k))
def addD (d : Int → Bool) (v : Int) : Int → Bool := fun j => if j = v then decide (0 < v) else d j
/-- What a part is asked ahead of its frames. -/
def okh (F T S : Int) (sec : Bool) (base cnt dev : Int) (d : Int → Bool) : Bool :=
  decide (1 ≤ cnt) && decide (cnt ≤ 32) && decide ((if sec = true then T else T + S) ≤ base) && decide (base ≤ (if sec = true then T + S else F) - cnt) && decide (0 ≤ dev) && decide (dev ≤ 4) && !d dev
def okp (F T S : Int) (sec : Bool) (base cnt dev : Int) (u d : Int → Bool) : Bool := okh F T S sec base cnt dev d && frB u base cnt.toNat
def okl (F T S : Int) : List S56 → (Int → Bool) → (Int → Bool) → Bool
  | [], _, _ => true
  | p :: t, u, d => okp F T S p.f0 p.f6 p.f7 p.f8 u d && okl F T S t (addU u p.f6 p.f7.toNat) (addD d p.f8)
def hdr (F T S C : Int) (l : List S56) : Bool :=
  decide (F ≤ 240) && decide (0 ≤ T) && decide (0 ≤ S) && decide (T ≤ F) && decide (S ≤ F - T) && decide (1 ≤ C) && decide (C ≤ 3) && decide (1 ≤ l.length) && decide (l.length ≤ 6) && decide (5 ≤ T.tdiv l.length)
def fst0 : List S56 → Bool
  | [] => true
  | p :: _ => !p.f0 && decide (p.f8 = 0)
/-- Whether a bill may be. -/
def chk (F T S C : Int) (l : List S56) : Bool := hdr F T S C l && fst0 l && okl F T S l (fun _ => false) (fun _ => false)
def chkE (F T S C : Int) (l : List S56) : Int := if chk F T S C l = true then 0 else -2

theorem addU_zero (u : Int → Bool) (b : Int) : addU u b 0 = u := by
  funext j
  unfold addU
  have : (decide (b ≤ j) && decide (j < b + ((0 : Nat) : Int))) = false := by
    by_cases h : b ≤ j
    · simp only [h, decide_true, Bool.true_and, decide_eq_false_iff_not]; omega
    · simp [h]
  rw [this, Bool.or_false]
theorem addU_succ (u : Int → Bool) (b : Int) (k : Nat) : (fun j => if j = b + k then true else addU u b k j) = addU u b (k + 1) := by
  funext j
  unfold addU
  by_cases h : j = b + k
  · rw [if_pos h]
    have : (decide (b ≤ j) && decide (j < b + ((k + 1 : Nat) : Int))) = true := by simp; omega
    rw [this, Bool.or_true]
  · rw [if_neg h]
    congr 1
    rw [Bool.eq_iff_iff]
    simp
    omega
theorem addU_at (u : Int → Bool) (b : Int) (k : Nat) : addU u b k (b + k) = u (b + k) := by
  unfold addU
  have : (decide (b ≤ b + (k : Int)) && decide (b + (k : Int) < b + k)) = false := by simp
  rw [this, Bool.or_false]
theorem frB_le {u : Int → Bool} {b : Int} {k : Nat} : ∀ {n : Nat}, frB u b n = true → k ≤ n → frB u b k = true
  | 0, h, hk => by rw [Nat.le_zero.1 hk]; rfl
  | n + 1, h, hk => by
    rcases Nat.lt_or_ge k (n + 1) with h1 | h1
    · unfold frB at h
      exact frB_le (by simp at h; exact h.1) (by omega)
    · rw [show k = n + 1 by omega]; exact h
theorem frB_hit {u : Int → Bool} {b : Int} {k n : Nat} (h : u (b + k) = true) (hk : k < n) : frB u b n = false := by
  by_cases e : frB u b n = true
  · have := frB_le e (show k + 1 ≤ n by omega)
    unfold frB at this
    rw [h] at this
    simp at this
  · simpa using e
theorem okl_drop {F T S : Int} {l : List S56} {k : Nat} (hk : k < l.length) (u d : Int → Bool) :
    okl F T S (l.drop k) u d = (okp F T S (rd_T56 l k).f0 (rd_T56 l k).f6 (rd_T56 l k).f7 (rd_T56 l k).f8 u d && okl F T S (l.drop (k + 1)) (addU u (rd_T56 l k).f6 (rd_T56 l k).f7.toNat) (addD d (rd_T56 l k).f8)) := by
  have e : rd_T56 l k = l[k] := by unfold rd_T56; simp [List.getD_eq_getElem?_getD, List.getElem?_eq_getElem hk]
  rw [List.drop_eq_getElem_cons hk, e]
  rfl
theorem fst0_eq {l : List S56} (h : 0 < l.length) : fst0 l = (!(rd_T56 l 0).f0 && decide ((rd_T56 l 0).f8 = 0)) := by
  cases l with
  | nil => simp at h
  | cons p t => rfl
end Go.Proofs.Ytecliaogidemjaa.Boot
