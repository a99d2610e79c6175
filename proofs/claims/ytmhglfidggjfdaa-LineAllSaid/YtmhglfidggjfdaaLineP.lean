/- Three processors with all lines on as three numbers, for the statement that one's lines are not another one's. -/
import Derived.Test.YtmhglfidggjfdaaLineD
namespace Go.Proofs.Ytmhglfidggjfdaa.Line
open Go.RowKit Go.Proofs.Ytmhglfidggjfdaa.Mem Go.Proofs.Ytmhglfidggjfdaa.Kept
set_option linter.unusedVariables false
set_option linter.unusedSimpArgs false

/-- What waits, as a number: the lines, sixteen the tick. -/
def cOf (v : Nat) : C := ⟨v % 16, 255, decide (16 ≤ v)⟩
def sOf (V : List Nat) : List C := V.map cOf
theorem look_s {V : List Nat} {c v : Nat} (h : V[c]? = some v) : look (sOf V) c = some (cOf v) := by
  unfold look
  rw [if_pos (by omega), Int.toNat_natCast, sOf, List.getElem?_map, h]
  rfl
theorem set_s (V : List Nat) (c v : Nat) : (sOf V).set c (cOf v) = sOf (V.set c v) := by simp [sOf, List.map_set]
theorem c_or : ∀ v : Nat, v < 32 → ∀ n : Nat, n < 4 → (v ||| 1 <<< n) % 16 = v % 16 ||| 1 <<< n ∧ decide (16 ≤ v ||| 1 <<< n) = decide (16 ≤ v) := by decide +kernel
theorem c_or4 : ∀ v : Nat, v < 32 → (v ||| 1 <<< 4) % 16 = v % 16 ∧ decide (16 ≤ v ||| 1 <<< 4) = true := by decide +kernel
theorem or_32 : ∀ v : Nat, v < 32 → ∀ n : Nat, n < 5 → v ||| 1 <<< n < 32 := by decide +kernel
def cnt5 (v : Nat) : Nat := cnt (v % 16) + v / 16
def nv (v : Nat) : Nat := if 16 ≤ v then 4 else tz v
theorem nv_lt (v : Nat) : nv v < 5 := by
  unfold nv tz
  repeat' split
  all_goals omega
theorem raise_s {V : List Nat} {c v n : Nat} (h : V[c]? = some v) (hv : v < 32) (hn : n < 4) : raiseF (sOf V) c n = (true, sOf (V.set c (v ||| 1 <<< n))) := by
  unfold raiseF
  rw [look_s h]
  show (if 0 ≤ (n : Int) ∧ (n : Int) < 4 then _ else _) = _
  rw [if_pos (by omega), Int.toNat_natCast, Int.toNat_natCast, ← set_s]
  obtain ⟨h1, h2⟩ := c_or v hv n hn
  unfold cOf
  rw [h1, h2]
theorem tick_s {V : List Nat} {c v : Nat} (h : V[c]? = some v) (hv : v < 32) : tickF (sOf V) c = (true, sOf (V.set c (v ||| 1 <<< 4))) := by
  unfold tickF
  rw [look_s h]
  show (true, _) = _
  rw [Int.toNat_natCast, ← set_s]
  obtain ⟨h1, h2⟩ := c_or4 v hv
  unfold cOf
  rw [h1, h2]
theorem waits_s {V : List Nat} {c v : Nat} (h : V[c]? = some v) (hv : v < 32) : waitsF (sOf V) c = cnt5 v := by
  unfold waitsF
  rw [look_s h]
  show cnt (v % 16) + (if decide (16 ≤ v) = true then 1 else 0) = cnt (v % 16) + v / 16
  congr 1
  by_cases h16 : 16 ≤ v
  · rw [if_pos (by simpa using h16)]; omega
  · rw [if_neg (by simpa using h16)]; omega
theorem and_255 : ∀ v : Nat, v < 16 → v &&& 255 = v := by decide +kernel
theorem next_c1 : ∀ v : Nat, v < 16 → v ≠ 0 → v - 1 <<< tz v < 16 := by decide +kernel
theorem next_s {V : List Nat} {c v : Nat} (h : V[c]? = some v) (hv : v < 32) (h0 : v ≠ 0) : nextF (sOf V) c = ((if 16 ≤ v then 0 else tz v, decide (16 ≤ v), true), sOf (V.set c (v - 1 <<< nv v))) := by
  unfold nextF
  rw [look_s h]
  show ((nextC (cOf v)).1, _) = _
  rw [Int.toNat_natCast, ← set_s]
  by_cases h16 : 16 ≤ v
  · have e : nextC (cOf v) = ((0, true, true), ⟨v % 16, 255, false⟩) := by unfold nextC cOf; simp [h16]
    have e2 : cOf (v - 1 <<< nv v) = ⟨v % 16, 255, false⟩ := by
      have : nv v = 4 := by unfold nv; rw [if_pos h16]
      rw [this, show (1 <<< 4 : Nat) = 16 from rfl]
      unfold cOf
      rw [show (v - 16) % 16 = v % 16 by omega, show decide (16 ≤ v - 16) = false from decide_eq_false (by omega)]
    rw [e, e2, if_pos h16, decide_eq_true h16]
  · have hm : v % 16 = v := by omega
    have ha := and_255 v (by omega)
    have e : nextC (cOf v) = ((tz v, false, true), ⟨v - 1 <<< tz v, 255, false⟩) := by
      unfold nextC cOf
      simp only [hm, ha, h0, h16, decide_false, Bool.false_eq_true, if_false]
    have hlt := next_c1 v (by omega) h0
    have e2 : cOf (v - 1 <<< nv v) = ⟨v - 1 <<< tz v, 255, false⟩ := by
      have : nv v = tz v := by unfold nv; rw [if_neg h16]
      rw [this]
      unfold cOf
      rw [show (v - 1 <<< tz v) % 16 = v - 1 <<< tz v from Nat.mod_eq_of_lt hlt, show decide (16 ≤ v - 1 <<< tz v) = false from decide_eq_false (by omega)]
    rw [e, e2, if_neg h16, decide_eq_false h16]
theorem next_0 {V : List Nat} {c : Nat} (h : V[c]? = some 0) : nextF (sOf V) c = ((0, false, false), sOf V) := by
  unfold nextF
  rw [look_s h]
  show ((nextC (cOf 0)).1, (sOf V).set _ (cOf 0)) = _
  rw [Int.toNat_natCast, set_s]
  obtain ⟨h1, h2⟩ := List.getElem?_eq_some_iff.1 h
  have e : V.set c 0 = V := by
    conv => lhs; rw [← h2]
    exact List.set_getElem_self h1
  rw [e]
  rfl
theorem wf_s {V : List Nat} (hl : V.length = 3) : Wf (sOf V) := by
  refine ⟨by simp [sOf, hl], fun c hc => ?_⟩
  simp only [sOf, List.mem_map] at hc
  obtain ⟨v, _, rfl⟩ := hc
  exact ⟨Nat.mod_lt _ (by omega), (by decide : 255 < 256)⟩

def bit (v n : Nat) : Bool := decide (v / 2 ^ n % 2 = 1)
/-- The marks, as cells. -/
def flatB : List Nat → List Value
  | [] => []
  | v :: V => .bool (bit v 0) :: .bool (bit v 1) :: .bool (bit v 2) :: .bool (bit v 3) :: .bool (bit v 4) :: flatB V
theorem flatB_at : ∀ (V : List Nat) (c v n : Nat), V[c]? = some v → n < 5 → (flatB V)[c * 5 + n]? = some (.bool (bit v n))
  | [], c, v, n, h, hn => by simp at h
  | u :: V, 0, v, n, h, hn => by
    simp at h; subst h
    have : n = 0 ∨ n = 1 ∨ n = 2 ∨ n = 3 ∨ n = 4 := by omega
    rcases this with rfl | rfl | rfl | rfl | rfl <;> simp [flatB]
  | u :: V, c + 1, v, n, h, hn => by
    have := flatB_at V c v n (by simpa using h) hn
    rw [show (c + 1) * 5 + n = c * 5 + n + 1 + 1 + 1 + 1 + 1 by omega]
    simpa [flatB] using this
theorem flatB_set : ∀ (V : List Nat) (c v n v' : Nat) (x : Bool), V[c]? = some v → n < 5 → (∀ j, j < 5 → bit v' j = if j = n then x else bit v j) → (flatB V).set (c * 5 + n) (.bool x) = flatB (V.set c v')
  | [], c, v, n, v', x, h, hn, hb => by simp at h
  | u :: V, 0, v, n, v', x, h, hn, hb => by
    simp at h; subst h
    have b0 := hb 0 (by omega)
    have b1 := hb 1 (by omega)
    have b2 := hb 2 (by omega)
    have b3 := hb 3 (by omega)
    have b4 := hb 4 (by omega)
    have : n = 0 ∨ n = 1 ∨ n = 2 ∨ n = 3 ∨ n = 4 := by omega
    rcases this with rfl | rfl | rfl | rfl | rfl <;> simp_all [flatB]
  | u :: V, c + 1, v, n, v', x, h, hn, hb => by
    have := flatB_set V c v n v' x (by simpa using h) hn hb
    rw [show (c + 1) * 5 + n = c * 5 + n + 1 + 1 + 1 + 1 + 1 by omega]
    simp [flatB, this]
theorem bit_or : ∀ v : Nat, v < 32 → ∀ n : Nat, n < 5 → ∀ j : Nat, j < 5 → bit (v ||| 1 <<< n) j = if j = n then true else bit v j := by decide +kernel
theorem bit_sub : ∀ v : Nat, v < 32 → v ≠ 0 → ∀ j : Nat, j < 5 → bit (v - 1 <<< nv v) j = if j = nv v then false else bit v j := by decide +kernel
theorem bit_nv : ∀ v : Nat, v < 32 → v ≠ 0 → bit v (nv v) = true := by decide +kernel
theorem cnt_sub : ∀ v : Nat, v < 32 → v ≠ 0 → cnt5 v = cnt5 (v - 1 <<< nv v) + 1 := by decide +kernel
theorem cnt_0 : ∀ v : Nat, v < 32 → cnt5 v = 0 → v = 0 := by decide +kernel
theorem cnt_le : ∀ v : Nat, v < 32 → cnt5 v ≤ 5 := by decide +kernel
def cb (v : Nat) : Nat → Nat
  | 0 => 0
  | n + 1 => cb v n + if bit v n = true then 1 else 0
theorem cb_5 : ∀ v : Nat, v < 32 → cb v 5 = cnt5 v := by decide +kernel
theorem cb_le (v n : Nat) : cb v n ≤ n := by
  induction n with
  | zero => exact Nat.le_refl _
  | succ n ih => unfold cb; split <;> omega
end Go.Proofs.Ytmhglfidggjfdaa.Line
