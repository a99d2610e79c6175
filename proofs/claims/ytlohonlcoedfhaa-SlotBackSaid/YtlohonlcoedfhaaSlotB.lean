/- Slots, by the printed functions: what may be, the word that a slot is, the slot that a word is. -/
import Derived.Test.YtlohonlcoedfhaaPSlotBackx2
import Derived.Test.YtlohonlcoedfhaaMem
import Derived.Test.YtlohonlcoedfhaaBits
import Derived.OpenShut
namespace Go.Proofs.Ytlohonlcoedfhaa.SlotB
open Go.RowKit Go.Proofs.Ytlohonlcoedfhaa.Mem Go.Proofs.Ytlohonlcoedfhaa.PSlotBack Go.Proofs.YtlohonlcoedfhaaW.PrintWords Go.Proofs.YtlohonlcoedfhaaW.PrintLast Go.Proofs.Ytlohonlcoedfhaa.Bits

def mayB (a b c : Int) : Bool :=
  if a = 0 then (b == 0 && c == 0) else if a = 1 then (c == 0 && decide (0 ≤ b) && decide (b < 240))
  else if a = 2 ∨ a = 3 then (decide (1 ≤ c) && decide (c ≤ 7) && decide (0 ≤ b) && decide (b < 240)) else false

theorem may_f (k : Nat) (a b c : Int) : slot_May.f (k + 1) a b c = some (mayB a b c) := by
  unfold slot_May.f mayB
  simp only [slot_May.j0]
  by_cases h0 : a = 0
  · subst h0; simp
  · by_cases h1 : a = 1
    · subst h1; by_cases hb : b ≥ 0 <;> by_cases hc : c = 0 <;> simp [hb, hc] <;> omega
    · by_cases h2 : a = 2
      · subst h2; by_cases hb : b ≥ 0 <;> by_cases hc : c ≥ 1 <;> by_cases hd : c ≤ 7 <;> simp [hb, hc, hd] <;> omega
      · by_cases h3 : a = 3
        · subst h3; by_cases hb : b ≥ 0 <;> by_cases hc : c ≥ 1 <;> by_cases hd : c ≤ 7 <;> simp [hb, hc, hd] <;> omega
        · simp [h0, h1, h2, h3]

theorem mayB_bounds {a b c : Int} (h : mayB a b c = true) : 0 ≤ a ∧ a ≤ 3 ∧ 0 ≤ b ∧ b < 240 ∧ 0 ≤ c ∧ c ≤ 7 := by
  unfold mayB at h
  split at h
  · simp at h; omega
  · split at h
    · simp at h; omega
    · split at h
      · simp at h; omega
      · simp at h

theorem put_v {a b c : Int} (ha : 0 ≤ a ∧ a ≤ 3) (hb : 0 ≤ b ∧ b < 240) (hc : 0 ≤ c ∧ c ≤ 7) :
    Go.bits .or .u64 (Go.bits .or .u64 (IntKind.u64.wrap a) (IntKind.u64.wrap ((IntKind.u64.wrap c) * 4))) (IntKind.u64.wrap ((IntKind.u64.wrap b) * 4096)) = a + 4 * c + 4096 * b := by
  rw [u64_nn (by omega : 0 ≤ a) (by omega), u64_nn (by omega : 0 ≤ c) (by omega), u64_nn (by omega : 0 ≤ b) (by omega),
    u64_nn (by omega : 0 ≤ c * 4) (by omega), u64_nn (by omega : 0 ≤ b * 4096) (by omega)]
  rw [or_comm .u64 a, join_u64 2 (c * 4) a (by omega) (by omega) (by omega) (by omega) (by omega) (by decide)]
  rw [or_comm .u64, join_u64 12 (b * 4096) (c * 4 + a) (by omega) (by omega) (by omega) (by omega) (by omega) (by decide)]
  omega

theorem put_f (k : Nat) {a b c : Int} (h : mayB a b c = true) : slot_Put.f (k + 1) a b c = some (a + 4 * c + 4096 * b) := by
  obtain ⟨h1, h2, h3, h4, h5, h6⟩ := mayB_bounds h
  unfold slot_Put.f
  rw [may_f]
  simp only [Option.bind_some, h, if_true]
  rw [put_v ⟨h1, h2⟩ ⟨h3, h4⟩ ⟨h5, h6⟩]

theorem take_f (k : Nat) (v : Int) (h0 : 0 ≤ v) (h1 : v < 2 ^ 64) : slot_Take.f (k + 1) v =
    some (if mayB (v % 4) (v / 4096 % 256) (v / 4 % 8) = true ∧ v % 4 + 4 * (v / 4 % 8) + 4096 * (v / 4096 % 256) = v then (v % 4, v / 4096 % 256, v / 4 % 8, 0) else (0, 0, 0, -2)) := by
  unfold slot_Take.f
  have e1 : Go.bits .and .u64 v 3 = v % 4 := mask_u64 2 (by decide) v h0 h1
  have e2 : Go.bits .and .u64 (v / 4096) 255 = v / 4096 % 256 := mask_u64 8 (by decide) _ (by omega) (by omega)
  have e3 : Go.bits .and .u64 (v / 4) 7 = v / 4 % 8 := mask_u64 3 (by decide) _ (by omega) (by omega)
  have w1 : wrap64 (v % 4) = v % 4 := by unfold wrap64; omega
  have w2 : wrap64 (v / 4096 % 256) = v / 4096 % 256 := by unfold wrap64; omega
  have w3 : wrap64 (v / 4 % 8) = v / 4 % 8 := by unfold wrap64; omega
  rw [e1, e2, e3, w1, w2, w3, may_f]
  simp only [Option.bind_some]
  by_cases hm : mayB (v % 4) (v / 4096 % 256) (v / 4 % 8) = true
  · rw [if_pos hm, put_f k hm]
    simp only [Option.bind_some, hm, true_and]
    split <;> rfl
  · rw [if_neg hm, if_neg (fun h => hm h.1)]

theorem begun_f : ∃ k, presidiolaw2_begun.f k = some true := ⟨4, by decide +kernel⟩

/-- A word that is a slot's is the slot's again. -/
theorem take_put (k : Nat) {a b c : Int} (h : mayB a b c = true) : slot_Take.f (k + 1) (a + 4 * c + 4096 * b) = some (a, b, c, 0) := by
  obtain ⟨h1, h2, h3, h4, h5, h6⟩ := mayB_bounds h
  rw [take_f k _ (by omega) (by omega)]
  have e1 : (a + 4 * c + 4096 * b) % 4 = a := by omega
  have e2 : (a + 4 * c + 4096 * b) / 4096 % 256 = b := by omega
  have e3 : (a + 4 * c + 4096 * b) / 4 % 8 = c := by omega
  rw [e1, e2, e3, if_pos ⟨h, by omega⟩]

theorem xor_ne (v p : Int) (h0 : 0 ≤ v) (h1 : v < 2 ^ 64) (hp0 : 0 < p) (hp1 : p < 2 ^ 64) : 0 ≤ Go.bits .xor .u64 v p ∧ Go.bits .xor .u64 v p < 2 ^ 64 ∧ Go.bits .xor .u64 v p ≠ v := by
  obtain ⟨a, rfl⟩ := Int.eq_ofNat_of_zero_le h0
  obtain ⟨b, rfl⟩ := Int.eq_ofNat_of_zero_le (Int.le_of_lt hp0)
  have ha : a < 2 ^ 64 := by exact_mod_cast h1
  have hb : b < 2 ^ 64 := by exact_mod_cast hp1
  have hx : a ^^^ b < 2 ^ 64 := Nat.xor_lt_two_pow ha hb
  have e : Go.bits .xor .u64 (a : Int) (b : Int) = ((a ^^^ b : Nat) : Int) := by
    simp only [bits, BitVec.ofInt_natCast, BitVec.toNat_xor, BitVec.toNat_ofNat]
    have e1 : a % 2 ^ IntKind.u64.bits = a := Nat.mod_eq_of_lt ha
    have e2 : b % 2 ^ IntKind.u64.bits = b := Nat.mod_eq_of_lt hb
    rw [e1, e2]
    exact wraps_u64 _ (Int.natCast_nonneg _) (by exact_mod_cast hx)
  rw [e]
  refine ⟨Int.natCast_nonneg _, by exact_mod_cast hx, fun h => ?_⟩
  have h' : a ^^^ b = a := by exact_mod_cast h
  have : b = 0 := by
    have h2 : a ^^^ (a ^^^ b) = a ^^^ a := by rw [h']
    rwa [← Nat.xor_assoc, Nat.xor_self, Nat.zero_xor] at h2
  omega

theorem shl1 (n : Int) (h0 : 0 ≤ n) (h1 : n < 64) : 0 < shl .u64 1 n ∧ shl .u64 1 n < 2 ^ 64 := by
  obtain ⟨m, rfl⟩ := Int.eq_ofNat_of_zero_le h0
  have hm : m < 64 := by omega
  have h : ∀ m : Nat, m < 64 → 0 < shl .u64 1 (m : Int) ∧ shl .u64 1 (m : Int) < 2 ^ 64 := by decide +kernel
  exact h m hm

end Go.Proofs.Ytlohonlcoedfhaa.SlotB
