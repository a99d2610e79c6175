/- Which slots may be, which words they are and which slots words are: the program and the reference alike. No condition. -/
import Derived.Test.YtdpjpmlajjfpgaaPWalkAllx2
import Derived.Test.YtdpjpmlajjfpgaaPWalkAllx3
import Derived.Test.YtdpjpmlajjfpgaaBits
namespace Go.Proofs.Ytdpjpmlajjfpgaa.Slo
open Go.RowKit Go.Proofs.Ytdpjpmlajjfpgaa.PWalkAll Go.Proofs.YtdpjpmlajjfpgaaW.PrintWords Go.Proofs.YtdpjpmlajjfpgaaW.PrintLast Go.Proofs.Ytdpjpmlajjfpgaa.Bits

def mayB (a b c : Int) : Bool :=
  if a = 0 then (b == 0 && c == 0) else if a = 1 then (c == 0 && decide (0 ≤ b) && decide (b < 240))
  else if a = 2 ∨ a = 3 then (decide (1 ≤ c) && decide (c ≤ 7) && decide (0 ≤ b) && decide (b < 240)) else false

theorem may_f (k : Nat) (a b c : Int) : slot_May.f (k + 1) a b c = some (mayB a b c) := by
  unfold slot_May.f mayB
  simp only [slot_May.j0]
  by_cases h0 : a = 0
  · subst h0; simp
  · by_cases h1 : a = 1
    · subst h1; by_cases hb : b ≥ 0 <;> by_cases hc : c = 0 <;> simp [hb, hc] <;> omega
    · by_cases h2 : a = 2
      · subst h2; by_cases hb : b ≥ 0 <;> by_cases hc : c ≥ 1 <;> by_cases hd : c ≤ 7 <;> simp [hb, hc, hd] <;> omega
      · by_cases h3 : a = 3
        · subst h3; by_cases hb : b ≥ 0 <;> by_cases hc : c ≥ 1 <;> by_cases hd : c ≤ 7 <;> simp [hb, hc, hd] <;> omega
        · simp [h0, h1, h2, h3]

theorem mayB_bounds {a b c : Int} (h : mayB a b c = true) : 0 ≤ a ∧ a ≤ 3 ∧ 0 ≤ b ∧ b < 240 ∧ 0 ≤ c ∧ c ≤ 7 := by
  unfold mayB at h
  split at h
  · simp at h; omega
  · split at h
    · simp at h; omega
    · split at h
      · simp at h; omega
      · simp at h

theorem put_v {a b c : Int} (ha : 0 ≤ a ∧ a ≤ 3) (hb : 0 ≤ b ∧ b < 240) (hc : 0 ≤ c ∧ c ≤ 7) :
    Go.bits .or .u64 (Go.bits .or .u64 (IntKind.u64.wrap a) (IntKind.u64.wrap ((IntKind.u64.wrap c) * 4))) (IntKind.u64.wrap ((IntKind.u64.wrap b) * 4096)) = a + 4 * c + 4096 * b := by
  rw [u64_nn (by omega : 0 ≤ a) (by omega), u64_nn (by omega : 0 ≤ c) (by omega), u64_nn (by omega : 0 ≤ b) (by omega),
    u64_nn (by omega : 0 ≤ c * 4) (by omega), u64_nn (by omega : 0 ≤ b * 4096) (by omega)]
  rw [or_comm .u64 a, join_u64 2 (c * 4) a (by omega) (by omega) (by omega) (by omega) (by omega) (by decide)]
  rw [or_comm .u64, join_u64 12 (b * 4096) (c * 4 + a) (by omega) (by omega) (by omega) (by omega) (by omega) (by decide)]
  omega

theorem put_f (k : Nat) {a b c : Int} (h : mayB a b c = true) : slot_Put.f (k + 1) a b c = some (a + 4 * c + 4096 * b) := by
  obtain ⟨h1, h2, h3, h4, h5, h6⟩ := mayB_bounds h
  unfold slot_Put.f
  rw [may_f]
  simp only [Option.bind_some, h, if_true]
  rw [put_v ⟨h1, h2⟩ ⟨h3, h4⟩ ⟨h5, h6⟩]

theorem take_f (k : Nat) (v : Int) (h0 : 0 ≤ v) (h1 : v < 2 ^ 64) : slot_Take.f (k + 1) v =
    some (if mayB (v % 4) (v / 4096 % 256) (v / 4 % 8) = true ∧ v % 4 + 4 * (v / 4 % 8) + 4096 * (v / 4096 % 256) = v then (v % 4, v / 4096 % 256, v / 4 % 8, 0) else (0, 0, 0, -2)) := by
  unfold slot_Take.f
  have e1 : Go.bits .and .u64 v 3 = v % 4 := mask_u64 2 (by decide) v h0 h1
  have e2 : Go.bits .and .u64 (v / 4096) 255 = v / 4096 % 256 := mask_u64 8 (by decide) _ (by omega) (by omega)
  have e3 : Go.bits .and .u64 (v / 4) 7 = v / 4 % 8 := mask_u64 3 (by decide) _ (by omega) (by omega)
  have w1 : wrap64 (v % 4) = v % 4 := by unfold wrap64; omega
  have w2 : wrap64 (v / 4096 % 256) = v / 4096 % 256 := by unfold wrap64; omega
  have w3 : wrap64 (v / 4 % 8) = v / 4 % 8 := by unfold wrap64; omega
  rw [e1, e2, e3, w1, w2, w3, may_f]
  simp only [Option.bind_some]
  by_cases hm : mayB (v % 4) (v / 4096 % 256) (v / 4 % 8) = true
  · rw [if_pos hm, put_f k hm]
    simp only [Option.bind_some, hm, true_and]
    split <;> rfl
  · rw [if_neg hm, if_neg (fun h => hm h.1)]

/-- A word that is a slot's is the slot's again. -/
theorem take_put (k : Nat) {a b c : Int} (h : mayB a b c = true) : slot_Take.f (k + 1) (a + 4 * c + 4096 * b) = some (a, b, c, 0) := by
  obtain ⟨h1, h2, h3, h4, h5, h6⟩ := mayB_bounds h
  rw [take_f k _ (by omega) (by omega)]
  have e1 : (a + 4 * c + 4096 * b) % 4 = a := by omega
  have e2 : (a + 4 * c + 4096 * b) / 4096 % 256 = b := by omega
  have e3 : (a + 4 * c + 4096 * b) / 4 % 8 = c := by omega
  rw [e1, e2, e3, if_pos ⟨h, by omega⟩]


theorem rmay_f (k : Nat) (a b c : Int) : presidioref1_MaySlot.f (k + 1) a b c = some (mayB a b c) := by
  unfold presidioref1_MaySlot.f mayB
  simp only [presidioref1_MaySlot.j0]
  by_cases h0 : a = 0
  · subst h0; by_cases hb : b = 0 <;> simp [hb]
  · by_cases h1 : a = 1
    · subst h1; by_cases hb : b ≥ 0 <;> by_cases hd : b < 240 <;> simp [hb, hd] <;> omega
    · by_cases h2 : a = 2
      · subst h2; by_cases hb : b ≥ 0 <;> by_cases hd : b < 240 <;> by_cases hc : c ≥ 1 <;> simp [hb, hc, hd] <;> omega
      · by_cases h3 : a = 3
        · subst h3; by_cases hb : b ≥ 0 <;> by_cases hd : b < 240 <;> by_cases hc : c ≥ 1 <;> simp [hb, hc, hd] <;> omega
        · simp [h0, h1, h2, h3]
theorem rput_v {a b c : Int} (ha : 0 ≤ a ∧ a ≤ 3) (hb : 0 ≤ b ∧ b < 240) (hc : 0 ≤ c ∧ c ≤ 7) :
    IntKind.u64.wrap ((IntKind.u64.wrap ((IntKind.u64.wrap a) + (IntKind.u64.wrap (4 * (IntKind.u64.wrap c))))) + (IntKind.u64.wrap (4096 * (IntKind.u64.wrap b)))) = a + 4 * c + 4096 * b := by
  rw [u64_nn (by omega : 0 ≤ a) (by omega), u64_nn (by omega : 0 ≤ c) (by omega), u64_nn (by omega : 0 ≤ b) (by omega),
    u64_nn (by omega : 0 ≤ 4 * c) (by omega), u64_nn (by omega : 0 ≤ 4096 * b) (by omega), u64_nn (by omega : 0 ≤ a + 4 * c) (by omega), u64_nn (by omega) (by omega)]
theorem rput_f (k : Nat) {a b c : Int} (h : mayB a b c = true) : presidioref1_Slot.f (k + 1) a b c = some (a + 4 * c + 4096 * b) := by
  obtain ⟨h1, h2, h3, h4, h5, h6⟩ := mayB_bounds h
  unfold presidioref1_Slot.f
  rw [rmay_f]
  simp only [Option.bind_some, h, if_true]
  rw [rput_v ⟨h1, h2⟩ ⟨h3, h4⟩ ⟨h5, h6⟩]
theorem put_no (k : Nat) {a b c : Int} (h : mayB a b c = false) : slot_Put.f (k + 1) a b c = some 0 := by
  unfold slot_Put.f
  rw [may_f]
  simp [h]
theorem rput_no (k : Nat) {a b c : Int} (h : mayB a b c = false) : presidioref1_Slot.f (k + 1) a b c = some 0 := by
  unfold presidioref1_Slot.f
  rw [rmay_f]
  simp [h]
theorem rtake_f (k : Nat) (v : Int) (h0 : 0 ≤ v) (h1 : v < 2 ^ 64) : presidioref1_TakeSlot.f (k + 1) v = slot_Take.f (k + 1) v := by
  rw [take_f k v h0 h1]
  unfold presidioref1_TakeSlot.f
  have t1 : Int.tmod v 4 = v % 4 := Int.tmod_eq_emod_of_nonneg h0
  have t2 : Int.tdiv v 4096 = v / 4096 := Int.tdiv_eq_ediv_of_nonneg h0
  have t3 : Int.tdiv v 4 = v / 4 := Int.tdiv_eq_ediv_of_nonneg h0
  have u2 : IntKind.u64.wrap (v / 4096) = v / 4096 := u64_nn (by omega) (by omega)
  have u3 : IntKind.u64.wrap (v / 4) = v / 4 := u64_nn (by omega) (by omega)
  rw [t1, t2, t3, u2, u3, Int.tmod_eq_emod_of_nonneg (by omega : 0 ≤ v / 4096), Int.tmod_eq_emod_of_nonneg (by omega : 0 ≤ v / 4)]
  have w1 : wrap64 (v % 4) = v % 4 := w64_in (by omega) (by omega)
  have w2 : wrap64 (v / 4096 % 256) = v / 4096 % 256 := w64_in (by omega) (by omega)
  have w3 : wrap64 (v / 4 % 8) = v / 4 % 8 := w64_in (by omega) (by omega)
  rw [w1, w2, w3, rmay_f]
  simp only [Option.bind_some]
  by_cases hm : mayB (v % 4) (v / 4096 % 256) (v / 4 % 8) = true
  · rw [if_pos hm, rput_f k hm]
    simp only [Option.bind_some, hm, true_and]
    split <;> rfl
  · rw [if_neg hm, if_neg (fun h => hm h.1)]


/-- The slot that a word is: its kind, frame and permissions; and the answer. -/
def tk (v : Int) : Int × Int × Int × Int := if mayB (v % 4) (v / 4096 % 256) (v / 4 % 8) = true ∧ v % 4 + 4 * (v / 4 % 8) + 4096 * (v / 4096 % 256) = v then (v % 4, v / 4096 % 256, v / 4 % 8, 0) else (0, 0, 0, -2)
theorem tk_put {a b c : Int} (h : mayB a b c = true) : tk (a + 4 * c + 4096 * b) = (a, b, c, 0) := by
  obtain ⟨h1, h2, h3, h4, h5, h6⟩ := mayB_bounds h
  unfold tk
  have e1 : (a + 4 * c + 4096 * b) % 4 = a := by omega
  have e2 : (a + 4 * c + 4096 * b) / 4096 % 256 = b := by omega
  have e3 : (a + 4 * c + 4096 * b) / 4 % 8 = c := by omega
  rw [e1, e2, e3, if_pos ⟨h, by omega⟩]
theorem take_any (w : World) (v : Int) (h0 : 0 ≤ v) (h1 : v ≤ 18446744073709551615) :
    Calls Try.prog 64 #[.int .u64 v] w fun e w' => e = .returned (.tuple #[.agg #[.int .i64 (tk v).1, .int .i64 (tk v).2.1, .int .i64 (tk v).2.2.1], .int .i64 (tk v).2.2.2]) ∧ Below w.heap.size w w' :=
  (slot_Take.calls 1 v _ _ _ _ w (take_f 0 v h0 (by omega))).mono fun e w' h => ⟨h.1, h.2⟩
theorem rtake_any (w : World) (v : Int) (h0 : 0 ≤ v) (h1 : v ≤ 18446744073709551615) :
    Calls Try.prog 65 #[.int .u64 v] w fun e w' => e = .returned (.tuple #[.agg #[.int .i64 (tk v).1, .int .i64 (tk v).2.1, .int .i64 (tk v).2.2.1], .int .i64 (tk v).2.2.2]) ∧ Below w.heap.size w w' :=
  (presidioref1_TakeSlot.calls 1 v _ _ _ _ w ((rtake_f 0 v h0 (by omega)).trans (take_f 0 v h0 (by omega)))).mono fun e w' h => ⟨h.1, h.2⟩
end Go.Proofs.Ytdpjpmlajjfpgaa.Slo
