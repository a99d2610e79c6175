/- A slot that may be is put and taken back as it was, and with one bit turned it is refused or is another slot whose word is the turned one. No condition. -/
import Derived.Test.YtlohonlcoedfhaaSlotB
import Derived.WalkKit
import Derived.WalkSpells
import Derived.WalkLawsBesides
import Derived.Outline
namespace Go.Proofs.Ytlohonlcoedfhaa.SlotB
open Go.RowKit Go.Proofs.Ytlohonlcoedfhaa.PSlotBack Go.Proofs.Ytlohonlcoedfhaa.Mem Go.Proofs.Ytlohonlcoedfhaa.Bits
set_option linter.unusedVariables false

/-- A slot's word with a bit turned: refused, or another slot's. -/
theorem turned {K F P V p : Int} (h : mayB K F P = true) (hV : V = K + 4 * P + 4096 * F) (p0 : 0 < p) (p1 : p < 2 ^ 64) :
    slot_Take.f 1 (Go.bits .xor .u64 V p) = some (0, 0, 0, -2) ∨
    ∃ y0 y1 y2 : Int, slot_Take.f 1 (Go.bits .xor .u64 V p) = some (y0, y1, y2, 0) ∧ slot_Put.f 1 y0 y1 y2 = some (Go.bits .xor .u64 V p) ∧
      ((y0 == K) = false ∨ (y0 = K ∧ (y1 == F) = false) ∨ (y0 = K ∧ y1 = F ∧ (y2 == P) = false)) := by
  obtain ⟨h1, h2, h3, h4, h5, h6⟩ := mayB_bounds h
  subst hV
  obtain ⟨v0, v1, v2⟩ := xor_ne (K + 4 * P + 4096 * F) p (by omega) (by omega) p0 p1
  generalize hv : Go.bits .xor .u64 (K + 4 * P + 4096 * F) p = v at v0 v1 v2 ⊢
  rw [take_f 0 v v0 v1]
  by_cases hm : mayB (v % 4) (v / 4096 % 256) (v / 4 % 8) = true ∧ v % 4 + 4 * (v / 4 % 8) + 4096 * (v / 4096 % 256) = v
  · right
    rw [if_pos hm]
    refine ⟨_, _, _, rfl, by rw [put_f 0 hm.1, hm.2], ?_⟩
    simp only [beq_eq_false_iff_ne, ne_eq]
    omega
  · left
    rw [if_neg hm]
theorem pow_in (a : Int) (_h0 : 0 ≤ a) (_h1 : a ≤ 255) : 0 < IntKind.u64.wrap (2 ^ (a % 64).toNat) ∧ IntKind.u64.wrap (2 ^ (a % 64).toNat) < 2 ^ 64 := by
  have h : ∀ m : Nat, m < 64 → 0 < IntKind.u64.wrap (2 ^ m) ∧ IntKind.u64.wrap (2 ^ m) < 2 ^ 64 := by decide +kernel
  exact h _ (by omega)

set_option maxRecDepth 100000 in
set_option maxHeartbeats 1500000 in
theorem back2 (a0 a1 a2 a3 : Int) (w : World) (b0 : 0 ≤ a0 ∧ a0 ≤ 255) (b1 : 0 ≤ a1 ∧ a1 ≤ 255) (b2 : 0 ≤ a2 ∧ a2 ≤ 255) (b3 : 0 ≤ a3 ∧ a3 ≤ 255) (hK : 2 ≤ a0 % 4)
    (hm : mayB (a0 % 4) (a1 % 240) (1 + a2 % 7) = true) :
    Calls Try.prog 10 #[.int .u8 a0, .int .u8 a1, .int .u8 a2, .int .u8 a3] w fun e w' => e = .returned (.bool true) ∧ Below w.heap.size w w' := by
  have hb := Below.refl w.heap.size w
  have tok : True := trivial
  have hu48 := Try.underlying48
  have eV : (a0 % 4 + 4 * (1 + a2 % 7) + 4096 * (a1 % 240) : Int) = (a0 % 4) + 4 * (1 + a2 % 7) + 4096 * (a1 % 240) := by omega
  have hp0 : slot_Put.f 1 (a0 % 4) (a1 % 240) (1 + a2 % 7) = some (a0 % 4 + 4 * (1 + a2 % 7) + 4096 * (a1 % 240)) := by rw [eV]; exact put_f 0 hm
  have ht0 : slot_Take.f 1 (a0 % 4 + 4 * (1 + a2 % 7) + 4096 * (a1 % 240)) = some (a0 % 4, a1 % 240, 1 + a2 % 7, 0) := by rw [eV]; exact take_put 0 hm
  have hm0 : slot_May.f 1 (a0 % 4) (a1 % 240) (1 + a2 % 7) = some true := (may_f 0 _ _ _).trans (congrArg some hm)
  have Hp0 := Lib.hid hp0
  have Ht0 := Lib.hid ht0
  have Hm0 := Lib.hid hm0
  have Hcs := Lib.hid (turned hm eV (pow_in a3 b3.1 b3.2).1 (pow_in a3 b3.1 b3.2).2)
  clear hm eV hp0 ht0 hm0
  rcases Hcs.out with ht | ⟨y0, y1, y2, ht, hp, hne | ⟨rfl, hne⟩ | ⟨rfl, rfl, hne⟩⟩
  · have Ht := Lib.hid ht
    clear ht Hcs
    go_enter Try.func10, Try.ntmps10
    go_wp2_with (first
      | (go_at_call 27; refine (presidiolaw2_begun.calls 4 true _ (by decide +kernel)).mono ?_; rintro e w1 ⟨rfl, hb1⟩; replace hb := bel_chain hb hb1; clear hb1)
      | (go_at_call 32; refine (slot_Put.calls 1 _ _ _ _ _ Hp0.out).mono ?_; rintro e w2 ⟨rfl, hb2⟩; have B := blk_below (blk_new w1 _) hb2; obtain ⟨c0, c1, c2⟩ := cells3 B; have hlt := blk_lt B; replace hb := bel_chain (bel_alloc hb _) hb2; clear hb2)
      | (go_at_call 28; have _t := tok; refine (slot_Take.calls 1 _ _ _ _ _ _ Ht0.out).mono ?_; clear tok; rintro e w3 ⟨rfl, hb2⟩; have B1 := blk_below B hb2; clear c0 c1 c2; have hlt2 := hb2.size; replace hb := bel_chain hb hb2; clear hb2)
      | (go_at_call 28; refine (slot_Take.calls 1 _ _ _ _ _ _ Ht.out).mono ?_; rintro e w4 ⟨rfl, hb2⟩; have B2 := blk_below (blk_alloc B1 _) hb2; have B3 := blk_below (blk_new w3 _) hb2; obtain ⟨c0, c1, c2⟩ := cells3a B2; obtain ⟨d0, d1, d2⟩ := cells3a B3; have hlt3 := blk_lt B3; replace hb := bel_chain (bel_alloc hb _) hb2; clear hb2)
      | (go_at_call 30; refine (slot_May.calls 1 _ _ _ _ _ Hm0.out).mono ?_; rintro e w5 ⟨rfl, hb2⟩; have E2 := blk_below (blk_alloc B2 _) hb2; have E3 := blk_below (blk_alloc B3 _) hb2; have E4 := blk_below (blk_new w4 _) hb2; obtain ⟨f0, f1, f2⟩ := cells3 E2; obtain ⟨g0, g1, g2⟩ := cells3 E3; obtain ⟨i0, i1, i2⟩ := cells3 E4; replace hb := bel_chain (bel_alloc hb _) hb2; clear hb2))
    go_ret
    exact ⟨rfl, hb⟩
  all_goals
    have Ht := Lib.hid ht
    have Hp := Lib.hid hp
    clear ht hp Hcs
    go_enter Try.func10, Try.ntmps10
    go_wp2_with (first
      | (go_at_call 27; refine (presidiolaw2_begun.calls 4 true _ (by decide +kernel)).mono ?_; rintro e w1 ⟨rfl, hb1⟩; replace hb := bel_chain hb hb1; clear hb1)
      | (go_at_call 32; have _t := tok; refine (slot_Put.calls 1 _ _ _ _ _ Hp0.out).mono ?_; rintro e w2 ⟨rfl, hb2⟩; have B := blk_below (blk_new w1 _) hb2; obtain ⟨c0, c1, c2⟩ := cells3 B; have hlt := blk_lt B; replace hb := bel_chain (bel_alloc hb _) hb2; clear hb2)
      | (go_at_call 28; have _t := tok; refine (slot_Take.calls 1 _ _ _ _ _ _ Ht0.out).mono ?_; clear tok; rintro e w3 ⟨rfl, hb2⟩; have B1 := blk_below B hb2; clear c0 c1 c2; have hlt2 := hb2.size; replace hb := bel_chain hb hb2; clear hb2)
      | (go_at_call 28; refine (slot_Take.calls 1 _ _ _ _ _ _ Ht.out).mono ?_; rintro e w4 ⟨rfl, hb2⟩; have B2 := blk_below (blk_alloc B1 _) hb2; have B3 := blk_below (blk_new w3 _) hb2; obtain ⟨c0, c1, c2⟩ := cells3a B2; obtain ⟨d0, d1, d2⟩ := cells3a B3; have hlt3 := blk_lt B3; replace hb := bel_chain (bel_alloc hb _) hb2; clear hb2)
      | (go_at_call 30; refine (slot_May.calls 1 _ _ _ _ _ Hm0.out).mono ?_; rintro e w5 ⟨rfl, hb2⟩; have E2 := blk_below (blk_alloc B2 _) hb2; have E3 := blk_below (blk_alloc B3 _) hb2; have E4 := blk_below (blk_new w4 _) hb2; obtain ⟨f0, f1, f2⟩ := cells3 E2; obtain ⟨g0, g1, g2⟩ := cells3 E3; obtain ⟨i0, i1, i2⟩ := cells3 E4; replace hb := bel_chain (bel_alloc hb _) hb2; clear hb2)
      | (go_at_call 32; refine (slot_Put.calls 1 _ _ _ _ _ Hp.out).mono ?_; rintro e w6 ⟨rfl, hb2⟩; replace hb := bel_chain hb hb2; clear hb2))
    go_ret
    exact ⟨rfl, hb⟩

set_option maxRecDepth 100000 in
set_option maxHeartbeats 1500000 in
theorem back1 (a0 a1 a2 a3 : Int) (w : World) (b0 : 0 ≤ a0 ∧ a0 ≤ 255) (b1 : 0 ≤ a1 ∧ a1 ≤ 255) (b2 : 0 ≤ a2 ∧ a2 ≤ 255) (b3 : 0 ≤ a3 ∧ a3 ≤ 255) (hK : a0 % 4 = 1)
    (hm : mayB (1) (a1 % 240) (0) = true) :
    Calls Try.prog 10 #[.int .u8 a0, .int .u8 a1, .int .u8 a2, .int .u8 a3] w fun e w' => e = .returned (.bool true) ∧ Below w.heap.size w w' := by
  have hb := Below.refl w.heap.size w
  have tok : True := trivial
  have hu48 := Try.underlying48
  have eV : (1 + 4096 * (a1 % 240) : Int) = (1) + 4 * (0) + 4096 * (a1 % 240) := by omega
  have hp0 : slot_Put.f 1 (1) (a1 % 240) (0) = some (1 + 4096 * (a1 % 240)) := by rw [eV]; exact put_f 0 hm
  have ht0 : slot_Take.f 1 (1 + 4096 * (a1 % 240)) = some (1, a1 % 240, 0, 0) := by rw [eV]; exact take_put 0 hm
  have hm0 : slot_May.f 1 (1) (a1 % 240) (0) = some true := (may_f 0 _ _ _).trans (congrArg some hm)
  have Hp0 := Lib.hid hp0
  have Ht0 := Lib.hid ht0
  have Hm0 := Lib.hid hm0
  have Hcs := Lib.hid (turned hm eV (pow_in a3 b3.1 b3.2).1 (pow_in a3 b3.1 b3.2).2)
  clear hm eV hp0 ht0 hm0
  rcases Hcs.out with ht | ⟨y0, y1, y2, ht, hp, hne | ⟨rfl, hne⟩ | ⟨rfl, rfl, hne⟩⟩
  · have Ht := Lib.hid ht
    clear ht Hcs
    go_enter Try.func10, Try.ntmps10
    go_wp2_with (first
      | (go_at_call 27; refine (presidiolaw2_begun.calls 4 true _ (by decide +kernel)).mono ?_; rintro e w1 ⟨rfl, hb1⟩; replace hb := bel_chain hb hb1; clear hb1)
      | (go_at_call 32; refine (slot_Put.calls 1 _ _ _ _ _ Hp0.out).mono ?_; rintro e w2 ⟨rfl, hb2⟩; have B := blk_below (blk_new w1 _) hb2; obtain ⟨c0, c1, c2⟩ := cells3 B; have hlt := blk_lt B; replace hb := bel_chain (bel_alloc hb _) hb2; clear hb2)
      | (go_at_call 28; have _t := tok; refine (slot_Take.calls 1 _ _ _ _ _ _ Ht0.out).mono ?_; clear tok; rintro e w3 ⟨rfl, hb2⟩; have B1 := blk_below B hb2; clear c0 c1 c2; have hlt2 := hb2.size; replace hb := bel_chain hb hb2; clear hb2)
      | (go_at_call 28; refine (slot_Take.calls 1 _ _ _ _ _ _ Ht.out).mono ?_; rintro e w4 ⟨rfl, hb2⟩; have B2 := blk_below (blk_alloc B1 _) hb2; have B3 := blk_below (blk_new w3 _) hb2; obtain ⟨c0, c1, c2⟩ := cells3a B2; obtain ⟨d0, d1, d2⟩ := cells3a B3; have hlt3 := blk_lt B3; replace hb := bel_chain (bel_alloc hb _) hb2; clear hb2)
      | (go_at_call 30; refine (slot_May.calls 1 _ _ _ _ _ Hm0.out).mono ?_; rintro e w5 ⟨rfl, hb2⟩; have E2 := blk_below (blk_alloc B2 _) hb2; have E3 := blk_below (blk_alloc B3 _) hb2; have E4 := blk_below (blk_new w4 _) hb2; obtain ⟨f0, f1, f2⟩ := cells3 E2; obtain ⟨g0, g1, g2⟩ := cells3 E3; obtain ⟨i0, i1, i2⟩ := cells3 E4; replace hb := bel_chain (bel_alloc hb _) hb2; clear hb2))
    go_ret
    exact ⟨rfl, hb⟩
  all_goals
    have Ht := Lib.hid ht
    have Hp := Lib.hid hp
    clear ht hp Hcs
    go_enter Try.func10, Try.ntmps10
    go_wp2_with (first
      | (go_at_call 27; refine (presidiolaw2_begun.calls 4 true _ (by decide +kernel)).mono ?_; rintro e w1 ⟨rfl, hb1⟩; replace hb := bel_chain hb hb1; clear hb1)
      | (go_at_call 32; have _t := tok; refine (slot_Put.calls 1 _ _ _ _ _ Hp0.out).mono ?_; rintro e w2 ⟨rfl, hb2⟩; have B := blk_below (blk_new w1 _) hb2; obtain ⟨c0, c1, c2⟩ := cells3 B; have hlt := blk_lt B; replace hb := bel_chain (bel_alloc hb _) hb2; clear hb2)
      | (go_at_call 28; have _t := tok; refine (slot_Take.calls 1 _ _ _ _ _ _ Ht0.out).mono ?_; clear tok; rintro e w3 ⟨rfl, hb2⟩; have B1 := blk_below B hb2; clear c0 c1 c2; have hlt2 := hb2.size; replace hb := bel_chain hb hb2; clear hb2)
      | (go_at_call 28; refine (slot_Take.calls 1 _ _ _ _ _ _ Ht.out).mono ?_; rintro e w4 ⟨rfl, hb2⟩; have B2 := blk_below (blk_alloc B1 _) hb2; have B3 := blk_below (blk_new w3 _) hb2; obtain ⟨c0, c1, c2⟩ := cells3a B2; obtain ⟨d0, d1, d2⟩ := cells3a B3; have hlt3 := blk_lt B3; replace hb := bel_chain (bel_alloc hb _) hb2; clear hb2)
      | (go_at_call 30; refine (slot_May.calls 1 _ _ _ _ _ Hm0.out).mono ?_; rintro e w5 ⟨rfl, hb2⟩; have E2 := blk_below (blk_alloc B2 _) hb2; have E3 := blk_below (blk_alloc B3 _) hb2; have E4 := blk_below (blk_new w4 _) hb2; obtain ⟨f0, f1, f2⟩ := cells3 E2; obtain ⟨g0, g1, g2⟩ := cells3 E3; obtain ⟨i0, i1, i2⟩ := cells3 E4; replace hb := bel_chain (bel_alloc hb _) hb2; clear hb2)
      | (go_at_call 32; refine (slot_Put.calls 1 _ _ _ _ _ Hp.out).mono ?_; rintro e w6 ⟨rfl, hb2⟩; replace hb := bel_chain hb hb2; clear hb2))
    go_ret
    exact ⟨rfl, hb⟩

set_option maxRecDepth 100000 in
set_option maxHeartbeats 1500000 in
theorem back0 (a0 a1 a2 a3 : Int) (w : World) (b0 : 0 ≤ a0 ∧ a0 ≤ 255) (b1 : 0 ≤ a1 ∧ a1 ≤ 255) (b2 : 0 ≤ a2 ∧ a2 ≤ 255) (b3 : 0 ≤ a3 ∧ a3 ≤ 255) (hK : a0 % 4 = 0)
    (hm : mayB (0) (0) (0) = true) :
    Calls Try.prog 10 #[.int .u8 a0, .int .u8 a1, .int .u8 a2, .int .u8 a3] w fun e w' => e = .returned (.bool true) ∧ Below w.heap.size w w' := by
  have hb := Below.refl w.heap.size w
  have tok : True := trivial
  have hu48 := Try.underlying48
  have eV : (0 : Int) = (0) + 4 * (0) + 4096 * (0) := by omega
  have hp0 : slot_Put.f 1 (0) (0) (0) = some (0) := by rw [eV]; exact put_f 0 hm
  have ht0 : slot_Take.f 1 (0) = some (0, 0, 0, 0) := by rw [eV]; exact take_put 0 hm
  have hm0 : slot_May.f 1 (0) (0) (0) = some true := (may_f 0 _ _ _).trans (congrArg some hm)
  have Hp0 := Lib.hid hp0
  have Ht0 := Lib.hid ht0
  have Hm0 := Lib.hid hm0
  have Hcs := Lib.hid (turned hm eV (pow_in a3 b3.1 b3.2).1 (pow_in a3 b3.1 b3.2).2)
  clear hm eV hp0 ht0 hm0
  rcases Hcs.out with ht | ⟨y0, y1, y2, ht, hp, hne | ⟨rfl, hne⟩ | ⟨rfl, rfl, hne⟩⟩
  · have Ht := Lib.hid ht
    clear ht Hcs
    go_enter Try.func10, Try.ntmps10
    go_wp2_with (first
      | (go_at_call 27; refine (presidiolaw2_begun.calls 4 true _ (by decide +kernel)).mono ?_; rintro e w1 ⟨rfl, hb1⟩; replace hb := bel_chain hb hb1; clear hb1)
      | (go_at_call 32; refine (slot_Put.calls 1 _ _ _ _ _ Hp0.out).mono ?_; rintro e w2 ⟨rfl, hb2⟩; have B := blk_below (blk_new w1 _) hb2; obtain ⟨c0, c1, c2⟩ := cells3 B; have hlt := blk_lt B; replace hb := bel_chain (bel_alloc hb _) hb2; clear hb2)
      | (go_at_call 28; have _t := tok; refine (slot_Take.calls 1 _ _ _ _ _ _ Ht0.out).mono ?_; clear tok; rintro e w3 ⟨rfl, hb2⟩; have B1 := blk_below B hb2; clear c0 c1 c2; have hlt2 := hb2.size; replace hb := bel_chain hb hb2; clear hb2)
      | (go_at_call 28; refine (slot_Take.calls 1 _ _ _ _ _ _ Ht.out).mono ?_; rintro e w4 ⟨rfl, hb2⟩; have B2 := blk_below (blk_alloc B1 _) hb2; have B3 := blk_below (blk_new w3 _) hb2; obtain ⟨c0, c1, c2⟩ := cells3a B2; obtain ⟨d0, d1, d2⟩ := cells3a B3; have hlt3 := blk_lt B3; replace hb := bel_chain (bel_alloc hb _) hb2; clear hb2)
      | (go_at_call 30; refine (slot_May.calls 1 _ _ _ _ _ Hm0.out).mono ?_; rintro e w5 ⟨rfl, hb2⟩; have E2 := blk_below (blk_alloc B2 _) hb2; have E3 := blk_below (blk_alloc B3 _) hb2; have E4 := blk_below (blk_new w4 _) hb2; obtain ⟨f0, f1, f2⟩ := cells3 E2; obtain ⟨g0, g1, g2⟩ := cells3 E3; obtain ⟨i0, i1, i2⟩ := cells3 E4; replace hb := bel_chain (bel_alloc hb _) hb2; clear hb2))
    go_ret
    exact ⟨rfl, hb⟩
  all_goals
    have Ht := Lib.hid ht
    have Hp := Lib.hid hp
    clear ht hp Hcs
    go_enter Try.func10, Try.ntmps10
    go_wp2_with (first
      | (go_at_call 27; refine (presidiolaw2_begun.calls 4 true _ (by decide +kernel)).mono ?_; rintro e w1 ⟨rfl, hb1⟩; replace hb := bel_chain hb hb1; clear hb1)
      | (go_at_call 32; have _t := tok; refine (slot_Put.calls 1 _ _ _ _ _ Hp0.out).mono ?_; rintro e w2 ⟨rfl, hb2⟩; have B := blk_below (blk_new w1 _) hb2; obtain ⟨c0, c1, c2⟩ := cells3 B; have hlt := blk_lt B; replace hb := bel_chain (bel_alloc hb _) hb2; clear hb2)
      | (go_at_call 28; have _t := tok; refine (slot_Take.calls 1 _ _ _ _ _ _ Ht0.out).mono ?_; clear tok; rintro e w3 ⟨rfl, hb2⟩; have B1 := blk_below B hb2; clear c0 c1 c2; have hlt2 := hb2.size; replace hb := bel_chain hb hb2; clear hb2)
      | (go_at_call 28; refine (slot_Take.calls 1 _ _ _ _ _ _ Ht.out).mono ?_; rintro e w4 ⟨rfl, hb2⟩; have B2 := blk_below (blk_alloc B1 _) hb2; have B3 := blk_below (blk_new w3 _) hb2; obtain ⟨c0, c1, c2⟩ := cells3a B2; obtain ⟨d0, d1, d2⟩ := cells3a B3; have hlt3 := blk_lt B3; replace hb := bel_chain (bel_alloc hb _) hb2; clear hb2)
      | (go_at_call 30; refine (slot_May.calls 1 _ _ _ _ _ Hm0.out).mono ?_; rintro e w5 ⟨rfl, hb2⟩; have E2 := blk_below (blk_alloc B2 _) hb2; have E3 := blk_below (blk_alloc B3 _) hb2; have E4 := blk_below (blk_new w4 _) hb2; obtain ⟨f0, f1, f2⟩ := cells3 E2; obtain ⟨g0, g1, g2⟩ := cells3 E3; obtain ⟨i0, i1, i2⟩ := cells3 E4; replace hb := bel_chain (bel_alloc hb _) hb2; clear hb2)
      | (go_at_call 32; refine (slot_Put.calls 1 _ _ _ _ _ Hp.out).mono ?_; rintro e w6 ⟨rfl, hb2⟩; replace hb := bel_chain hb hb2; clear hb2))
    go_ret
    exact ⟨rfl, hb⟩

theorem back (a0 : Int) (w0 : (Lit.int .u8 a0).wf = true) (a1 : Int) (w1 : (Lit.int .u8 a1).wf = true) (a2 : Int) (w2 : (Lit.int .u8 a2).wf = true) (a3 : Int) (w3 : (Lit.int .u8 a3).wf = true) (w : World) :
    Calls Try.prog 10 #[.int .u8 a0, .int .u8 a1, .int .u8 a2, .int .u8 a3] w fun e w' => e = .returned (.bool true) ∧ Below w.heap.size w w' := by
  have b0 := bounds_u8 w0
  have b1 := bounds_u8 w1
  have b2 := bounds_u8 w2
  have b3 := bounds_u8 w3
  by_cases h0 : a0 % 4 = 0
  · exact back0 a0 a1 a2 a3 w b0 b1 b2 b3 h0 rfl
  · by_cases h1 : a0 % 4 < 2
    · refine back1 a0 a1 a2 a3 w b0 b1 b2 b3 (by omega) ?_
      unfold mayB
      rw [if_neg (by decide), if_pos rfl]
      simp
      omega
    · refine back2 a0 a1 a2 a3 w b0 b1 b2 b3 (by omega) ?_
      unfold mayB
      rw [if_neg h0, if_neg (by omega), if_pos (by omega)]
      simp
      omega
end Go.Proofs.Ytlohonlcoedfhaa.SlotB
