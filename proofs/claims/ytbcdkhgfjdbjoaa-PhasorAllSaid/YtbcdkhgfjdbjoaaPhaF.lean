/- The statements on the phasor: what they begin with; a device with two numbers. -/
import Derived.Test.YtbcdkhgfjdbjoaaPhaB
namespace Go.Proofs.Ytbcdkhgfjdbjoaa.Pha
open Go Go.RowKit Go.Proofs.Ytbcdkhgfjdbjoaa.Mem Go.Proofs.Ytbcdkhgfjdbjoaa.Kept Go.Proofs.Ytbcdkhgfjdbjoaa.Flt
set_option linter.unusedVariables false
set_option linter.unusedSimpArgs false
theorem load_q {w : World} {g : Nat} {s : PS} (h : Is w g s) (k : Int) {n : Int} (hn : IntKind.u64.wrap (loadF s k) = n) : Calls Try.prog 19 #[.pointer (some ⟨g, 0, none⟩), .int .i64 k] w fun e w' => e = .returned (.int .u64 n) ∧ w = w' :=
  (load_same h k).mono fun e w' ⟨h1, h2⟩ => ⟨by rw [← hn]; exact h1, h2.symm⟩
theorem store_c {w : World} {g : Nat} {s s' : PS} (h : Is w g s) (k v : Int) (hs : storeF s k v = s') : Calls Try.prog 17 #[.pointer (some ⟨g, 0, none⟩), .int .i64 k, .int .u64 v] w fun e w' => e = .returned (.tuple #[]) ∧ Is w' g s' ∧ Kept w w' (fun j => j = g) := by
  subst hs; exact store_any h k v
theorem bel_g {w w1 w2 : World} {g : Nat} (hb : Below w.heap.size w w1) (hg : w.heap.size ≤ g) (hk : Kept w1 w2 (fun k => k = g)) : Below w.heap.size w w2 := hk.below hb hb.size (fun k e => by omega)
theorem new_c (w : World) : Calls Try.prog 15 #[] w fun e w' => ∃ g, e = .returned (.pointer (some ⟨g, 0, none⟩)) ∧ Is w' g ⟨0, 0, 0, 0, 0, 0⟩ ∧ Below w.heap.size w w' ∧ w.heap.size ≤ g := (new_any w).mono fun e w' ⟨h1, h2, h3⟩ => ⟨_, h1, h2, h3, Nat.le_refl _⟩
set_option maxRecDepth 100000 in
set_option maxHeartbeats 4000000 in
theorem begun (w : World) : Calls Try.prog 14 #[] w fun e w' => e = .returned (.bool true) ∧ Below w.heap.size w w' := by
  have E1 : storeF ⟨0, 0, 0, 0, 0, 0⟩ 1 1 = ⟨0, 1, 0, 0, 0, 0⟩ := by kernel_rfl
  have E2 : storeF ⟨0, 1, 0, 0, 0, 0⟩ 3 1 = ⟨0, 1, 0, 1, 0, 0⟩ := by kernel_rfl
  have E3 : storeF ⟨0, 1, 0, 1, 0, 0⟩ 4 3 = ⟨0, 1, 0, 1, -1, 0⟩ := by kernel_rfl
  have L1 : IntKind.u64.wrap (loadF ⟨0, 1, 0, 1, -1, 0⟩ 1) = 1 := by decide +kernel
  have L5 : IntKind.u64.wrap (loadF ⟨0, 1, 0, 1, -1, 0⟩ 5) = 18446744073709551615 := by decide +kernel
  have L6 : IntKind.u64.wrap (loadF ⟨0, 1, 0, 1, -1, 0⟩ 6) = 0 := by decide +kernel
  have L4 : IntKind.u64.wrap (loadF ⟨0, 1, 0, 1, -1, 0⟩ 4) = 0 := by decide +kernel
  go_enter Try.func14, Try.ntmps14
  go_wp2_with (first
    | (go_at_call 15; refine (new_c _).mono ?_; rintro e w1 ⟨g, rfl, H1, hb1, hg⟩)
    | (go_at_call 17; with_reducible refine (store_c H1 _ _ E1).mono ?_; rintro e w2 ⟨rfl, H2, k2⟩; have hb2 := bel_g hb1 hg k2)
    | (go_at_call 17; with_reducible refine (store_c H2 _ _ E2).mono ?_; rintro e w3 ⟨rfl, H3, k3⟩; have hb3 := bel_g hb2 hg k3)
    | (go_at_call 17; with_reducible refine (store_c H3 _ _ E3).mono ?_; rintro e w4 ⟨rfl, H4, k4⟩; have hb4 := bel_g hb3 hg k4)
    | (go_at_call 19; with_reducible refine (load_q H4 _ L1).mono ?_; rintro e w5 ⟨rfl, rfl⟩)
    | (go_at_call 19; with_reducible refine (load_q H4 _ L5).mono ?_; rintro e w5 ⟨rfl, rfl⟩)
    | (go_at_call 19; with_reducible refine (load_q H4 _ L6).mono ?_; rintro e w5 ⟨rfl, rfl⟩)
    | (go_at_call 19; with_reducible refine (load_q H4 _ L4).mono ?_; rintro e w5 ⟨rfl, rfl⟩)
    | (go_at_call 16; with_reducible refine (copy_any H4).mono ?_; rintro e w6 ⟨rfl, H6, hb6⟩; have hb7 := bel_chain hb4 hb6)
    | fail)
  go_ret
  exact ⟨rfl, hb7⟩
theorem u64_w (n : Int) : IntKind.u64.wrap n = n % 18446744073709551616 := by
  simp [IntKind.wrap, IntKind.bits, IntKind.signed]
theorem back (n : Int) (h : -9223372036854775808 ≤ n ∧ n ≤ 9223372036854775807) : IntKind.i64.wrap (IntKind.u64.wrap n) = n := by
  rw [u64_w, IntKind.wrap_i64]; omega
theorem clip_in (n : Int) (h : -1048576 ≤ n ∧ n ≤ 1048576) : clipF (IntKind.u64.wrap n) = n := by
  unfold clipF
  rw [back n (by omega)]
  unfold clipZ
  rw [if_neg (by omega), if_neg (by omega)]
set_option maxRecDepth 100000 in
set_option maxHeartbeats 4000000 in
theorem set_any (w : World) (a b c d v : Int) (ha : -1048576 ≤ a ∧ a ≤ 1048576) (hb : -1048576 ≤ b ∧ b ≤ 1048576) (hc : -1048576 ≤ c ∧ c ≤ 1048576) (hd : -1048576 ≤ d ∧ d ≤ 1048576) :
    Calls Try.prog 21 #[.int .i64 a, .int .i64 b, .int .i64 c, .int .i64 d, .int .u64 v] w fun e w' => e = .returned (.tuple #[.int .i64 (turnF ⟨a, b, c, d, 0, 0⟩ v).r0, .int .i64 (turnF ⟨a, b, c, d, 0, 0⟩ v).r1]) ∧ Below w.heap.size w w' := by
  have E1 : storeF ⟨0, 0, 0, 0, 0, 0⟩ 0 (IntKind.u64.wrap a) = ⟨a, 0, 0, 0, 0, 0⟩ := by show ({ a0 := clipF (IntKind.u64.wrap a), a1 := 0, b0 := 0, b1 := 0, r0 := 0, r1 := 0 } : PS) = _; rw [clip_in a ha]
  have E2 : storeF ⟨a, 0, 0, 0, 0, 0⟩ 1 (IntKind.u64.wrap b) = ⟨a, b, 0, 0, 0, 0⟩ := by show ({ a0 := a, a1 := clipF (IntKind.u64.wrap b), b0 := 0, b1 := 0, r0 := 0, r1 := 0 } : PS) = _; rw [clip_in b hb]
  have E3 : storeF ⟨a, b, 0, 0, 0, 0⟩ 2 (IntKind.u64.wrap c) = ⟨a, b, c, 0, 0, 0⟩ := by show ({ a0 := a, a1 := b, b0 := clipF (IntKind.u64.wrap c), b1 := 0, r0 := 0, r1 := 0 } : PS) = _; rw [clip_in c hc]
  have E4 : storeF ⟨a, b, c, 0, 0, 0⟩ 3 (IntKind.u64.wrap d) = ⟨a, b, c, d, 0, 0⟩ := by show ({ a0 := a, a1 := b, b0 := c, b1 := clipF (IntKind.u64.wrap d), r0 := 0, r1 := 0 } : PS) = _; rw [clip_in d hd]
  obtain ⟨T, hT⟩ : ∃ T, turnF ⟨a, b, c, d, 0, 0⟩ v = T := ⟨_, rfl⟩
  have E5 : storeF ⟨a, b, c, d, 0, 0⟩ 4 v = T := hT
  have hTi : (-1125899906842624 ≤ T.r0 ∧ T.r0 ≤ 1125899906842624) ∧ (-1125899906842624 ≤ T.r1 ∧ T.r1 ≤ 1125899906842624) := by
    rw [← hT]; exact ⟨cutF_in _, cutF_in _⟩
  have b0 := back T.r0 (by omega)
  have b1 := back T.r1 (by omega)
  have L5 : IntKind.u64.wrap (loadF T 5) = IntKind.u64.wrap T.r0 := rfl
  have L6 : IntKind.u64.wrap (loadF T 6) = IntKind.u64.wrap T.r1 := rfl
  rw [hT]
  clear hT hTi ha hb hc hd
  go_enter Try.func21, Try.ntmps21
  go_wp2_with (first
    | (go_at_call 15; refine (new_c _).mono ?_; rintro e w1 ⟨g, rfl, H1, hb1, hg⟩)
    | (go_at_call 17; with_reducible refine (store_c H1 _ _ E1).mono ?_; rintro e w2 ⟨rfl, H2, k2⟩; have hb2 := bel_g hb1 hg k2)
    | (go_at_call 17; with_reducible refine (store_c H2 _ _ E2).mono ?_; rintro e w3 ⟨rfl, H3, k3⟩; have hb3 := bel_g hb2 hg k3)
    | (go_at_call 17; with_reducible refine (store_c H3 _ _ E3).mono ?_; rintro e w4 ⟨rfl, H4, k4⟩; have hb4 := bel_g hb3 hg k4)
    | (go_at_call 17; with_reducible refine (store_c H4 _ _ E4).mono ?_; rintro e w5 ⟨rfl, H5, k5⟩; have hb5 := bel_g hb4 hg k5)
    | (go_at_call 17; with_reducible refine (store_c H5 _ _ E5).mono ?_; rintro e w6 ⟨rfl, H6, k6⟩; have hb6 := bel_g hb5 hg k6)
    | (go_at_call 19; with_reducible refine (load_q H6 _ L5).mono ?_; rintro e w7 ⟨rfl, rfl⟩)
    | (go_at_call 19; with_reducible refine (load_q H6 _ L6).mono ?_; rintro e w7 ⟨rfl, rfl⟩)
    | fail)
  go_ret2
  exact ⟨rfl, hb6⟩
end Go.Proofs.Ytbcdkhgfjdbjoaa.Pha
