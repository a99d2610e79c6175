/- A guest's device is reckoned with through its page, and is nobody's else: GuestDevice walked. -/
import Derived.Test.YtdpjpmlajjfpgaaGstC
namespace Go.Proofs.Ytdpjpmlajjfpgaa.Ram
open Go.RowKit Go.Proofs.Ytdpjpmlajjfpgaa.Mem Go.Proofs.Ytdpjpmlajjfpgaa.Kept Go.Proofs.Ytdpjpmlajjfpgaa.Slo Go.Proofs.Ytdpjpmlajjfpgaa.Bits
open Go.Proofs.Ytdpjpmlajjfpgaa.PWalkAll
set_option linter.unusedVariables false
set_option linter.unusedSimpArgs false
def In20 (a : Int) : Prop := -1048576 ≤ a ∧ a ≤ 1048576
theorem div_in {a : Int} (h : -2147483648 ≤ a ∧ a ≤ 2147483647) : In20 (a.tdiv 2048) := by
  unfold In20
  rcases Int.lt_or_le a 0 with h0 | h0
  · obtain ⟨n, rfl⟩ : ∃ n : Int, a = -n := ⟨-a, by omega⟩
    rw [Int.neg_tdiv, Int.tdiv_eq_ediv_of_nonneg (by omega)]
    omega
  · rw [Int.tdiv_eq_ediv_of_nonneg h0]
    omega
theorem u64_w (n : Int) : IntKind.u64.wrap n = n % 18446744073709551616 := by
  simp [IntKind.wrap, IntKind.bits, IntKind.signed]
theorem back (n : Int) (h : -9223372036854775808 ≤ n ∧ n ≤ 9223372036854775807) : IntKind.i64.wrap (IntKind.u64.wrap n) = n := by
  rw [u64_w, IntKind.wrap_i64]; omega
theorem clip_in (n : Int) (h : In20 n) : Pha.clipF (IntKind.u64.wrap n) = n := by
  unfold In20 at h
  unfold Pha.clipF
  rw [back n (by omega)]
  unfold Pha.clipZ
  rw [if_neg (by omega), if_neg (by omega)]
theorem w64 (x : Int) (h : -9223372036854775808 ≤ x ∧ x ≤ 9223372036854775807) : wrap64 x = x := by unfold wrap64; omega
/-- The device behind so many stores; the number that is stored next. -/
def psK (w x y z : Int) : Nat → Pha.PS
  | 0 => ⟨0, 0, 0, 0, 0, 0⟩
  | 1 => ⟨w, 0, 0, 0, 0, 0⟩
  | 2 => ⟨w, x, 0, 0, 0, 0⟩
  | 3 => ⟨w, x, y, 0, 0, 0⟩
  | _ => ⟨w, x, y, z, 0, 0⟩
/-- The memory, the device, the other one, and the row of parts. -/
structure Gd (W0 w : World) (g b : Nat) (F : List Int) (q o P : Nat) (ps : Pha.PS) (xs : Array Value) : Prop where
  m : Is w W0.heap.size g b 40 F 10
  p : Pha.Is w q ps
  t : Pha.Is w o ⟨0, 0, 0, 0, 0, 0⟩
  x : w.heap[P]? = some (.cells xs 2 (0, 0))
  bel : Below W0.heap.size W0 w
  ne : (g < q ∧ b < q) ∧ q < o ∧ o < P
  hq : W0.heap.size ≤ q
theorem Gd.dev {W0 w w' : World} {g b : Nat} {F : List Int} {q o P : Nat} {ps ps' : Pha.PS} {xs : Array Value} (T : Gd W0 w g b F q o P ps xs) (H : Pha.Is w' q ps') (hk : Kept w w' (fun j => j = q)) : Gd W0 w' g b F q o P ps' xs :=
  ⟨is_dev T.m hk ⟨T.ne.1.1, fun _ => T.ne.1.2⟩, H, T.t.kept hk (fun e => absurd e (Nat.ne_of_gt T.ne.2.1)), hk.blk T.x (fun e => absurd e (Nat.ne_of_gt (Nat.lt_trans T.ne.2.1 T.ne.2.2))), hk.below T.bel T.bel.size (fun j e => by rw [e]; exact T.hq), T.ne, T.hq⟩
theorem Gd.below {W0 w w' : World} {g b : Nat} {F : List Int} {q o P : Nat} {ps : Pha.PS} {xs : Array Value} (T : Gd W0 w g b F q o P ps xs) (hb : Below w.heap.size w w') : Gd W0 w' g b F q o P ps xs :=
  ⟨T.m.below hb, T.p.below hb, T.t.below hb, blk_below T.x hb, bel_chain T.bel hb, T.ne, T.hq⟩
theorem gld_5 : gLoad 40 10 (setF 5 20 7 false) 0 3840 5 = (0, -20) := by decide +kernel
set_option maxRecDepth 100000 in
set_option maxHeartbeats 16000000 in
theorem device_any (W : World) (a b' c d : Int) (ha : -2147483648 ≤ a ∧ a ≤ 2147483647) (hb : -2147483648 ≤ b' ∧ b' ≤ 2147483647) (hc : -2147483648 ≤ c ∧ c ≤ 2147483647) (hd : -2147483648 ≤ d ∧ d ≤ 2147483647) :
    Calls Try.prog 12 #[.int .i32 a, .int .i32 b', .int .i32 c, .int .i32 d] W fun e w' => e = .returned (.bool true) ∧ Below W.heap.size W w' := by
  obtain ⟨w, hw⟩ : ∃ w, a.tdiv 2048 = w := ⟨_, rfl⟩
  obtain ⟨x, hx⟩ : ∃ w, b'.tdiv 2048 = w := ⟨_, rfl⟩
  obtain ⟨y, hy⟩ : ∃ w, c.tdiv 2048 = w := ⟨_, rfl⟩
  obtain ⟨z, hz⟩ : ∃ w, d.tdiv 2048 = w := ⟨_, rfl⟩
  have iw := div_in ha
  have ix := div_in hb
  have iy := div_in hc
  have iz := div_in hd
  rw [hw] at iw
  rw [hx] at ix
  rw [hy] at iy
  rw [hz] at iz
  have m0 := Pha.mul_in iw iy
  have m1 := Pha.mul_in ix iz
  have m2 := Pha.mul_in iw iz
  have m3 := Pha.mul_in ix iy
  have hin : (-1048576 ≤ w ∧ w ≤ 1048576) ∧ (-1048576 ≤ x ∧ x ≤ 1048576) ∧ (-1048576 ≤ y ∧ y ≤ 1048576) ∧ (-1048576 ≤ z ∧ z ≤ 1048576) := ⟨iw, ix, iy, iz⟩
  have g1 : wrap64 w = w := w64 _ (by omega)
  have g2 : wrap64 x = x := w64 _ (by omega)
  have g3 : wrap64 y = y := w64 _ (by omega)
  have g4 : wrap64 z = z := w64 _ (by omega)
  have e1 : IntKind.i64.wrap (w * y) = w * y := IntWalk.i64_in _ (by omega)
  have e2 : IntKind.i64.wrap (x * z) = x * z := IntWalk.i64_in _ (by omega)
  have e3 : IntKind.i64.wrap (w * z) = w * z := IntWalk.i64_in _ (by omega)
  have e4 : IntKind.i64.wrap (x * y) = x * y := IntWalk.i64_in _ (by omega)
  have e7 : IntKind.i64.wrap (w * y - x * z) = w * y - x * z := IntWalk.i64_in _ (by omega)
  have e8 : IntKind.i64.wrap (w * z + x * y) = w * z + x * y := IntWalk.i64_in _ (by omega)
  have f1 : wrap64 (w * y) = w * y := w64 _ (by omega)
  have f2 : wrap64 (x * z) = x * z := w64 _ (by omega)
  have f3 : wrap64 (w * z) = w * z := w64 _ (by omega)
  have f4 : wrap64 (x * y) = x * y := w64 _ (by omega)
  have f7 : wrap64 (w * y - x * z) = w * y - x * z := w64 _ (by omega)
  have f8 : wrap64 (w * z + x * y) = w * z + x * y := w64 _ (by omega)
  have k7 := back (w * y - x * z) (by omega)
  have k8 := back (w * z + x * y) (by omega)
  have E0 : Pha.storeF (psK w x y z 0) 0 (IntKind.u64.wrap w) = psK w x y z 1 := by show ({ a0 := Pha.clipF (IntKind.u64.wrap w), a1 := 0, b0 := 0, b1 := 0, r0 := 0, r1 := 0 } : Pha.PS) = _; rw [clip_in w iw]; rfl
  have E1 : Pha.storeF (psK w x y z 1) 1 (IntKind.u64.wrap x) = psK w x y z 2 := by show ({ a0 := w, a1 := Pha.clipF (IntKind.u64.wrap x), b0 := 0, b1 := 0, r0 := 0, r1 := 0 } : Pha.PS) = _; rw [clip_in x ix]; rfl
  have E2 : Pha.storeF (psK w x y z 2) 2 (IntKind.u64.wrap y) = psK w x y z 3 := by show ({ a0 := w, a1 := x, b0 := Pha.clipF (IntKind.u64.wrap y), b1 := 0, r0 := 0, r1 := 0 } : Pha.PS) = _; rw [clip_in y iy]; rfl
  have E3 : Pha.storeF (psK w x y z 3) 3 (IntKind.u64.wrap z) = psK w x y z 4 := by show ({ a0 := w, a1 := x, b0 := y, b1 := Pha.clipF (IntKind.u64.wrap z), r0 := 0, r1 := 0 } : Pha.PS) = _; rw [clip_in z iz]; rfl
  have E4 : Pha.storeF (psK w x y z 4) 4 3 = ⟨w, x, y, z, w * y - x * z, w * z + x * y⟩ := by
    show ({ a0 := w, a1 := x, b0 := y, b1 := z, r0 := Pha.cutF (w * y - x * z), r1 := Pha.cutF (w * z + x * y) } : Pha.PS) = _
    rw [Pha.cut_id (by omega), Pha.cut_id (by omega)]
  have D0 : isDev 3840 0 = true := rfl
  have D1 : isDev 3840 1 = true := rfl
  have D2 : isDev 3840 2 = true := rfl
  have D3 : isDev 3840 3 = true := rfl
  have D4 : isDev 3840 4 = true := rfl
  have D5 : isDev 3840 5 = true := rfl
  have D6 : isDev 3840 6 = true := rfl
  have D16 : isDev 3840 16 = false := rfl
  have L5 : IntKind.u64.wrap (Pha.loadF ⟨w, x, y, z, w * y - x * z, w * z + x * y⟩ 5) = IntKind.u64.wrap (w * y - x * z) := rfl
  have L6 : IntKind.u64.wrap (Pha.loadF ⟨w, x, y, z, w * y - x * z, w * z + x * y⟩ 6) = IntKind.u64.wrap (w * z + x * y) := rfl
  have L0 : IntKind.u64.wrap (Pha.loadF ⟨0, 0, 0, 0, 0, 0⟩ 5) = 0 := by decide +kernel
  obtain ⟨F, hF⟩ : ∃ z, setF 5 20 7 false = z := ⟨_, rfl⟩
  have M0 := setF_mem (page := 5) (f := 20) (q := 7) (bl := false) (by omega) (by omega)
  have G5 := gld_5
  rw [hF] at M0 G5
  have G16 : gLoadD 40 10 F 0 3840 16 = (0, -20) := rfl
  have HS : Hid (∀ w, Calls Try.prog 36 #[.int .i64 5, .int .i64 20, .int .i64 7, .bool false] w fun e w' => ∃ g b g' R, e = .returned (.tuple #[.pointer (some ⟨g, 0, none⟩), .pointer (some ⟨g', 0, none⟩)]) ∧ Is w' w.heap.size g b 40 F 10 ∧ RIs w' w.heap.size g' R 40 F 10 ∧ Below w.heap.size w w') :=
    Lib.hid (fun w => by rw [← hF]; exact set_false w 5 20 7 (by decide) (by decide) (by decide))
  have HM := Lib.hid M0
  have HG5 := Lib.hid G5
  have HG16 := Lib.hid G16
  have h40 : 0 < 40 := by omega
  clear m0 m1 m2 m3 hin M0 G5 G16 hF iw ix iy iz
  go_enter Try.func12, Try.ntmps12
  go_wp2_with (first
    | (go_at_call 35; refine (gbegun _).mono ?_; rintro e w1 ⟨rfl, hb1⟩)
    | (go_at_call 36; with_reducible refine (HS.out _).mono ?_; rintro e w2 ⟨g, b, g', R, rfl, H2, _, hb2⟩; have hB := hb1.size; have bel2 := bel_chain hb1 hb2)
    | (go_at_call 40; with_reducible refine (pnew_c w2).mono ?_; rintro e w3 ⟨q, rfl, P3, hb3, hq, hq2⟩; have bel3 := bel_chain bel2 hb3)
    | (go_at_call 40; with_reducible refine (pnew_c w3).mono ?_; rintro e w4 ⟨o, rfl, P4, hb4, ho, ho2⟩; have bel4 := bel_chain bel3 hb4)
    | fail)
  have T0 : Hid (Gd W (w4.alloc (.cells #[.int .i64 w, .int .i64 x, .int .i64 y, .int .i64 z] 2)) g b F q o w4.heap.size (psK w x y z 0) #[.int .i64 w, .int .i64 x, .int .i64 y, .int .i64 z]) :=
    Lib.hid ⟨(((H2.below hb3).below hb4).below (bel_alloc (Below.refl _ _) _)).lower hB, (P3.below hb4).below (bel_alloc (Below.refl _ _) _), P4.below (bel_alloc (Below.refl _ _) _), blk_new _ _, bel_alloc bel4 _, ⟨⟨(is_lt H2 hq).1, (is_lt H2 hq).2 h40⟩, Nat.lt_of_lt_of_le hq2 ho, ho2⟩, Nat.le_trans bel2.size hq⟩
  obtain ⟨P, hP⟩ : ∃ X, w4.heap.size = X := ⟨_, rfl⟩
  rw [hP] at T0 ⊢
  simp only [g1, g2, g3, g4]
  clear hP H2 hb1 hb2 hB bel2 P3 hb3 hq hq2 bel3 P4 hb4 ho ho2 bel4
  go_loopw [14] (fun i wr => ∃ (k : Nat), k ≤ 4 ∧ i = .int .i64 k ∧ Hid (Gd W wr g b F q o P (psK w x y z k) #[.int .i64 w, .int .i64 x, .int .i64 y, .int .i64 z])) (fun i _ => 4 - (intOf i).toNat)
  case atStart => exact ⟨0, by omega, rfl, T0⟩
  case round =>
    clear T0
    obtain ⟨k, hk, rfl, HT⟩ := hrel
    have x0 := (blk_cell HT.out.x 0).trans (show _ = some (Value.int .i64 w) from rfl)
    have x1 := (blk_cell HT.out.x 1).trans (show _ = some (Value.int .i64 x) from rfl)
    have x2 := (blk_cell HT.out.x 2).trans (show _ = some (Value.int .i64 y) from rfl)
    have x3 := (blk_cell HT.out.x 3).trans (show _ = some (Value.int .i64 z) from rfl)
    have hk' : k = 0 ∨ k = 1 ∨ k = 2 ∨ k = 3 ∨ k = 4 := by omega
    rcases hk' with rfl | rfl | rfl | rfl | rfl
    · go_wp2_with (first
        | (go_at_call 38; with_reducible refine (gstore_dev HT.out.p 0 3840 0 _ D0 E0).mono ?_; rintro e w5 ⟨rfl, H5, k5⟩; have T5 := HT.out.dev H5 k5)
        | fail)
      go_roundw
      case rel => exact ⟨1, by omega, by go_num, Lib.hid T5⟩
      case measure => simp [intOf]
    · go_wp2_with (first
        | (go_at_call 38; with_reducible refine (gstore_dev HT.out.p 0 3840 1 _ D1 E1).mono ?_; rintro e w5 ⟨rfl, H5, k5⟩; have T5 := HT.out.dev H5 k5)
        | fail)
      go_roundw
      case rel => exact ⟨2, by omega, by go_num, Lib.hid T5⟩
      case measure => simp [intOf]
    · go_wp2_with (first
        | (go_at_call 38; with_reducible refine (gstore_dev HT.out.p 0 3840 2 _ D2 E2).mono ?_; rintro e w5 ⟨rfl, H5, k5⟩; have T5 := HT.out.dev H5 k5)
        | fail)
      go_roundw
      case rel => exact ⟨3, by omega, by go_num, Lib.hid T5⟩
      case measure => simp [intOf]
    · go_wp2_with (first
        | (go_at_call 38; with_reducible refine (gstore_dev HT.out.p 0 3840 3 _ D3 E3).mono ?_; rintro e w5 ⟨rfl, H5, k5⟩; have T5 := HT.out.dev H5 k5)
        | fail)
      go_roundw
      case rel => exact ⟨4, by omega, by go_num, Lib.hid T5⟩
      case measure => simp [intOf]
    · go_wp2_with (first
        | (go_at_call 38; with_reducible refine (gstore_dev HT.out.p 0 3840 4 _ D4 E4).mono ?_; rintro e w5 ⟨rfl, H5, k5⟩; have T5 := HT.out.dev H5 k5; clear x0 x1 x2 x3)
        | (go_at_call 37; with_reducible refine (gload_dev T5.p 0 3840 5 _ D5 L5).mono ?_; rintro e w6 ⟨rfl, rfl⟩)
        | (go_at_call 37; with_reducible refine (gload_dev T5.p 0 3840 6 _ D6 L6).mono ?_; rintro e w6 ⟨rfl, rfl⟩)
        | (go_at_call 37; with_reducible refine (gload_dev T5.t 0 3840 5 _ D5 L0).mono ?_; rintro e w6 ⟨rfl, rfl⟩)
        | (go_at_call 37; with_reducible refine (gload_nil T5.m HM.out 0 3840 5 _ _ HG5.out).mono ?_; rintro e w7 ⟨rfl, hb7⟩; have T7 := T5.below hb7)
        | (go_at_call 37; with_reducible refine (gload_off T7.m HM.out 0 3840 16 _ _ D16 HG16.out).mono ?_; rintro e w8 ⟨rfl, hb8⟩; have T8 := T7.below hb8; have x0 := (blk_cell T8.x 0).trans (show _ = some (Value.int .i64 w) from rfl); have x1 := (blk_cell T8.x 1).trans (show _ = some (Value.int .i64 x) from rfl); have x2 := (blk_cell T8.x 2).trans (show _ = some (Value.int .i64 y) from rfl); have x3 := (blk_cell T8.x 3).trans (show _ = some (Value.int .i64 z) from rfl))
        | fail)
      have HB := Lib.hid T8.bel
      go_quiet (fail)
      go_wp2
      go_ret
      exact ⟨rfl, bel_drewN HB.out _⟩
end Go.Proofs.Ytdpjpmlajjfpgaa.Ram
