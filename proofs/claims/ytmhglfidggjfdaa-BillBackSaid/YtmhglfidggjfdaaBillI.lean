/- Bills that come back: BillBack walked. -/
import Derived.Test.YtmhglfidggjfdaaBillJ
namespace Go.Proofs.Ytmhglfidggjfdaa.Bill
open Go Go.RowKit Go.Proofs.YtmhglfidggjfdaaW.PrintWords
open Go.Proofs.Ytmhglfidggjfdaa.PBillBack (S60 z60 k60 rd_T60 at_T60)
open Go.Proofs.Ytmhglfidggjfdaa.Pick (bst bT pk pk_in bst_in bst_len made_any num_any bill_any)
set_option linter.unusedVariables false
set_option linter.unusedSimpArgs false
theorem BR.take {w : World} {A : Option Addr} {c : Nat} {l : List Int} (h : BR w A c l) (k : Nat) : BR w A c (l.take k) := by
  obtain ⟨⟨h1, h2, h3⟩, hc⟩ := h
  have hle : (l.take k).length ≤ l.length := by rw [List.length_take]; omega
  refine ⟨⟨rfl, by omega, fun h0 => ?_⟩, by omega⟩
  obtain ⟨ad, e, f⟩ := h3 (by omega)
  refine ⟨ad, e, fun j p hj => f j p ?_⟩
  rw [List.getElem?_take] at hj
  split at hj
  · exact hj
  · cases hj
theorem info5b' : (Try.prog.info? 5).map (fun i => (i.zero, i.size, i.bytes)) = some (some (.int .u8 0), 1, 1) := by kernel_rfl
theorem r_none (w : World) (base : Nat) (ok : Nat → Prop) (g : Nat) : True := trivial
set_option maxRecDepth 100000 in
set_option maxHeartbeats 400000 in
theorem back_big (w : World) (A0 : Option Addr) (c0 : Nat) (l : List Int) (t x : Int) (h : 40 < (l.length : Int)) : Calls Try.prog 7 #[.slice A0 l.length c0, .int .u16 t, .int .u8 x] w fun e w' => e = .returned (.bool true) ∧ Below w.heap.size w w' := by
  have d1 : decide (40 < (l.length : Int)) = true := decide_eq_true h
  go_enter Try.func7, Try.ntmps7
  go_wp2_with (first
    | (go_at_call 23; (with_reducible refine (begun7 _).mono ?_); rintro e w1 ⟨rfl, B⟩; have HB := Lib.hid B; clear B)
    | fail)
  go_ret
  exact ⟨rfl, HB.out⟩
set_option maxRecDepth 100000 in
set_option maxHeartbeats 400000 in
theorem back_any (w : World) (A0 : Option Addr) (c0 : Nat) (l : List Int) (t x : Int) (h : ¬ 40 < (l.length : Int)) (hr0 : BR w A0 c0 l) (hb0 : BytesIn l) (ht : 0 ≤ t ∧ t ≤ 65535) (hx : 0 ≤ x ∧ x ≤ 255) : Calls Try.prog 7 #[.slice A0 l.length c0, .int .u16 t, .int .u8 x] w fun e w' => e = .returned (.bool true) ∧ Below w.heap.size w w' := by
  have hu44 := Try.underlying44
  have d1 : decide (40 < (l.length : Int)) = false := decide_eq_false h
  have q0 := pk_in l 0 (m := 5) (by decide)
  obtain ⟨r, hr⟩ : ∃ r : Nat, pk l 0 5 = (r : Int) := ⟨(pk l 0 5).toNat, by omega⟩
  have hr4 : r ≤ 4 := by omega
  have fit := made_fit l 1 (r + 1) (by omega)
  obtain ⟨T, hT⟩ : ∃ T, bT l 1 (r + 1) = T := ⟨_, rfl⟩
  obtain ⟨C, hC⟩ : ∃ C, 1 + pk l 1 3 = C := ⟨_, rfl⟩
  rw [hT, hC] at fit
  obtain ⟨ps, hps⟩ : ∃ ps, (bst l 1 T (r + 1)).1 = ps := ⟨_, rfl⟩
  have hpl : ps.length = r + 1 := by rw [← hps]; exact bst_len l 1 T (r + 1)
  rw [hps] at fit
  obtain ⟨hw, hh, hf⟩ := fit
  have hcut := fun k => take_cut (k := k) hw hh hf
  have hmore := take_more hw hh hf x
  obtain ⟨e1, e2, e3⟩ := take_put hw hh hf
  have hbi := put_in (F := T + 140) (T := T) (S := 60) (C := C) hw
  obtain ⟨b, hb⟩ : ∃ b, putB (T + 140) T 60 C ps = b := ⟨_, rfl⟩
  rw [hb] at hmore e1 e2 hbi
  simp only [hb] at hcut
  obtain ⟨P, hP⟩ : ∃ P, ps.length = P := ⟨_, rfl⟩
  obtain ⟨L, hL⟩ : ∃ L, b.length = L := ⟨_, rfl⟩
  rw [hP, hL] at e1
  rw [hP] at hpl hcut
  obtain ⟨k, hk⟩ : ∃ k : Nat, t % (L : Int) = (k : Int) := ⟨(t % (L : Int)).toNat, by have := Int.emod_nonneg t (b := (L : Int)) (by omega); omega⟩
  have hkL : k < L := by have := Int.emod_lt_of_pos t (b := (L : Int)) (by omega); omega
  have q2 : Int.tmod t (L : Int) = (k : Int) := by rw [Int.tmod_eq_emod_of_nonneg ht.1]; exact hk
  have hdz : decide ((L : Int) = 0) = false := decide_eq_false (by omega)
  have hk0 : (0 : Int) ≤ (k : Int) := by omega
  have hk1 : (k : Int) < (L : Int) := by omega
  have w1' : IntKind.i64.wrap (1 + (r : Int)) = ((r + 1 : Nat) : Int) := by rw [IntWalk.i64_in _ (by omega)]; omega
  have w2' : IntKind.i64.wrap (8 * (P : Int)) = 8 * P := IntWalk.i64_in _ (by omega)
  have w3' : IntKind.i64.wrap (7 + 8 * (P : Int)) = L := by rw [IntWalk.i64_in _ (by omega)]; omega
  have w4' : IntKind.i64.wrap t = t := IntWalk.i64_in _ (by omega)
  have w5' : IntKind.i64.wrap (k : Int) = k := IntWalk.i64_in _ (by omega)
  have HL40 := Lib.hid (show l.length ≤ 1000 by omega)
  have HR0 := Lib.hid hr0
  have HA2 := Lib.hid hr0.2
  have HB0 := Lib.hid (show ∀ x ∈ l, 0 ≤ x ∧ x ≤ 255 from hb0)
  have HPK := Lib.hid hr
  have HT := Lib.hid hT
  have HC1 := Lib.hid hC
  have HPS := Lib.hid hps
  have HPP := Lib.hid hP
  have HR4 := Lib.hid hr4
  have HRN := Lib.hid (show ((r : Int) + 1) = ((r + 1 : Nat) : Int) by omega)
  have hlb : L ≤ 1000 := by omega
  have HLB := Lib.hid hlb
  have HLL := Lib.hid hL
  have hsame : sameB (T + 140) T 60 C ps (T + 140) T 60 C ps = true := by unfold sameB; simp
  have HK27 := Lib.hid (show ∀ (W : World) (A : Option Addr) (c : Nat), PR W A c ps → Calls Try.prog 27 #[.agg #[.int .i64 (T + 140), .int .i64 T, .int .i64 60, .int .i64 C, .slice A P c]] W fun e w' => ∃ A1 c1, e = .returned (.slice A1 L c1) ∧ BR w' A1 c1 b ∧ Below W.heap.size W w' from fun W A c h => by have := put_eq h hw hb; rw [hP, hL] at this; exact this)
  have HK25 := Lib.hid (show ∀ (W : World) (A : Option Addr) (c : Nat), BR W A c b → Calls Try.prog 25 #[.slice A L c] W fun e w' => ∃ A1 c1, e = .returned (.tuple #[.agg #[.int .i64 (T + 140), .int .i64 T, .int .i64 60, .int .i64 C, .slice A1 P c1], .int .i64 0]) ∧ PR w' A1 c1 ps ∧ Below W.heap.size W w' from fun W A c h => by have := take_eq h hbi e2; rw [hP, hL] at this; exact this)
  have HK30 := Lib.hid (show ∀ (W : World) (A : Option Addr) (c : Nat) (A' : Option Addr) (c' : Nat), PR W A c ps → PR W A' c' ps → Calls Try.prog 30 #[.agg #[.int .i64 (T + 140), .int .i64 T, .int .i64 60, .int .i64 C, .slice A P c], .agg #[.int .i64 (T + 140), .int .i64 T, .int .i64 60, .int .i64 C, .slice A' P c']] W fun e w' => e = .returned (.bool true) ∧ Below W.heap.size W w' from fun W A c A' c' h h' => by have := same_eq h h' (by omega) hsame; rw [hP] at this; exact this)
  have HKC := Lib.hid (show ∀ (W : World) (A : Option Addr) (c : Nat), BR W A c b → Calls Try.prog 25 #[.slice A k c] W fun e w' => ∃ A1 c1, e = .returned (.tuple #[.agg #[.int .i64 0, .int .i64 0, .int .i64 0, .int .i64 0, .slice A1 0 c1], .int .i64 (-2)]) ∧ PR w' A1 c1 [] ∧ Below W.heap.size W w' from fun W A c h => by have := take_eq (h.take k) (fun x hx => hbi x (List.mem_of_mem_take hx)) (hcut k (by omega)); rw [List.length_take, hL, Nat.min_eq_left (by omega)] at this; exact this)
  have hbx : BytesIn (b ++ [x]) := by
    intro y hy
    rcases List.mem_append.1 hy with hy | hy
    · exact hbi y hy
    · rw [List.mem_singleton.1 hy]; exact hx
  have HKM := Lib.hid (show ∀ (W : World) (A : Option Addr) (c : Nat), BR W A c (b ++ [x]) → Calls Try.prog 25 #[.slice A (L + 1) c] W fun e w' => ∃ A1 c1, e = .returned (.tuple #[.agg #[.int .i64 0, .int .i64 0, .int .i64 0, .int .i64 0, .slice A1 0 c1], .int .i64 (-2)]) ∧ PR w' A1 c1 [] ∧ Below W.heap.size W w' from fun W A c h => by have := take_eq h hbx hmore; rw [List.length_append, hL] at this; exact this)
  have HBI := Lib.hid hbi
  have HX := Lib.hid hx
  have HBQ := Lib.hid hb
  have HE2 := Lib.hid e2
  clear h hr hT hC hps hpl hw hh hf hcut hmore e1 e2 e3 hbi hb hP hL hk hkL hr0 hb0 hr4 hlb hsame hbx q0 ht hx
  go_enter Try.func7, Try.ntmps7
  go_upto_region 7 with (first
    | (go_at_call 23; (with_reducible refine (begun7 _).mono ?_); rintro e w1 ⟨rfl, B⟩; have HB1 := Lib.hid B; have HA1 := Lib.hid (HR0.out.below B).1; clear B)
    | (go_at_call 32; (with_reducible refine (made_any A0 c0 l _ HA1.out HA2.out).mono ?_); rintro e w2 ⟨g, rfl, I2, B2⟩)
    | (go_at_call 34; (with_reducible refine (num_any HB0.out HL40.out I2 B2 (by decide)).mono ?_); rw [HPK.out]; rintro e w3 ⟨rfl, I3, B3, _⟩; clear I2 B2)
    | (go_at_call 33; rw [HRN.out]; (with_reducible refine (bill_any HB0.out HL40.out 1 (r + 1) (by have := HR4.out; omega) I3 B3).mono ?_); rw [HT.out, HC1.out, HPS.out]; rintro e w4 ⟨v, rfl, R4, B4, K4, _⟩; obtain ⟨A4, c4, rfl⟩ := Kd.R_slice R4; have HP4 := Lib.hid (show PR w4 A4 c4 ps from ⟨(Kd.R_reads' R4).2.2, (Kd.R_reads' R4).2.1⟩); have HB4 := Lib.hid (Mem.bel_chain HB1.out B4); clear I3 B3 B4 K4 R4; rw [HPP.out])
    | fail)
  have HBX := Lib.hid (Mem.bel_alloc HB4.out (.cells #[.int .i64 (T + 140), .int .i64 T, .int .i64 60, .int .i64 C, .slice A4 P c4] 44))
  have HPX := Lib.hid (HP4.out.below (Mem.bel_alloc (Below.refl _ _) (.cells #[.int .i64 (T + 140), .int .i64 T, .int .i64 60, .int .i64 C, .slice A4 P c4] 44)))
  have HKX := Lib.hid (Mem.blk_new w4 (.cells #[.int .i64 (T + 140), .int .i64 T, .int .i64 60, .int .i64 C, .slice A4 P c4] 44))
  generalize hX : w4.alloc (.cells #[.int .i64 (T + 140), .int .i64 T, .int .i64 60, .int .i64 C, .slice A4 P c4] 44) = X at HBX HPX HKX ⊢
  generalize hg8 : w4.heap.size = g8 at HKX ⊢
  clear hX hg8 HB4 HP4 HB1 HR0 HPK HT HC1 HPS
  have hc8 := Mem.cells5 HKX.out
  go_upto_region 9 with (first
    | (go_at_call 27; (with_reducible refine (HK27.out _ _ _ HPX.out).mono ?_); rintro e w5 ⟨A5, c5, rfl, R5, B5⟩; have HB5 := Lib.hid B5; have HR5 := Lib.hid R5; clear R5 B5)
    | (go_at_call 25; (with_reducible refine (HK25.out _ _ _ HR5.out).mono ?_); rintro e w6 ⟨A6, c6, rfl, R6, B6⟩; have HB6 := Lib.hid (Mem.bel_chain HB5.out B6); have HP6 := Lib.hid R6; have HR6 := Lib.hid (HR5.out.below B6); clear R6 B6)
    | fail)
  have by6 := Mem.bel_alloc HB6.out (.cells #[.int .i64 (T + 140), .int .i64 T, .int .i64 60, .int .i64 C, .slice A6 P c6] 44)
  have HBY := Lib.hid (Mem.bel_chain HBX.out by6)
  have HPY := Lib.hid (HPX.out.below by6)
  have HKY := Lib.hid (Mem.blk_below HKX.out by6)
  have HRY := Lib.hid (HR6.out.below (Mem.bel_alloc (Below.refl _ _) (.cells #[.int .i64 (T + 140), .int .i64 T, .int .i64 60, .int .i64 C, .slice A6 P c6] 44)))
  have HQY := Lib.hid (HP6.out.below (Mem.bel_alloc (Below.refl _ _) (.cells #[.int .i64 (T + 140), .int .i64 T, .int .i64 60, .int .i64 C, .slice A6 P c6] 44)))
  have HK10 := Lib.hid (Mem.blk_new w6 (.cells #[.int .i64 (T + 140), .int .i64 T, .int .i64 60, .int .i64 C, .slice A6 P c6] 44))
  generalize hY : w6.alloc (.cells #[.int .i64 (T + 140), .int .i64 T, .int .i64 60, .int .i64 C, .slice A6 P c6] 44) = Y at HBY HPY HKY HRY HQY HK10 ⊢
  generalize hg10 : w6.heap.size = g10 at HK10 ⊢
  clear hY hg10 by6 HBX HPX HKX HB5 HB6 HR5 HR6 HP6 hc8
  have hc8 := Mem.cells5 HKY.out
  have hc10 := Mem.cells5 HK10.out
  have hkc : (k : Int) ≤ (c5 : Int) := by have := HRY.out.2; rw [HLL.out] at this; omega
  go_upto_region 12 with (first
    | (go_at_call 30; (with_reducible refine (HK30.out _ _ _ _ _ HPY.out HQY.out).mono ?_); rintro e w7 ⟨rfl, B7⟩; have HB7 := Lib.hid B7; clear hc8 hc10; have hc8 := Mem.cells5 (Mem.blk_below HKY.out B7); clear B7)
    | (go_at_call 25; (with_reducible refine (HKC.out _ _ _ (HRY.out.below HB7.out)).mono ?_); rintro e w8 ⟨A8, c8, rfl, _, B8⟩; have HB8 := Lib.hid (Mem.bel_chain HB7.out B8); clear B8 hc8)
    | fail)
  have bz := Mem.bel_alloc HB8.out (.cells #[.int .i64 0, .int .i64 0, .int .i64 0, .int .i64 0, .slice A8 0 c8] 44)
  have HBZ := Lib.hid (Mem.bel_chain HBY.out bz)
  have HPZ := Lib.hid (HPY.out.below bz)
  have HKZ := Lib.hid (Mem.blk_below HKY.out bz)
  have HRZ := Lib.hid (HRY.out.below bz)
  generalize hZ : w8.alloc (.cells #[.int .i64 0, .int .i64 0, .int .i64 0, .int .i64 0, .slice A8 0 c8] 44) = Z at HBZ HPZ HKZ HRZ ⊢
  generalize hg12 : w8.heap.size = g12 at ⊢
  clear hZ hg12 bz HBY HPY HKY HRY HQY HK10 HB7 HB8
  have hr00 : Kd.R (Kd.int .u8) 5 (Z.alloc (.cells #[] 5)) Z.heap.size (fun _ => True) (.slice (some ⟨Z.heap.size, 0, none⟩) 0 0) [] := ⟨fun _ _ => trivial, [], World.ownsRow_lit (base := Z.heap.size) (e := 5) (size := 1) Z #[] 0 (Nat.le_refl _) (by decide) rfl, ⟨rfl, fun j p hj => by cases hj⟩⟩
  have HE0 := Lib.hid hr00
  have HLX := Lib.hid (show (b ++ [x]).length = L + 1 by rw [List.length_append, HLL.out]; rfl)
  clear hr00
  go_upto_region 13 with (first
    | (at_builtin; refine Kd.R_append_rows (Kd.int .u8) (w0 := Z) Z.heap.size rfl (.tmp 68) (.tmp 69) 38 5 (.int .u8 0) 1 rfl Try.underlying38 info5b' rfl (by decide) (by decide) _ [] b A5 L c5 (fun _ => True) (fun _ => False) rfl rfl HE0.out (by have h := (HRZ.out.below (Mem.bel_alloc (Below.refl _ _) (.cells #[] 5))).1; rw [HLL.out] at h; exact h) (fun _ _ h => h) (fun _ h => h.elim) (fun _ _ => trivial) (Mem.bel_alloc (Below.refl _ _) _) (Mem.bel_alloc (Below.refl Z.heap.size Z) _).size (by have := HLB.out; simp; omega) ?_; intro v1 W1 R1 B1 G1 _; have HV1 := Lib.hid (show Kd.R (Kd.int .u8) 5 W1 Z.heap.size (fun _ => True) v1 b from R1); have HW1 := Lib.hid B1; clear R1 B1 G1)
    | (at_builtin; refine Kd.R_append (Kd.int .u8) (w0 := Z) Z.heap.size rfl (.tmp 70) (.tmp 72) 38 5 (.int .u8 0) 1 rfl Try.underlying38 info5b' rfl (by decide) (by decide) v1 b x [.int .u8 x] (fun _ => True) (fun _ => False) rfl rfl rfl (fun _ h => h.elim) (fun _ _ => trivial) HV1.out HW1.out HW1.out.size (by have := HLB.out; have := HLL.out; omega) ?_; intro v2 W2 R2 B2 G2 _; obtain ⟨A2, c2, rfl⟩ := Kd.R_slice R2; have HV2 := Lib.hid (show BR W2 A2 c2 (b ++ [x]) from ⟨(Kd.R_reads' R2).2.2, (Kd.R_reads' R2).2.1⟩); have HW2 := Lib.hid B2; clear R2 B2 G2; rw [HLX.out])
    | (go_at_call 25; (with_reducible refine (HKM.out _ _ _ HV2.out).mono ?_); rintro e W3 ⟨A3, c3, rfl, _, B3⟩; have HW3 := Lib.hid (HW2.out.trans (B3.mono HW2.out.size)); clear B3)
    | fail)
  have bv := Mem.bel_alloc HW3.out (.cells #[.int .i64 0, .int .i64 0, .int .i64 0, .int .i64 0, .slice A3 0 c3] 44)
  have HBV := Lib.hid (Mem.bel_chain HBZ.out bv)
  have HPV := Lib.hid (HPZ.out.below bv)
  have HKV := Lib.hid (Mem.blk_below HKZ.out bv)
  have HRV := Lib.hid (HRZ.out.below bv)
  generalize hV : W3.alloc (.cells #[.int .i64 0, .int .i64 0, .int .i64 0, .int .i64 0, .slice A3 0 c3] 44) = V at HBV HPV HKV HRV ⊢
  generalize hg14 : W3.heap.size = g14 at ⊢
  clear hV hg14 bv HBZ HPZ HKZ HRZ HV1 HW1 HV2 HW2 HW3 HE0
  have hr01 : Kd.R (Kd.int .u8) 5 (V.alloc (.cells #[] 5)) V.heap.size (fun _ => True) (.slice (some ⟨V.heap.size, 0, none⟩) 0 0) [] := ⟨fun _ _ => trivial, [], World.ownsRow_lit (base := V.heap.size) (e := 5) (size := 1) V #[] 0 (Nat.le_refl _) (by decide) rfl, ⟨rfl, fun j p hj => by cases hj⟩⟩
  have HE1 := Lib.hid hr01
  clear hr01
  have hL0 : 0 < b.length := by rw [HLL.out]; omega
  have HL0 := Lib.hid hL0
  clear hL0
  go_upto_region 14 with (first
    | (at_builtin; refine Kd.R_append_rows (Kd.int .u8) (w0 := V) V.heap.size rfl (.tmp 77) (.tmp 78) 38 5 (.int .u8 0) 1 rfl Try.underlying38 info5b' rfl (by decide) (by decide) _ [] b A5 L c5 (fun _ => True) (fun _ => False) rfl rfl HE1.out (by have h := (HRV.out.below (Mem.bel_alloc (Below.refl _ _) (.cells #[] 5))).1; rw [HLL.out] at h; exact h) (fun _ _ h => h) (fun _ h => h.elim) (fun _ _ => trivial) (Mem.bel_alloc (Below.refl _ _) _) (Mem.bel_alloc (Below.refl V.heap.size V) _).size (by have := HLB.out; simp; omega) ?_; intro v4 W4 R4 B4 G4 _; replace R4 : Kd.R (Kd.int .u8) 5 W4 V.heap.size (fun _ => True) v4 b := R4; obtain ⟨g4, cb, rfl, hle4, hlt4, _⟩ := Kd.R_form R4 HL0.out; rw [HLL.out] at R4 ⊢; have HV4 := Lib.hid R4; have HW4 := Lib.hid B4; clear R4 B4 G4)
    | fail)
  obtain ⟨cc, hcl, hcM, hcc, hfz⟩ := Kd.R_elem HV4.out 0 (k : Int) hk0 hk1
  have HCL := Lib.hid hcl
  have HCC := Lib.hid hcc
  clear hcl hcM hcc hfz
  go_upto_region 15 with (first
    | ((with_reducible refine gate_ (.store 5 (.tmp 87) (.tmp 86)) rfl ?_); refine Kd.R_store (Kd.int .u8) (w0 := V) V.heap.size rfl rfl 5 (.tmp 87) (.tmp 86) rfl 5 (k : Int) 0 b x (.int .u8 x) [.int .u8 x] cc (fun _ => True) (fun _ => False) rfl (by show k = (k : Int).toNat * 1 + 0; omega) rfl rfl (by kernel_rfl) (by simp [Value.oneCell']) HV4.out hk0 hk1 HCL.out HCC.out (show 0 + 1 ≤ 1 by decide) (by have h1 := HCL.out; have h1 : cc.length = 1 := h1; show _ = [Value.int .u8 x]; rw [List.drop_eq_nil_of_le (by simp; omega)]; rfl) (fun _ h => h.elim) HW4.out ?_; intro W5 R5 B5 G5; rw [Int.toNat_natCast] at R5; have HV5 := Lib.hid R5; have HW5 := Lib.hid B5; clear R5 B5 G5)
    | fail)
  obtain ⟨cs, hcs⟩ : ∃ cs, b.set k x = cs := ⟨_, rfl⟩
  have hrc : BR W5 (some ⟨g4, 0, none⟩) cb cs := by
    have h := HV5.out
    rw [hcs] at h
    have h2 := Kd.R_reads' h
    exact ⟨h2.2.2, by have := h2.1; omega⟩
  have hcin : BytesIn cs := by
    rw [← hcs]
    intro y hy
    rcases List.mem_or_eq_of_mem_set hy with hy | rfl
    · exact HBI.out y hy
    · exact HX.out
  have hcl : cs.length = L := by rw [← hcs, List.length_set, HLL.out]
  have HWV := Lib.hid (Mem.bel_chain HBV.out HW5.out)
  have HPW := Lib.hid (HPV.out.below HW5.out)
  have HKW := Lib.hid (Mem.blk_below HKV.out HW5.out)
  have HRW := Lib.hid (HRV.out.below HW5.out)
  have HRC := Lib.hid hrc
  clear HBV HPV HKV HRV HV4 HW4 HCL HCC HV5 HW5 HE1 hrc hle4 hlt4
  rcases take_or2 hcin with e | ⟨F', T', S', C', l', e, e', hwl, hll⟩
  · have HKD := Lib.hid (show ∀ (W : World) (A : Option Addr) (c : Nat), BR W A c cs → Calls Try.prog 25 #[.slice A L c] W fun e w' => ∃ A1 c1, e = .returned (.tuple #[.agg #[.int .i64 0, .int .i64 0, .int .i64 0, .int .i64 0, .slice A1 0 c1], .int .i64 (-2)]) ∧ PR w' A1 c1 [] ∧ Below W.heap.size W w' from fun W A c h => by have := take_eq h hcin e; rw [hcl] at this; exact this)
    clear e hcin hcl hcs
    go_wp2_with (first
      | (go_at_call 25; (with_reducible refine (HKD.out _ _ _ HRC.out).mono ?_); rintro e W6 ⟨A9, c9, rfl, _, B6⟩; have HW6 := Lib.hid B6; clear B6)
      | fail)
    go_quiet (fail)
    go_wp2
    go_ret
    exact ⟨rfl, Mem.bel_chain HWV.out (Mem.bel_drewN (Mem.bel_alloc HW6.out _) _)⟩
  · have hsd := same_dec HE2.out HBQ.out e e'
    obtain ⟨D, hD⟩ : ∃ D, decide (cs = b) = D := ⟨_, rfl⟩
    have hsb : ((strOfNums cs).toList == (strOfNums b).toList) = D := by
      rw [← hD]
      by_cases h : cs = b
      · rw [h, decide_eq_true rfl]; exact beq_self_eq_true _
      · rw [decide_eq_false h]; refine beq_eq_false_iff_ne.2 fun e => h ((str_dec hcin HBI.out).1 ?_)
        rw [ByteArray.toList_eq, ByteArray.toList_eq] at e
        exact congrArg ByteArray.mk (Array.toList_inj.1 e)
    rw [hD] at hsd
    have HKD := Lib.hid (show ∀ (W : World) (A : Option Addr) (c : Nat), BR W A c cs → Calls Try.prog 25 #[.slice A L c] W fun e w' => ∃ A1 c1, e = .returned (.tuple #[.agg #[.int .i64 F', .int .i64 T', .int .i64 S', .int .i64 C', .slice A1 l'.length c1], .int .i64 0]) ∧ PR w' A1 c1 l' ∧ Below W.heap.size W w' from fun W A c h => by have := take_eq h hcin e; rw [hcl] at this; exact this)
    have HCV := Lib.hid (show ∀ (W : World) (A : Option Addr) (c : Nat), BR W A c cs → (convert 38 9 (.slice A L c)).run Try.prog W = .ok (.string (strOfNums cs)) W from fun W A c h => by have := h.conv; rw [hcl] at this; exact this)
    have HLQ := Lib.hid (show l'.length ≤ 1000 by have := HLB.out; omega)
    go_upto_region 16 with (first
      | (go_at_call 25; (with_reducible refine (HKD.out _ _ _ HRC.out).mono ?_); rintro e W6 ⟨A9, c9, rfl, R6, B6⟩; have HW6 := Lib.hid B6; have HR6 := Lib.hid R6; clear B6 R6)
      | fail)
    have bE := Mem.bel_alloc HW6.out (.cells #[.int .i64 F', .int .i64 T', .int .i64 S', .int .i64 C', .slice A9 l'.length c9] 44)
    have hBE := Mem.bel_chain HWV.out bE
    have k8 := Mem.blk_below HKW.out bE
    have k17 := Mem.blk_new W6 (.cells #[.int .i64 F', .int .i64 T', .int .i64 S', .int .i64 C', .slice A9 l'.length c9] 44)
    have rX := HPW.out.below bE
    have rZ := HR6.out.below (Mem.bel_alloc (Below.refl _ _) (.cells #[.int .i64 F', .int .i64 T', .int .i64 S', .int .i64 C', .slice A9 l'.length c9] 44))
    have rC := HRC.out.below bE
    have rB := HRW.out.below bE
    generalize hXE : W6.alloc (.cells #[.int .i64 F', .int .i64 T', .int .i64 S', .int .i64 C', .slice A9 l'.length c9] 44) = XE at hBE k8 k17 rX rZ rC rB ⊢
    generalize hg17 : W6.heap.size = g17 at k17 ⊢
    have HBE := Lib.hid hBE
    clear hXE hg17 bE hBE HW6 HR6 HRC HRW HPW HKW HWV
    have HC := Lib.hid (show ∀ w', Below XE.heap.size XE w' → (w'.cell? ⟨g17, 0, none⟩ = some (.int .i64 F') ∧ w'.cell? ⟨g17, 1, none⟩ = some (.int .i64 T') ∧ w'.cell? ⟨g17, 2, none⟩ = some (.int .i64 S') ∧ w'.cell? ⟨g17, 3, none⟩ = some (.int .i64 C') ∧ w'.cell? ⟨g17, 4, none⟩ = some (.slice A9 l'.length c9)) ∧
        (w'.cell? ⟨g8, 0, none⟩ = some (.int .i64 (T + 140)) ∧ w'.cell? ⟨g8, 1, none⟩ = some (.int .i64 T) ∧ w'.cell? ⟨g8, 2, none⟩ = some (.int .i64 60) ∧ w'.cell? ⟨g8, 3, none⟩ = some (.int .i64 C) ∧ w'.cell? ⟨g8, 4, none⟩ = some (.slice A4 P c4)) ∧
        (convert 38 9 (.slice (some ⟨g4, 0, none⟩) L cb)).run Try.prog w' = .ok (.string (strOfNums cs)) w' ∧ (convert 38 9 (.slice A5 L c5)).run Try.prog w' = .ok (.string (strOfNums b)) w' from
      fun w' h => ⟨Mem.cells5 (Mem.blk_below k17 h), Mem.cells5 (Mem.blk_below k8 h), HCV.out _ _ _ (rC.below h), by have := (rB.below h).conv; rw [HLL.out] at this; exact this⟩)
    have HKP := Lib.hid (show ∀ w', Below XE.heap.size XE w' → Calls Try.prog 27 #[.agg #[.int .i64 F', .int .i64 T', .int .i64 S', .int .i64 C', .slice A9 l'.length c9]] w' fun e w'' => ∃ A1 c1, e = .returned (.slice A1 L c1) ∧ BR w'' A1 c1 cs ∧ Below w'.heap.size w' w'' from fun w' h => by have := put_eq (rZ.below h) hwl e'; rw [hcl] at this; exact this)
    have HKQ := Lib.hid (show ∀ w', Below XE.heap.size XE w' → Calls Try.prog 30 #[.agg #[.int .i64 F', .int .i64 T', .int .i64 S', .int .i64 C', .slice A9 l'.length c9], .agg #[.int .i64 (T + 140), .int .i64 T, .int .i64 60, .int .i64 C, .slice A4 P c4]] w' fun e w'' => e = .returned (.bool D) ∧ Below w'.heap.size w' w'' from fun w' h => by have := same_eq (rZ.below h) (rX.below h) HLQ.out hsd; rw [HPP.out] at this; exact this)
    clear k8 k17 rX rZ rC rB e e' hwl hll hcin hcl hsd hcs
    refine wp_region_noPanic ?_
    refine RegH.startH_ (n := 30) (S := fun w' => (Below XE.heap.size XE w')) #[false, false, false, false, false, false, false, false, false, false, false, false, false, false, false, false, false, false, false, false, false, false, false, false, false, false, false, false, false, false] (by kernel_rfl) rfl rfl (Mem.bel_drew (Below.refl _ _)) (fun hHeld0 => ?_)
    refine RegH.takeH_ (i := 0) (N := (some 93)) (v := ?_) (a' := ?_) #[true, false, false, false, false, false, false, false, false, false, false, false, false, false, false, false, false, false, false, false, false, false, false, false, false, false, false, false, false, false] rfl rfl (by kernel_rfl) (by kernel_rfl) (by kernel_rfl) rfl (fun _ _ _ h => h) (Or.inl ⟨by rfl, ?_⟩) hHeld0 ?_ ?_
    rotate_left
    · rintro w' s0
      obtain ⟨⟨x0, x1, x2, x3, x4⟩, ⟨y0, y1, y2, y3, y4⟩, q0, q1⟩ := HC.out w' s0; go_simp
      with_reducible rfl
    rotate_left
    · simp only [Act.put, List.setIfInBounds_toArray, List.set_cons_zero, List.set_cons_succ]
      rfl
    refine RegH.takeH_ (i := 1) (N := (some 94)) (v := ?_) (a' := ?_) #[true, true, false, false, false, false, false, false, false, false, false, false, false, false, false, false, false, false, false, false, false, false, false, false, false, false, false, false, false, false] rfl rfl (by kernel_rfl) (by kernel_rfl) (by kernel_rfl) rfl (fun _ _ _ h => h) (Or.inl ⟨by rfl, ?_⟩) hHeld0 ?_ ?_
    rotate_left
    · rintro w' s0
      obtain ⟨⟨x0, x1, x2, x3, x4⟩, ⟨y0, y1, y2, y3, y4⟩, q0, q1⟩ := HC.out w' s0; go_simp
      with_reducible rfl
    rotate_left
    · simp only [Act.put, List.setIfInBounds_toArray, List.set_cons_zero, List.set_cons_succ]
      rfl
    refine RegH.takeH_ (i := 2) (N := (some 95)) (v := ?_) (a' := ?_) #[true, true, true, false, false, false, false, false, false, false, false, false, false, false, false, false, false, false, false, false, false, false, false, false, false, false, false, false, false, false] rfl rfl (by kernel_rfl) (by kernel_rfl) (by kernel_rfl) rfl (fun _ _ _ h => h) (Or.inl ⟨by rfl, ?_⟩) hHeld0 ?_ ?_
    rotate_left
    · rintro w' s0
      obtain ⟨⟨x0, x1, x2, x3, x4⟩, ⟨y0, y1, y2, y3, y4⟩, q0, q1⟩ := HC.out w' s0; go_simp
      with_reducible rfl
    rotate_left
    · simp only [Act.put, List.setIfInBounds_toArray, List.set_cons_zero, List.set_cons_succ]
      rfl
    refine RegH.takeH_ (i := 3) (N := (some 96)) (v := ?_) (a' := ?_) #[true, true, true, true, false, false, false, false, false, false, false, false, false, false, false, false, false, false, false, false, false, false, false, false, false, false, false, false, false, false] rfl rfl (by kernel_rfl) (by kernel_rfl) (by kernel_rfl) rfl (fun _ _ _ h => h) (Or.inl ⟨by rfl, ?_⟩) hHeld0 ?_ ?_
    rotate_left
    · rintro w' s0
      obtain ⟨⟨x0, x1, x2, x3, x4⟩, ⟨y0, y1, y2, y3, y4⟩, q0, q1⟩ := HC.out w' s0; go_simp
      with_reducible rfl
    rotate_left
    · simp only [Act.put, List.setIfInBounds_toArray, List.set_cons_zero, List.set_cons_succ]
      rfl
    refine RegH.takeH_ (i := 4) (N := (some 97)) (v := ?_) (a' := ?_) #[true, true, true, true, true, false, false, false, false, false, false, false, false, false, false, false, false, false, false, false, false, false, false, false, false, false, false, false, false, false] rfl rfl (by kernel_rfl) (by kernel_rfl) (by kernel_rfl) rfl (fun _ _ _ h => h) (Or.inl ⟨by rfl, ?_⟩) hHeld0 ?_ ?_
    rotate_left
    · rintro w' s0
      obtain ⟨⟨x0, x1, x2, x3, x4⟩, ⟨y0, y1, y2, y3, y4⟩, q0, q1⟩ := HC.out w' s0; go_simp
      with_reducible rfl
    rotate_left
    · simp only [Act.put, List.setIfInBounds_toArray, List.set_cons_zero, List.set_cons_succ]
      rfl
    refine RegH.takeH_ (i := 5) (N := (some 98)) (v := ?_) (a' := ?_) #[true, true, true, true, true, true, false, false, false, false, false, false, false, false, false, false, false, false, false, false, false, false, false, false, false, false, false, false, false, false] rfl rfl (by kernel_rfl) (by kernel_rfl) (by kernel_rfl) rfl (fun _ _ _ h => h) (Or.inl ⟨by rfl, ?_⟩) hHeld0 ?_ ?_
    rotate_left
    · rintro w' s0
      obtain ⟨⟨x0, x1, x2, x3, x4⟩, ⟨y0, y1, y2, y3, y4⟩, q0, q1⟩ := HC.out w' s0; go_simp
      with_reducible rfl
    rotate_left
    · simp only [Act.put, List.setIfInBounds_toArray, List.set_cons_zero, List.set_cons_succ]
      rfl
    refine RegH.takeH_ (i := 6) (N := (some 99)) (v := ?_) (a' := ?_) #[true, true, true, true, true, true, true, false, false, false, false, false, false, false, false, false, false, false, false, false, false, false, false, false, false, false, false, false, false, false] rfl rfl (by kernel_rfl) (by kernel_rfl) (by kernel_rfl) rfl (fun _ _ _ h => h) (Or.inl ⟨by rfl, ?_⟩) hHeld0 ?_ ?_
    rotate_left
    · rintro w' s0
      obtain ⟨⟨x0, x1, x2, x3, x4⟩, ⟨y0, y1, y2, y3, y4⟩, q0, q1⟩ := HC.out w' s0; go_simp
      with_reducible rfl
    rotate_left
    · simp only [Act.put, List.setIfInBounds_toArray, List.set_cons_zero, List.set_cons_succ]
      rfl
    refine RegH.takeH_ (i := 7) (N := (some 100)) (v := ?_) (a' := ?_) #[true, true, true, true, true, true, true, true, false, false, false, false, false, false, false, false, false, false, false, false, false, false, false, false, false, false, false, false, false, false] rfl rfl (by kernel_rfl) (by kernel_rfl) (by kernel_rfl) rfl (fun _ _ _ h => h) (Or.inl ⟨by rfl, ?_⟩) hHeld0 ?_ ?_
    rotate_left
    · rintro w' s0
      obtain ⟨⟨x0, x1, x2, x3, x4⟩, ⟨y0, y1, y2, y3, y4⟩, q0, q1⟩ := HC.out w' s0; go_simp
      with_reducible rfl
    rotate_left
    · simp only [Act.put, List.setIfInBounds_toArray, List.set_cons_zero, List.set_cons_succ]
      rfl
    refine RegH.takeH_ (i := 8) (N := (some 101)) (v := ?_) (a' := ?_) #[true, true, true, true, true, true, true, true, true, false, false, false, false, false, false, false, false, false, false, false, false, false, false, false, false, false, false, false, false, false] rfl rfl (by kernel_rfl) (by kernel_rfl) (by kernel_rfl) rfl (fun _ _ _ h => h) (Or.inl ⟨by rfl, ?_⟩) hHeld0 ?_ ?_
    rotate_left
    · rintro w' s0
      obtain ⟨⟨x0, x1, x2, x3, x4⟩, ⟨y0, y1, y2, y3, y4⟩, q0, q1⟩ := HC.out w' s0; go_simp
      with_reducible rfl
    rotate_left
    · simp only [Act.put, List.setIfInBounds_toArray, List.set_cons_zero, List.set_cons_succ]
      rfl
    refine RegH.takeH_ (i := 9) (N := (some 102)) (v := ?_) (a' := ?_) #[true, true, true, true, true, true, true, true, true, true, false, false, false, false, false, false, false, false, false, false, false, false, false, false, false, false, false, false, false, false] rfl rfl (by kernel_rfl) (by kernel_rfl) (by kernel_rfl) rfl (fun _ _ _ h => h) (Or.inl ⟨by rfl, ?_⟩) hHeld0 ?_ ?_
    rotate_left
    · rintro w' s0
      obtain ⟨⟨x0, x1, x2, x3, x4⟩, ⟨y0, y1, y2, y3, y4⟩, q0, q1⟩ := HC.out w' s0; go_simp
      with_reducible rfl
    rotate_left
    · simp only [Act.put, List.setIfInBounds_toArray, List.set_cons_zero, List.set_cons_succ]
      rfl
    refine RegH.takeH_ (i := 10) (N := (some 103)) (v := ?_) (a' := ?_) #[true, true, true, true, true, true, true, true, true, true, true, false, false, false, false, false, false, false, false, false, false, false, false, false, false, false, false, false, false, false] rfl rfl (by kernel_rfl) (by kernel_rfl) (by kernel_rfl) rfl (fun _ _ _ h => h) (Or.inl ⟨by rfl, ?_⟩) hHeld0 ?_ ?_
    rotate_left
    · rintro w' s0
      obtain ⟨⟨x0, x1, x2, x3, x4⟩, ⟨y0, y1, y2, y3, y4⟩, q0, q1⟩ := HC.out w' s0; go_simp
      with_reducible rfl
    rotate_left
    · simp only [Act.put, List.setIfInBounds_toArray, List.set_cons_zero, List.set_cons_succ]
      rfl
    refine RegH.takeH_ (i := 13) (N := (some 106)) (v := ?_) (a' := ?_) #[true, true, true, true, true, true, true, true, true, true, true, false, false, true, false, false, false, false, false, false, false, false, false, false, false, false, false, false, false, false] rfl rfl (by kernel_rfl) (by kernel_rfl) (by kernel_rfl) rfl (fun _ _ _ h => h) (Or.inl ⟨by rfl, ?_⟩) hHeld0 ?_ ?_
    rotate_left
    · rintro w' s0
      obtain ⟨⟨x0, x1, x2, x3, x4⟩, ⟨y0, y1, y2, y3, y4⟩, q0, q1⟩ := HC.out w' s0; go_simp
      with_reducible rfl
    rotate_left
    · simp only [Act.put, List.setIfInBounds_toArray, List.set_cons_zero, List.set_cons_succ]
      rfl
    refine RegH.takeH_ (i := 14) (N := (some 107)) (v := ?_) (a' := ?_) #[true, true, true, true, true, true, true, true, true, true, true, false, false, true, true, false, false, false, false, false, false, false, false, false, false, false, false, false, false, false] rfl rfl (by kernel_rfl) (by kernel_rfl) (by kernel_rfl) rfl (fun _ _ _ h => h) (Or.inl ⟨by rfl, ?_⟩) hHeld0 ?_ ?_
    rotate_left
    · rintro w' s0
      obtain ⟨⟨x0, x1, x2, x3, x4⟩, ⟨y0, y1, y2, y3, y4⟩, q0, q1⟩ := HC.out w' s0; go_simp
      with_reducible rfl
    rotate_left
    · simp only [Act.put, List.setIfInBounds_toArray, List.set_cons_zero, List.set_cons_succ]
      rfl
    refine RegH.oneH_ (i := 11) (N := (some 104)) #[true, true, true, true, true, true, true, true, true, true, true, true, false, true, true, false, false, false, false, false, false, false, false, false, false, false, false, false, false, false] rfl rfl (by kernel_rfl) rfl (fun K hK => ?_)
    refine Go.Proofs.YtmhglfidggjfdaaW.PrintLast.goes_ Try.func27 (by kernel_rfl) rfl #[.agg #[.int .i64 F', .int .i64 T', .int .i64 S', .int .i64 C', .slice A9 l'.length c9]] (by rfl) rfl rfl (by (try simp only [List.map_toArray, List.map_cons, List.map_nil]); first | done | rfl) ?_
    refine (HKP.out _ hHeld0).mono ?_
    rintro e w1 ⟨A1, c1, rfl, R1, hb1⟩
    refine ⟨_, rfl, ?_⟩
    have hB1 := Mem.bel_chain hHeld0 hb1
    have V1 := HCV.out _ _ _ R1
    refine hK.out _ _ (Mem.bel_chain hHeld0 hb1) (fun hHeld1 => ?_)
    clear hK K hHeld0
    refine RegH.heldMono (S' := fun w' => (Below XE.heap.size XE w') ∧ ((convert 38 9 (.slice A1 L c1)).run Try.prog w' = .ok (.string (strOfNums cs)) w')) (fun w' ⟨s0, s1⟩ => s0) _ _ _ _ ?_
    have h_0 := hHeld1
    have hHeld2 := And.intro h_0 (V1)
    clear h_0
    simp only [Act.put, List.setIfInBounds_toArray, List.set_cons_zero, List.set_cons_succ]
    refine RegH.takeH_ (i := 12) (N := (some 105)) (v := ?_) (a' := ?_) #[true, true, true, true, true, true, true, true, true, true, true, true, true, true, true, false, false, false, false, false, false, false, false, false, false, false, false, false, false, false] rfl rfl (by kernel_rfl) (by kernel_rfl) (by kernel_rfl) rfl (fun _ _ _ h => h) (Or.inl ⟨by rfl, ?_⟩) hHeld2 ?_ ?_
    rotate_left
    · rintro w' ⟨s0, s1⟩
      obtain ⟨⟨x0, x1, x2, x3, x4⟩, ⟨y0, y1, y2, y3, y4⟩, q0, q1⟩ := HC.out w' s0; go_simp
      with_reducible rfl
    rotate_left
    · simp only [Act.put, List.setIfInBounds_toArray, List.set_cons_zero, List.set_cons_succ]
      rfl
    refine RegH.takeH_ (i := 15) (N := (some 108)) (v := ?_) (a' := ?_) #[true, true, true, true, true, true, true, true, true, true, true, true, true, true, true, true, false, false, false, false, false, false, false, false, false, false, false, false, false, false] rfl rfl (by kernel_rfl) (by kernel_rfl) (by kernel_rfl) rfl (fun _ _ _ h => h) (Or.inl ⟨by rfl, ?_⟩) hHeld2 ?_ ?_
    rotate_left
    · rintro w' ⟨s0, s1⟩
      obtain ⟨⟨x0, x1, x2, x3, x4⟩, ⟨y0, y1, y2, y3, y4⟩, q0, q1⟩ := HC.out w' s0; go_simp
      with_reducible rfl
    rotate_left
    · simp only [Act.put, List.setIfInBounds_toArray, List.set_cons_zero, List.set_cons_succ]
      rfl
    refine RegH.takeH_ (i := 16) (N := (some 109)) (v := ?_) (a' := ?_) #[true, true, true, true, true, true, true, true, true, true, true, true, true, true, true, true, true, false, false, false, false, false, false, false, false, false, false, false, false, false] rfl rfl (by kernel_rfl) (by kernel_rfl) (by kernel_rfl) rfl (fun _ _ _ h => h) (Or.inl ⟨by rfl, ?_⟩) hHeld2 ?_ ?_
    rotate_left
    · rintro w' ⟨s0, s1⟩
      obtain ⟨⟨x0, x1, x2, x3, x4⟩, ⟨y0, y1, y2, y3, y4⟩, q0, q1⟩ := HC.out w' s0; go_simp
      with_reducible rfl
    rotate_left
    · simp only [Act.put, List.setIfInBounds_toArray, List.set_cons_zero, List.set_cons_succ]
      rfl
    refine RegH.takeH_ (i := 17) (N := (some 110)) (v := ?_) (a' := ?_) #[true, true, true, true, true, true, true, true, true, true, true, true, true, true, true, true, true, true, false, false, false, false, false, false, false, false, false, false, false, false] rfl rfl (by kernel_rfl) (by kernel_rfl) (by kernel_rfl) rfl (fun _ _ _ h => h) (Or.inl ⟨by rfl, ?_⟩) hHeld2 ?_ ?_
    rotate_left
    · rintro w' ⟨s0, s1⟩
      obtain ⟨⟨x0, x1, x2, x3, x4⟩, ⟨y0, y1, y2, y3, y4⟩, q0, q1⟩ := HC.out w' s0; go_simp
      with_reducible rfl
    rotate_left
    · simp only [Act.put, List.setIfInBounds_toArray, List.set_cons_zero, List.set_cons_succ]
      rfl
    refine RegH.takeH_ (i := 18) (N := (some 111)) (v := ?_) (a' := ?_) #[true, true, true, true, true, true, true, true, true, true, true, true, true, true, true, true, true, true, true, false, false, false, false, false, false, false, false, false, false, false] rfl rfl (by kernel_rfl) (by kernel_rfl) (by kernel_rfl) rfl (fun _ _ _ h => h) (Or.inl ⟨by rfl, ?_⟩) hHeld2 ?_ ?_
    rotate_left
    · rintro w' ⟨s0, s1⟩
      obtain ⟨⟨x0, x1, x2, x3, x4⟩, ⟨y0, y1, y2, y3, y4⟩, q0, q1⟩ := HC.out w' s0; go_simp
      with_reducible rfl
    rotate_left
    · simp only [Act.put, List.setIfInBounds_toArray, List.set_cons_zero, List.set_cons_succ]
      rfl
    refine RegH.takeH_ (i := 20) (N := (some 113)) (v := ?_) (a' := ?_) #[true, true, true, true, true, true, true, true, true, true, true, true, true, true, true, true, true, true, true, false, true, false, false, false, false, false, false, false, false, false] rfl rfl (by kernel_rfl) (by kernel_rfl) (by kernel_rfl) rfl (fun _ _ _ h => h) (Or.inl ⟨by rfl, ?_⟩) hHeld2 ?_ ?_
    rotate_left
    · rintro w' ⟨s0, s1⟩
      obtain ⟨⟨x0, x1, x2, x3, x4⟩, ⟨y0, y1, y2, y3, y4⟩, q0, q1⟩ := HC.out w' s0; go_simp
      with_reducible rfl
    rotate_left
    · simp only [Act.put, List.setIfInBounds_toArray, List.set_cons_zero, List.set_cons_succ]
      rfl
    refine RegH.takeH_ (i := 21) (N := (some 114)) (v := ?_) (a' := ?_) #[true, true, true, true, true, true, true, true, true, true, true, true, true, true, true, true, true, true, true, false, true, true, false, false, false, false, false, false, false, false] rfl rfl (by kernel_rfl) (by kernel_rfl) (by kernel_rfl) rfl (fun _ _ _ h => h) (Or.inl ⟨by rfl, ?_⟩) hHeld2 ?_ ?_
    rotate_left
    · rintro w' ⟨s0, s1⟩
      obtain ⟨⟨x0, x1, x2, x3, x4⟩, ⟨y0, y1, y2, y3, y4⟩, q0, q1⟩ := HC.out w' s0; go_simp
      with_reducible rfl
    rotate_left
    · simp only [Act.put, List.setIfInBounds_toArray, List.set_cons_zero, List.set_cons_succ]
      rfl
    refine RegH.takeH_ (i := 22) (N := (some 115)) (v := ?_) (a' := ?_) #[true, true, true, true, true, true, true, true, true, true, true, true, true, true, true, true, true, true, true, false, true, true, true, false, false, false, false, false, false, false] rfl rfl (by kernel_rfl) (by kernel_rfl) (by kernel_rfl) rfl (fun _ _ _ h => h) (Or.inl ⟨by rfl, ?_⟩) hHeld2 ?_ ?_
    rotate_left
    · rintro w' ⟨s0, s1⟩
      obtain ⟨⟨x0, x1, x2, x3, x4⟩, ⟨y0, y1, y2, y3, y4⟩, q0, q1⟩ := HC.out w' s0; go_simp
      with_reducible rfl
    rotate_left
    · simp only [Act.put, List.setIfInBounds_toArray, List.set_cons_zero, List.set_cons_succ]
      rfl
    refine RegH.takeH_ (i := 23) (N := (some 116)) (v := ?_) (a' := ?_) #[true, true, true, true, true, true, true, true, true, true, true, true, true, true, true, true, true, true, true, false, true, true, true, true, false, false, false, false, false, false] rfl rfl (by kernel_rfl) (by kernel_rfl) (by kernel_rfl) rfl (fun _ _ _ h => h) (Or.inl ⟨by rfl, ?_⟩) hHeld2 ?_ ?_
    rotate_left
    · rintro w' ⟨s0, s1⟩
      obtain ⟨⟨x0, x1, x2, x3, x4⟩, ⟨y0, y1, y2, y3, y4⟩, q0, q1⟩ := HC.out w' s0; go_simp
      with_reducible rfl
    rotate_left
    · simp only [Act.put, List.setIfInBounds_toArray, List.set_cons_zero, List.set_cons_succ]
      rfl
    refine RegH.takeH_ (i := 24) (N := (some 117)) (v := ?_) (a' := ?_) #[true, true, true, true, true, true, true, true, true, true, true, true, true, true, true, true, true, true, true, false, true, true, true, true, true, false, false, false, false, false] rfl rfl (by kernel_rfl) (by kernel_rfl) (by kernel_rfl) rfl (fun _ _ _ h => h) (Or.inl ⟨by rfl, ?_⟩) hHeld2 ?_ ?_
    rotate_left
    · rintro w' ⟨s0, s1⟩
      obtain ⟨⟨x0, x1, x2, x3, x4⟩, ⟨y0, y1, y2, y3, y4⟩, q0, q1⟩ := HC.out w' s0; go_simp
      with_reducible rfl
    rotate_left
    · simp only [Act.put, List.setIfInBounds_toArray, List.set_cons_zero, List.set_cons_succ]
      rfl
    refine RegH.oneH_ (i := 19) (N := (some 112)) #[true, true, true, true, true, true, true, true, true, true, true, true, true, true, true, true, true, true, true, true, true, true, true, true, true, false, false, false, false, false] rfl rfl (by kernel_rfl) rfl (fun K hK => ?_)
    refine Go.Proofs.YtmhglfidggjfdaaW.PrintLast.goes_ Try.func30 (by kernel_rfl) rfl #[.agg #[.int .i64 F', .int .i64 T', .int .i64 S', .int .i64 C', .slice A9 l'.length c9], .agg #[.int .i64 (T + 140), .int .i64 T, .int .i64 60, .int .i64 C, .slice A4 P c4]] (by rfl) rfl rfl (by (try simp only [List.map_toArray, List.map_cons, List.map_nil]); first | done | rfl) ?_
    refine (HKQ.out _ hB1).mono ?_
    rintro e w2 ⟨rfl, hb2⟩
    refine ⟨_, rfl, ?_⟩
    have hB2 := Mem.bel_chain hB1 hb2
    refine hK.out _ _ ⟨hB2, HCV.out _ _ _ (R1.below hb2)⟩ (fun hHeld3 => ?_)
    clear hK K hHeld2
    simp only [Act.put, List.setIfInBounds_toArray, List.set_cons_zero, List.set_cons_succ]
    refine RegH.takeH_ (i := 25) (N := (some 118)) (v := ?_) (a' := ?_) #[true, true, true, true, true, true, true, true, true, true, true, true, true, true, true, true, true, true, true, true, true, true, true, true, true, true, false, false, false, false] rfl rfl (by kernel_rfl) (by kernel_rfl) (by kernel_rfl) rfl (fun _ _ _ h => h) (Or.inl ⟨by rfl, ?_⟩) hHeld3 ?_ ?_
    rotate_left
    · rintro w' ⟨s0, s1⟩
      obtain ⟨⟨x0, x1, x2, x3, x4⟩, ⟨y0, y1, y2, y3, y4⟩, q0, q1⟩ := HC.out w' s0; go_simp
      with_reducible rfl
    rotate_left
    · simp only [Act.put, List.setIfInBounds_toArray, List.set_cons_zero, List.set_cons_succ]
      rfl
    refine RegH.takeH_ (i := 26) (N := (some 119)) (v := ?_) (a' := ?_) #[true, true, true, true, true, true, true, true, true, true, true, true, true, true, true, true, true, true, true, true, true, true, true, true, true, true, true, false, false, false] rfl rfl (by kernel_rfl) (by kernel_rfl) (by kernel_rfl) rfl (fun _ _ _ h => h) (Or.inl ⟨by rfl, ?_⟩) hHeld3 ?_ ?_
    rotate_left
    · rintro w' ⟨s0, s1⟩
      obtain ⟨⟨x0, x1, x2, x3, x4⟩, ⟨y0, y1, y2, y3, y4⟩, q0, q1⟩ := HC.out w' s0; go_simp
      with_reducible rfl
    rotate_left
    · simp only [Act.put, List.setIfInBounds_toArray, List.set_cons_zero, List.set_cons_succ]
      rfl
    refine RegH.takeH_ (i := 27) (N := (some 120)) (v := ?_) (a' := ?_) #[true, true, true, true, true, true, true, true, true, true, true, true, true, true, true, true, true, true, true, true, true, true, true, true, true, true, true, true, false, false] rfl rfl (by kernel_rfl) (by kernel_rfl) (by kernel_rfl) rfl (fun _ _ _ h => h) (Or.inl ⟨by rfl, ?_⟩) hHeld3 ?_ ?_
    rotate_left
    · rintro w' ⟨s0, s1⟩
      obtain ⟨⟨x0, x1, x2, x3, x4⟩, ⟨y0, y1, y2, y3, y4⟩, q0, q1⟩ := HC.out w' s0; go_simp
      with_reducible rfl
    rotate_left
    · simp only [Act.put, List.setIfInBounds_toArray, List.set_cons_zero, List.set_cons_succ]
      rfl
    refine RegH.takeH_ (i := 28) (N := (some 121)) (v := ?_) (a' := ?_) #[true, true, true, true, true, true, true, true, true, true, true, true, true, true, true, true, true, true, true, true, true, true, true, true, true, true, true, true, true, false] rfl rfl (by kernel_rfl) (by kernel_rfl) (by kernel_rfl) rfl (fun _ _ _ h => h) (Or.inl ⟨by rfl, ?_⟩) hHeld3 ?_ ?_
    rotate_left
    · rintro w' ⟨s0, s1⟩
      obtain ⟨⟨x0, x1, x2, x3, x4⟩, ⟨y0, y1, y2, y3, y4⟩, q0, q1⟩ := HC.out w' s0; go_simp
      with_reducible rfl
    rotate_left
    · simp only [Act.put, List.setIfInBounds_toArray, List.set_cons_zero, List.set_cons_succ]
      rfl
    refine RegH.takeH_ (i := 29) (N := (some 6)) (v := ?_) (a' := ?_) #[true, true, true, true, true, true, true, true, true, true, true, true, true, true, true, true, true, true, true, true, true, true, true, true, true, true, true, true, true, true] rfl rfl (by kernel_rfl) (by kernel_rfl) (by kernel_rfl) rfl (fun _ _ _ h => h) (Or.inl ⟨by rfl, ?_⟩) hHeld3 ?_ ?_
    rotate_left
    · rintro w' ⟨s0, s1⟩
      obtain ⟨⟨x0, x1, x2, x3, x4⟩, ⟨y0, y1, y2, y3, y4⟩, q0, q1⟩ := HC.out w' s0; go_simp
      with_reducible rfl
    rotate_left
    · simp only [Act.put, List.setIfInBounds_toArray, List.set_cons_zero, List.set_cons_succ]
      rfl
    refine RegH.doneH_ (by kernel_rfl) ?_
    refine NoPanic.normal ?_
    go_wp2
    go_ret
    exact ⟨by first | rfl | (show Ending.returned (.bool (D == ((strOfNums cs).toList == (strOfNums b).toList))) = _; rw [hsb]; cases D <;> rfl), Mem.bel_chain HBE.out hB2⟩
theorem back (w : World) (A0 : Option Addr) (c0 : Nat) (l : List Int) (t x : Int) (hr0 : BR w A0 c0 l) (hb0 : BytesIn l) (ht : 0 ≤ t ∧ t ≤ 65535) (hx : 0 ≤ x ∧ x ≤ 255) : Calls Try.prog 7 #[.slice A0 l.length c0, .int .u16 t, .int .u8 x] w fun e w' => e = .returned (.bool true) ∧ Below w.heap.size w w' := by
  by_cases h : 40 < (l.length : Int)
  · exact back_big w A0 c0 l t x h
  · exact back_any w A0 c0 l t x h hr0 hb0 ht hx
end Go.Proofs.Ytmhglfidggjfdaa.Bill
