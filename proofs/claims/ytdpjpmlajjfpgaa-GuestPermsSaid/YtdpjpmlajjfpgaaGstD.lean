/- One loads just with Read, stores just with Write, and a fault turns nothing: GuestPerms walked. -/
import Derived.Test.YtdpjpmlajjfpgaaGstC
namespace Go.Proofs.Ytdpjpmlajjfpgaa.Ram
open Go.RowKit Go.Proofs.Ytdpjpmlajjfpgaa.Mem Go.Proofs.Ytdpjpmlajjfpgaa.Kept Go.Proofs.Ytdpjpmlajjfpgaa.Slo Go.Proofs.Ytdpjpmlajjfpgaa.Bits
open Go.Proofs.Ytdpjpmlajjfpgaa.PWalkAll
set_option linter.unusedVariables false
set_option linter.unusedSimpArgs false
/-- The tables say page 77. -/
def Tb (q : Int) (F : List Int) : Prop := F.length = 40 * 128 ∧ ent 40 10 F 0 0 = (1, 1, 0, 0) ∧ ent 40 10 F 1 4 = (1, 2, 0, 0) ∧ ent 40 10 F 2 13 = (2, 30, q, 0)
theorem tb_set {q : Int} (hq : 1 ≤ q ∧ q ≤ 7) : Tb q (setF 77 30 q false) := by
  have z : (List.replicate (40 * 128) (0 : Int)).length = 40 * 128 := List.length_replicate
  have hs : setF 77 30 q false = swF 40 10 (swF 40 10 (swF 40 10 (List.replicate (40 * 128) 0) true 0 0 4097) true 1 4 8193) true 2 13 (2 + 4 * q + 4096 * 30) := rfl
  have w0 : mayW 40 10 true 0 0 = true := by decide
  have w1 : mayW 40 10 true 1 4 = true := by decide
  have w2 : mayW 40 10 true 2 13 = true := by decide
  have tq : tk (2 + 4 * q + 4096 * 30) = (2, 30, q, 0) := tk_put (a := 2) (b := 30) (c := q) (by simp [mayB]; omega)
  have v2 : 0 ≤ 2 + 4 * q + 4096 * 30 ∧ 2 + 4 * q + 4096 * 30 ≤ 18446744073709551615 := by omega
  rw [hs]
  refine ⟨swF_len (swF_len (swF_len z)), ?_, ?_, ?_⟩
  · rw [ent_sw (swF_len (swF_len z)) w2 v2, if_neg (fun e => absurd e.1 (by decide)), ent_sw (swF_len z) w1 (by decide), if_neg (fun e => absurd e.1 (by decide)), ent_sw z w0 (by decide), if_pos ⟨rfl, rfl⟩]
    decide
  · rw [ent_sw (swF_len (swF_len z)) w2 v2, if_neg (fun e => absurd e.1 (by decide)), ent_sw (swF_len z) w1 (by decide), if_pos ⟨rfl, rfl⟩]
    decide
  · rw [ent_sw (swF_len (swF_len z)) w2 v2, if_pos ⟨rfl, rfl⟩, tq]
theorem tb_sw {q : Int} {F : List Int} (h : Tb q F) {k v : Int} (hk : 0 ≤ k ∧ k < 16) (hv : 0 ≤ v ∧ v ≤ 18446744073709551615) : Tb q (swF 40 10 F true 30 k v) := by
  obtain ⟨h0, h1, h2, h3⟩ := h
  have w : mayW 40 10 true 30 k = true := mayW_mk (by decide) (by decide) hk.1 hk.2
  refine ⟨swF_len h0, ?_, ?_, ?_⟩
  · rw [ent_sw h0 w hv, if_neg (fun e => absurd e.1 (by decide)), h1]
  · rw [ent_sw h0 w hv, if_neg (fun e => absurd e.1 (by decide)), h2]
  · rw [ent_sw h0 w hv, if_neg (fun e => absurd e.1 (by decide)), h3]
theorem tb_wk {q : Int} {F : List Int} (h : Tb q F) : wk 40 10 F 0 77 = (30, q, 3, 0) := by
  obtain ⟨h0, h1, h2, h3⟩ := h
  unfold wk
  rw [if_pos (by decide), show (77 : Int) / 256 = 0 from rfl, show (77 : Int) / 16 % 16 = 4 from rfl, show (77 : Int) % 16 = 13 from rfl, h1]
  simp only [if_true]
  rw [h2]
  simp only [show ((1 : Int) = 3) = False by simp, if_false, if_true]
  rw [h3]
  simp only [if_true]
  unfold lf
  rw [if_pos (by decide)]
theorem tb_at {q r : Int} {F : List Int} (h : Tb q F) {k : Int} (hk : 0 ≤ k ∧ k < 16) : gAt 40 10 F 0 77 k r = if bits .and .i64 q r = 0 then (0, -20) else (30, 0) := by
  unfold gAt
  rw [tb_wk h]
  by_cases hr : bits .and .i64 q r = 0
  · rw [if_pos hr, if_neg (fun e => e.2.2.2 hr)]
  · rw [if_neg hr, if_pos ⟨hk.1, hk.2, rfl, hr⟩]
theorem wd_30 {F : List Int} {k v : Int} (hF : F.length = 40 * 128) (hk : 0 ≤ k ∧ k < 16) (hv : 0 ≤ v ∧ v ≤ 18446744073709551615) : wdV 40 10 (swF 40 10 F true 30 k v) true 30 k = v := by
  have w : mayW 40 10 true 30 k = true := mayW_mk (by decide) (by decide) hk.1 hk.2
  rw [wd_sw hF w w hv, if_pos ⟨rfl, rfl⟩]
theorem we_30 {k : Int} (hk : 0 ≤ k ∧ k < 16) : wdE 40 10 true 30 k = 0 := by
  unfold wdE
  rw [if_pos (mayW_mk (by decide) (by decide) hk.1 hk.2)]
theorem tb_load {q : Int} {F : List Int} (h : Tb q F) {k v : Int} (hk : 0 ≤ k ∧ k < 16) (hv : 0 ≤ v ∧ v ≤ 18446744073709551615) : gLoad 40 10 (swF 40 10 F true 30 k v) 0 77 k = if bits .and .i64 q 1 = 0 then (0, -20) else (v, 0) := by
  unfold gLoad
  rw [tb_at (tb_sw h hk hv) hk]
  by_cases hr : bits .and .i64 q 1 = 0
  · rw [if_pos hr, if_pos hr]; rfl
  · rw [if_neg hr, if_neg hr]
    simp only [if_true]
    rw [wd_30 h.1 hk hv, we_30 hk]
theorem tb_store {q : Int} {F : List Int} (h : Tb q F) {k u : Int} (hk : 0 ≤ k ∧ k < 16) : gStore 40 10 F 0 77 k u = if bits .and .i64 q 2 = 0 then (F, -20) else (swF 40 10 F true 30 k u, 0) := by
  unfold gStore
  rw [tb_at h hk]
  by_cases hr : bits .and .i64 q 2 = 0
  · rw [if_pos hr, if_pos hr]; rfl
  · rw [if_neg hr, if_neg hr]
    simp only [if_true]
    rw [we_30 hk]
theorem bits_q : ∀ q : Nat, q < 8 → (bits .and .i64 (q : Int) 1 = 0 ∨ bits .and .i64 (q : Int) 1 = 1) ∧ (bits .and .i64 (q : Int) 2 = 0 ∨ bits .and .i64 (q : Int) 2 = 2) := by decide +kernel
set_option maxRecDepth 100000 in
set_option maxHeartbeats 16000000 in
theorem perms (W : World) (a c v u : Int) (ha : 0 ≤ a ∧ a ≤ 255) (hc : 0 ≤ c ∧ c ≤ 255) (hv : 0 ≤ v ∧ v ≤ 18446744073709551615) (hu : 0 ≤ u ∧ u ≤ 18446744073709551615) :
    Calls Try.prog 11 #[.int .u8 a, .int .u8 c, .int .u64 v, .int .u64 u] W fun e w' => e = .returned (.bool true) ∧ Below W.heap.size W w' := by
  obtain ⟨q0, hq0⟩ : ∃ z, a.tmod 7 = z := ⟨_, rfl⟩
  obtain ⟨k, hk⟩ : ∃ z, c.tmod 16 = z := ⟨_, rfl⟩
  have hq0' : a % 7 = q0 := by rw [← hq0, Int.tmod_eq_emod_of_nonneg ha.1]
  have hk' : c % 16 = k := by rw [← hk, Int.tmod_eq_emod_of_nonneg hc.1]
  have hkb : 0 ≤ k ∧ k < 16 := by omega
  obtain ⟨q, hq⟩ : ∃ z, 1 + q0 = z := ⟨_, rfl⟩
  have hqb : 1 ≤ q ∧ q ≤ 7 := by omega
  have hqw : IntKind.i64.wrap (1 + q0) = q := by rw [hq]; exact IntWalk.i64_in _ (by omega)
  have hqw2 : wrap64 (1 + q0) = q := by rw [hq]; unfold wrap64; omega
  obtain ⟨F0, hF0⟩ : ∃ z, setF 77 30 q false = z := ⟨_, rfl⟩
  have T0 := tb_set hqb
  have M0 := setF_mem (page := 77) (f := 30) (q := q) (bl := false) (by omega) (by omega)
  have HS : Hid (∀ w, Calls Try.prog 36 #[.int .i64 77, .int .i64 30, .int .i64 q, .bool false] w fun e w' => ∃ g b g' R, e = .returned (.tuple #[.pointer (some ⟨g, 0, none⟩), .pointer (some ⟨g', 0, none⟩)]) ∧ Is w' w.heap.size g b 40 F0 10 ∧ RIs w' w.heap.size g' R 40 F0 10 ∧ Below w.heap.size w w') :=
    Lib.hid (fun w => by rw [← hF0]; exact set_false w 77 30 q (by decide) (by decide) hqb)
  rw [hF0] at T0 M0
  obtain ⟨F1, hF1⟩ : ∃ z, swF 40 10 F0 true 30 k v = z := ⟨_, rfl⟩
  have T1 := tb_sw T0 hkb hv
  have M1 := swF_mem (n := 40) (s := 10) (sec := true) (f := 30) (k := k) M0 hv.1
  have L1 := tb_load T0 hkb hv
  have S1 := tb_store (u := u) (tb_sw T0 hkb hv) hkb
  have D1 := wd_30 T0.1 hkb hv
  have D2 := wd_30 (v := u) (swF_len (n := 40) (s := 10) (f := 30) (k := k) (v := v) T0.1) hkb hu
  have E1 := we_30 hkb
  rw [hF1] at T1 M1 L1 S1 D1 D2
  have hb1 := (bits_q q.toNat (by omega)).1
  have hb2 := (bits_q q.toNat (by omega)).2
  rw [show ((q.toNat : Nat) : Int) = q by omega] at hb1 hb2
  have HF0 := Lib.hid hF0
  have HF1 := Lib.hid hF1
  have HV := Lib.hid hv
  have HU := Lib.hid hu
  have HM0 := Lib.hid M0
  have HM1 := Lib.hid M1
  have HD1 := Lib.hid D1
  have HD2 := Lib.hid D2
  have HE1 := Lib.hid E1
  clear T0 T1 hqb hkb hF0 hF1 M0 M1 D1 D2 E1 hv hu hq
  rcases hb1 with h1 | h1 <;> rcases hb2 with h2 | h2
  all_goals
    first | rw [if_pos h1] at L1 | rw [if_neg (by rw [h1]; decide)] at L1
    first | rw [if_pos h2] at S1 | rw [if_neg (by rw [h2]; decide)] at S1
    have HL1 := Lib.hid L1
    have HS1 := Lib.hid S1
    clear L1 S1
    go_enter Try.func11, Try.ntmps11
    go_wp2_with (first
      | (go_at_call 35; refine (gbegun _).mono ?_; rintro e w1 ⟨rfl, hb1⟩)
      | (go_at_call 36; with_reducible refine (HS.out _).mono ?_; rintro e w2 ⟨g, b, g', R, rfl, H2, _, hb2⟩; have hB := hb1.size; have bel2 := bel_chain hb1 hb2)
      | (go_at_call 29; with_reducible refine (setWord_any H2 true 30 k v HV.out).mono ?_; rintro e w3 ⟨rfl, H3, k3⟩; rw [HF1.out] at H3; have bel3 := bel_own bel2 H2 hB k3)
      | (go_at_call 37; with_reducible refine (gload_nil H3 HM1.out 0 77 k _ _ HL1.out).mono ?_; rintro e w4 ⟨rfl, hb4⟩; have H4 := H3.below hb4; have bel4 := bel_chain bel3 hb4)
      | (go_at_call 38; with_reducible refine (gstore_nil (W0 := W) H4 HM1.out 0 77 k u _ HU.out HS1.out hB bel4).mono ?_; rintro e w5 ⟨rfl, H5, bel5⟩)
      | (go_at_call 39; with_reducible refine (get_any H5 true 30 k (by first | exact HM1.out | exact swF_mem HM1.out HU.out.1)).mono ?_; (first | rw [HD1.out, HE1.out] | rw [HD2.out, HE1.out]); rintro e w6 ⟨rfl, rfl⟩)
      | fail)
    go_ret
    exact ⟨rfl, bel5⟩
end Go.Proofs.Ytdpjpmlajjfpgaa.Ram
