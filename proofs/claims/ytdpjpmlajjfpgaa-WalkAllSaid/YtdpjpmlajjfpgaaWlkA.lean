/- Where pages lie, through any words: what the program and the reference say of the same words. -/
import Derived.Test.YtdpjpmlajjfpgaaRWlk
import Derived.Deep.RegionHeld3
import Derived.Deep.DeepCutAuto
namespace Go.Proofs.Ytdpjpmlajjfpgaa.Ram
open Go.RowKit Go.Proofs.Ytdpjpmlajjfpgaa.Mem Go.Proofs.Ytdpjpmlajjfpgaa.Kept Go.Proofs.Ytdpjpmlajjfpgaa.Slo Go.Proofs.Ytdpjpmlajjfpgaa.Bits
open Go.Proofs.Ytdpjpmlajjfpgaa.PWalkAll
open Go.Proofs.YtdpjpmlajjfpgaaW.PrintWords (nums ReadsInt results_ct results_ctt gate_dst box_event)
set_option linter.unusedVariables false
set_option linter.unusedSimpArgs false
theorem rnew_w (w : World) (f s : Int) (N : Nat) (S : Int) (hN : frames f = N) (hS : secures f s = S) : Calls Try.prog 27 #[.int .i64 f, .int .i64 s] w fun e w' => ∃ g R, e = .returned (.pointer (some ⟨g, 0, none⟩)) ∧ RIs w' w.heap.size g R N (List.replicate (N * 128) 0) S ∧ Below w.heap.size w w' := by
  subst hN hS
  exact (rnew_any w f s).mono fun e w' h => h
theorem rwalk_i {w : World} {B g n : Nat} {R : Option Nat} {F : List Int} {s : Int} (h : RIs w B g R n F s) (hF : ∀ x ∈ F, 0 ≤ x ∧ x ≤ 255) (root page f p l E : Int) (hr : wk n s F root page = (f, p, l, E)) :
    Calls Try.prog 32 #[.pointer (some ⟨g, 0, none⟩), .int .i64 root, .int .i64 page] w fun e w' => e = .returned (.tuple #[.agg #[.int .i64 f, .int .i64 p], .int .i64 l, .int .i64 E]) ∧ Below w.heap.size w w' :=
  (rwalk_any h hF root page).mono fun e w' h => by rw [hr] at h; exact h
theorem wblk_type {w : World} {a b : Nat} {cs cs' : Array Value} {t t' : TypeId} (h : w.heap[a]? = some (.cells cs t (0, 0))) (h' : w.heap[b]? = some (.cells cs' t' (0, 0))) (hne : t ≠ t') : a ≠ b := by
  intro e
  rw [e, h'] at h
  injection h with h
  injection h with _ h
  exact hne h.symm
/-- The program's frames, the reference's, and the slot at block X. -/
structure Sx (w0 w : World) (B g b n : Nat) (F : List Int) (s : Int) (B' g' : Nat) (R : Option Nat) (F' : List Int) (X : Nat) (C : Array Value) : Prop where
  p : Is w B g b n F s
  r : RIs w B' g' R n F' s
  x : w.heap[X]? = some (.cells C 51 (0, 0))
  bel : Below w0.heap.size w0 w
  hB : w0.heap.size ≤ B
  hB' : w0.heap.size ≤ B'
section
variable {w0 w w1 : World} {B g b n : Nat} {F F2 F' : List Int} {s : Int} {B' g' : Nat} {R : Option Nat} {X : Nat} {C : Array Value}
theorem Sx.below (h : Sx w0 w B g b n F s B' g' R F' X C) (hb : Below w.heap.size w w1) : Sx w0 w1 B g b n F s B' g' R F' X C :=
  ⟨h.p.below hb, h.r.below hb, blk_below h.x hb, bel_chain h.bel hb, h.hB, h.hB'⟩
theorem Sx.drew (h : Sx w0 w B g b n F s B' g' R F' X C) : Sx w0 w.drew B g b n F s B' g' R F' X C :=
  h.below (bel_drew (Below.refl _ _))
theorem Sx.prog (h : Sx w0 w B g b n F s B' g' R F' X C) (hp : Is w1 B g b n F2 s) (hk : Kept w w1 (fun j => 0 < n ∧ j = b)) : Sx w0 w1 B g b n F2 s B' g' R F' X C := by
  refine ⟨hp, ris_other h.p h.r hk, hk.blk h.x (fun ⟨hn, e⟩ => ?_), bel_own h.bel h.p h.hB hk, h.hB, h.hB'⟩
  obtain ⟨A, c, cur, _, _, _, _, _, _, _, h8⟩ := h.p
  exact absurd e (wblk_type h.x (h8 hn).2.2.1 (by decide))
theorem Sx.ref (h : Sx w0 w B g b n F s B' g' R F' X C) (hr : RIs w1 B' g' R n F2 s) (hk : Kept w w1 (fun j => R = some j)) : Sx w0 w1 B g b n F s B' g' R F2 X C := by
  refine ⟨is_other h.p h.r hk, hr, hk.blk h.x (fun e => ?_), bel_rown h.bel h.r h.hB' hk, h.hB, h.hB'⟩
  obtain ⟨A, c, _, _, _, _, ho, hR⟩ := h.r
  rw [← hR] at e
  obtain ⟨_, _, cs, h5⟩ := own_lt ho e
  exact absurd rfl (wblk_type h.x h5 (by decide))
theorem Sx.set (h : Sx w0 w B g b n F s B' g' R F' X C) (hX : w0.heap.size ≤ X) (i : Nat) (u : Value) {C' : Array Value} (hC : (w.setCell ⟨X, i, none⟩ u).heap[X]? = some (.cells C' 51 (0, 0))) : Sx w0 (w.setCell ⟨X, i, none⟩ u) B g b n F s B' g' R F' X C' := by
  have hk : Kept w (w.setCell ⟨X, i, none⟩ u) (fun j => j = X) := kept_set (S := fun j => j = X) (kept_refl _ _) rfl i u
  refine ⟨h.p.kept hk ?_ (fun hn => ?_), h.r.kept hk ?_ (fun k hR => ?_), hC, h.bel.setCell hX _, h.hB, h.hB'⟩
  · obtain ⟨A, c, cur, h1, _⟩ := h.p
    exact fun e => absurd rfl (wblk_type (e ▸ h.x) h1 (by decide))
  · obtain ⟨A, c, cur, _, _, _, _, _, _, _, h8⟩ := h.p
    exact fun e => absurd e.symm (wblk_type h.x (h8 hn).2.2.1 (by decide))
  · obtain ⟨A, c, h1, _⟩ := h.r
    exact fun e => absurd rfl (wblk_type (e ▸ h.x) h1 (by decide))
  · obtain ⟨A, c, _, _, _, _, ho, hR'⟩ := h.r
    rw [← hR'] at hR
    obtain ⟨_, _, cs, h5⟩ := own_lt ho hR
    exact fun e => absurd e.symm (wblk_type h.x h5 (by decide))
end
/-- Both memories, with nothing beside. -/
structure Tw (w0 w : World) (B g b n : Nat) (F : List Int) (s : Int) (B' g' : Nat) (R : Option Nat) : Prop where
  p : Is w B g b n F s
  r : RIs w B' g' R n F s
  bel : Below w0.heap.size w0 w
  m : ∀ x ∈ F, 0 ≤ x ∧ x ≤ 255
theorem Tw.below {w0 w w1 : World} {B g b n : Nat} {F : List Int} {s : Int} {B' g' : Nat} {R : Option Nat} (h : Tw w0 w B g b n F s B' g' R) (hb : Below w.heap.size w w1) : Tw w0 w1 B g b n F s B' g' R :=
  ⟨h.p.below hb, h.r.below hb, bel_chain h.bel hb, h.m⟩
/-- Four bytes in a row of them. -/
def Four (w : World) (bl o : Nat) : Prop := ∃ b0 b1 b2 b3 : Int, w.cell? ⟨bl, o, none⟩ = some (.int .u8 b0) ∧ w.cell? ⟨bl, o + 1, none⟩ = some (.int .u8 b1) ∧ w.cell? ⟨bl, o + 2, none⟩ = some (.int .u8 b2) ∧ w.cell? ⟨bl, o + 3, none⟩ = some (.int .u8 b3) ∧ (0 ≤ b0 ∧ b0 ≤ 255) ∧ (0 ≤ b1 ∧ b1 ≤ 255) ∧ (0 ≤ b2 ∧ b2 ≤ 255) ∧ (0 ≤ b3 ∧ b3 ≤ 255)
set_option maxRecDepth 100000 in
set_option maxHeartbeats 16000000 in
theorem walks_all (w : World) (bl ol len cap : Nat) (root page : Int) (a : Option Addr) (ha : 0 < len → a = some ⟨bl, ol, none⟩) (hl : len ≤ 40) (hcap : len ≤ cap) (hd : ∀ i, i < len → Four w bl (ol + i * 4)) :
    Calls Try.prog 7 #[.slice a len cap, .int .i64 root, .int .i64 page] w fun e w' => e = .returned (.bool true) ∧ Below w.heap.size w w' := by
  have hb := Below.refl w.heap.size w
  have hu51 := Try.underlying51
  have hu58 := Try.underlying58
  have hl1 : ¬ (40 : Int) < (len : Int) := by omega
  have d1 : decide ((40 : Int) < (len : Int)) = false := decide_eq_false hl1
  have HD := Lib.hid hd
  clear hd
  go_enter Try.func7, Try.ntmps7
  go_wp2_with (first
    | (go_at_call 25; (with_reducible refine (wbegun _).mono ?_); rintro e w1 ⟨rfl, hb1⟩; replace hb := bel_chain hb hb1; clear hb1)
    | (go_at_call 26; (with_reducible refine (new_i w1 12 6 12 6 (by decide) (by decide)).mono ?_); rintro e w2 ⟨g, b, rfl, H0, hb2⟩; have hB := hb.size; replace hb := bel_chain hb hb2; clear hb2)
    | (go_at_call 27; (with_reducible refine (rnew_w w2 12 6 12 6 (by decide) (by decide)).mono ?_); rintro e w3 ⟨g', R, rfl, R0, hb2⟩; have hB' := hb.size; have T0 : Hid (Tw w w3 w1.heap.size g b 12 (List.replicate (12 * 128) 0) 6 w2.heap.size g' R) := Lib.hid ⟨H0.below hb2, R0, bel_chain hb hb2, mem_zero⟩; clear hb2 hb H0 R0)
    | fail)
  go_loopw [9] (fun i wr => ∃ (k : Nat) (F : List Int), k ≤ len ∧ i = .int .i64 k ∧ Hid (Tw w wr w1.heap.size g b 12 F 6 w2.heap.size g' R)) (fun i _ => len - (intOf i).toNat)
  case atStart => exact ⟨0, _, by omega, rfl, T0⟩
  case round =>
    clear T0
    obtain ⟨k, F, hk, rfl, HT⟩ := hrel
    by_cases hlt : k < len
    · have ea := ha (by omega)
      subst ea
      obtain ⟨b0, b1, b2, b3, c0, c1, c2, c3, r0, r1, r2, r3⟩ := HD.out k hlt
      have C0 := Lib.hid c0
      have C1 := Lib.hid c1
      have C2 := Lib.hid c2
      clear c0 c1
      replace c2 := cell_below c2 HT.out.bel
      replace c3 := cell_below c3 HT.out.bel
      have n2 := World.new_ne wr ⟨bl, ol + k * 4 + 2, none⟩ c2
      have n3 := World.new_ne wr ⟨bl, ol + k * 4 + 3, none⟩ c3
      go_upto_region 9 with (fail)
      obtain ⟨K, hK⟩ : ∃ K, Int.tmod b2 4 = K := ⟨_, rfl⟩
      obtain ⟨f0, hf0⟩ : ∃ K, Int.tmod b3 14 = K := ⟨_, rfl⟩
      have hK' : b2 % 4 = K := by rw [← hK, Int.tmod_eq_emod_of_nonneg r2.1]
      have wK : IntKind.u8.wrap K = K := by rw [← hK']; exact IntWalk.u8_in _ (by omega)
      have wf0 : IntKind.u8.wrap f0 = f0 := by rw [← hf0, Int.tmod_eq_emod_of_nonneg r3.1]; exact IntWalk.u8_in _ (by omega)
      have hK2 : 0 ≤ K ∧ K ≤ 3 := by omega
      have hf2 : 0 ≤ f0 ∧ f0 ≤ 13 := by rw [← hf0, Int.tmod_eq_emod_of_nonneg r3.1]; omega
      have vK : IntKind.i64.wrap K = K := IntWalk.i64_in _ (by omega)
      have vf0 : IntKind.i64.wrap f0 = f0 := IntWalk.i64_in _ (by omega)
      go_region_held3 (fun W' => W'.cell? ⟨bl, ol + k * 4 + 2, none⟩ = some (.int .u8 b2) ∧ W'.cell? ⟨bl, ol + k * 4 + 3, none⟩ = some (.int .u8 b3)) (go_keep) (fail)
      have HS : Hid (Sx w ((wr.alloc (.cells #[.int .i64 K, .int .i64 f0, .int .i64 0] 51)).drew) w1.heap.size g b 12 F 6 w2.heap.size g' R F wr.heap.size #[.int .i64 K, .int .i64 f0, .int .i64 0]) :=
        Lib.hid (Sx.drew ⟨HT.out.p.below (bel_alloc (Below.refl _ _) _), HT.out.r.below (bel_alloc (Below.refl _ _) _), blk_new _ _, bel_alloc HT.out.bel _, hB, hB'⟩)
      have hX : w.heap.size ≤ wr.heap.size := HT.out.bel.size
      have HM := Lib.hid HT.out.m
      clear c2 c3
      have HK2 := Lib.hid hK2
      have HF2 := Lib.hid hf2
      obtain ⟨X, hXe⟩ : ∃ X, wr.heap.size = X := ⟨_, rfl⟩
      rw [hXe] at HS hX
      go_upto_if 65 with (fail)
      (try rw [hK'])
      (try rw [hXe])
      go_cut [] (fun wc => ∃ f, (0 ≤ f ∧ f ≤ 13 ∧ (K = 0 → f = 0)) ∧ Hid (Sx w wc w1.heap.size g b 12 F 6 w2.heap.size g' R F X #[.int .i64 K, .int .i64 f, .int .i64 0]))
      case first =>
        obtain ⟨⟨x0, x1, x2⟩, s0, s1, s2⟩ := cells3 HS.out.x
        by_cases hK0 : K = 0
        · subst hK0
          clear hK
          go_wp2
          go_meet
          case rel => exact ⟨0, by omega, Lib.hid (hXe ▸ Sx.drew ⟨HT.out.p.below (bel_alloc (Below.refl _ _) _), HT.out.r.below (bel_alloc (Below.refl _ _) _), blk_new _ _, bel_alloc HT.out.bel _, hB, hB'⟩)⟩
        · have q1 : (K == 0) = false := beq_eq_false_iff_ne.mpr hK0
          have hf2 := HF2.out
          go_wp2
          go_meet
          case rel => exact ⟨f0, by omega, HS⟩
      case rest =>
      obtain ⟨f, hf, HS'⟩ := hcut
      replace HS := HS'
      clear HS' hf0 wf0 hf2 vf0 n2 n3
      have hf1 := hf.1
      have HF1 := Lib.hid hf
      obtain ⟨⟨x0, x1, x2⟩, s0, s1, s2⟩ := cells3 HS.out.x
      have c2 := cell_below C2.out HS.out.bel
      go_upto_if 69 with (fail)
      go_cut [] (fun wc => ∃ q, (0 ≤ q ∧ q ≤ 7 ∧ mayB K f q = true) ∧ Hid (Sx w wc w1.heap.size g b 12 F 6 w2.heap.size g' R F X #[.int .i64 K, .int .i64 f, .int .i64 q]))
      case first =>
        by_cases hK2 : 2 ≤ K
        · have q1 : decide (2 ≤ K) = true := decide_eq_true hK2
          obtain ⟨z, hz⟩ : ∃ z, Int.tmod (b2 / 4) 7 = z := ⟨_, rfl⟩
          have hz' : Int.tmod (Int.tdiv b2 4) 7 = z := by rw [← hz, Int.tdiv_eq_ediv_of_nonneg r2.1]
          have hz1 : 0 ≤ z ∧ z ≤ 6 := by rw [← hz, Int.tmod_eq_emod_of_nonneg (by omega)]; omega
          have uz : IntKind.u8.wrap z = z := IntWalk.u8_in _ (by omega)
          have uq : IntKind.u8.wrap (b2 / 4) = b2 / 4 := IntWalk.u8_in _ (by omega)
          have vz : IntKind.i64.wrap z = z := IntWalk.i64_in _ (by omega)
          have vz1 : IntKind.i64.wrap (1 + z) = 1 + z := IntWalk.i64_in _ (by omega)
          have hm : mayB K f (1 + z) = true := by
            have hk := HK2.out
            have : K = 2 ∨ K = 3 := by omega
            rcases this with rfl | rfl <;> simp [mayB] <;> omega
          have HMY := Lib.hid hm
          clear hm hK
          go_wp2
          go_meet
          case rel => exact ⟨1 + z, ⟨by omega, by omega, HMY.out⟩, Lib.hid (HS.out.set hX 2 _ (blk_set HS.out.x 2 _))⟩
        · have q1 : decide (2 ≤ K) = false := decide_eq_false hK2
          have hm : mayB K f 0 = true := by
            have hk := HK2.out
            have hf9 := HF1.out
            have : K = 0 ∨ K = 1 := by omega
            rcases this with rfl | rfl
            · rw [hf9.2.2 rfl]; rfl
            · simp [mayB]; omega
          have HMY := Lib.hid hm
          clear hm hK
          go_wp2
          go_meet
          case rel => exact ⟨0, ⟨by omega, by omega, HMY.out⟩, HS⟩
      case rest =>
      obtain ⟨q, hq, HS'⟩ := hcut
      replace HS := HS'
      clear HS'
      have HQ := Lib.hid hq
      clear x0 x1 x2 s0 s1 s2 c2 hq
      obtain ⟨⟨x0, x1, x2⟩, s0, s1, s2⟩ := cells3 HS.out.x
      go_upto_if 87 with (first
        | (go_at_call 28; (with_reducible refine (slot_any _ K f q _ HQ.out.2.2 rfl).mono ?_); rintro e w4 ⟨rfl, hb4⟩; replace HS := Lib.hid (HS.out.below hb4); have c2 := cell_below C2.out HS.out.bel; clear hb4)
        | fail)
      have hv0 : 0 ≤ K + 4 * q + 4096 * f ∧ K + 4 * q + 4096 * f ≤ 65536 := by
        have h1 := HK2.out
        have h2 := HF1.out
        have h3 := HQ.out
        omega
      have hv1 : IntKind.u64.wrap (K + 4 * q + 4096 * f + 1099511627776) = K + 4 * q + 4096 * f + 1099511627776 := IntWalk.u64_in _ (by omega)
      obtain ⟨v0, hv2⟩ : ∃ v, K + 4 * q + 4096 * f = v := ⟨_, rfl⟩
      rw [hv2] at hv0 hv1 ⊢
      have HV0 := Lib.hid hv0
      clear hv2 hv0 x0 x1 x2 s0 s1 s2
      go_cut [11] (fun v11 wc => ∃ v, (0 ≤ v ∧ v ≤ 18446744073709551615) ∧ v11 = .int .u64 v ∧ Hid (Sx w wc w1.heap.size g b 12 F 6 w2.heap.size g' R F X #[.int .i64 K, .int .i64 f, .int .i64 q]))
      case first =>
        by_cases hbig : 250 < b2
        · have q1 : decide (250 < b2) = true := decide_eq_true hbig
          have hv0 := HV0.out
          go_wp2
          go_meet
          case rel => exact ⟨_, by omega, rfl, HS⟩
        · have q1 : decide (250 < b2) = false := decide_eq_false hbig
          have hv0 := HV0.out
          go_wp2
          go_meet
          case rel => exact ⟨_, by omega, rfl, HS⟩
      case rest =>
      obtain ⟨v, hv, rfl, HS'⟩ := hcut
      replace HS := HS'
      clear HS' hv1 c2
      have HV := Lib.hid hv
      clear hv
      obtain ⟨i0, hi0⟩ : ∃ z, Int.tmod b0 12 = z := ⟨_, rfl⟩
      obtain ⟨j0, hj0⟩ : ∃ z, Int.tmod b1 16 = z := ⟨_, rfl⟩
      have hj0' : b1 % 16 = j0 := by rw [← hj0, Int.tmod_eq_emod_of_nonneg r1.1]
      have hi1 : 0 ≤ i0 ∧ i0 ≤ 11 := by rw [← hi0, Int.tmod_eq_emod_of_nonneg r0.1]; omega
      have hj1 : 0 ≤ j0 ∧ j0 ≤ 15 := by omega
      have ui : IntKind.u8.wrap i0 = i0 := IntWalk.u8_in _ (by omega)
      have uj : IntKind.u8.wrap j0 = j0 := IntWalk.u8_in _ (by omega)
      have vi : IntKind.i64.wrap i0 = i0 := IntWalk.i64_in _ (by omega)
      have vj : IntKind.i64.wrap j0 = j0 := IntWalk.i64_in _ (by omega)
      go_upto_region 17 with (fail)
      have e0 := cell_below C0.out HS.out.bel
      have e1 := cell_below C1.out HS.out.bel
      go_region_held3 (fun W' => W'.cell? ⟨bl, ol + k * 4, none⟩ = some (.int .u8 b0) ∧ W'.cell? ⟨bl, ol + k * 4 + 1, none⟩ = some (.int .u8 b1)) (first | exact ⟨e0, e1⟩ | exact ⟨d0, d1⟩) (first | (go_at_call 29; refine (setWord_any (HS.out.drew).p true i0 j0 v HV.out).mono ?_; rintro e w5 ⟨rfl, H5, k5⟩; have T5 := (HS.out.drew).prog H5 k5; have d0 := cell_below C0.out T5.bel; have d1 := cell_below C1.out T5.bel))
      replace HS := Lib.hid T5
      clear T5 H5 k5 d0 d1 e0 e1
      go_upto_region 18 with (fail)
      have e0 := cell_below C0.out HS.out.bel
      have e1 := cell_below C1.out HS.out.bel
      go_region_held3 (fun W' => W'.cell? ⟨bl, ol + k * 4, none⟩ = some (.int .u8 b0) ∧ W'.cell? ⟨bl, ol + k * 4 + 1, none⟩ = some (.int .u8 b1)) (first | exact ⟨e0, e1⟩ | exact ⟨d0, d1⟩) (first | (go_at_call 30; refine (rsetWord_any (HS.out.drew).r true i0 j0 v HV.out).mono ?_; rintro e w5 ⟨rfl, H5, k5⟩; have T5 := (HS.out.drew).ref H5 k5; have d0 := cell_below C0.out T5.bel; have d1 := cell_below C1.out T5.bel))
      replace HS := Lib.hid T5
      clear T5 H5 k5 d0 d1 e0 e1
      go_wp2
      go_roundw
      case measure => simp [intOf]; omega
      case rel => exact ⟨k + 1, _, by omega, by go_num, Lib.hid ⟨HS.out.p, HS.out.r, HS.out.bel, swF_mem HM.out HV.out.1⟩⟩

    · have hkl : k = len := by omega
      subst hkl
      clear ha HD d1
      go_upto_region 21 with (fail)
      obtain ⟨z, hz⟩ : ∃ z, (wrap64 (IntKind.u16.wrap page)).tmod 4096 = z := ⟨_, rfl⟩
      rw [hz]
      have HT2 : Hid (Tw w (wr.alloc (.cells #[.int .i64 page, .int .i64 0, .int .i64 1, .int .i64 17, .int .i64 291, .int .i64 4095, .int .i64 z] 3)) w1.heap.size g b 12 F 6 w2.heap.size g' R) := Lib.hid (HT.out.below (bel_alloc (Below.refl _ _) _))
      have HP2 : Hid ((wr.alloc (.cells #[.int .i64 page, .int .i64 0, .int .i64 1, .int .i64 17, .int .i64 291, .int .i64 4095, .int .i64 z] 3)).heap[wr.heap.size]? = some (.cells #[.int .i64 page, .int .i64 0, .int .i64 1, .int .i64 17, .int .i64 291, .int .i64 4095, .int .i64 z] 3 (0, 0))) := Lib.hid (blk_new _ _)
      obtain ⟨P, hP⟩ : ∃ P, wr.heap.size = P := ⟨_, rfl⟩
      obtain ⟨W, hW⟩ : ∃ W, wr.alloc (.cells #[.int .i64 page, .int .i64 0, .int .i64 1, .int .i64 17, .int .i64 291, .int .i64 4095, .int .i64 z] 3) = W := ⟨_, rfl⟩
      rw [hP, hW] at HP2 ⊢
      rw [hW] at HT2
      clear hP hW hz HT
      go_loopw [13] (fun i wq => ∃ (j : Nat), j ≤ 7 ∧ i = .int .i64 j ∧ Hid (Tw w wq w1.heap.size g b 12 F 6 w2.heap.size g' R) ∧ Hid (wq.heap[P]? = some (.cells #[.int .i64 page, .int .i64 0, .int .i64 1, .int .i64 17, .int .i64 291, .int .i64 4095, .int .i64 z] 3 (0, 0)))) (fun i _ => 7 - (intOf i).toNat)
      case atStart => exact ⟨0, by omega, rfl, HT2, HP2⟩
      case round =>
        clear HT2 HP2
        obtain ⟨j, hj, rfl, HT, HP⟩ := hrel
        by_cases hj7 : j < 7
        · obtain ⟨pv, hpv⟩ : ∃ pv, (#[.int .i64 page, .int .i64 0, .int .i64 1, .int .i64 17, .int .i64 291, .int .i64 4095, .int .i64 z] : Array Value)[j]? = some (.int .i64 pv) := by
            have hj' : j = 0 ∨ j = 1 ∨ j = 2 ∨ j = 3 ∨ j = 4 ∨ j = 5 ∨ j = 6 := by omega
            rcases hj' with rfl | rfl | rfl | rfl | rfl | rfl | rfl <;> exact ⟨_, rfl⟩
          have HPV := Lib.hid hpv
          clear hpv
          have dj : decide ((j : Int) < 7) = true := decide_eq_true (by omega)
          go_wp2
          go_loopw [14] (fun i wq => ∃ (m : Nat), m ≤ 3 ∧ i = .int .i64 m ∧ Hid (Tw w wq w1.heap.size g b 12 F 6 w2.heap.size g' R) ∧ Hid (wq.heap[P]? = some (.cells #[.int .i64 page, .int .i64 0, .int .i64 1, .int .i64 17, .int .i64 291, .int .i64 4095, .int .i64 z] 3 (0, 0)))) (fun i _ => 3 - (intOf i).toNat)
          case atStart => exact ⟨0, by omega, rfl, HT, HP⟩
          case round =>
            clear HT HP
            obtain ⟨m, hm, rfl, HT, HP⟩ := hrel
            by_cases hm3 : m < 3
            · obtain ⟨A1, A2, A3, A4, hwk⟩ : ∃ f p l E, wk 12 6 F m pv = (f, p, l, E) := ⟨_, _, _, _, rfl⟩
              have HW := Lib.hid hwk
              clear hwk
              have cp := (blk_cell HP.out j).trans HPV.out
              go_wp2_with (first
                | (go_at_call 31; (with_reducible refine (walk_i HT.out.p HT.out.m m pv _ _ _ _ HW.out).mono ?_); rintro e u1 ⟨rfl, hb1⟩; replace HT := Lib.hid (HT.out.below hb1); replace HP := Lib.hid (blk_below HP.out hb1); clear cp hb1; have cp := (blk_cell HP.out j).trans HPV.out; have bx := Lib.hid (bel_alloc (Below.refl u1.heap.size u1) (.cells #[.int .i64 A1, .int .i64 A2] 58)); have cp1 := cell_below cp bx.out)
                | (go_at_call 32; (with_reducible refine (rwalk_i (HT.out.below bx.out).r HT.out.m m pv _ _ _ _ HW.out).mono ?_); rintro e u2 ⟨rfl, hb2⟩; have BK := blk_below (blk_new u1 (.cells #[.int .i64 A1, .int .i64 A2] 58)) hb2; replace HT := Lib.hid ((HT.out.below bx.out).below hb2); replace HP := Lib.hid (blk_below (blk_alloc HP.out _) hb2); clear cp cp1 hb2 bx; obtain ⟨d0, d1, s0, s1⟩ := cells2f (blk_alloc BK (.cells #[.int .i64 A1, .int .i64 A2] 58)); obtain ⟨f0, f1, p0, p1⟩ := cells2f (blk_new u2 (.cells #[.int .i64 A1, .int .i64 A2] 58)))
                | fail)
              go_roundw
              case measure => simp [intOf]; omega
              case rel => exact ⟨m + 1, by omega, by go_num, Lib.hid (HT.out.below (bel_alloc (Below.refl _ _) _)), Lib.hid (blk_alloc HP.out _)⟩
            · have hm' : m = 3 := by omega
              subst hm'
              go_wp2
              go_roundw
              case measure => simp [intOf]; omega
              case rel => exact ⟨j + 1, by omega, by go_num, HT, HP⟩
        · have hj' : j = 7 := by omega
          subst hj'
          obtain ⟨A1, A2, A3, A4, hwk⟩ : ∃ f p l E, wk 12 6 F root page = (f, p, l, E) := ⟨_, _, _, _, rfl⟩
          have HW := Lib.hid hwk
          clear hwk HP
          by_cases hp : 0 ≤ page ∧ page < 4096
          · have HPP := Lib.hid hp
            clear hp
            go_wp2_with (first
              | (go_at_call 33; (with_reducible refine (path_in _ page HPP.out.1 HPP.out.2).mono ?_); rintro e u1 ⟨rfl, hb1⟩; replace HT := Lib.hid (HT.out.below hb1); clear hb1)
              | (go_at_call 34; (with_reducible refine (rpath_inW _ page HPP.out.1 HPP.out.2).mono ?_); rintro e u2 ⟨rfl, hb1⟩; replace HT := Lib.hid (HT.out.below hb1); clear hb1)
              | (go_at_call 31; (with_reducible refine (walk_i HT.out.p HT.out.m root page _ _ _ _ HW.out).mono ?_); rintro e u3 ⟨rfl, hb1⟩; replace HT := Lib.hid (HT.out.below hb1); clear hb1; have bx := Lib.hid (bel_alloc (Below.refl u3.heap.size u3) (.cells #[.int .i64 A1, .int .i64 A2] 58)))
              | (go_at_call 32; (with_reducible refine (rwalk_i (HT.out.below bx.out).r HT.out.m root page _ _ _ _ HW.out).mono ?_); rintro e u4 ⟨rfl, hb2⟩; have BK := blk_below (blk_new u3 (.cells #[.int .i64 A1, .int .i64 A2] 58)) hb2; replace HT := Lib.hid ((HT.out.below bx.out).below hb2); clear hb2 bx; obtain ⟨d0, d1, s0, s1⟩ := cells2f (blk_alloc BK (.cells #[.int .i64 A1, .int .i64 A2] 58)); obtain ⟨f0, f1, p0, p1⟩ := cells2f (blk_new u4 (.cells #[.int .i64 A1, .int .i64 A2] 58)))
              | fail)
            go_ret
            exact ⟨rfl, bel_alloc HT.out.bel _⟩
          · have HPP := Lib.hid hp
            clear hp
            go_wp2_with (first
              | (go_at_call 33; (with_reducible refine (path_out _ page HPP.out).mono ?_); rintro e u1 ⟨rfl, hb1⟩; replace HT := Lib.hid (HT.out.below hb1); clear hb1)
              | (go_at_call 34; (with_reducible refine (rpath_out _ page HPP.out).mono ?_); rintro e u2 ⟨rfl, hb1⟩; replace HT := Lib.hid (HT.out.below hb1); clear hb1)
              | (go_at_call 31; (with_reducible refine (walk_i HT.out.p HT.out.m root page _ _ _ _ HW.out).mono ?_); rintro e u3 ⟨rfl, hb1⟩; replace HT := Lib.hid (HT.out.below hb1); clear hb1; have bx := Lib.hid (bel_alloc (Below.refl u3.heap.size u3) (.cells #[.int .i64 A1, .int .i64 A2] 58)))
              | (go_at_call 32; (with_reducible refine (rwalk_i (HT.out.below bx.out).r HT.out.m root page _ _ _ _ HW.out).mono ?_); rintro e u4 ⟨rfl, hb2⟩; have BK := blk_below (blk_new u3 (.cells #[.int .i64 A1, .int .i64 A2] 58)) hb2; replace HT := Lib.hid ((HT.out.below bx.out).below hb2); clear hb2 bx; obtain ⟨d0, d1, s0, s1⟩ := cells2f (blk_alloc BK (.cells #[.int .i64 A1, .int .i64 A2] 58)); obtain ⟨f0, f1, p0, p1⟩ := cells2f (blk_new u4 (.cells #[.int .i64 A1, .int .i64 A2] 58)))
              | fail)
            go_ret
            exact ⟨rfl, bel_alloc HT.out.bel _⟩

set_option maxRecDepth 100000 in
set_option maxHeartbeats 4000000 in
theorem walks_out (w : World) (a : Option Addr) (len cap : Nat) (root page : Int) (h : 40 < len) :
    Calls Try.prog 7 #[.slice a len cap, .int .i64 root, .int .i64 page] w fun e w' => e = .returned (.bool true) ∧ Below w.heap.size w w' := by
  have hb := Below.refl w.heap.size w
  have h1 : (40 : Int) < (len : Int) := by omega
  go_enter Try.func7, Try.ntmps7
  go_wp2_with (first
    | (go_at_call 25; (with_reducible refine (wbegun _).mono ?_); rintro e w1 ⟨rfl, hb1⟩; replace hb := bel_chain hb hb1; clear hb1)
    | fail)
  all_goals go_ret
  all_goals exact ⟨rfl, hb⟩
theorem walks_any (w : World) (a : Option Addr) (bl ol len cap : Nat) (root page : Int) (ha : 0 < len → a = some ⟨bl, ol, none⟩) (hcap : len ≤ cap) (hd : ∀ i, i < len → Four w bl (ol + i * 4)) :
    Calls Try.prog 7 #[.slice a len cap, .int .i64 root, .int .i64 page] w fun e w' => e = .returned (.bool true) ∧ Below w.heap.size w w' := by
  by_cases h : 40 < len
  · exact walks_out w a len cap root page h
  · exact walks_all w bl ol len cap root page a ha (by omega) hcap hd
end Go.Proofs.Ytdpjpmlajjfpgaa.Ram
