/- Which bills may be: boot.Check walked. -/
import Derived.Test.YtecliaogidemjaaBootW
import Derived.Test.YtecliaogidemjaaPBootAllx1
import Derived.Carry
namespace Go.Proofs.Ytecliaogidemjaa.Boot
open Go.RowKit Go.Proofs.Ytecliaogidemjaa.Mem Go.Proofs.Ytecliaogidemjaa.Kept Go.Proofs.Ytecliaogidemjaa.Sets Go.Proofs.Ytecliaogidemjaa.PBootAll Go.Proofs.YtecliaogidemjaaW.PrintWords
set_option linter.unusedVariables false
set_option linter.unusedSimpArgs false

theorem part_any (w : World) {fb db n m : Nat} {u d : Int → Bool} (F T S C : Int) (A : Option Addr) (ln cp : Nat) (hF : F ≤ 240) (hT : 0 ≤ T) (hS : 0 ≤ S) (hTS : T + S ≤ F)
    (s0 s1 s2 s3 s4 : Bool) (id base cnt dev : Int) (hdw : (Lit.int .i64 dev).wf = true) (hu : SetIs w fb n u) (hd : SetIs w db m d) (hne : fb ≠ db) (hn : n ≤ 1000) (hm : m ≤ 1000) :
    Calls Try.prog 36 #[.agg #[.int .i64 F, .int .i64 T, .int .i64 S, .int .i64 C, .slice A ln cp], .agg #[.bool s0, .bool s1, .bool s2, .bool s3, .bool s4, .int .u32 id, .int .i64 base, .int .i64 cnt, .int .i64 dev], .map (some fb), .map (some db)] w
      (PartPost w fb db n m u d base cnt dev (okp F T S s0 base cnt dev u d)) := by
  unfold okp
  by_cases h : okh F T S s0 base cnt dev d = true
  · rw [h, Bool.true_and]
    exact part_good w F T S C A ln cp hF hT hS hTS s0 s1 s2 s3 s4 id base cnt dev hdw hu hd hne hn hm h
  · have h : okh F T S s0 base cnt dev d = false := by simpa using h
    rw [h, Bool.false_and]
    exact (part_bad (fb := fb) (n := n) (u := u) w F T S C A ln cp hF hT hS hTS s0 s1 s2 s3 s4 id base cnt dev hdw hd h).mono fun e w' ⟨h1, h2⟩ => ⟨h1, kept_below h2, fun h => by cases h⟩
theorem quota_f (F T S C : Int) (l : List S56) (h : 1 ≤ l.length) (hT : 0 ≤ T ∧ T ≤ 240) : boot_Quota.f F T S C l = some (T.tdiv l.length) := by
  unfold boot_Quota.f
  rw [if_neg (by omega)]
  congr 1
  have h1 := Int.tdiv_eq_ediv_of_nonneg (b := (l.length : Int)) hT.1
  rw [h1]
  have h2 := Int.ediv_nonneg hT.1 (show (0 : Int) ≤ l.length by omega)
  have h3 : T / (l.length : Int) ≤ T := Int.ediv_le_self _ hT.1
  unfold wrap64
  omega
set_option maxRecDepth 100000 in
set_option maxHeartbeats 8000000 in
theorem check_bad (w : World) (F T S C : Int) (A : Option Addr) (l : List S56) (cp : Nat) (hr : Kd.C k56 w A l.length l) (hc : l.length ≤ cp) (hX : hdr F T S C l = false) :
    Calls Try.prog 19 #[.agg #[.int .i64 F, .int .i64 T, .int .i64 S, .int .i64 C, .slice A l.length cp]] w fun e w' => e = .returned (.int .i64 (-2)) ∧ Below w.heap.size w w' := by
  have hu41 := Try.underlying41
  have hu56 := Try.underlying56
  have HX := Lib.hid hX
  have HR := Lib.hid hr
  have HC := Lib.hid hc
  clear hX hr hc
  go_enter Try.func19, Try.ntmps19
  go_wp2_with (first
    | (go_at_call 21; obtain ⟨q, hq⟩ : ∃ q, T.tdiv l.length = q := ⟨_, rfl⟩; have hf := quota_f F T S C l (by omega) (by omega); rw [hq] at hf; refine (boot_Quota.calls F T S C A cp l q _ (Kd.C_below HR.out (bel_alloc (Below.refl _ _) _)) HC.out hf).mono ?_; rintro e w2 ⟨rfl, hb2⟩; have hb2 := bel_chain (bel_alloc (Below.refl w.heap.size w) _) hb2; clear hf; have Hq := Lib.hid hq; clear hq))
  all_goals
    first
      | (go_ret; exact ⟨rfl, bel_alloc (Below.refl _ _) _⟩)
      | (go_ret; exact ⟨rfl, hb2⟩)
      | (exfalso; have h := HX.out; have h2 := Hq.out; unfold hdr at h; rw [h2] at h; simp at h; omega)
theorem add0 (a : Addr) : a.add 0 = a := by unfold Addr.add; split <;> simp_all
def FirstPost (w : World) (E : Int) (e : Ending) (w' : World) : Prop := e = .returned (.int .i64 E) ∧ Below w.heap.size w w'
set_option maxRecDepth 100000 in
set_option maxHeartbeats 8000000 in
theorem check_good (w : World) (F T S C : Int) (A : Option Addr) (l : List S56) (cp : Nat) (hr : Kd.C k56 w A l.length l) (hc : l.length ≤ cp) (hX : hdr F T S C l = true)
    (hwf : ∀ k, k < l.length → (Lit.int .i64 (rd_T56 l k).f8).wf = true) :
    Calls Try.prog 19 #[.agg #[.int .i64 F, .int .i64 T, .int .i64 S, .int .i64 C, .slice A l.length cp]] w (FirstPost w (if (fst0 l && okl F T S l (fun _ => false) (fun _ => false)) = true then 0 else -2)) := by
  have hu41 := Try.underlying41
  have hu56 := Try.underlying56
  simp only [hdr, Bool.and_eq_true, decide_eq_true_eq] at hX
  obtain ⟨⟨⟨⟨⟨⟨⟨⟨⟨h1, h2⟩, h3⟩, h4⟩, h5⟩, h6⟩, h7⟩, h8⟩, h9⟩, h10⟩ := hX
  obtain ⟨q, hq⟩ : ∃ q, T.tdiv l.length = q := ⟨_, rfl⟩
  have hf := quota_f F T S C l h8 (by omega)
  rw [hq] at hf h10
  obtain ⟨E, hE⟩ : ∃ E : Int, (if (fst0 l && okl F T S l (fun _ => false) (fun _ => false)) = true then (0 : Int) else -2) = E := ⟨_, rfl⟩
  rw [hE]
  have HE := Lib.hid hE
  have HR := Lib.hid hr
  have HC := Lib.hid hc
  have HF := Lib.hid hf
  have HW := Lib.hid hwf
  clear hr hc hf hq hwf hE
  obtain ⟨ad, e0, p0, p1, p2, p3, p4, p5, p6, p7, p8⟩ := at_T56 HR.out 0 (by omega) (by omega)
  cases e0
  rw [fst0_eq (by omega)] at HE
  obtain ⟨x0, hx0⟩ : ∃ x, (rd_T56 l 0).f0 = x := ⟨_, rfl⟩
  obtain ⟨x8, hx8⟩ : ∃ x, (rd_T56 l 0).f8 = x := ⟨_, rfl⟩
  rw [hx0] at p0 HE
  rw [hx8] at p8 HE
  clear p1 p2 p3 p4 p5 p6 p7 hx0 hx8
  simp only [Int.toNat_zero, Nat.zero_mul, add0] at p0 p8
  have hmm := @run_makeMap Try.prog
  have d0 : decide (240 < F) = false := decide_eq_false (by omega)
  have d1 : decide (T < 0) = false := decide_eq_false (by omega)
  have d2 : decide (S < 0) = false := decide_eq_false (by omega)
  have d3 : decide (F < T) = false := decide_eq_false (by omega)
  have d4 : decide (F - T < S) = false := decide_eq_false (by omega)
  have d5 : decide (C < 1) = false := decide_eq_false (by omega)
  have d6 : decide (3 < C) = false := decide_eq_false (by omega)
  have d7 : decide ((l.length : Int) < 1) = false := decide_eq_false (by omega)
  have d8 : decide (6 < (l.length : Int)) = false := decide_eq_false (by omega)
  have d9 : decide (q < 5) = false := decide_eq_false (by omega)
  have hy : x0 = true ∨ (x0 = false ∧ (x8 != 0) = true) ∨ (x0 = false ∧ (x8 != 0) = false) := by cases x0 <;> cases (x8 != 0) <;> simp
  rcases hy with rfl | ⟨rfl, hy⟩ | ⟨rfl, hy⟩
  all_goals
    go_enter Try.func19, Try.ntmps19
    go_wp2_with (first
      | (go_at_call 21; refine (boot_Quota.calls F T S C _ cp l q _ (Kd.C_below HR.out (bel_alloc (Below.refl _ _) _)) HC.out HF.out).mono ?_; rintro e w2 ⟨rfl, hb2⟩; have hb3 := bel_chain (bel_alloc (Below.refl w.heap.size w) _) hb2; have BK := Mem.blk_below (Mem.blk_new w (.cells #[.int .i64 F, .int .i64 T, .int .i64 S, .int .i64 C, .slice (some ad) l.length cp] 41)) hb2; have hc5 := Mem.cells5 BK; have hc6 := Mem.cells5 (Mem.blk_alloc (Mem.blk_alloc BK (.map #[] 0)) (.map #[] 0)); clear hb2; replace p0 := (hb3.cell (World.block_lt_of_cell? w _ p0)).trans p0; replace p8 := (hb3.cell (World.block_lt_of_cell? w _ p8)).trans p8))
  · go_ret
    exact ⟨ret_i (by have h := HE.out; simp at h; exact h), hb3⟩
  · go_ret
    exact ⟨ret_i (by have h := HE.out; have : ¬ x8 = 0 := (by simpa using hy); simp [this] at h; exact h), hb3⟩
  clear hmm p0 p8 hc5 hc6
  have hE : (if okl F T S l (fun _ => false) (fun _ => false) = true then (0 : Int) else -2) = E := (by have h := HE.out; have : x8 = 0 := (by simpa using hy); simpa [this] using h)
  have HE2 := Lib.hid hE
  clear hE HE
  have Q1 := (set_made w2).below (bel_alloc (Below.refl _ _) (.map #[] 0))
  have Q2 := set_made (w2.alloc (.map #[] 0))
  have es : (w2.alloc (.map #[] 0)).heap.size = w2.heap.size + 1 := by show (w2.heap.push _).size = _; simp
  rw [es] at Q2
  have hb4 := bel_alloc (bel_alloc hb3 (.map #[] 0)) (.map #[] 0)
  have BK4 := Mem.blk_alloc (Mem.blk_alloc BK (.map #[] 0)) (.map #[] 0)
  have hz := Mem.blk_lt BK
  obtain ⟨fb, hfb⟩ : ∃ fb, w2.heap.size = fb := ⟨_, rfl⟩
  rw [hfb] at Q1 Q2 hz ⊢
  clear es hfb BK hb3
  go_loopw [83] (fun i wr => ∃ k : Nat, k ≤ l.length ∧ i = .int .i64 k ∧ ∃ u d : Int → Bool, Hid ((if okl F T S (l.drop k) u d = true then (0 : Int) else -2) = E) ∧ SetIs wr fb (32 * k) u ∧ SetIs wr (fb + 1) k d ∧ Below w.heap.size w wr ∧ wr.heap[w.heap.size]? = some (.cells #[.int .i64 F, .int .i64 T, .int .i64 S, .int .i64 C, .slice (some ad) l.length cp] 41 (0, 0))) (fun i _ => l.length - (intOf i).toNat)
  case atStart => exact ⟨0, by omega, rfl, _, _, HE2, Q1, Q2, hb4, BK4⟩
  case round =>
    obtain ⟨k, hk, rfl, u, d, RE, RU, RD, RB, RK⟩ := hrel
    clear HE2 Q1 Q2 hb4 BK4
    have hc5 := Mem.cells5 RK
    have hc5a := Mem.cells5a RK
    by_cases hkl : k < l.length
    · obtain ⟨ad1, e1, c0, c1, c2, c3, c4, c5, c6, c7, c8⟩ := at_T56 (Kd.C_below HR.out RB) k (by omega) (by omega)
      cases e1
      rw [Int.toNat_natCast] at c0 c1 c2 c3 c4 c5 c6 c7 c8
      have hdw := HW.out k hkl
      have hS2 : SetIs wr fb (32 * k) u ∧ SetIs wr (fb + 1) k d := ⟨RU, RD⟩
      have HS2 := Lib.hid hS2
      have hE2 := RE.out
      rw [okl_drop hkl] at hE2
      obtain ⟨p, hp⟩ : ∃ p, rd_T56 l k = p := ⟨_, rfl⟩
      simp only [hp] at c0 c1 c2 c3 c4 c5 c6 c7 c8 hdw hE2
      obtain ⟨ok, hok⟩ : ∃ x, okp F T S p.f0 p.f6 p.f7 p.f8 u d = x := ⟨_, rfl⟩
      rw [hok] at hE2
      have Hok := Lib.hid hok
      have RE2 := Lib.hid hE2
      have HRK := Lib.hid RK
      clear hS2 hok hE2 RE hp RU RD RK
      cases ok
      · go_wp2_with (first
          | (go_at_call 36; refine (part_any _ F T S C _ _ _ h1 h2 h3 (by omega) _ _ _ _ _ _ _ _ _ hdw (HS2.out.1.below (bel_alloc (Below.refl _ _) _)) (HS2.out.2.below (bel_alloc (Below.refl _ _) _)) (by omega) (by omega) (by omega)).mono ?_; rw [Hok.out]; rintro e w5 ⟨rfl, k5, _⟩; have RB5 := k5.below (bel_alloc RB _) (bel_alloc RB _).size (fun k hk => by omega)))
        go_ret
        exact ⟨ret_i (by have h := RE2.out; simp at h; exact h), RB5⟩
      · go_wp2_with (first
          | (go_at_call 36; refine (part_any _ F T S C _ _ _ h1 h2 h3 (by omega) _ _ _ _ _ _ _ _ _ hdw (HS2.out.1.below (bel_alloc (Below.refl _ _) _)) (HS2.out.2.below (bel_alloc (Below.refl _ _) _)) (by omega) (by omega) (by omega)).mono ?_; rw [Hok.out]; rintro e w5 ⟨rfl, k5, s5⟩; have RB5 := k5.below (bel_alloc RB _) (bel_alloc RB _).size (fun k hk => by omega); have BK5 := k5.blk (Mem.blk_alloc HRK.out _) (by omega)))
        go_roundw
        case measure => simp [intOf]; omega
        case rel => exact ⟨k + 1, by omega, by go_num, _, _, Lib.hid (by have h := RE2.out; simpa using h), by have := (s5 (by trivial)).1; rwa [show 32 * (k + 1) = 32 * k + 32 by omega], (s5 (by trivial)).2, RB5, BK5⟩
    · have hkl2 : k = l.length := by omega
      subst hkl2
      go_wp2
      go_ret
      exact ⟨ret_i (by have h := RE.out; rw [List.drop_length] at h; exact h), RB⟩
theorem check_any (w : World) (F T S C : Int) (A : Option Addr) (l : List S56) (cp : Nat) (hr : Kd.C k56 w A l.length l) (hc : l.length ≤ cp)
    (hwf : ∀ k, k < l.length → (Lit.int .i64 (rd_T56 l k).f8).wf = true) :
    Calls Try.prog 19 #[.agg #[.int .i64 F, .int .i64 T, .int .i64 S, .int .i64 C, .slice A l.length cp]] w fun e w' => e = .returned (.int .i64 (chkE F T S C l)) ∧ Below w.heap.size w w' := by
  unfold chkE chk
  by_cases h : hdr F T S C l = true
  · rw [h, Bool.true_and]
    exact check_good w F T S C A l cp hr hc h hwf
  · have h : hdr F T S C l = false := by simpa using h
    rw [h, Bool.false_and, Bool.false_and]
    exact check_bad w F T S C A l cp hr hc h
end Go.Proofs.Ytecliaogidemjaa.Boot
