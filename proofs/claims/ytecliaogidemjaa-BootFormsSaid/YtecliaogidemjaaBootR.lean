/- Which bills may be: the reference's Check walked. -/
import Derived.Test.YtecliaogidemjaaBootC
namespace Go.Proofs.Ytecliaogidemjaa.Boot
open Go.RowKit Go.Proofs.Ytecliaogidemjaa.Mem Go.Proofs.Ytecliaogidemjaa.Kept Go.Proofs.Ytecliaogidemjaa.Sets Go.Proofs.Ytecliaogidemjaa.PBootAll Go.Proofs.YtecliaogidemjaaW.PrintWords
set_option linter.unusedVariables false
set_option linter.unusedSimpArgs false

/-- A frame as the reference asks it; the first k of them. -/
def okf (F T S : Int) (sec : Bool) (u : Int → Bool) (f : Int) : Bool := decide (T ≤ f) && decide (f < F) && (decide (f < T + S) == sec) && !u f
def frR (F T S : Int) (sec : Bool) (u : Int → Bool) (b : Int) : Nat → Bool
  | 0 => true
  | k + 1 => frR F T S sec u b k && okf F T S sec u (b + k)
def okhR (F base cnt dev : Int) (d : Int → Bool) : Bool :=
  decide (1 ≤ cnt) && decide (cnt ≤ 32) && decide (0 ≤ dev) && decide (dev ≤ 4) && !(decide (0 < dev) && d dev) && decide (0 ≤ base) && decide (base ≤ F)
theorem frR_iff {F T S : Int} {sec : Bool} {u : Int → Bool} {b : Int} : ∀ {n : Nat}, frR F T S sec u b n = true ↔ ∀ i : Nat, i < n → okf F T S sec u (b + i) = true
  | 0 => ⟨fun _ i hi => by omega, fun _ => rfl⟩
  | n + 1 => by
    unfold frR
    rw [Bool.and_eq_true, frR_iff]
    refine ⟨fun h i hi => ?_, fun h => ⟨fun i hi => h i (by omega), h n (by omega)⟩⟩
    rcases Nat.lt_or_ge i n with h1 | h1
    · exact h.1 i h1
    · rw [show i = n by omega]; exact h.2
theorem frB_iff {u : Int → Bool} {b : Int} : ∀ {n : Nat}, frB u b n = true ↔ ∀ i : Nat, i < n → u (b + i) = false
  | 0 => ⟨fun _ i hi => by omega, fun _ => rfl⟩
  | n + 1 => by
    unfold frB
    rw [Bool.and_eq_true, frB_iff]
    refine ⟨fun h i hi => ?_, fun h => ⟨fun i hi => h i (by omega), by rw [h n (by omega)]; rfl⟩⟩
    rcases Nat.lt_or_ge i n with h1 | h1
    · exact h.1 i h1
    · rw [show i = n by omega]; simpa using h.2
theorem frR_hit {F T S : Int} {sec : Bool} {u : Int → Bool} {b : Int} {k n : Nat} (h : okf F T S sec u (b + k) = false) (hk : k < n) : frR F T S sec u b n = false := by
  by_cases e : frR F T S sec u b n = true
  · rw [frR_iff.1 e k hk] at h; cases h
  · simpa using e
/-- The reference's devices are the program's, but for 0. -/
def DevRel (d d' : Int → Bool) : Prop := d 0 = false ∧ ∀ j, j ≠ 0 → d' j = d j
theorem devRel_add {d d' : Int → Bool} (h : DevRel d d') {v : Int} (hv : 0 ≤ v) : DevRel (addD d v) (fun j => if j = v then true else d' j) := by
  refine ⟨?_, fun j hj => ?_⟩
  · unfold addD
    by_cases e : (0 : Int) = v
    · rw [if_pos e]; simp; omega
    · rw [if_neg e]; exact h.1
  · unfold addD
    by_cases e : j = v
    · simp only [if_pos e]; simp; omega
    · simp only [if_neg e]; exact h.2 j hj
theorem okR_eq {F T S : Int} (hT : 0 ≤ T) (hS : 0 ≤ S) (hTS : T + S ≤ F) {sec : Bool} {base dev : Int} {c : Nat} {u d d' : Int → Bool} (hd : DevRel d d') :
    (okhR F base c dev d' && frR F T S sec u base c) = okp F T S sec base c dev u d := by
  have key : (decide (0 < dev) && d' dev) = (if 0 ≤ dev then d dev else false) ∨ dev < 0 := by
    by_cases h0 : dev = 0
    · left; subst h0; simp [hd.1]
    · by_cases h1 : 0 < dev
      · left; rw [hd.2 dev h0]; simp [h1]; intro h; omega
      · right; omega
  rw [Bool.eq_iff_iff]
  unfold okhR okp okh
  simp only [Bool.and_eq_true, decide_eq_true_eq, Bool.not_eq_true', Int.toNat_natCast, frR_iff, frB_iff]
  constructor
  · rintro ⟨⟨⟨⟨⟨⟨⟨h1, h2⟩, h3⟩, h4⟩, h5⟩, h6⟩, h7⟩, h8⟩
    have hA := h8 0 (by omega)
    have hZ := h8 (c - 1) (by omega)
    have hdd : d dev = false := by
      rcases key with k | k
      · rw [h5, if_pos h3] at k; exact k.symm
      · omega
    unfold okf at hA hZ
    simp only [Bool.and_eq_true, decide_eq_true_eq, Bool.not_eq_true', beq_iff_eq] at hA hZ
    obtain ⟨⟨⟨a1, a2⟩, a3⟩, a4⟩ := hA
    obtain ⟨⟨⟨z1, z2⟩, z3⟩, z4⟩ := hZ
    refine ⟨⟨⟨⟨⟨⟨⟨h1, h2⟩, ?_⟩, ?_⟩, h3⟩, h4⟩, hdd⟩, fun i hi => ?_⟩
    · cases sec <;> simp at a3 ⊢ <;> omega
    · cases sec <;> simp at z3 ⊢ <;> omega
    · have := h8 i hi
      unfold okf at this
      simp only [Bool.and_eq_true, Bool.not_eq_true'] at this
      exact this.2
  · rintro ⟨⟨⟨⟨⟨⟨⟨h1, h2⟩, h3⟩, h4⟩, h5⟩, h6⟩, h7⟩, h8⟩
    have hr : T ≤ base ∧ base + c ≤ F := by cases sec <;> simp at h3 h4 <;> omega
    refine ⟨⟨⟨⟨⟨⟨⟨h1, h2⟩, h5⟩, h6⟩, ?_⟩, by omega⟩, by omega⟩, fun i hi => ?_⟩
    · rcases key with k | k
      · rw [k, if_pos h5, h7]
      · omega
    · unfold okf
      simp only [Bool.and_eq_true, decide_eq_true_eq, Bool.not_eq_true', beq_iff_eq]
      refine ⟨⟨⟨by omega, by omega⟩, ?_⟩, h8 i hi⟩
      cases sec <;> simp at h3 h4 ⊢ <;> omega
theorem rquota_f (F T S C : Int) (l : List S56) (h : 1 ≤ l.length) (hT : 0 ≤ T ∧ T ≤ 240) : presidioref6_Quota.f F T S C l = some (T.tdiv l.length) := quota_f F T S C l h hT
set_option maxRecDepth 100000 in
set_option maxHeartbeats 8000000 in
theorem rcheck_bad (w : World) (F T S C : Int) (A : Option Addr) (l : List S56) (cp : Nat) (hr : Kd.C k56 w A l.length l) (hc : l.length ≤ cp) (hX : hdr F T S C l = false) :
    Calls Try.prog 20 #[.agg #[.int .i64 F, .int .i64 T, .int .i64 S, .int .i64 C, .slice A l.length cp]] w fun e w' => e = .returned (.int .i64 (-2)) ∧ Below w.heap.size w w' := by
  have hu41 := Try.underlying41
  have hu56 := Try.underlying56
  have HX := Lib.hid hX
  have HR := Lib.hid hr
  have HC := Lib.hid hc
  clear hX hr hc
  go_enter Try.func20, Try.ntmps20
  go_wp2_with (first
    | (go_at_call 22; obtain ⟨q, hq⟩ : ∃ q, T.tdiv l.length = q := ⟨_, rfl⟩; have hf := rquota_f F T S C l (by omega) (by omega); rw [hq] at hf; refine (presidioref6_Quota.calls F T S C A cp l q _ (Kd.C_below HR.out (bel_alloc (Below.refl _ _) _)) HC.out hf).mono ?_; rintro e w2 ⟨rfl, hb2⟩; have hb2 := bel_chain (bel_alloc (Below.refl w.heap.size w) _) hb2; clear hf; have Hq := Lib.hid hq; clear hq))
  all_goals
    first
      | (go_ret; exact ⟨rfl, bel_alloc (Below.refl _ _) _⟩)
      | (go_ret; exact ⟨rfl, hb2⟩)
      | (exfalso; have h := HX.out; have h2 := Hq.out; unfold hdr at h; rw [h2] at h; simp at h; omega)
set_option maxRecDepth 100000 in
set_option maxHeartbeats 16000000 in
theorem rcheck_good (w : World) (F T S C : Int) (A : Option Addr) (l : List S56) (cp : Nat) (hr : Kd.C k56 w A l.length l) (hc : l.length ≤ cp) (hX : hdr F T S C l = true)
    (hwf : ∀ k, k < l.length → (Lit.int .i64 (rd_T56 l k).f8).wf = true) :
    Calls Try.prog 20 #[.agg #[.int .i64 F, .int .i64 T, .int .i64 S, .int .i64 C, .slice A l.length cp]] w (FirstPost w (if (fst0 l && okl F T S l (fun _ => false) (fun _ => false)) = true then 0 else -2)) := by
  have hu41 := Try.underlying41
  have hu56 := Try.underlying56
  simp only [hdr, Bool.and_eq_true, decide_eq_true_eq] at hX
  obtain ⟨⟨⟨⟨⟨⟨⟨⟨⟨h1, h2⟩, h3⟩, h4⟩, h5⟩, h6⟩, h7⟩, h8⟩, h9⟩, h10⟩ := hX
  obtain ⟨q, hq⟩ : ∃ q, T.tdiv l.length = q := ⟨_, rfl⟩
  have hf := rquota_f F T S C l h8 (by omega)
  rw [hq] at hf h10
  obtain ⟨E, hE⟩ : ∃ E : Int, (if (fst0 l && okl F T S l (fun _ => false) (fun _ => false)) = true then (0 : Int) else -2) = E := ⟨_, rfl⟩
  rw [hE]
  have HE := Lib.hid hE
  have HR := Lib.hid hr
  have HC := Lib.hid hc
  have HF := Lib.hid hf
  have HW := Lib.hid hwf
  clear hr hc hf hq hwf hE
  obtain ⟨ad, e0, p0, p1, p2, p3, p4, p5, p6, p7, p8⟩ := at_T56 HR.out 0 (by omega) (by omega)
  cases e0
  rw [fst0_eq (by omega)] at HE
  obtain ⟨x0, hx0⟩ : ∃ x, (rd_T56 l 0).f0 = x := ⟨_, rfl⟩
  obtain ⟨x8, hx8⟩ : ∃ x, (rd_T56 l 0).f8 = x := ⟨_, rfl⟩
  rw [hx0] at p0 HE
  rw [hx8] at p8 HE
  clear p1 p2 p3 p4 p5 p6 p7 hx0 hx8
  simp only [Int.toNat_zero, Nat.zero_mul, add0] at p0 p8
  have hmm := @run_makeMap Try.prog
  have d0 : decide (240 < F) = false := decide_eq_false (by omega)
  have d1 : decide (T < 0) = false := decide_eq_false (by omega)
  have d2 : decide (S < 0) = false := decide_eq_false (by omega)
  have d3 : decide (F < T) = false := decide_eq_false (by omega)
  have d4 : decide (F - T < S) = false := decide_eq_false (by omega)
  have d5 : decide (C < 1) = false := decide_eq_false (by omega)
  have d6 : decide (3 < C) = false := decide_eq_false (by omega)
  have d7 : decide ((l.length : Int) < 1) = false := decide_eq_false (by omega)
  have d8 : decide (6 < (l.length : Int)) = false := decide_eq_false (by omega)
  have d9 : decide (q < 5) = false := decide_eq_false (by omega)
  have d10 : decide (F < 0) = false := decide_eq_false (by omega)
  have hy : x0 = true ∨ (x0 = false ∧ (x8 != 0) = true) ∨ (x0 = false ∧ (x8 != 0) = false) := by cases x0 <;> cases (x8 != 0) <;> simp
  rcases hy with rfl | ⟨rfl, hy⟩ | ⟨rfl, hy⟩
  all_goals
    go_enter Try.func20, Try.ntmps20
    go_wp2_with (first
      | (go_at_call 22; refine (presidioref6_Quota.calls F T S C _ cp l q _ (Kd.C_below HR.out (bel_alloc (Below.refl _ _) _)) HC.out HF.out).mono ?_; rintro e w2 ⟨rfl, hb2⟩; have hb3 := bel_chain (bel_alloc (Below.refl w.heap.size w) _) hb2; have BK := Mem.blk_below (Mem.blk_new w (.cells #[.int .i64 F, .int .i64 T, .int .i64 S, .int .i64 C, .slice (some ad) l.length cp] 41)) hb2; have hc5 := Mem.cells5 BK; clear hb2; replace p0 := (hb3.cell (World.block_lt_of_cell? w _ p0)).trans p0; replace p8 := (hb3.cell (World.block_lt_of_cell? w _ p8)).trans p8))
  · go_ret
    exact ⟨ret_i (by have h := HE.out; simp at h; exact h), hb3⟩
  · go_ret
    exact ⟨ret_i (by have h := HE.out; have : ¬ x8 = 0 := (by simpa using hy); simp [this] at h; exact h), hb3⟩
  clear hmm p0 p8 hc5
  have hE : (if okl F T S l (fun _ => false) (fun _ => false) = true then (0 : Int) else -2) = E := (by have h := HE.out; have : x8 = 0 := (by simpa using hy); simpa [this] using h)
  have HE2 := Lib.hid hE
  clear hE HE
  have Q1 := (set_made w2).below (bel_alloc (Below.refl _ _) (.map #[] 0))
  have Q2 := set_made (w2.alloc (.map #[] 0))
  have es : (w2.alloc (.map #[] 0)).heap.size = w2.heap.size + 1 := by show (w2.heap.push _).size = _; simp
  rw [es] at Q2
  have hb4 := bel_alloc (bel_alloc hb3 (.map #[] 0)) (.map #[] 0)
  have BK4 := Mem.blk_alloc (Mem.blk_alloc BK (.map #[] 0)) (.map #[] 0)
  have hz := Mem.blk_lt BK
  obtain ⟨fb, hfb⟩ : ∃ fb, w2.heap.size = fb := ⟨_, rfl⟩
  rw [hfb] at Q1 Q2 hz ⊢
  clear es hfb BK hb3
  go_loopw [6] (fun i wr => ∃ k : Nat, k ≤ l.length ∧ i = .int .i64 k ∧ ∃ u d d' : Int → Bool, Hid ((if okl F T S (l.drop k) u d = true then (0 : Int) else -2) = E) ∧ Hid (DevRel d d') ∧ SetIs wr fb (32 * k) u ∧ SetIs wr (fb + 1) k d' ∧ Below w.heap.size w wr ∧ wr.heap[w.heap.size]? = some (.cells #[.int .i64 F, .int .i64 T, .int .i64 S, .int .i64 C, .slice (some ad) l.length cp] 41 (0, 0))) (fun i _ => l.length - (intOf i).toNat)
  case atStart => exact ⟨0, by omega, rfl, _, _, _, HE2, Lib.hid ⟨rfl, fun _ _ => rfl⟩, Q1, Q2, hb4, BK4⟩
  case round =>
    obtain ⟨k, hk, rfl, u, d, d', RE, HDR, RU, RD, RB, RK⟩ := hrel
    clear HE2 Q1 Q2 hb4 BK4
    have hc5 := Mem.cells5 RK
    by_cases hkl : k < l.length
    · obtain ⟨ad1, e1, c0, c1, c2, c3, c4, c5, c6, c7, c8⟩ := at_T56 (Kd.C_below HR.out RB) k (by omega) (by omega)
      cases e1
      rw [Int.toNat_natCast] at c0 c1 c2 c3 c4 c5 c6 c7 c8
      have hdw := HW.out k hkl
      have hE2 := RE.out
      rw [okl_drop hkl] at hE2
      obtain ⟨p, hp⟩ : ∃ p, rd_T56 l k = p := ⟨_, rfl⟩
      simp only [hp] at c0 c1 c2 c3 c4 c5 c6 c7 c8 hdw hE2
      have hc5a := Mem.cells5a RK
      have L := (RD.below (bel_alloc (Below.refl _ _) (.cells #[.bool p.f0, .bool p.f1, .bool p.f2, .bool p.f3, .bool p.f4, .int .u32 p.f5, .int .i64 p.f6, .int .i64 p.f7, .int .i64 p.f8] 56))).look hdw
      obtain ⟨dd, hdd⟩ : ∃ x, d' p.f8 = x := ⟨_, rfl⟩
      rw [hdd] at L
      have Hdd := Lib.hid hdd
      have RE2 := Lib.hid hE2
      have HRK := Lib.hid RK
      have HRU := Lib.hid RU
      have HRD := Lib.hid RD
      clear hE2 RE hp RK hdd RU RD
      by_cases hh : okhR F p.f6 p.f7 p.f8 d' = true
      · have hh2 := hh
        unfold okhR at hh2
        simp only [Bool.and_eq_true, decide_eq_true_eq, Bool.not_eq_true'] at hh2
        obtain ⟨⟨⟨⟨⟨⟨g1, g2⟩, g3⟩, g4⟩, g5⟩, g6⟩, g7⟩ := hh2
        have Hh := Lib.hid hh
        clear hh
        obtain ⟨c, hcn⟩ : ∃ c : Nat, p.f7 = (c : Int) := ⟨p.f7.toNat, by omega⟩
        have RE3 := RE2.out
        rw [hcn] at c7 g1 g2 RE3 L Hh
        have RE4 := Lib.hid RE3
        rw [Hdd.out] at g5
        clear RE3 RE2 hcn
        obtain ⟨sec, hsec⟩ : ∃ x, p.f0 = x := ⟨_, rfl⟩
        obtain ⟨base, hbase⟩ : ∃ x, p.f6 = x := ⟨_, rfl⟩
        obtain ⟨dev, hdev⟩ : ∃ x, p.f8 = x := ⟨_, rfl⟩
        simp only [hsec, hbase, hdev] at c0 c6 c8 hdw L Hdd RE4 Hh g3 g4 g5 g6 g7
        clear hsec hbase hdev
        have gd : (decide (0 < dev) && dd) = false := g5
        have gd2 : 0 < dev → dd = false := fun h => by rw [decide_eq_true h] at gd; simpa using gd
        clear g5 gd
        have hk2 : (0 < dev ∧ dd = false) ∨ ¬ 0 < dev := by
          by_cases h0 : 0 < dev
          · exact Or.inl ⟨h0, gd2 h0⟩
          · exact Or.inr h0
        clear gd2
        rcases hk2 with ⟨h0, rfl⟩ | h0
        all_goals
          go_wp2_with (first
            | (at_mapUpdate; refine wp_put rfl (.tmp 138) (.tmp 140) (.const (.bool true)) rfl (HRD.out.below (bel_alloc (Below.refl _ _) _)) (by omega) dev true rfl rfl rfl hdw ?_; intro w3 RD3 k3; have RU3 := (HRU.out.below (bel_alloc (Below.refl _ _) _)).kept k3 (by omega); have RB3 := k3.below (bel_alloc RB _) (bel_alloc RB _).size (fun k hk => by omega); have BK3 := k3.blk (Mem.blk_alloc HRK.out _) (by omega); have BP3 := k3.blk (Mem.blk_new _ _) (by have := HRD.out.lt; omega); clear k3 L hc5 hc5a c0 c1 c2 c3 c4 c5 c6 c7 c8; have hc5 := Mem.cells5 BK3; have hc9 := Mem.cells9 BP3))
          have hapart : fb < wr.heap.size ∧ fb + 1 < wr.heap.size := ⟨HRU.out.lt, HRD.out.lt⟩
          clear HRK HRU HRD RB Hdd
          go_loopw [8] (fun i wx => ∃ j : Nat, j ≤ c ∧ i = .int .i64 j ∧ Hid (frR F T S sec u base j = true) ∧ SetIs wx fb (32 * k + j) (addU u base j) ∧ SetIs wx (fb + 1) (k + 1) (fun j => if j = dev then true else d' j) ∧ Below w.heap.size w wx ∧ wx.heap[w.heap.size]? = some (.cells #[.int .i64 F, .int .i64 T, .int .i64 S, .int .i64 C, .slice (some ad) l.length cp] 41 (0, 0)) ∧ wx.heap[wr.heap.size]? = some (.cells #[.bool sec, .bool p.f1, .bool p.f2, .bool p.f3, .bool p.f4, .int .u32 p.f5, .int .i64 base, .int .i64 c, .int .i64 dev] 56 (0, 0))) (fun i _ => c - (intOf i).toNat)
          case atStart => exact ⟨0, by omega, rfl, Lib.hid rfl, by rw [addU_zero]; exact RU3, RD3, RB3, BK3, BP3⟩
          case round =>
            obtain ⟨j, hj, rfl, HFR, SU, SD, SB, SK, SP⟩ := hrel
            clear hc5 hc9 RD3 RU3 RB3 BK3 BP3
            have hc5 := Mem.cells5 SK
            have hc9 := Mem.cells9 SP
            by_cases hjc : j < c
            · have hwf : (Lit.int .i64 (base + j)).wf = true := wf_in (by omega)
              have L2 := SU.look hwf
              rw [addU_at] at L2
              obtain ⟨x, hx⟩ : ∃ x, u (base + j) = x := ⟨_, rfl⟩
              rw [hx] at L2
              have Hx := Lib.hid hx
              have hfail : okf F T S sec u (base + j) = false → E = -2 := fun h => by
                have e := RE4.out
                rw [← okR_eq h2 h3 (by omega) HDR.out, frR_hit h hjc, Bool.and_false, Bool.false_and] at e
                simpa using e.symm
              have Hfail := Lib.hid hfail
              clear hx hfail
              have HSK := Lib.hid SK
              have HSP := Lib.hid SP
              clear SK SP
              cases sec
              all_goals
                cases x
                all_goals
                  go_wp2_with (first
                    | (at_mapUpdate; refine wp_put rfl (.tmp 179) (.tmp 180) (.const (.bool true)) rfl SU (by omega) (base + j) true rfl rfl rfl hwf ?_; intro w4 SU4 k4; have SD4 := SD.kept k4 (by omega); have SB4 := k4.below SB SB.size (fun k hk => by omega); have SK4 := k4.blk HSK.out (by omega); have SP4 := k4.blk HSP.out (by omega); clear k4 L2 hc5 hc9; have hc5 := Mem.cells5 SK4; have hc9 := Mem.cells9 SP4))
              all_goals
                first
                  | (go_ret; exact ⟨ret_i (Hfail.out (by unfold okf; rw [Hx.out]; simp; try omega)).symm, SB⟩)
                  | skip
              all_goals
                go_roundw
                case measure => simp [intOf]; omega
                case rel => exact ⟨j + 1, by omega, by go_num, Lib.hid (by unfold frR; rw [HFR.out]; unfold okf; rw [Hx.out]; simp; try omega), by rw [← addU_succ]; exact SU4, SD4, SB4, SK4, SP4⟩
            · have hjc2 : j = c := by omega
              subst hjc2
              go_wp2
              go_roundw
              case measure => simp [intOf]; omega
              case rel =>
                have e := RE4.out
                rw [← okR_eq h2 h3 (by omega) HDR.out, Hh.out, HFR.out, Bool.true_and, Bool.true_and, Int.toNat_natCast] at e
                exact ⟨k + 1, by omega, by go_num, _, _, _, Lib.hid e, Lib.hid (devRel_add HDR.out g3), SU.mono (by omega), SD, SB, SK⟩
      · have hX : E = -2 := by
          have e := RE2.out
          have : okp F T S p.f0 p.f6 p.f7 p.f8 u d = false := by
            by_cases h0 : 0 ≤ p.f7
            · obtain ⟨c, hcn⟩ : ∃ c : Nat, p.f7 = (c : Int) := ⟨p.f7.toNat, by omega⟩
              rw [hcn] at hh ⊢
              rw [← okR_eq h2 h3 (by omega) HDR.out]
              simp only [Bool.not_eq_true] at hh
              rw [hh, Bool.false_and]
            · unfold okp okh
              rw [decide_eq_false (show ¬ 1 ≤ p.f7 by omega)]
              simp
          rw [this, Bool.false_and] at e
          simpa using e.symm
        have HX := Lib.hid hX
        have Hh := Lib.hid hh
        clear hX hh
        cases dd
        all_goals
          go_wp2
        all_goals
          first
            | (go_ret; exact ⟨ret_i HX.out.symm, bel_alloc RB _⟩)
            | (exfalso; have h := Hh.out; unfold okhR at h; rw [Hdd.out] at h; simp at h; omega)
    · have hkl2 : k = l.length := by omega
      subst hkl2
      go_wp2
      go_ret
      exact ⟨ret_i (by have h := RE.out; rw [List.drop_length] at h; exact h), RB⟩
theorem rcheck_any (w : World) (F T S C : Int) (A : Option Addr) (l : List S56) (cp : Nat) (hr : Kd.C k56 w A l.length l) (hc : l.length ≤ cp)
    (hwf : ∀ k, k < l.length → (Lit.int .i64 (rd_T56 l k).f8).wf = true) :
    Calls Try.prog 20 #[.agg #[.int .i64 F, .int .i64 T, .int .i64 S, .int .i64 C, .slice A l.length cp]] w fun e w' => e = .returned (.int .i64 (chkE F T S C l)) ∧ Below w.heap.size w w' := by
  unfold chkE chk
  by_cases h : hdr F T S C l = true
  · rw [h, Bool.true_and]
    exact rcheck_good w F T S C A l cp hr hc h hwf
  · have h : hdr F T S C l = false := by simpa using h
    rw [h, Bool.false_and, Bool.false_and]
    exact rcheck_bad w F T S C A l cp hr hc h
end Go.Proofs.Ytecliaogidemjaa.Boot
