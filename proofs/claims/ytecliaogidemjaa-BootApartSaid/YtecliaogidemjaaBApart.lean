/- Nobody's frames are another one's: the statement walked. -/
import Derived.Test.YtecliaogidemjaaBTurn
namespace Go.Proofs.Ytecliaogidemjaa.Boot
open Go.RowKit Go.Proofs.Ytecliaogidemjaa.Mem Go.Proofs.Ytecliaogidemjaa.Kept Go.Proofs.Ytecliaogidemjaa.PBootAll Go.Proofs.Ytecliaogidemjaa.Pick Go.Proofs.Ytecliaogidemjaa.BillO
set_option linter.unusedVariables false
set_option linter.unusedSimpArgs false

/-- Block g is a table of 240 truth values that reads as u. -/
def UArr (Y : World) (g : Nat) (u : Int → Bool) : Prop := ∃ cs : Array Value, Y.heap[g]? = some (.cells cs 58 (0, 0)) ∧ cs.size = 240 ∧ ∀ i : Nat, i < 240 → cs[i]? = some (.bool (u i))
theorem UArr.at {Y : World} {g : Nat} {u : Int → Bool} (h : UArr Y g u) {i : Nat} (hi : i < 240) : Y.cell? ⟨g, i, none⟩ = some (.bool (u i)) := by
  obtain ⟨cs, h1, h2, h3⟩ := h
  rw [blk_cell h1]; exact h3 i hi
theorem UArr.free {Y : World} {g : Nat} {u : Int → Bool} (h : UArr Y g u) (i : Nat) : Y.frozen? ⟨g, i, none⟩ = false := by
  obtain ⟨cs, h1, h2, h3⟩ := h
  exact blk_free h1 i
theorem UArr.lt {Y : World} {g : Nat} {u : Int → Bool} (h : UArr Y g u) : g < Y.heap.size := by
  obtain ⟨cs, h1, h2, h3⟩ := h
  exact blk_lt h1
theorem UArr.below {Y Z : World} {g : Nat} {u : Int → Bool} (h : UArr Y g u) (hb : Below Y.heap.size Y Z) : UArr Z g u := by
  obtain ⟨cs, h1, h2, h3⟩ := h
  exact ⟨cs, blk_below h1 hb, h2, h3⟩
theorem UArr.put {Y : World} {g : Nat} {u : Int → Bool} (h : UArr Y g u) {i : Nat} (hi : i < 240) : UArr (Y.setCell ⟨g, i, none⟩ (.bool true)) g (fun j => if j = (i : Int) then true else u j) := by
  obtain ⟨cs, h1, h2, h3⟩ := h
  refine ⟨cs.setIfInBounds i (.bool true), blk_set h1 i _, by simp [h2], fun j hj => ?_⟩
  show _ = some (Value.bool (if (j : Int) = (i : Int) then true else u j))
  rw [Array.getElem?_setIfInBounds]
  by_cases e : i = j
  · subst e
    rw [if_pos rfl, if_pos (by omega), if_pos rfl]
  · rw [if_neg e, if_neg (by omega)]
    exact h3 j hj
theorem UArr.new (Y : World) : UArr (Y.alloc (.cells (Array.replicate 240 (.bool false)) 58)) Y.heap.size (fun _ => false) :=
  ⟨_, blk_new _ _, by simp, fun i hi => by simp [Array.getElem?_replicate, hi]⟩
/-- What stands while frames are ticked off. -/
structure AI (w Y : World) (g8 g9 gb : Nat) (gr : Addr) (T C : Int) (ps : List S56) (cp : Nat) (u : Int → Bool) : Prop where
  bel : Below w.heap.size w Y
  box : Y.heap[g8]? = some (.cells #[.int .i64 (T + 140), .int .i64 T, .int .i64 60, .int .i64 C, .slice (some gr) ps.length cp] 41 (0, 0))
  row : Go.Proofs.YtecliaogidemjaaW.PrintWords.Kd.R k56 56 Y gb (fun _ => True) (.slice (some gr) ps.length cp) ps
  use : UArr Y g9 u
theorem AI.below {w Y Z : World} {g8 g9 gb : Nat} {gr : Addr} {T C : Int} {ps : List S56} {cp : Nat} {u : Int → Bool} (h : AI w Y g8 g9 gb gr T C ps cp u) (hb : Below Y.heap.size Y Z) : AI w Z g8 g9 gb gr T C ps cp u :=
  ⟨bel_chain h.bel hb, blk_below h.box hb, Go.Proofs.YtecliaogidemjaaW.PrintWords.Kd.R_below h.row hb, h.use.below hb⟩
theorem AI.put {w Y : World} {g8 g9 gb : Nat} {gr : Addr} {T C : Int} {ps : List S56} {cp : Nat} {u : Int → Bool} (h : AI w Y g8 g9 gb gr T C ps cp u) (h8 : g8 ≠ g9) (h9 : w.heap.size ≤ g9) {i : Nat} (hi : i < 240) : AI w (Y.setCell ⟨g9, i, none⟩ (.bool true)) g8 g9 gb gr T C ps cp (fun j => if j = (i : Int) then true else u j) := by
  obtain ⟨cs, h1, h2, h3⟩ := h.use
  exact ⟨h.bel.setCell h9 _, blk_far h.box h8 _, Go.Proofs.YtecliaogidemjaaW.PrintWords.Kd.R_set h.row h1 (by decide) i _, h.use.put hi⟩
theorem frB_at {u : Int → Bool} {b : Int} {n k : Nat} (h : frB u b n = true) (hk : k < n) : u (b + k) = false := by
  by_cases e : u (b + k) = true
  · rw [frB_hit e hk] at h; cases h
  · simpa using e
theorem zero58 (w : World) : (zeroValue 58).run Try.prog w = .ok (.agg (Array.replicate 240 (.bool false))) w := by kernel_rfl
theorem first_k {w : World} {A : Option Addr} {cp : Nat} {l : List S56} (F T S C : Int) (k c : Nat) (base : Int) (hc : Go.Proofs.YtecliaogidemjaaW.PrintWords.Kd.C k56 w A l.length l) (hl : l.length ≤ cp) (hv : LvIn l k) (h : lvP l k = lvs base 0 c) :
    Calls Try.prog 24 #[.agg #[.int .i64 F, .int .i64 T, .int .i64 S, .int .i64 C, .slice A l.length cp], .int .i64 k] w fun e w' => ∃ a3 c3 bz, e = .returned (.slice a3 c c3) ∧ Go.Proofs.YtecliaogidemjaaW.PrintWords.Kd.R k47 47 w' bz (fun _ => True) (.slice a3 c c3) (lvs base 0 c) ∧ Below w.heap.size w w' := by
  refine (boot_First.calls 1002 F T S C A cp l k _ w hc hl (first_f F T S C l k hv)).mono ?_
  rintro e w' ⟨v, rfl, hr, hb⟩
  rw [h] at hr
  obtain ⟨A3, c3, rfl, _, h3⟩ := Go.Proofs.YtecliaogidemjaaW.PrintWords.Kd.R_reads hr
  rw [lvs_len] at hr ⊢
  exact ⟨A3, c3, _, rfl, Go.Proofs.YtecliaogidemjaaW.PrintWords.Kd.R_mono hr (fun _ _ => trivial), hb⟩
theorem tdiv_mul (T : Int) (n : Nat) (h : 0 ≤ T) (hn : 1 ≤ n) : 0 ≤ T.tdiv n ∧ T.tdiv n * n ≤ T := by
  rw [Int.tdiv_eq_ediv_of_nonneg h]
  exact ⟨Int.ediv_nonneg h (by omega), Int.ediv_mul_le _ (by omega)⟩
set_option maxRecDepth 100000 in
set_option maxHeartbeats 16000000 in
theorem boot_apart (w : World) (A0 : Option Addr) (c0 : Nat) (pl : List Int) (hp : Go.Proofs.YtecliaogidemjaaW.PrintWords.Kd.C (Go.Proofs.YtecliaogidemjaaW.PrintWords.Kd.int .u8) w A0 pl.length pl) (hpc : pl.length ≤ c0) (hpb : ∀ x ∈ pl, 0 ≤ x ∧ x ≤ 255) :
    Calls Try.prog 8 #[.slice A0 pl.length c0] w fun e w' => e = .returned (.bool true) ∧ Below w.heap.size w w' := by
  have hu41 := Try.underlying41
  have hmax := Go.Proofs.YtecliaogidemjaaW.PrintWords.Kd.C_max hp
  have HP := Lib.hid hp
  have HPC := Lib.hid hpc
  have HPB := Lib.hid hpb
  clear hp hpc hpb
  by_cases h40 : 40 < (pl.length : Int)
  · go_enter Try.func8, Try.ntmps8
    go_wp2_with (first
      | (go_at_call 18; (with_reducible refine (begun8 _).mono ?_); rintro e W ⟨rfl, hb1⟩)
      | fail)
    go_ret
    exact ⟨rfl, hb1⟩
  obtain ⟨r, hr, hr6⟩ : ∃ r : Nat, Hid (pk pl 0 6 = (r : Int)) ∧ r < 6 := by
    have hb7 := pk_in pl 0 (m := 6) (by decide)
    exact ⟨(pk pl 0 6).toNat, Lib.hid (by omega), by omega⟩
  have hP : (1 + (r : Int)) = ((r + 1 : Nat) : Int) := by omega
  have HPP := Lib.hid hP
  clear hP
  obtain ⟨T, hT⟩ : ∃ T, bT pl 1 (r + 1) = T := ⟨_, rfl⟩
  obtain ⟨C, hC⟩ : ∃ C, 1 + pk pl 1 3 = C := ⟨_, rfl⟩
  obtain ⟨ps, hps⟩ : ∃ ps, (bst pl 1 T (r + 1)).1 = ps := ⟨_, rfl⟩
  have hlen : ps.length = r + 1 := by rw [← hps]; exact bst_len _ _ _ _
  have hok := made_ok pl 1 (r + 1) (by omega) (by omega)
  have hT2 := bT_in pl 1 (r + 1) (by omega)
  rw [hT] at hT2
  rw [hT, hC, hps] at hok
  have hwf : ∀ k, k < ps.length → (Lit.int .i64 (rd_T56 ps k).f8).wf = true := fun k hk => by
    have hok2 := hok
    unfold chk at hok2
    rw [Bool.and_eq_true, Bool.and_eq_true] at hok2
    have h0 := okl_devB ps _ _ hok2.2 (rd_T56 ps k) (rd_mem (by omega) (by omega))
    exact wf_in (by omega)
  have hlen1 : 0 < ps.length := by omega
  have hlen6 : ps.length ≤ 6 := by omega
  have HLEN := Lib.hid hlen
  have HOK := Lib.hid (show chkE (T + 140) T 60 C ps = 0 by unfold chkE; rw [if_pos hok])
  have HWF := Lib.hid hwf
  have HT := Lib.hid hT
  have HC1 := Lib.hid hC
  have HPS := Lib.hid hps
  have hok2 := hok
  unfold chk at hok2
  rw [Bool.and_eq_true, Bool.and_eq_true] at hok2
  have HOL := Lib.hid hok2.2
  have HLV := Lib.hid (fun p => chk_lv hok p)
  clear hok2
  clear hT hC hps hlen hok hwf
  suffices hgoal : True from ?_
  · go_enter Try.func8, Try.ntmps8
    go_upto_region 9 with (first
      | (go_at_call 18; (with_reducible refine (begun8 _).mono ?_); rintro e W ⟨rfl, hb1⟩; have HB1 := Lib.hid hb1; clear hb1)
      | (go_at_call 26; (with_reducible refine (made_any A0 c0 pl _ (Go.Proofs.YtecliaogidemjaaW.PrintWords.Kd.C_below HP.out HB1.out) HPC.out).mono ?_); rintro e w1 ⟨g, rfl, I1, B1⟩)
      | (go_at_call 28; (with_reducible refine (num_any HPB.out (by omega) I1 B1 (by decide)).mono ?_); rw [hr.out]; rintro e w2 ⟨rfl, I2, B2, _⟩; clear I1 B1)
      | (go_at_call 27; rw [HPP.out]; (with_reducible refine (bill_any HPB.out (by omega) 1 (r + 1) (by omega) I2 B2).mono ?_); rw [HT.out, HC1.out, HPS.out]; rintro e w3 ⟨v, rfl, R3, B3, K3, _⟩; obtain ⟨gr, cp, rfl, hgr1, hgr2, hgr3⟩ := Go.Proofs.YtecliaogidemjaaW.PrintWords.Kd.R_form R3 hlen1; have hsz2 : w.heap.size ≤ w2.heap.size := Nat.le_trans HB1.out.size B2.size; have hbw := Lib.hid (bel_chain HB1.out B3); have R3h := Lib.hid R3; clear I2 B2 B3 R3 hgr3)
      | (go_at_call 19; (with_reducible refine (check_any _ (T + 140) T 60 C _ ps cp (Go.Proofs.YtecliaogidemjaaW.PrintWords.Kd.C_alloc (Go.Proofs.YtecliaogidemjaaW.PrintWords.Kd.R_reads' R3h.out).2.2 _) (Go.Proofs.YtecliaogidemjaaW.PrintWords.Kd.R_reads' R3h.out).2.1 HWF.out).mono ?_); rw [HOK.out]; rintro e X ⟨rfl, hbX⟩; have RX := Lib.hid (Go.Proofs.YtecliaogidemjaaW.PrintWords.Kd.R_below (Go.Proofs.YtecliaogidemjaaW.PrintWords.Kd.R_below R3h.out (bel_alloc (Below.refl _ _) _)) hbX); have BX := Lib.hid (blk_below (blk_new w3 (.cells #[.int .i64 (T + 140), .int .i64 T, .int .i64 60, .int .i64 C, .slice (some ⟨gr, 0, none⟩) ps.length cp] 41)) hbX); have HBX := Lib.hid (bel_chain (bel_alloc hbw.out _) hbX); have hc5 := cells5 BX.out; have hf8 := blk_free BX.out; clear hbX)
      | fail)
    obtain ⟨g8, hg8e⟩ : ∃ g8, w3.heap.size = g8 := ⟨_, rfl⟩
    have hg8 : w.heap.size ≤ g8 := by rw [← hg8e]; exact hbw.out.size
    rw [hg8e] at BX hc5 hf8 ⊢
    clear hg8e
    obtain ⟨ga, hga⟩ : ∃ a : Addr, (⟨gr, 0, none⟩ : Addr) = a := ⟨_, rfl⟩
    rw [hga] at BX RX hc5 ⊢
    obtain ⟨Tn, rfl⟩ : ∃ n : Nat, T = (n : Int) := ⟨T.toNat, by omega⟩
    have hg9 : g8 ≠ X.heap.size := Nat.ne_of_lt (blk_lt BX.out)
    have hg9w := HBX.out.size
    have HI := Lib.hid (show AI w (X.alloc (.cells (Array.replicate 240 (.bool false)) 58)) g8 X.heap.size w2.heap.size ga Tn C ps cp (fun _ => false) from ⟨bel_alloc HBX.out _, blk_alloc BX.out _, Go.Proofs.YtecliaogidemjaaW.PrintWords.Kd.R_alloc RX.out _, UArr.new X⟩)
    have HT2 := Lib.hid hT2
    clear hT2
    have hz := zero58 X
    go_wp2
    obtain ⟨g9, hg9e⟩ : ∃ g9, X.heap.size = g9 := ⟨_, rfl⟩
    rw [hg9e] at hg9 hg9w HI ⊢
    obtain ⟨Y0, hY0⟩ : ∃ Y, X.alloc (.cells (Array.replicate 240 (.bool false)) 58) = Y := ⟨_, rfl⟩
    rw [hY0] at HI ⊢
    clear hY0 hz hc5 BX RX HBX hg9e
    go_loopw [6] (fun i wr => ∃ k : Nat, k ≤ Tn ∧ i = .int .i64 k ∧ AI w wr g8 g9 w2.heap.size ga Tn C ps cp (addU (fun _ => false) 0 k)) (fun i _ => Tn - (intOf i).toNat)
    case atStart => exact ⟨0, by omega, rfl, by rw [addU_zero]; exact HI.out⟩
    case round =>
      obtain ⟨k, hk, rfl, RI⟩ := hrel
      clear HI
      have hc5 := cells5 RI.box
      have hTl := HT2.out
      by_cases hkt : k < Tn
      · have hat := RI.use.at (i := k) (by omega)
        have hfr := RI.use.free k
        go_wp2
        go_roundw
        case measure => simp [intOf]; omega
        case rel => exact ⟨k + 1, by omega, by go_num, by rw [← addU_succ]; have h := RI.put hg9 hg9w (i := k) (by omega); rw [show ((k : Nat) : Int) = 0 + (k : Int) by omega] at h; exact h⟩
      have hkt2 : k = Tn := by omega
      subst hkt2
      go_wp2
      have HI2 := Lib.hid RI
      clear RI hc5
      go_loopw [7] (fun i wr => ∃ j : Nat, j ≤ ps.length ∧ i = .int .i64 j ∧ ∃ u uA d : Int → Bool, Hid (okl ((k : Int) + 140) k 60 (ps.drop j) u d = true) ∧ Hid (∀ x, (k : Int) ≤ x → uA x = u x) ∧ AI w wr g8 g9 w2.heap.size ga k C ps cp uA) (fun i _ => ps.length - (intOf i).toNat)
      case atStart => exact ⟨0, by omega, rfl, _, _, _, HOL, Lib.hid (fun x hx => by unfold addU; simp; omega), HI2.out⟩
      case round =>
        obtain ⟨j, hj, rfl, u, uA, d, RO, RU, RI⟩ := hrel
        clear HI2
        have hc5 := cells5 RI.box
        by_cases hjl : j < ps.length
        · have ho := RO.out
          rw [okl_drop hjl] at ho
          obtain ⟨p, hp⟩ : ∃ p, rd_T56 ps j = p := ⟨_, rfl⟩
          rw [hp] at ho
          rw [Bool.and_eq_true] at ho
          obtain ⟨ho1, ho2⟩ := ho
          unfold okp okh at ho1
          simp only [Bool.and_eq_true, decide_eq_true_eq] at ho1
          obtain ⟨⟨⟨⟨⟨⟨⟨k1, k2⟩, k3⟩, k4⟩, k5⟩, k6⟩, _⟩, k8⟩ := ho1
          obtain ⟨c, hcn⟩ : ∃ c : Nat, p.f7 = (c : Int) := ⟨p.f7.toNat, by omega⟩
          obtain ⟨bn, hbn⟩ : ∃ b : Nat, p.f6 = (b : Int) := ⟨p.f6.toNat, by cases h : p.f0 <;> simp [h] at k3 <;> omega⟩
          obtain ⟨sec, hsec⟩ : ∃ b, p.f0 = b := ⟨_, rfl⟩
          simp only [hcn, hbn] at ho2 k8 k4 k3 k2 k1
          rw [hsec] at k3 k4
          rw [Int.toNat_natCast] at ho2 k8
          have hk3 : (k : Int) ≤ bn := by cases sec <;> simp at k3 <;> omega
          have hk4 : bn + c ≤ k + 140 := by cases sec <;> simp at k4 <;> omega
          have hks : ∀ x : Nat, x < c → decide (((bn + x : Nat) : Int) < (k : Int) + 60) = sec := fun x hx => by
            cases sec
            · simp at k3; exact decide_eq_false (by omega)
            · simp at k4; exact decide_eq_true (by omega)
          have hlv : lvP ps j = lvs bn 0 c := by
            unfold lvP
            rw [if_pos ⟨by omega, by omega⟩, hp, hcn, hbn, Int.toNat_natCast]
          have HFr := Lib.hid k8
          have HO2 := Lib.hid ho2
          have HRI := Lib.hid RI
          have HKS := Lib.hid hks
          have HP6 := Lib.hid hbn
          have HP7 := Lib.hid hcn
          have HP0 := Lib.hid hsec
          have HP := Lib.hid hp
          have hj0 : (0 : Int) ≤ (j : Int) := by omega
          have hj1 : (j : Int) < (ps.length : Int) := by omega
          clear k8 ho2 RI hks hbn hcn hsec k1 k3 k4 k5 k6 hp RO
          go_wp2_with (first
            | (go_at_call 24; (with_reducible refine (first_k ((k : Int) + 140) k 60 C j c bn (Go.Proofs.YtecliaogidemjaaW.PrintWords.Kd.R_reads' HRI.out.row).2.2 (Go.Proofs.YtecliaogidemjaaW.PrintWords.Kd.R_reads' HRI.out.row).2.1 (HLV.out j) hlv).mono ?_); rintro e w5 ⟨a5, c5, bz, rfl, h5, hb5⟩; have RI5 := HRI.out.below hb5; have hc5 := cells5 RI5.box; obtain ⟨_, e5, x0, _, _, _, _, _, _, x7, _⟩ := at_T56 (Go.Proofs.YtecliaogidemjaaW.PrintWords.Kd.R_reads' RI5.row).2.2 j (by omega) (by omega); cases e5; rw [HP.out] at x0 x7; rw [HP7.out] at x7; rw [HP0.out] at x0; rw [Int.toNat_natCast] at x0 x7; have HR5 := Lib.hid h5; have HRI5 := Lib.hid RI5; clear h5 RI5 hb5 HRI)
            | fail)
          clear hc5 x0 x7
          go_loopw [9] (fun i wr => ∃ q : Nat, q ≤ c ∧ i = .int .i64 q ∧ AI w wr g8 g9 w2.heap.size ga k C ps cp (addU uA bn q) ∧ Go.Proofs.YtecliaogidemjaaW.PrintWords.Kd.R k47 47 wr bz (fun _ => True) (.slice a5 c c5) (lvs bn 0 c)) (fun i _ => c - (intOf i).toNat)
          case atStart => exact ⟨0, by omega, rfl, by rw [addU_zero]; exact HRI5.out, HR5.out⟩
          case round =>
            obtain ⟨q, hq, rfl, RI, RL⟩ := hrel
            clear HRI5 HR5
            have hc5 := cells5 RI.box
            by_cases hqc : q < c
            · obtain ⟨f, hf⟩ : ∃ f : Nat, bn + q = f := ⟨_, rfl⟩
              have hfs := HKS.out q hqc
              rw [hf] at hfs
              have hu : addU uA bn q f = false := by
                have e : ((f : Nat) : Int) = (bn : Int) + q := by omega
                rw [e, addU_at, RU.out _ (by omega)]
                exact frB_at HFr.out hqc
              have hat := RI.use.at (i := f) (by omega)
              rw [hu] at hat
              have hfr := RI.use.free f
              obtain ⟨_, e5, x0, _, _, _, _, _, _, _, _⟩ := at_T56 (Go.Proofs.YtecliaogidemjaaW.PrintWords.Kd.R_reads' RI.row).2.2 j (by omega) (by omega)
              cases e5
              rw [HP.out, HP0.out, Int.toNat_natCast] at x0
              have hl5 := (Go.Proofs.YtecliaogidemjaaW.PrintWords.Kd.R_reads' RL).2.2
              rw [lvs_len] at hl5
              obtain ⟨ad5, e5, y0, y1⟩ := at_T47 hl5 q (by omega) (by omega)
              cases e5
              have hy : rd_T47 (lvs bn 0 c) q = ⟨(f : Int), 7⟩ := by
                unfold rd_T47
                rw [Int.toNat_natCast, lvs_get _ _ _ _ hqc, ← hf]
                simp
              rw [hy, Int.toNat_natCast] at y0 y1
              have hq0 : (0 : Int) ≤ (q : Int) := by omega
              have hq1 : (q : Int) < (c : Int) := by omega
              have d1 : decide ((f : Int) < 0) = false := decide_eq_false (by omega)
              have d2 : decide ((k : Int) + 140 ≤ (f : Int)) = false := decide_eq_false (by omega)
              have hf0 : (0 : Int) ≤ (f : Int) := by omega
              have hf1 : (f : Int) < 240 := by have := HT2.out; omega
              have HU := Lib.hid hu
              have HF := Lib.hid hf
              have HRI := Lib.hid RI
              have HRL := Lib.hid RL
              clear hu hf RI RL hl5 hy
              go_wp2
              go_quiet (fail)
              obtain ⟨W, hW⟩ : ∃ W, World.drewN wr nq = W := ⟨_, rfl⟩
              rw [hW]
              have RI2 := HRI.out.below (bel_drewN (Below.refl _ _) nq)
              have RL2 := Go.Proofs.YtecliaogidemjaaW.PrintWords.Kd.R_drewN HRL.out nq
              rw [hW] at RI2 RL2
              clear hW nq hat hfr hc5 x0 y0 y1 HRI HRL
              have hat := RI2.use.at (i := f) (by omega)
              rw [HU.out] at hat
              have hfr := RI2.use.free f
              have HRI := Lib.hid RI2
              have HRL := Lib.hid RL2
              clear RI2 RL2
              go_wp2
              go_roundw
              case measure => simp [intOf]; omega
              case rel =>
                obtain ⟨cs9, hb9, _, _⟩ := HRI.out.use
                have h := HRI.out.put hg9 hg9w (i := f) (by omega)
                rw [show ((f : Nat) : Int) = (bn : Int) + q by have := HF.out; omega, addU_succ] at h
                exact ⟨q + 1, by omega, by go_num, h, Go.Proofs.YtecliaogidemjaaW.PrintWords.Kd.R_set HRL.out hb9 (by decide) f _⟩
            · have hqc2 : q = c := by omega
              subst hqc2
              go_wp2
              go_roundw
              case measure => simp [intOf]; omega
              case rel => exact ⟨j + 1, by omega, by go_num, _, _, _, HO2, Lib.hid (fun x hx => by unfold addU; rw [RU.out x hx]), RI⟩
        · have hjl2 : j = ps.length := by omega
          subst hjl2
          obtain ⟨YE, hYE⟩ : ∃ Y, wr = Y := ⟨_, rfl⟩
          rw [hYE] at RI ⊢
          clear hYE hc5 RO RU
          have hc5 := cells5 RI.box
          have HRI := Lib.hid RI
          have hTl := HT2.out
          have hq := quota_f ((k : Int) + 140) k 60 C ps (by omega) (by omega)
          obtain ⟨m0, m1⟩ := tdiv_mul (k : Int) ps.length (by omega) (by omega)
          obtain ⟨m, hm⟩ : ∃ m : Int, (k : Int).tdiv ps.length = m := ⟨_, rfl⟩
          rw [hm] at m0 m1 hq
          obtain ⟨m2, hm2⟩ : ∃ m2 : Nat, m * (ps.length : Int) = (m2 : Int) := ⟨(m * (ps.length : Int)).toNat, by have := Int.mul_nonneg m0 (show (0 : Int) ≤ (ps.length : Int) by omega); omega⟩
          rw [hm2] at m1
          have hmw : IntKind.i64.wrap (m * (ps.length : Int)) = (m2 : Int) := by rw [hm2]; exact IntWalk.i64_in _ (by omega)
          have hmd : decide ((m2 : Int) ≤ (k : Int)) = true := decide_eq_true (by omega)
          have HC := Lib.hid (show ∀ w', Below YE.heap.size YE w' → w'.cell? ⟨g8, 0, none⟩ = some (.int .i64 ((k : Int) + 140)) ∧ w'.cell? ⟨g8, 1, none⟩ = some (.int .i64 k) ∧ w'.cell? ⟨g8, 2, none⟩ = some (.int .i64 60) ∧ w'.cell? ⟨g8, 3, none⟩ = some (.int .i64 C) ∧ w'.cell? ⟨g8, 4, none⟩ = some (.slice (some ga) ps.length cp) from fun w' h => cells5 (blk_below HRI.out.box h))
          have HK21 := Lib.hid (show ∀ w', Below YE.heap.size YE w' → Calls Try.prog 21 #[.agg #[.int .i64 ((k : Int) + 140), .int .i64 k, .int .i64 60, .int .i64 C, .slice (some ga) ps.length cp]] w' fun e w'' => e = .returned (.int .i64 m) ∧ Below w'.heap.size w' w'' from fun w' h => boot_Quota.calls ((k : Int) + 140) k 60 C (some ga) cp ps m w' (Go.Proofs.YtecliaogidemjaaW.PrintWords.Kd.C_below (Go.Proofs.YtecliaogidemjaaW.PrintWords.Kd.R_reads' HRI.out.row).2.2 h) (Go.Proofs.YtecliaogidemjaaW.PrintWords.Kd.R_reads' HRI.out.row).2.1 hq)
          clear RI hq hm hm2 m0 m1 hTl
          go_wp2
          clear hc5
          refine wp_region_noPanic ?_
          refine RegH.startH_ (n := 10) (S := fun w' => (Below YE.heap.size YE w')) #[false, false, false, false, false, false, false, false, false, false] (by kernel_rfl) rfl rfl (bel_drew (Below.refl _ _)) (fun hHeld0 => ?_)
          refine RegH.takeH_ (i := 0) (N := (some 103)) (v := ?_) (a' := ?_) #[true, false, false, false, false, false, false, false, false, false] rfl rfl (by kernel_rfl) (by kernel_rfl) (by kernel_rfl) rfl (fun _ _ _ h => h) (Or.inl ⟨by rfl, ?_⟩) hHeld0 ?_ ?_
          rotate_left
          · rintro w' s0
            obtain ⟨e0, e1, e2, e3, e4⟩ := HC.out w' s0; go_simp
            with_reducible rfl
          rotate_left
          · simp only [Act.put, List.setIfInBounds_toArray, List.set_cons_zero, List.set_cons_succ]
            rfl
          refine RegH.takeH_ (i := 2) (N := (some 105)) (v := ?_) (a' := ?_) #[true, false, true, false, false, false, false, false, false, false] rfl rfl (by kernel_rfl) (by kernel_rfl) (by kernel_rfl) rfl (fun _ _ _ h => h) (Or.inl ⟨by rfl, ?_⟩) hHeld0 ?_ ?_
          rotate_left
          · rintro w' s0
            obtain ⟨e0, e1, e2, e3, e4⟩ := HC.out w' s0; go_simp
            with_reducible rfl
          rotate_left
          · simp only [Act.put, List.setIfInBounds_toArray, List.set_cons_zero, List.set_cons_succ]
            rfl
          refine RegH.takeH_ (i := 3) (N := (some 106)) (v := ?_) (a' := ?_) #[true, false, true, true, false, false, false, false, false, false] rfl rfl (by kernel_rfl) (by kernel_rfl) (by kernel_rfl) rfl (fun _ _ _ h => h) (Or.inl ⟨by rfl, ?_⟩) hHeld0 ?_ ?_
          rotate_left
          · rintro w' s0
            obtain ⟨e0, e1, e2, e3, e4⟩ := HC.out w' s0; go_simp
            with_reducible rfl
          rotate_left
          · simp only [Act.put, List.setIfInBounds_toArray, List.set_cons_zero, List.set_cons_succ]
            rfl
          refine RegH.takeH_ (i := 4) (N := (some 107)) (v := ?_) (a' := ?_) #[true, false, true, true, true, false, false, false, false, false] rfl rfl (by kernel_rfl) (by kernel_rfl) (by kernel_rfl) rfl (fun _ _ _ h => h) (Or.inl ⟨by rfl, ?_⟩) hHeld0 ?_ ?_
          rotate_left
          · rintro w' s0
            obtain ⟨e0, e1, e2, e3, e4⟩ := HC.out w' s0; go_simp
            with_reducible rfl
          rotate_left
          · simp only [Act.put, List.setIfInBounds_toArray, List.set_cons_zero, List.set_cons_succ]
            rfl
          refine RegH.takeH_ (i := 6) (N := (some 109)) (v := ?_) (a' := ?_) #[true, false, true, true, true, false, true, false, false, false] rfl rfl (by kernel_rfl) (by kernel_rfl) (by kernel_rfl) rfl (fun _ _ _ h => h) (Or.inl ⟨by rfl, ?_⟩) hHeld0 ?_ ?_
          rotate_left
          · rintro w' s0
            obtain ⟨e0, e1, e2, e3, e4⟩ := HC.out w' s0; go_simp
            with_reducible rfl
          rotate_left
          · simp only [Act.put, List.setIfInBounds_toArray, List.set_cons_zero, List.set_cons_succ]
            rfl
          refine RegH.takeH_ (i := 7) (N := (some 110)) (v := ?_) (a' := ?_) #[true, false, true, true, true, false, true, true, false, false] rfl rfl (by kernel_rfl) (by kernel_rfl) (by kernel_rfl) rfl (fun _ _ _ h => h) (Or.inl ⟨by rfl, ?_⟩) hHeld0 ?_ ?_
          rotate_left
          · rintro w' s0
            obtain ⟨e0, e1, e2, e3, e4⟩ := HC.out w' s0; go_simp
            with_reducible rfl
          rotate_left
          · simp only [Act.put, List.setIfInBounds_toArray, List.set_cons_zero, List.set_cons_succ]
            rfl
          refine RegH.oneH_ (i := 1) (N := (some 104)) #[true, true, true, true, true, false, true, true, false, false] rfl rfl (by kernel_rfl) rfl (fun K hK => ?_)
          refine Go.Proofs.YtecliaogidemjaaW.PrintLast.goes_ Try.func21 (by kernel_rfl) rfl #[.agg #[.int .i64 ((k : Int) + 140), .int .i64 k, .int .i64 60, .int .i64 C, .slice (some ga) ps.length cp]] (by rfl) rfl rfl (by (try simp only [List.map_toArray, List.map_cons, List.map_nil]); first | done | rfl) ?_
          refine ((HK21.out _ hHeld0)).mono ?_
          rintro e w40 ⟨rfl, hb40⟩
          refine ⟨_, rfl, ?_⟩
          refine hK.out _ _ (bel_chain hHeld0 hb40) (fun hHeld1 => ?_)
          clear hK K hHeld0
          simp only [Act.put, List.setIfInBounds_toArray, List.set_cons_zero, List.set_cons_succ]
          refine RegH.takeH_ (i := 5) (N := (some 108)) (v := ?_) (a' := ?_) #[true, true, true, true, true, true, true, true, false, false] rfl rfl (by kernel_rfl) (by kernel_rfl) (by kernel_rfl) rfl (fun _ _ _ h => h) (Or.inl ⟨by rfl, ?_⟩) hHeld1 ?_ ?_
          rotate_left
          · rintro w' s0
            obtain ⟨e0, e1, e2, e3, e4⟩ := HC.out w' s0; go_simp
            with_reducible rfl
          rotate_left
          · simp only [Act.put, List.setIfInBounds_toArray, List.set_cons_zero, List.set_cons_succ]
            rfl
          refine RegH.takeH_ (i := 8) (N := (some 111)) (v := ?_) (a' := ?_) #[true, true, true, true, true, true, true, true, true, false] rfl rfl (by kernel_rfl) (by kernel_rfl) (by kernel_rfl) rfl (fun _ _ _ h => h) (Or.inl ⟨by rfl, ?_⟩) hHeld1 ?_ ?_
          rotate_left
          · rintro w' s0
            obtain ⟨e0, e1, e2, e3, e4⟩ := HC.out w' s0; go_simp
            with_reducible rfl
          rotate_left
          · simp only [Act.put, List.setIfInBounds_toArray, List.set_cons_zero, List.set_cons_succ]
            rfl
          refine RegH.takeH_ (i := 9) (N := (some 2)) (v := ?_) (a' := ?_) #[true, true, true, true, true, true, true, true, true, true] rfl rfl (by kernel_rfl) (by kernel_rfl) (by kernel_rfl) rfl (fun _ _ _ h => h) (Or.inl ⟨by rfl, ?_⟩) hHeld1 ?_ ?_
          rotate_left
          · rintro w' s0
            obtain ⟨e0, e1, e2, e3, e4⟩ := HC.out w' s0; go_simp
            with_reducible rfl
          rotate_left
          · simp only [Act.put, List.setIfInBounds_toArray, List.set_cons_zero, List.set_cons_succ]
            rfl
          refine RegH.doneH_ (by kernel_rfl) ?_
          refine NoPanic.normal ?_
          go_wp2
          go_ret
          exact ⟨congrArg (fun b => Ending.returned (.bool b)) (show decide (m2 ≤ k) = true from decide_eq_true (by have := of_decide_eq_true hmd; omega)), bel_chain HRI.out.bel hHeld1⟩
  · trivial
end Go.Proofs.Ytecliaogidemjaa.Boot
