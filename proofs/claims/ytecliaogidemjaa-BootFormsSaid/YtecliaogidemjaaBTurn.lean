/- The statement on bills of which a number was turned, walked. -/
import Derived.Test.YtecliaogidemjaaBAll
import Derived.Test.YtecliaogidemjaaPickP
import Derived.Test.YtecliaogidemjaaBillO
import Derived.StillTailTactics
namespace Go.Proofs.Ytecliaogidemjaa.Boot
open Go.RowKit Go.Proofs.Ytecliaogidemjaa.Mem Go.Proofs.Ytecliaogidemjaa.Kept Go.Proofs.Ytecliaogidemjaa.PBootAll Go.Proofs.Ytecliaogidemjaa.Pick Go.Proofs.Ytecliaogidemjaa.BillO
set_option linter.unusedVariables false
set_option linter.unusedSimpArgs false

/-- The end: both checks of one bill. -/
structure TEnd (w X : World) (g8 : Nat) (F T S C : Int) (A : Option Addr) (l : List S56) (cp : Nat) : Prop where
  bel : Below w.heap.size w X
  box : X.heap[g8]? = some (.cells #[.int .i64 F, .int .i64 T, .int .i64 S, .int .i64 C, .slice A l.length cp] 41 (0, 0))
  row : Go.Proofs.YtecliaogidemjaaW.PrintWords.Kd.C k56 X A l.length l
  le : l.length ≤ cp
  wf : ∀ k, k < l.length → (Lit.int .i64 (rd_T56 l k).f8).wf = true
theorem okl_devB {F T S : Int} : ∀ (l : List S56) (u d : Int → Bool), okl F T S l u d = true → ∀ p ∈ l, 0 ≤ p.f8 ∧ p.f8 ≤ 4
  | [], u, d, h, p, hp => by cases hp
  | q :: t, u, d, h, p, hp => by
    unfold okl at h
    rw [Bool.and_eq_true] at h
    rcases List.mem_cons.1 hp with rfl | hp
    · have h1 := h.1
      unfold okp okh at h1
      simp only [Bool.and_eq_true, decide_eq_true_eq] at h1
      obtain ⟨⟨⟨⟨⟨⟨⟨_, _⟩, _⟩, _⟩, a⟩, b⟩, _⟩, _⟩ := h1
      exact ⟨a, b⟩
    · exact okl_devB t _ _ h.2 p hp
theorem rd_nat {l : List S56} {k : Nat} (h : k < l.length) : rd_T56 l k = l[k] := by unfold rd_T56; simp [List.getD_eq_getElem?_getD, List.getElem?_eq_getElem h]
theorem set_wf {l : List S56} (h : ∀ k, k < l.length → (Lit.int .i64 (rd_T56 l k).f8).wf = true) (i : Nat) {x : S56} (hx : (Lit.int .i64 x.f8).wf = true) : ∀ k, k < (l.set i x).length → (Lit.int .i64 (rd_T56 (l.set i x) k).f8).wf = true := fun k hk => by
  have hk' : k < l.length := by simpa using hk
  rw [rd_nat hk]
  by_cases e : i = k
  · subst e; simpa using hx
  · rw [List.getElem_set_ne e, ← rd_nat hk']; exact h k hk'
set_option maxRecDepth 100000 in
set_option maxHeartbeats 16000000 in
theorem boot_turned (w : World) (A0 : Option Addr) (c0 : Nat) (pl : List Int) (wh n : Int) (hp : Go.Proofs.YtecliaogidemjaaW.PrintWords.Kd.C (Go.Proofs.YtecliaogidemjaaW.PrintWords.Kd.int .u8) w A0 pl.length pl) (hpc : pl.length ≤ c0) (hpb : ∀ x ∈ pl, 0 ≤ x ∧ x ≤ 255) (hwh : 0 ≤ wh ∧ wh ≤ 255) (hn : (Lit.int .i64 n).wf = true) :
    Calls Try.prog 7 #[.slice A0 pl.length c0, .int .u8 wh, .int .i64 n] w fun e w' => e = .returned (.bool true) ∧ Below w.heap.size w w' := by
  have hu41 := Try.underlying41
  have hmax := Go.Proofs.YtecliaogidemjaaW.PrintWords.Kd.C_max hp
  have HP := Lib.hid hp
  have HPC := Lib.hid hpc
  have HPB := Lib.hid hpb
  have HN := Lib.hid hn
  clear hp hpc hpb hn
  by_cases h40 : 40 < (pl.length : Int)
  · go_enter Try.func7, Try.ntmps7
    go_wp2_with (first
      | (go_at_call 18; (with_reducible refine (begun8 _).mono ?_); rintro e W ⟨rfl, hb1⟩)
      | fail)
    go_ret
    exact ⟨rfl, hb1⟩
  obtain ⟨r, hr, hr6⟩ : ∃ r : Nat, Hid (pk pl 0 6 = (r : Int)) ∧ r < 6 := by
    have hb7 := pk_in pl 0 (m := 6) (by decide)
    exact ⟨(pk pl 0 6).toNat, Lib.hid (by omega), by omega⟩
  have hP : (1 + (r : Int)) = ((r + 1 : Nat) : Int) := by omega
  have HPP := Lib.hid hP
  clear hP
  obtain ⟨T, hT⟩ : ∃ T, bT pl 1 (r + 1) = T := ⟨_, rfl⟩
  obtain ⟨C, hC⟩ : ∃ C, 1 + pk pl 1 3 = C := ⟨_, rfl⟩
  obtain ⟨ps, hps⟩ : ∃ ps, (bst pl 1 T (r + 1)).1 = ps := ⟨_, rfl⟩
  have hlen : ps.length = r + 1 := by rw [← hps]; exact bst_len _ _ _ _
  have hok := made_ok pl 1 (r + 1) (by omega) (by omega)
  have hT2 := bT_in pl 1 (r + 1) (by omega)
  rw [hT] at hT2
  rw [hT, hC, hps] at hok
  have hwf : ∀ k, k < ps.length → (Lit.int .i64 (rd_T56 ps k).f8).wf = true := fun k hk => by
    have hok2 := hok
    unfold chk at hok2
    rw [Bool.and_eq_true, Bool.and_eq_true] at hok2
    have h0 := okl_devB ps _ _ hok2.2 (rd_T56 ps k) (rd_mem (by omega) (by omega))
    exact wf_in (by omega)
  have hlen1 : 0 < ps.length := by omega
  have hlen6 : ps.length ≤ 6 := by omega
  have HLEN := Lib.hid hlen
  have HOK := Lib.hid (show chkE (T + 140) T 60 C ps = 0 by unfold chkE; rw [if_pos hok])
  have HWF := Lib.hid hwf
  have HT := Lib.hid hT
  have HC1 := Lib.hid hC
  have HPS := Lib.hid hps
  clear hT hC hps hlen hok hwf
  obtain ⟨dn, hdn⟩ : ∃ d : Nat, wh / 8 = (d : Int) := ⟨(wh / 8).toNat, by omega⟩
  obtain ⟨kk, hkk⟩ : ∃ k : Nat, dn % ps.length = k := ⟨_, rfl⟩
  have hkl : kk < ps.length := by rw [← hkk]; exact Nat.mod_lt _ hlen1
  have q1 : wh.tdiv 8 = (dn : Int) := by rw [Int.tdiv_eq_ediv_of_nonneg hwh.1]; exact hdn
  have q2 : Int.tmod (dn : Int) (ps.length : Int) = (kk : Int) := by rw [Int.tmod_eq_emod_of_nonneg (by omega), ← hkk]; omega
  have q3 : (dn : Int) ≤ 31 := by omega
  obtain ⟨m, hm⟩ : ∃ m : Nat, wh % 8 = (m : Int) := ⟨(wh % 8).toNat, by omega⟩
  have q4 : wh.tmod 8 = (m : Int) := by rw [Int.tmod_eq_emod_of_nonneg hwh.1]; exact hm
  have hm8 : m < 8 := by omega
  have hk0 : (0 : Int) ≤ (kk : Int) := by omega
  have hk1 : (kk : Int) < (ps.length : Int) := by omega
  have hdz : decide ((ps.length : Int) = 0) = false := decide_eq_false (by omega)
  clear hdn hkk hm
  suffices hgoal : True from ?_
  · go_enter Try.func7, Try.ntmps7
    go_upto_region 10 with (first
      | (go_at_call 18; (with_reducible refine (begun8 _).mono ?_); rintro e W ⟨rfl, hb1⟩; have HB1 := Lib.hid hb1; clear hb1)
      | (go_at_call 26; (with_reducible refine (made_any A0 c0 pl _ (Go.Proofs.YtecliaogidemjaaW.PrintWords.Kd.C_below HP.out HB1.out) HPC.out).mono ?_); rintro e w1 ⟨g, rfl, I1, B1⟩)
      | (go_at_call 28; (with_reducible refine (num_any HPB.out (by omega) I1 B1 (by decide)).mono ?_); rw [hr.out]; rintro e w2 ⟨rfl, I2, B2, _⟩; clear I1 B1)
      | (go_at_call 27; rw [HPP.out]; (with_reducible refine (bill_any HPB.out (by omega) 1 (r + 1) (by omega) I2 B2).mono ?_); rw [HT.out, HC1.out, HPS.out]; rintro e w3 ⟨v, rfl, R3, B3, K3, _⟩; obtain ⟨gr, cp, rfl, hgr1, hgr2, hgr3⟩ := Go.Proofs.YtecliaogidemjaaW.PrintWords.Kd.R_form R3 hlen1; have hsz2 : w.heap.size ≤ w2.heap.size := Nat.le_trans HB1.out.size B2.size; have hbw := Lib.hid (bel_chain HB1.out B3); have R3h := Lib.hid R3; clear I2 B2 B3 R3 hgr3)
      | (go_at_call 19; (with_reducible refine (check_any _ (T + 140) T 60 C _ ps cp (Go.Proofs.YtecliaogidemjaaW.PrintWords.Kd.C_alloc (Go.Proofs.YtecliaogidemjaaW.PrintWords.Kd.R_reads' R3h.out).2.2 _) (Go.Proofs.YtecliaogidemjaaW.PrintWords.Kd.R_reads' R3h.out).2.1 HWF.out).mono ?_); rw [HOK.out]; rintro e X ⟨rfl, hbX⟩; have RX := Lib.hid (Go.Proofs.YtecliaogidemjaaW.PrintWords.Kd.R_below (Go.Proofs.YtecliaogidemjaaW.PrintWords.Kd.R_below R3h.out (bel_alloc (Below.refl _ _) _)) hbX); have BX := Lib.hid (blk_below (blk_new w3 (.cells #[.int .i64 (T + 140), .int .i64 T, .int .i64 60, .int .i64 C, .slice (some ⟨gr, 0, none⟩) ps.length cp] 41)) hbX); have HBX := Lib.hid (bel_chain (bel_alloc hbw.out _) hbX); have hc5 := cells5 BX.out; have hf8 := blk_free BX.out; clear hbX)
      | fail)
    obtain ⟨Xo, hXo⟩ : ∃ Y, X = Y := ⟨_, rfl⟩
    subst hXo
    obtain ⟨g8, hg8e⟩ : ∃ g8, w3.heap.size = g8 := ⟨_, rfl⟩
    have hg8 : w.heap.size ≤ g8 := by rw [← hg8e]; exact hbw.out.size
    rw [hg8e] at BX hc5 hf8 ⊢
    have hgr8 : g8 ≠ gr := by rw [← hg8e]; omega
    clear hg8e
    obtain ⟨c9, hcl, hM, hcc, hfz⟩ := Go.Proofs.YtecliaogidemjaaW.PrintWords.Kd.R_elem RX.out z56 (kk : Int) hk0 hk1
    obtain ⟨p, hpp⟩ : ∃ p, rd_T56 ps kk = p := ⟨_, rfl⟩
    have hc9 := k56_openM hM
    have hpp' : List.getD ps (kk : Int).toNat z56 = p := hpp
    rw [hpp'] at hc9
    subst hc9
    have HP8 := Lib.hid (show (Lit.int .i64 p.f8).wf = true by rw [← hpp]; exact HWF.out kk hkl)
    have HPC2 := Lib.hid hcc
    have hf0 : X.cell? ⟨gr, kk * 9, none⟩ = some (.bool p.f0) := hcc 0 _ rfl
    have hff : ∀ j, X.frozen? ⟨gr, kk * 9 + j, none⟩ = false := hfz
    clear hcl hM hcc hpp hpp' hfz
    rcases (show m = 0 ∨ m = 1 ∨ m = 2 ∨ m = 3 ∨ m = 4 ∨ m = 5 ∨ m = 6 ∨ m = 7 by omega) with rfl | rfl | rfl | rfl | rfl | rfl | rfl | rfl
    · go_wp2
      obtain ⟨XE, F1, T1, S1, C1, A1, l1, cp1, hX, TE⟩ : ∃ Z F1 T1 S1 C1 A1 l1 cp1, X.setCell ⟨g8, 0, none⟩ (.int .i64 n) = Z ∧ TEnd w Z g8 F1 T1 S1 C1 A1 l1 cp1 := ⟨_, _, _, _, _, _, _, _, rfl, ⟨HBX.out.setCell hg8 _, blk_setN BX.out 0 (.int .i64 n) rfl, (Go.Proofs.YtecliaogidemjaaW.PrintWords.Kd.R_reads' (Go.Proofs.YtecliaogidemjaaW.PrintWords.Kd.R_set RX.out BX.out (by decide) 0 (.int .i64 n))).2.2, (Go.Proofs.YtecliaogidemjaaW.PrintWords.Kd.R_reads' RX.out).2.1, HWF.out⟩⟩
      rw [hX]
      clear hX
      have HTE := Lib.hid TE
      have hC : ∀ w', Below XE.heap.size XE w' → w'.cell? ⟨g8, 0, none⟩ = some (.int .i64 F1) ∧ w'.cell? ⟨g8, 1, none⟩ = some (.int .i64 T1) ∧ w'.cell? ⟨g8, 2, none⟩ = some (.int .i64 S1) ∧ w'.cell? ⟨g8, 3, none⟩ = some (.int .i64 C1) ∧ w'.cell? ⟨g8, 4, none⟩ = some (.slice A1 l1.length cp1) := fun w' h => cells5 (blk_below HTE.out.box h)
      obtain ⟨E, hE⟩ : ∃ E, chkE F1 T1 S1 C1 l1 = E := ⟨_, rfl⟩
      have HC := Lib.hid hC
      have HK19 := Lib.hid (show ∀ w', Below XE.heap.size XE w' → Calls Try.prog 19 #[.agg #[.int .i64 F1, .int .i64 T1, .int .i64 S1, .int .i64 C1, .slice A1 l1.length cp1]] w' fun e w'' => e = .returned (.int .i64 E) ∧ Below w'.heap.size w' w'' from fun w' h => by rw [← hE]; exact check_any w' F1 T1 S1 C1 A1 l1 cp1 (Go.Proofs.YtecliaogidemjaaW.PrintWords.Kd.C_below HTE.out.row h) HTE.out.le HTE.out.wf)
      have HK20 := Lib.hid (show ∀ w', Below XE.heap.size XE w' → Calls Try.prog 20 #[.agg #[.int .i64 F1, .int .i64 T1, .int .i64 S1, .int .i64 C1, .slice A1 l1.length cp1]] w' fun e w'' => e = .returned (.int .i64 E) ∧ Below w'.heap.size w' w'' from fun w' h => by rw [← hE]; exact rcheck_any w' F1 T1 S1 C1 A1 l1 cp1 (Go.Proofs.YtecliaogidemjaaW.PrintWords.Kd.C_below HTE.out.row h) HTE.out.le HTE.out.wf)
      clear hC hE TE
      refine wp_region_noPanic ?_
      refine RegH.startH_ (n := 6) (S := fun w' => (Below XE.heap.size XE w')) #[false, false, false, false, false, false] (by kernel_rfl) rfl rfl (bel_drew (Below.refl _ _)) (fun hHeld0 => ?_)
      refine RegH.takeH_ (i := 0) (N := (some 86)) (v := ?_) (a' := ?_) #[true, false, false, false, false, false] rfl rfl (by kernel_rfl) (by kernel_rfl) (by kernel_rfl) rfl (fun _ _ _ h => h) (Or.inl ⟨by rfl, ?_⟩) hHeld0 ?_ ?_
      rotate_left
      · rintro w' s0
        obtain ⟨e0, e1, e2, e3, e4⟩ := HC.out w' s0; go_simp
        with_reducible rfl
      rotate_left
      · simp only [Act.put, List.setIfInBounds_toArray, List.set_cons_zero, List.set_cons_succ]
        rfl
      refine RegH.takeH_ (i := 2) (N := (some 88)) (v := ?_) (a' := ?_) #[true, false, true, false, false, false] rfl rfl (by kernel_rfl) (by kernel_rfl) (by kernel_rfl) rfl (fun _ _ _ h => h) (Or.inl ⟨by rfl, ?_⟩) hHeld0 ?_ ?_
      rotate_left
      · rintro w' s0
        obtain ⟨e0, e1, e2, e3, e4⟩ := HC.out w' s0; go_simp
        with_reducible rfl
      rotate_left
      · simp only [Act.put, List.setIfInBounds_toArray, List.set_cons_zero, List.set_cons_succ]
        rfl
      refine RegH.oneH_ (i := 1) (N := (some 87)) #[true, true, true, false, false, false] rfl rfl (by kernel_rfl) rfl (fun K hK => ?_)
      refine Go.Proofs.YtecliaogidemjaaW.PrintLast.goes_ Try.func19 (by kernel_rfl) rfl #[.agg #[.int .i64 F1, .int .i64 T1, .int .i64 S1, .int .i64 C1, .slice A1 l1.length cp1]] (by rfl) rfl rfl (by (try simp only [List.map_toArray, List.map_cons, List.map_nil]); first | done | rfl) ?_
      refine ((HK19.out _ hHeld0)).mono ?_
      rintro e w40 ⟨rfl, hb40⟩
      refine ⟨_, rfl, ?_⟩
      refine hK.out _ _ (bel_chain hHeld0 hb40) (fun hHeld1 => ?_)
      clear hK K hHeld0
      simp only [Act.put, List.setIfInBounds_toArray, List.set_cons_zero, List.set_cons_succ]
      refine RegH.oneH_ (i := 3) (N := (some 89)) #[true, true, true, true, false, false] rfl rfl (by kernel_rfl) rfl (fun K hK => ?_)
      refine Go.Proofs.YtecliaogidemjaaW.PrintLast.goes_ Try.func20 (by kernel_rfl) rfl #[.agg #[.int .i64 F1, .int .i64 T1, .int .i64 S1, .int .i64 C1, .slice A1 l1.length cp1]] (by rfl) rfl rfl (by (try simp only [List.map_toArray, List.map_cons, List.map_nil]); first | done | rfl) ?_
      refine ((HK20.out _ hHeld1)).mono ?_
      rintro e w41 ⟨rfl, hb41⟩
      refine ⟨_, rfl, ?_⟩
      refine hK.out _ _ (bel_chain hHeld1 hb41) (fun hHeld2 => ?_)
      clear hK K hHeld1
      simp only [Act.put, List.setIfInBounds_toArray, List.set_cons_zero, List.set_cons_succ]
      refine RegH.takeH_ (i := 4) (N := (some 90)) (v := ?_) (a' := ?_) #[true, true, true, true, true, false] rfl rfl (by kernel_rfl) (by kernel_rfl) (by kernel_rfl) rfl (fun _ _ _ h => h) (Or.inl ⟨by rfl, ?_⟩) hHeld2 ?_ ?_
      rotate_left
      · rintro w' s0
        obtain ⟨e0, e1, e2, e3, e4⟩ := HC.out w' s0; go_simp
        with_reducible rfl
      rotate_left
      · simp only [Act.put, List.setIfInBounds_toArray, List.set_cons_zero, List.set_cons_succ]
        rfl
      refine RegH.takeH_ (i := 5) (N := (some 6)) (v := ?_) (a' := ?_) #[true, true, true, true, true, true] rfl rfl (by kernel_rfl) (by kernel_rfl) (by kernel_rfl) rfl (fun _ _ _ h => h) (Or.inl ⟨by rfl, ?_⟩) hHeld2 ?_ ?_
      rotate_left
      · rintro w' s0
        obtain ⟨e0, e1, e2, e3, e4⟩ := HC.out w' s0; go_simp
        with_reducible rfl
      rotate_left
      · simp only [Act.put, List.setIfInBounds_toArray, List.set_cons_zero, List.set_cons_succ]
        rfl
      refine RegH.doneH_ (by kernel_rfl) ?_
      refine NoPanic.normal ?_
      go_wp2
      go_ret
      exact ⟨rfl, bel_chain HTE.out.bel hHeld2⟩
    · go_wp2
      obtain ⟨XE, F1, T1, S1, C1, A1, l1, cp1, hX, TE⟩ : ∃ Z F1 T1 S1 C1 A1 l1 cp1, X.setCell ⟨g8, 1, none⟩ (.int .i64 n) = Z ∧ TEnd w Z g8 F1 T1 S1 C1 A1 l1 cp1 := ⟨_, _, _, _, _, _, _, _, rfl, ⟨HBX.out.setCell hg8 _, blk_setN BX.out 1 (.int .i64 n) rfl, (Go.Proofs.YtecliaogidemjaaW.PrintWords.Kd.R_reads' (Go.Proofs.YtecliaogidemjaaW.PrintWords.Kd.R_set RX.out BX.out (by decide) 1 (.int .i64 n))).2.2, (Go.Proofs.YtecliaogidemjaaW.PrintWords.Kd.R_reads' RX.out).2.1, HWF.out⟩⟩
      rw [hX]
      clear hX
      have HTE := Lib.hid TE
      have hC : ∀ w', Below XE.heap.size XE w' → w'.cell? ⟨g8, 0, none⟩ = some (.int .i64 F1) ∧ w'.cell? ⟨g8, 1, none⟩ = some (.int .i64 T1) ∧ w'.cell? ⟨g8, 2, none⟩ = some (.int .i64 S1) ∧ w'.cell? ⟨g8, 3, none⟩ = some (.int .i64 C1) ∧ w'.cell? ⟨g8, 4, none⟩ = some (.slice A1 l1.length cp1) := fun w' h => cells5 (blk_below HTE.out.box h)
      obtain ⟨E, hE⟩ : ∃ E, chkE F1 T1 S1 C1 l1 = E := ⟨_, rfl⟩
      have HC := Lib.hid hC
      have HK19 := Lib.hid (show ∀ w', Below XE.heap.size XE w' → Calls Try.prog 19 #[.agg #[.int .i64 F1, .int .i64 T1, .int .i64 S1, .int .i64 C1, .slice A1 l1.length cp1]] w' fun e w'' => e = .returned (.int .i64 E) ∧ Below w'.heap.size w' w'' from fun w' h => by rw [← hE]; exact check_any w' F1 T1 S1 C1 A1 l1 cp1 (Go.Proofs.YtecliaogidemjaaW.PrintWords.Kd.C_below HTE.out.row h) HTE.out.le HTE.out.wf)
      have HK20 := Lib.hid (show ∀ w', Below XE.heap.size XE w' → Calls Try.prog 20 #[.agg #[.int .i64 F1, .int .i64 T1, .int .i64 S1, .int .i64 C1, .slice A1 l1.length cp1]] w' fun e w'' => e = .returned (.int .i64 E) ∧ Below w'.heap.size w' w'' from fun w' h => by rw [← hE]; exact rcheck_any w' F1 T1 S1 C1 A1 l1 cp1 (Go.Proofs.YtecliaogidemjaaW.PrintWords.Kd.C_below HTE.out.row h) HTE.out.le HTE.out.wf)
      clear hC hE TE
      refine wp_region_noPanic ?_
      refine RegH.startH_ (n := 6) (S := fun w' => (Below XE.heap.size XE w')) #[false, false, false, false, false, false] (by kernel_rfl) rfl rfl (bel_drew (Below.refl _ _)) (fun hHeld0 => ?_)
      refine RegH.takeH_ (i := 0) (N := (some 86)) (v := ?_) (a' := ?_) #[true, false, false, false, false, false] rfl rfl (by kernel_rfl) (by kernel_rfl) (by kernel_rfl) rfl (fun _ _ _ h => h) (Or.inl ⟨by rfl, ?_⟩) hHeld0 ?_ ?_
      rotate_left
      · rintro w' s0
        obtain ⟨e0, e1, e2, e3, e4⟩ := HC.out w' s0; go_simp
        with_reducible rfl
      rotate_left
      · simp only [Act.put, List.setIfInBounds_toArray, List.set_cons_zero, List.set_cons_succ]
        rfl
      refine RegH.takeH_ (i := 2) (N := (some 88)) (v := ?_) (a' := ?_) #[true, false, true, false, false, false] rfl rfl (by kernel_rfl) (by kernel_rfl) (by kernel_rfl) rfl (fun _ _ _ h => h) (Or.inl ⟨by rfl, ?_⟩) hHeld0 ?_ ?_
      rotate_left
      · rintro w' s0
        obtain ⟨e0, e1, e2, e3, e4⟩ := HC.out w' s0; go_simp
        with_reducible rfl
      rotate_left
      · simp only [Act.put, List.setIfInBounds_toArray, List.set_cons_zero, List.set_cons_succ]
        rfl
      refine RegH.oneH_ (i := 1) (N := (some 87)) #[true, true, true, false, false, false] rfl rfl (by kernel_rfl) rfl (fun K hK => ?_)
      refine Go.Proofs.YtecliaogidemjaaW.PrintLast.goes_ Try.func19 (by kernel_rfl) rfl #[.agg #[.int .i64 F1, .int .i64 T1, .int .i64 S1, .int .i64 C1, .slice A1 l1.length cp1]] (by rfl) rfl rfl (by (try simp only [List.map_toArray, List.map_cons, List.map_nil]); first | done | rfl) ?_
      refine ((HK19.out _ hHeld0)).mono ?_
      rintro e w40 ⟨rfl, hb40⟩
      refine ⟨_, rfl, ?_⟩
      refine hK.out _ _ (bel_chain hHeld0 hb40) (fun hHeld1 => ?_)
      clear hK K hHeld0
      simp only [Act.put, List.setIfInBounds_toArray, List.set_cons_zero, List.set_cons_succ]
      refine RegH.oneH_ (i := 3) (N := (some 89)) #[true, true, true, true, false, false] rfl rfl (by kernel_rfl) rfl (fun K hK => ?_)
      refine Go.Proofs.YtecliaogidemjaaW.PrintLast.goes_ Try.func20 (by kernel_rfl) rfl #[.agg #[.int .i64 F1, .int .i64 T1, .int .i64 S1, .int .i64 C1, .slice A1 l1.length cp1]] (by rfl) rfl rfl (by (try simp only [List.map_toArray, List.map_cons, List.map_nil]); first | done | rfl) ?_
      refine ((HK20.out _ hHeld1)).mono ?_
      rintro e w41 ⟨rfl, hb41⟩
      refine ⟨_, rfl, ?_⟩
      refine hK.out _ _ (bel_chain hHeld1 hb41) (fun hHeld2 => ?_)
      clear hK K hHeld1
      simp only [Act.put, List.setIfInBounds_toArray, List.set_cons_zero, List.set_cons_succ]
      refine RegH.takeH_ (i := 4) (N := (some 90)) (v := ?_) (a' := ?_) #[true, true, true, true, true, false] rfl rfl (by kernel_rfl) (by kernel_rfl) (by kernel_rfl) rfl (fun _ _ _ h => h) (Or.inl ⟨by rfl, ?_⟩) hHeld2 ?_ ?_
      rotate_left
      · rintro w' s0
        obtain ⟨e0, e1, e2, e3, e4⟩ := HC.out w' s0; go_simp
        with_reducible rfl
      rotate_left
      · simp only [Act.put, List.setIfInBounds_toArray, List.set_cons_zero, List.set_cons_succ]
        rfl
      refine RegH.takeH_ (i := 5) (N := (some 6)) (v := ?_) (a' := ?_) #[true, true, true, true, true, true] rfl rfl (by kernel_rfl) (by kernel_rfl) (by kernel_rfl) rfl (fun _ _ _ h => h) (Or.inl ⟨by rfl, ?_⟩) hHeld2 ?_ ?_
      rotate_left
      · rintro w' s0
        obtain ⟨e0, e1, e2, e3, e4⟩ := HC.out w' s0; go_simp
        with_reducible rfl
      rotate_left
      · simp only [Act.put, List.setIfInBounds_toArray, List.set_cons_zero, List.set_cons_succ]
        rfl
      refine RegH.doneH_ (by kernel_rfl) ?_
      refine NoPanic.normal ?_
      go_wp2
      go_ret
      exact ⟨rfl, bel_chain HTE.out.bel hHeld2⟩
    · go_wp2
      obtain ⟨XE, F1, T1, S1, C1, A1, l1, cp1, hX, TE⟩ : ∃ Z F1 T1 S1 C1 A1 l1 cp1, X.setCell ⟨g8, 2, none⟩ (.int .i64 n) = Z ∧ TEnd w Z g8 F1 T1 S1 C1 A1 l1 cp1 := ⟨_, _, _, _, _, _, _, _, rfl, ⟨HBX.out.setCell hg8 _, blk_setN BX.out 2 (.int .i64 n) rfl, (Go.Proofs.YtecliaogidemjaaW.PrintWords.Kd.R_reads' (Go.Proofs.YtecliaogidemjaaW.PrintWords.Kd.R_set RX.out BX.out (by decide) 2 (.int .i64 n))).2.2, (Go.Proofs.YtecliaogidemjaaW.PrintWords.Kd.R_reads' RX.out).2.1, HWF.out⟩⟩
      rw [hX]
      clear hX
      have HTE := Lib.hid TE
      have hC : ∀ w', Below XE.heap.size XE w' → w'.cell? ⟨g8, 0, none⟩ = some (.int .i64 F1) ∧ w'.cell? ⟨g8, 1, none⟩ = some (.int .i64 T1) ∧ w'.cell? ⟨g8, 2, none⟩ = some (.int .i64 S1) ∧ w'.cell? ⟨g8, 3, none⟩ = some (.int .i64 C1) ∧ w'.cell? ⟨g8, 4, none⟩ = some (.slice A1 l1.length cp1) := fun w' h => cells5 (blk_below HTE.out.box h)
      obtain ⟨E, hE⟩ : ∃ E, chkE F1 T1 S1 C1 l1 = E := ⟨_, rfl⟩
      have HC := Lib.hid hC
      have HK19 := Lib.hid (show ∀ w', Below XE.heap.size XE w' → Calls Try.prog 19 #[.agg #[.int .i64 F1, .int .i64 T1, .int .i64 S1, .int .i64 C1, .slice A1 l1.length cp1]] w' fun e w'' => e = .returned (.int .i64 E) ∧ Below w'.heap.size w' w'' from fun w' h => by rw [← hE]; exact check_any w' F1 T1 S1 C1 A1 l1 cp1 (Go.Proofs.YtecliaogidemjaaW.PrintWords.Kd.C_below HTE.out.row h) HTE.out.le HTE.out.wf)
      have HK20 := Lib.hid (show ∀ w', Below XE.heap.size XE w' → Calls Try.prog 20 #[.agg #[.int .i64 F1, .int .i64 T1, .int .i64 S1, .int .i64 C1, .slice A1 l1.length cp1]] w' fun e w'' => e = .returned (.int .i64 E) ∧ Below w'.heap.size w' w'' from fun w' h => by rw [← hE]; exact rcheck_any w' F1 T1 S1 C1 A1 l1 cp1 (Go.Proofs.YtecliaogidemjaaW.PrintWords.Kd.C_below HTE.out.row h) HTE.out.le HTE.out.wf)
      clear hC hE TE
      refine wp_region_noPanic ?_
      refine RegH.startH_ (n := 6) (S := fun w' => (Below XE.heap.size XE w')) #[false, false, false, false, false, false] (by kernel_rfl) rfl rfl (bel_drew (Below.refl _ _)) (fun hHeld0 => ?_)
      refine RegH.takeH_ (i := 0) (N := (some 86)) (v := ?_) (a' := ?_) #[true, false, false, false, false, false] rfl rfl (by kernel_rfl) (by kernel_rfl) (by kernel_rfl) rfl (fun _ _ _ h => h) (Or.inl ⟨by rfl, ?_⟩) hHeld0 ?_ ?_
      rotate_left
      · rintro w' s0
        obtain ⟨e0, e1, e2, e3, e4⟩ := HC.out w' s0; go_simp
        with_reducible rfl
      rotate_left
      · simp only [Act.put, List.setIfInBounds_toArray, List.set_cons_zero, List.set_cons_succ]
        rfl
      refine RegH.takeH_ (i := 2) (N := (some 88)) (v := ?_) (a' := ?_) #[true, false, true, false, false, false] rfl rfl (by kernel_rfl) (by kernel_rfl) (by kernel_rfl) rfl (fun _ _ _ h => h) (Or.inl ⟨by rfl, ?_⟩) hHeld0 ?_ ?_
      rotate_left
      · rintro w' s0
        obtain ⟨e0, e1, e2, e3, e4⟩ := HC.out w' s0; go_simp
        with_reducible rfl
      rotate_left
      · simp only [Act.put, List.setIfInBounds_toArray, List.set_cons_zero, List.set_cons_succ]
        rfl
      refine RegH.oneH_ (i := 1) (N := (some 87)) #[true, true, true, false, false, false] rfl rfl (by kernel_rfl) rfl (fun K hK => ?_)
      refine Go.Proofs.YtecliaogidemjaaW.PrintLast.goes_ Try.func19 (by kernel_rfl) rfl #[.agg #[.int .i64 F1, .int .i64 T1, .int .i64 S1, .int .i64 C1, .slice A1 l1.length cp1]] (by rfl) rfl rfl (by (try simp only [List.map_toArray, List.map_cons, List.map_nil]); first | done | rfl) ?_
      refine ((HK19.out _ hHeld0)).mono ?_
      rintro e w40 ⟨rfl, hb40⟩
      refine ⟨_, rfl, ?_⟩
      refine hK.out _ _ (bel_chain hHeld0 hb40) (fun hHeld1 => ?_)
      clear hK K hHeld0
      simp only [Act.put, List.setIfInBounds_toArray, List.set_cons_zero, List.set_cons_succ]
      refine RegH.oneH_ (i := 3) (N := (some 89)) #[true, true, true, true, false, false] rfl rfl (by kernel_rfl) rfl (fun K hK => ?_)
      refine Go.Proofs.YtecliaogidemjaaW.PrintLast.goes_ Try.func20 (by kernel_rfl) rfl #[.agg #[.int .i64 F1, .int .i64 T1, .int .i64 S1, .int .i64 C1, .slice A1 l1.length cp1]] (by rfl) rfl rfl (by (try simp only [List.map_toArray, List.map_cons, List.map_nil]); first | done | rfl) ?_
      refine ((HK20.out _ hHeld1)).mono ?_
      rintro e w41 ⟨rfl, hb41⟩
      refine ⟨_, rfl, ?_⟩
      refine hK.out _ _ (bel_chain hHeld1 hb41) (fun hHeld2 => ?_)
      clear hK K hHeld1
      simp only [Act.put, List.setIfInBounds_toArray, List.set_cons_zero, List.set_cons_succ]
      refine RegH.takeH_ (i := 4) (N := (some 90)) (v := ?_) (a' := ?_) #[true, true, true, true, true, false] rfl rfl (by kernel_rfl) (by kernel_rfl) (by kernel_rfl) rfl (fun _ _ _ h => h) (Or.inl ⟨by rfl, ?_⟩) hHeld2 ?_ ?_
      rotate_left
      · rintro w' s0
        obtain ⟨e0, e1, e2, e3, e4⟩ := HC.out w' s0; go_simp
        with_reducible rfl
      rotate_left
      · simp only [Act.put, List.setIfInBounds_toArray, List.set_cons_zero, List.set_cons_succ]
        rfl
      refine RegH.takeH_ (i := 5) (N := (some 6)) (v := ?_) (a' := ?_) #[true, true, true, true, true, true] rfl rfl (by kernel_rfl) (by kernel_rfl) (by kernel_rfl) rfl (fun _ _ _ h => h) (Or.inl ⟨by rfl, ?_⟩) hHeld2 ?_ ?_
      rotate_left
      · rintro w' s0
        obtain ⟨e0, e1, e2, e3, e4⟩ := HC.out w' s0; go_simp
        with_reducible rfl
      rotate_left
      · simp only [Act.put, List.setIfInBounds_toArray, List.set_cons_zero, List.set_cons_succ]
        rfl
      refine RegH.doneH_ (by kernel_rfl) ?_
      refine NoPanic.normal ?_
      go_wp2
      go_ret
      exact ⟨rfl, bel_chain HTE.out.bel hHeld2⟩
    · go_wp2
      obtain ⟨XE, F1, T1, S1, C1, A1, l1, cp1, hX, TE⟩ : ∃ Z F1 T1 S1 C1 A1 l1 cp1, X.setCell ⟨g8, 3, none⟩ (.int .i64 n) = Z ∧ TEnd w Z g8 F1 T1 S1 C1 A1 l1 cp1 := ⟨_, _, _, _, _, _, _, _, rfl, ⟨HBX.out.setCell hg8 _, blk_setN BX.out 3 (.int .i64 n) rfl, (Go.Proofs.YtecliaogidemjaaW.PrintWords.Kd.R_reads' (Go.Proofs.YtecliaogidemjaaW.PrintWords.Kd.R_set RX.out BX.out (by decide) 3 (.int .i64 n))).2.2, (Go.Proofs.YtecliaogidemjaaW.PrintWords.Kd.R_reads' RX.out).2.1, HWF.out⟩⟩
      rw [hX]
      clear hX
      have HTE := Lib.hid TE
      have hC : ∀ w', Below XE.heap.size XE w' → w'.cell? ⟨g8, 0, none⟩ = some (.int .i64 F1) ∧ w'.cell? ⟨g8, 1, none⟩ = some (.int .i64 T1) ∧ w'.cell? ⟨g8, 2, none⟩ = some (.int .i64 S1) ∧ w'.cell? ⟨g8, 3, none⟩ = some (.int .i64 C1) ∧ w'.cell? ⟨g8, 4, none⟩ = some (.slice A1 l1.length cp1) := fun w' h => cells5 (blk_below HTE.out.box h)
      obtain ⟨E, hE⟩ : ∃ E, chkE F1 T1 S1 C1 l1 = E := ⟨_, rfl⟩
      have HC := Lib.hid hC
      have HK19 := Lib.hid (show ∀ w', Below XE.heap.size XE w' → Calls Try.prog 19 #[.agg #[.int .i64 F1, .int .i64 T1, .int .i64 S1, .int .i64 C1, .slice A1 l1.length cp1]] w' fun e w'' => e = .returned (.int .i64 E) ∧ Below w'.heap.size w' w'' from fun w' h => by rw [← hE]; exact check_any w' F1 T1 S1 C1 A1 l1 cp1 (Go.Proofs.YtecliaogidemjaaW.PrintWords.Kd.C_below HTE.out.row h) HTE.out.le HTE.out.wf)
      have HK20 := Lib.hid (show ∀ w', Below XE.heap.size XE w' → Calls Try.prog 20 #[.agg #[.int .i64 F1, .int .i64 T1, .int .i64 S1, .int .i64 C1, .slice A1 l1.length cp1]] w' fun e w'' => e = .returned (.int .i64 E) ∧ Below w'.heap.size w' w'' from fun w' h => by rw [← hE]; exact rcheck_any w' F1 T1 S1 C1 A1 l1 cp1 (Go.Proofs.YtecliaogidemjaaW.PrintWords.Kd.C_below HTE.out.row h) HTE.out.le HTE.out.wf)
      clear hC hE TE
      refine wp_region_noPanic ?_
      refine RegH.startH_ (n := 6) (S := fun w' => (Below XE.heap.size XE w')) #[false, false, false, false, false, false] (by kernel_rfl) rfl rfl (bel_drew (Below.refl _ _)) (fun hHeld0 => ?_)
      refine RegH.takeH_ (i := 0) (N := (some 86)) (v := ?_) (a' := ?_) #[true, false, false, false, false, false] rfl rfl (by kernel_rfl) (by kernel_rfl) (by kernel_rfl) rfl (fun _ _ _ h => h) (Or.inl ⟨by rfl, ?_⟩) hHeld0 ?_ ?_
      rotate_left
      · rintro w' s0
        obtain ⟨e0, e1, e2, e3, e4⟩ := HC.out w' s0; go_simp
        with_reducible rfl
      rotate_left
      · simp only [Act.put, List.setIfInBounds_toArray, List.set_cons_zero, List.set_cons_succ]
        rfl
      refine RegH.takeH_ (i := 2) (N := (some 88)) (v := ?_) (a' := ?_) #[true, false, true, false, false, false] rfl rfl (by kernel_rfl) (by kernel_rfl) (by kernel_rfl) rfl (fun _ _ _ h => h) (Or.inl ⟨by rfl, ?_⟩) hHeld0 ?_ ?_
      rotate_left
      · rintro w' s0
        obtain ⟨e0, e1, e2, e3, e4⟩ := HC.out w' s0; go_simp
        with_reducible rfl
      rotate_left
      · simp only [Act.put, List.setIfInBounds_toArray, List.set_cons_zero, List.set_cons_succ]
        rfl
      refine RegH.oneH_ (i := 1) (N := (some 87)) #[true, true, true, false, false, false] rfl rfl (by kernel_rfl) rfl (fun K hK => ?_)
      refine Go.Proofs.YtecliaogidemjaaW.PrintLast.goes_ Try.func19 (by kernel_rfl) rfl #[.agg #[.int .i64 F1, .int .i64 T1, .int .i64 S1, .int .i64 C1, .slice A1 l1.length cp1]] (by rfl) rfl rfl (by (try simp only [List.map_toArray, List.map_cons, List.map_nil]); first | done | rfl) ?_
      refine ((HK19.out _ hHeld0)).mono ?_
      rintro e w40 ⟨rfl, hb40⟩
      refine ⟨_, rfl, ?_⟩
      refine hK.out _ _ (bel_chain hHeld0 hb40) (fun hHeld1 => ?_)
      clear hK K hHeld0
      simp only [Act.put, List.setIfInBounds_toArray, List.set_cons_zero, List.set_cons_succ]
      refine RegH.oneH_ (i := 3) (N := (some 89)) #[true, true, true, true, false, false] rfl rfl (by kernel_rfl) rfl (fun K hK => ?_)
      refine Go.Proofs.YtecliaogidemjaaW.PrintLast.goes_ Try.func20 (by kernel_rfl) rfl #[.agg #[.int .i64 F1, .int .i64 T1, .int .i64 S1, .int .i64 C1, .slice A1 l1.length cp1]] (by rfl) rfl rfl (by (try simp only [List.map_toArray, List.map_cons, List.map_nil]); first | done | rfl) ?_
      refine ((HK20.out _ hHeld1)).mono ?_
      rintro e w41 ⟨rfl, hb41⟩
      refine ⟨_, rfl, ?_⟩
      refine hK.out _ _ (bel_chain hHeld1 hb41) (fun hHeld2 => ?_)
      clear hK K hHeld1
      simp only [Act.put, List.setIfInBounds_toArray, List.set_cons_zero, List.set_cons_succ]
      refine RegH.takeH_ (i := 4) (N := (some 90)) (v := ?_) (a' := ?_) #[true, true, true, true, true, false] rfl rfl (by kernel_rfl) (by kernel_rfl) (by kernel_rfl) rfl (fun _ _ _ h => h) (Or.inl ⟨by rfl, ?_⟩) hHeld2 ?_ ?_
      rotate_left
      · rintro w' s0
        obtain ⟨e0, e1, e2, e3, e4⟩ := HC.out w' s0; go_simp
        with_reducible rfl
      rotate_left
      · simp only [Act.put, List.setIfInBounds_toArray, List.set_cons_zero, List.set_cons_succ]
        rfl
      refine RegH.takeH_ (i := 5) (N := (some 6)) (v := ?_) (a' := ?_) #[true, true, true, true, true, true] rfl rfl (by kernel_rfl) (by kernel_rfl) (by kernel_rfl) rfl (fun _ _ _ h => h) (Or.inl ⟨by rfl, ?_⟩) hHeld2 ?_ ?_
      rotate_left
      · rintro w' s0
        obtain ⟨e0, e1, e2, e3, e4⟩ := HC.out w' s0; go_simp
        with_reducible rfl
      rotate_left
      · simp only [Act.put, List.setIfInBounds_toArray, List.set_cons_zero, List.set_cons_succ]
        rfl
      refine RegH.doneH_ (by kernel_rfl) ?_
      refine NoPanic.normal ?_
      go_wp2
      go_ret
      exact ⟨rfl, bel_chain HTE.out.bel hHeld2⟩
    · go_wp2_with (first
        | ((with_reducible refine Go.Proofs.YtecliaogidemjaaW.PrintWords.gate_ (.store 3 (.tmp 69) (.tmp 67)) rfl ?_); refine Go.Proofs.YtecliaogidemjaaW.PrintWords.Kd.R_store k56 (w0 := X) w2.heap.size rfl rfl 3 (.tmp 69) (.tmp 67) rfl 56 (kk : Int) 6 ps ({ p with f6 := n } : S56) (.int .i64 n) [.int .i64 n] [.bool p.f0, .bool p.f1, .bool p.f2, .bool p.f3, .bool p.f4, .int .u32 p.f5, .int .i64 p.f6, .int .i64 p.f7, .int .i64 p.f8] (fun _ => True) (fun k => k ≠ gr) rfl rfl rfl rfl (by kernel_rfl) (fun q hq => by rw [List.mem_singleton.1 hq]; rfl) RX.out hk0 hk1 rfl HPC2.out (show 6 + 1 ≤ 9 by decide) (k56_mkM _ _ _ ({ p with f6 := n } : S56)) (fun k hk => ⟨trivial, hk⟩) (Below.refl _ _) ?_; intro X1 R1 _ G1)
        | fail)
      obtain ⟨XE, F1, T1, S1, C1, A1, l1, cp1, hX, TE⟩ : ∃ Z F1 T1 S1 C1 A1 l1 cp1, X1 = Z ∧ TEnd w Z g8 F1 T1 S1 C1 A1 l1 cp1 := ⟨_, _, _, _, _, _, _, _, rfl, (by have h := (show TEnd w X1 g8 (T + 140) T 60 C (some ⟨gr, 0, none⟩) (ps.set kk ({ p with f6 := n } : S56)) cp from ⟨HBX.out.grown G1 HBX.out.size (fun k hk => by injection hk with hk; omega), by rw [List.length_set]; exact (G1.block g8 (blk_lt BX.out) (fun e => by injection e with e; exact hgr8 e)).trans BX.out, (Go.Proofs.YtecliaogidemjaaW.PrintWords.Kd.R_reads' R1).2.2 , (by rw [List.length_set]; exact (Go.Proofs.YtecliaogidemjaaW.PrintWords.Kd.R_reads' R1).2.1), set_wf HWF.out kk HP8.out⟩); exact h)⟩
      rw [hX]
      clear hX
      have HTE := Lib.hid TE
      have hC : ∀ w', Below XE.heap.size XE w' → w'.cell? ⟨g8, 0, none⟩ = some (.int .i64 F1) ∧ w'.cell? ⟨g8, 1, none⟩ = some (.int .i64 T1) ∧ w'.cell? ⟨g8, 2, none⟩ = some (.int .i64 S1) ∧ w'.cell? ⟨g8, 3, none⟩ = some (.int .i64 C1) ∧ w'.cell? ⟨g8, 4, none⟩ = some (.slice A1 l1.length cp1) := fun w' h => cells5 (blk_below HTE.out.box h)
      obtain ⟨E, hE⟩ : ∃ E, chkE F1 T1 S1 C1 l1 = E := ⟨_, rfl⟩
      have HC := Lib.hid hC
      have HK19 := Lib.hid (show ∀ w', Below XE.heap.size XE w' → Calls Try.prog 19 #[.agg #[.int .i64 F1, .int .i64 T1, .int .i64 S1, .int .i64 C1, .slice A1 l1.length cp1]] w' fun e w'' => e = .returned (.int .i64 E) ∧ Below w'.heap.size w' w'' from fun w' h => by rw [← hE]; exact check_any w' F1 T1 S1 C1 A1 l1 cp1 (Go.Proofs.YtecliaogidemjaaW.PrintWords.Kd.C_below HTE.out.row h) HTE.out.le HTE.out.wf)
      have HK20 := Lib.hid (show ∀ w', Below XE.heap.size XE w' → Calls Try.prog 20 #[.agg #[.int .i64 F1, .int .i64 T1, .int .i64 S1, .int .i64 C1, .slice A1 l1.length cp1]] w' fun e w'' => e = .returned (.int .i64 E) ∧ Below w'.heap.size w' w'' from fun w' h => by rw [← hE]; exact rcheck_any w' F1 T1 S1 C1 A1 l1 cp1 (Go.Proofs.YtecliaogidemjaaW.PrintWords.Kd.C_below HTE.out.row h) HTE.out.le HTE.out.wf)
      clear hC hE TE
      refine wp_region_noPanic ?_
      refine RegH.startH_ (n := 6) (S := fun w' => (Below XE.heap.size XE w')) #[false, false, false, false, false, false] (by kernel_rfl) rfl rfl (bel_drew (Below.refl _ _)) (fun hHeld0 => ?_)
      refine RegH.takeH_ (i := 0) (N := (some 86)) (v := ?_) (a' := ?_) #[true, false, false, false, false, false] rfl rfl (by kernel_rfl) (by kernel_rfl) (by kernel_rfl) rfl (fun _ _ _ h => h) (Or.inl ⟨by rfl, ?_⟩) hHeld0 ?_ ?_
      rotate_left
      · rintro w' s0
        obtain ⟨e0, e1, e2, e3, e4⟩ := HC.out w' s0; go_simp
        with_reducible rfl
      rotate_left
      · simp only [Act.put, List.setIfInBounds_toArray, List.set_cons_zero, List.set_cons_succ]
        rfl
      refine RegH.takeH_ (i := 2) (N := (some 88)) (v := ?_) (a' := ?_) #[true, false, true, false, false, false] rfl rfl (by kernel_rfl) (by kernel_rfl) (by kernel_rfl) rfl (fun _ _ _ h => h) (Or.inl ⟨by rfl, ?_⟩) hHeld0 ?_ ?_
      rotate_left
      · rintro w' s0
        obtain ⟨e0, e1, e2, e3, e4⟩ := HC.out w' s0; go_simp
        with_reducible rfl
      rotate_left
      · simp only [Act.put, List.setIfInBounds_toArray, List.set_cons_zero, List.set_cons_succ]
        rfl
      refine RegH.oneH_ (i := 1) (N := (some 87)) #[true, true, true, false, false, false] rfl rfl (by kernel_rfl) rfl (fun K hK => ?_)
      refine Go.Proofs.YtecliaogidemjaaW.PrintLast.goes_ Try.func19 (by kernel_rfl) rfl #[.agg #[.int .i64 F1, .int .i64 T1, .int .i64 S1, .int .i64 C1, .slice A1 l1.length cp1]] (by rfl) rfl rfl (by (try simp only [List.map_toArray, List.map_cons, List.map_nil]); first | done | rfl) ?_
      refine ((HK19.out _ hHeld0)).mono ?_
      rintro e w40 ⟨rfl, hb40⟩
      refine ⟨_, rfl, ?_⟩
      refine hK.out _ _ (bel_chain hHeld0 hb40) (fun hHeld1 => ?_)
      clear hK K hHeld0
      simp only [Act.put, List.setIfInBounds_toArray, List.set_cons_zero, List.set_cons_succ]
      refine RegH.oneH_ (i := 3) (N := (some 89)) #[true, true, true, true, false, false] rfl rfl (by kernel_rfl) rfl (fun K hK => ?_)
      refine Go.Proofs.YtecliaogidemjaaW.PrintLast.goes_ Try.func20 (by kernel_rfl) rfl #[.agg #[.int .i64 F1, .int .i64 T1, .int .i64 S1, .int .i64 C1, .slice A1 l1.length cp1]] (by rfl) rfl rfl (by (try simp only [List.map_toArray, List.map_cons, List.map_nil]); first | done | rfl) ?_
      refine ((HK20.out _ hHeld1)).mono ?_
      rintro e w41 ⟨rfl, hb41⟩
      refine ⟨_, rfl, ?_⟩
      refine hK.out _ _ (bel_chain hHeld1 hb41) (fun hHeld2 => ?_)
      clear hK K hHeld1
      simp only [Act.put, List.setIfInBounds_toArray, List.set_cons_zero, List.set_cons_succ]
      refine RegH.takeH_ (i := 4) (N := (some 90)) (v := ?_) (a' := ?_) #[true, true, true, true, true, false] rfl rfl (by kernel_rfl) (by kernel_rfl) (by kernel_rfl) rfl (fun _ _ _ h => h) (Or.inl ⟨by rfl, ?_⟩) hHeld2 ?_ ?_
      rotate_left
      · rintro w' s0
        obtain ⟨e0, e1, e2, e3, e4⟩ := HC.out w' s0; go_simp
        with_reducible rfl
      rotate_left
      · simp only [Act.put, List.setIfInBounds_toArray, List.set_cons_zero, List.set_cons_succ]
        rfl
      refine RegH.takeH_ (i := 5) (N := (some 6)) (v := ?_) (a' := ?_) #[true, true, true, true, true, true] rfl rfl (by kernel_rfl) (by kernel_rfl) (by kernel_rfl) rfl (fun _ _ _ h => h) (Or.inl ⟨by rfl, ?_⟩) hHeld2 ?_ ?_
      rotate_left
      · rintro w' s0
        obtain ⟨e0, e1, e2, e3, e4⟩ := HC.out w' s0; go_simp
        with_reducible rfl
      rotate_left
      · simp only [Act.put, List.setIfInBounds_toArray, List.set_cons_zero, List.set_cons_succ]
        rfl
      refine RegH.doneH_ (by kernel_rfl) ?_
      refine NoPanic.normal ?_
      go_wp2
      go_ret
      exact ⟨rfl, bel_chain HTE.out.bel hHeld2⟩
    · go_wp2_with (first
        | ((with_reducible refine Go.Proofs.YtecliaogidemjaaW.PrintWords.gate_ (.store 3 (.tmp 77) (.tmp 75)) rfl ?_); refine Go.Proofs.YtecliaogidemjaaW.PrintWords.Kd.R_store k56 (w0 := X) w2.heap.size rfl rfl 3 (.tmp 77) (.tmp 75) rfl 56 (kk : Int) 7 ps ({ p with f7 := n } : S56) (.int .i64 n) [.int .i64 n] [.bool p.f0, .bool p.f1, .bool p.f2, .bool p.f3, .bool p.f4, .int .u32 p.f5, .int .i64 p.f6, .int .i64 p.f7, .int .i64 p.f8] (fun _ => True) (fun k => k ≠ gr) rfl rfl rfl rfl (by kernel_rfl) (fun q hq => by rw [List.mem_singleton.1 hq]; rfl) RX.out hk0 hk1 rfl HPC2.out (show 7 + 1 ≤ 9 by decide) (k56_mkM _ _ _ ({ p with f7 := n } : S56)) (fun k hk => ⟨trivial, hk⟩) (Below.refl _ _) ?_; intro X1 R1 _ G1)
        | fail)
      obtain ⟨XE, F1, T1, S1, C1, A1, l1, cp1, hX, TE⟩ : ∃ Z F1 T1 S1 C1 A1 l1 cp1, X1 = Z ∧ TEnd w Z g8 F1 T1 S1 C1 A1 l1 cp1 := ⟨_, _, _, _, _, _, _, _, rfl, (by have h := (show TEnd w X1 g8 (T + 140) T 60 C (some ⟨gr, 0, none⟩) (ps.set kk ({ p with f7 := n } : S56)) cp from ⟨HBX.out.grown G1 HBX.out.size (fun k hk => by injection hk with hk; omega), by rw [List.length_set]; exact (G1.block g8 (blk_lt BX.out) (fun e => by injection e with e; exact hgr8 e)).trans BX.out, (Go.Proofs.YtecliaogidemjaaW.PrintWords.Kd.R_reads' R1).2.2 , (by rw [List.length_set]; exact (Go.Proofs.YtecliaogidemjaaW.PrintWords.Kd.R_reads' R1).2.1), set_wf HWF.out kk HP8.out⟩); exact h)⟩
      rw [hX]
      clear hX
      have HTE := Lib.hid TE
      have hC : ∀ w', Below XE.heap.size XE w' → w'.cell? ⟨g8, 0, none⟩ = some (.int .i64 F1) ∧ w'.cell? ⟨g8, 1, none⟩ = some (.int .i64 T1) ∧ w'.cell? ⟨g8, 2, none⟩ = some (.int .i64 S1) ∧ w'.cell? ⟨g8, 3, none⟩ = some (.int .i64 C1) ∧ w'.cell? ⟨g8, 4, none⟩ = some (.slice A1 l1.length cp1) := fun w' h => cells5 (blk_below HTE.out.box h)
      obtain ⟨E, hE⟩ : ∃ E, chkE F1 T1 S1 C1 l1 = E := ⟨_, rfl⟩
      have HC := Lib.hid hC
      have HK19 := Lib.hid (show ∀ w', Below XE.heap.size XE w' → Calls Try.prog 19 #[.agg #[.int .i64 F1, .int .i64 T1, .int .i64 S1, .int .i64 C1, .slice A1 l1.length cp1]] w' fun e w'' => e = .returned (.int .i64 E) ∧ Below w'.heap.size w' w'' from fun w' h => by rw [← hE]; exact check_any w' F1 T1 S1 C1 A1 l1 cp1 (Go.Proofs.YtecliaogidemjaaW.PrintWords.Kd.C_below HTE.out.row h) HTE.out.le HTE.out.wf)
      have HK20 := Lib.hid (show ∀ w', Below XE.heap.size XE w' → Calls Try.prog 20 #[.agg #[.int .i64 F1, .int .i64 T1, .int .i64 S1, .int .i64 C1, .slice A1 l1.length cp1]] w' fun e w'' => e = .returned (.int .i64 E) ∧ Below w'.heap.size w' w'' from fun w' h => by rw [← hE]; exact rcheck_any w' F1 T1 S1 C1 A1 l1 cp1 (Go.Proofs.YtecliaogidemjaaW.PrintWords.Kd.C_below HTE.out.row h) HTE.out.le HTE.out.wf)
      clear hC hE TE
      refine wp_region_noPanic ?_
      refine RegH.startH_ (n := 6) (S := fun w' => (Below XE.heap.size XE w')) #[false, false, false, false, false, false] (by kernel_rfl) rfl rfl (bel_drew (Below.refl _ _)) (fun hHeld0 => ?_)
      refine RegH.takeH_ (i := 0) (N := (some 86)) (v := ?_) (a' := ?_) #[true, false, false, false, false, false] rfl rfl (by kernel_rfl) (by kernel_rfl) (by kernel_rfl) rfl (fun _ _ _ h => h) (Or.inl ⟨by rfl, ?_⟩) hHeld0 ?_ ?_
      rotate_left
      · rintro w' s0
        obtain ⟨e0, e1, e2, e3, e4⟩ := HC.out w' s0; go_simp
        with_reducible rfl
      rotate_left
      · simp only [Act.put, List.setIfInBounds_toArray, List.set_cons_zero, List.set_cons_succ]
        rfl
      refine RegH.takeH_ (i := 2) (N := (some 88)) (v := ?_) (a' := ?_) #[true, false, true, false, false, false] rfl rfl (by kernel_rfl) (by kernel_rfl) (by kernel_rfl) rfl (fun _ _ _ h => h) (Or.inl ⟨by rfl, ?_⟩) hHeld0 ?_ ?_
      rotate_left
      · rintro w' s0
        obtain ⟨e0, e1, e2, e3, e4⟩ := HC.out w' s0; go_simp
        with_reducible rfl
      rotate_left
      · simp only [Act.put, List.setIfInBounds_toArray, List.set_cons_zero, List.set_cons_succ]
        rfl
      refine RegH.oneH_ (i := 1) (N := (some 87)) #[true, true, true, false, false, false] rfl rfl (by kernel_rfl) rfl (fun K hK => ?_)
      refine Go.Proofs.YtecliaogidemjaaW.PrintLast.goes_ Try.func19 (by kernel_rfl) rfl #[.agg #[.int .i64 F1, .int .i64 T1, .int .i64 S1, .int .i64 C1, .slice A1 l1.length cp1]] (by rfl) rfl rfl (by (try simp only [List.map_toArray, List.map_cons, List.map_nil]); first | done | rfl) ?_
      refine ((HK19.out _ hHeld0)).mono ?_
      rintro e w40 ⟨rfl, hb40⟩
      refine ⟨_, rfl, ?_⟩
      refine hK.out _ _ (bel_chain hHeld0 hb40) (fun hHeld1 => ?_)
      clear hK K hHeld0
      simp only [Act.put, List.setIfInBounds_toArray, List.set_cons_zero, List.set_cons_succ]
      refine RegH.oneH_ (i := 3) (N := (some 89)) #[true, true, true, true, false, false] rfl rfl (by kernel_rfl) rfl (fun K hK => ?_)
      refine Go.Proofs.YtecliaogidemjaaW.PrintLast.goes_ Try.func20 (by kernel_rfl) rfl #[.agg #[.int .i64 F1, .int .i64 T1, .int .i64 S1, .int .i64 C1, .slice A1 l1.length cp1]] (by rfl) rfl rfl (by (try simp only [List.map_toArray, List.map_cons, List.map_nil]); first | done | rfl) ?_
      refine ((HK20.out _ hHeld1)).mono ?_
      rintro e w41 ⟨rfl, hb41⟩
      refine ⟨_, rfl, ?_⟩
      refine hK.out _ _ (bel_chain hHeld1 hb41) (fun hHeld2 => ?_)
      clear hK K hHeld1
      simp only [Act.put, List.setIfInBounds_toArray, List.set_cons_zero, List.set_cons_succ]
      refine RegH.takeH_ (i := 4) (N := (some 90)) (v := ?_) (a' := ?_) #[true, true, true, true, true, false] rfl rfl (by kernel_rfl) (by kernel_rfl) (by kernel_rfl) rfl (fun _ _ _ h => h) (Or.inl ⟨by rfl, ?_⟩) hHeld2 ?_ ?_
      rotate_left
      · rintro w' s0
        obtain ⟨e0, e1, e2, e3, e4⟩ := HC.out w' s0; go_simp
        with_reducible rfl
      rotate_left
      · simp only [Act.put, List.setIfInBounds_toArray, List.set_cons_zero, List.set_cons_succ]
        rfl
      refine RegH.takeH_ (i := 5) (N := (some 6)) (v := ?_) (a' := ?_) #[true, true, true, true, true, true] rfl rfl (by kernel_rfl) (by kernel_rfl) (by kernel_rfl) rfl (fun _ _ _ h => h) (Or.inl ⟨by rfl, ?_⟩) hHeld2 ?_ ?_
      rotate_left
      · rintro w' s0
        obtain ⟨e0, e1, e2, e3, e4⟩ := HC.out w' s0; go_simp
        with_reducible rfl
      rotate_left
      · simp only [Act.put, List.setIfInBounds_toArray, List.set_cons_zero, List.set_cons_succ]
        rfl
      refine RegH.doneH_ (by kernel_rfl) ?_
      refine NoPanic.normal ?_
      go_wp2
      go_ret
      exact ⟨rfl, bel_chain HTE.out.bel hHeld2⟩
    · go_wp2_with (first
        | ((with_reducible refine Go.Proofs.YtecliaogidemjaaW.PrintWords.gate_ (.store 3 (.tmp 85) (.tmp 83)) rfl ?_); refine Go.Proofs.YtecliaogidemjaaW.PrintWords.Kd.R_store k56 (w0 := X) w2.heap.size rfl rfl 3 (.tmp 85) (.tmp 83) rfl 56 (kk : Int) 8 ps ({ p with f8 := n } : S56) (.int .i64 n) [.int .i64 n] [.bool p.f0, .bool p.f1, .bool p.f2, .bool p.f3, .bool p.f4, .int .u32 p.f5, .int .i64 p.f6, .int .i64 p.f7, .int .i64 p.f8] (fun _ => True) (fun k => k ≠ gr) rfl rfl rfl rfl (by kernel_rfl) (fun q hq => by rw [List.mem_singleton.1 hq]; rfl) RX.out hk0 hk1 rfl HPC2.out (show 8 + 1 ≤ 9 by decide) (k56_mkM _ _ _ ({ p with f8 := n } : S56)) (fun k hk => ⟨trivial, hk⟩) (Below.refl _ _) ?_; intro X1 R1 _ G1)
        | fail)
      obtain ⟨XE, F1, T1, S1, C1, A1, l1, cp1, hX, TE⟩ : ∃ Z F1 T1 S1 C1 A1 l1 cp1, X1 = Z ∧ TEnd w Z g8 F1 T1 S1 C1 A1 l1 cp1 := ⟨_, _, _, _, _, _, _, _, rfl, (by have h := (show TEnd w X1 g8 (T + 140) T 60 C (some ⟨gr, 0, none⟩) (ps.set kk ({ p with f8 := n } : S56)) cp from ⟨HBX.out.grown G1 HBX.out.size (fun k hk => by injection hk with hk; omega), by rw [List.length_set]; exact (G1.block g8 (blk_lt BX.out) (fun e => by injection e with e; exact hgr8 e)).trans BX.out, (Go.Proofs.YtecliaogidemjaaW.PrintWords.Kd.R_reads' R1).2.2 , (by rw [List.length_set]; exact (Go.Proofs.YtecliaogidemjaaW.PrintWords.Kd.R_reads' R1).2.1), set_wf HWF.out kk HN.out⟩); exact h)⟩
      rw [hX]
      clear hX
      have HTE := Lib.hid TE
      have hC : ∀ w', Below XE.heap.size XE w' → w'.cell? ⟨g8, 0, none⟩ = some (.int .i64 F1) ∧ w'.cell? ⟨g8, 1, none⟩ = some (.int .i64 T1) ∧ w'.cell? ⟨g8, 2, none⟩ = some (.int .i64 S1) ∧ w'.cell? ⟨g8, 3, none⟩ = some (.int .i64 C1) ∧ w'.cell? ⟨g8, 4, none⟩ = some (.slice A1 l1.length cp1) := fun w' h => cells5 (blk_below HTE.out.box h)
      obtain ⟨E, hE⟩ : ∃ E, chkE F1 T1 S1 C1 l1 = E := ⟨_, rfl⟩
      have HC := Lib.hid hC
      have HK19 := Lib.hid (show ∀ w', Below XE.heap.size XE w' → Calls Try.prog 19 #[.agg #[.int .i64 F1, .int .i64 T1, .int .i64 S1, .int .i64 C1, .slice A1 l1.length cp1]] w' fun e w'' => e = .returned (.int .i64 E) ∧ Below w'.heap.size w' w'' from fun w' h => by rw [← hE]; exact check_any w' F1 T1 S1 C1 A1 l1 cp1 (Go.Proofs.YtecliaogidemjaaW.PrintWords.Kd.C_below HTE.out.row h) HTE.out.le HTE.out.wf)
      have HK20 := Lib.hid (show ∀ w', Below XE.heap.size XE w' → Calls Try.prog 20 #[.agg #[.int .i64 F1, .int .i64 T1, .int .i64 S1, .int .i64 C1, .slice A1 l1.length cp1]] w' fun e w'' => e = .returned (.int .i64 E) ∧ Below w'.heap.size w' w'' from fun w' h => by rw [← hE]; exact rcheck_any w' F1 T1 S1 C1 A1 l1 cp1 (Go.Proofs.YtecliaogidemjaaW.PrintWords.Kd.C_below HTE.out.row h) HTE.out.le HTE.out.wf)
      clear hC hE TE
      refine wp_region_noPanic ?_
      refine RegH.startH_ (n := 6) (S := fun w' => (Below XE.heap.size XE w')) #[false, false, false, false, false, false] (by kernel_rfl) rfl rfl (bel_drew (Below.refl _ _)) (fun hHeld0 => ?_)
      refine RegH.takeH_ (i := 0) (N := (some 86)) (v := ?_) (a' := ?_) #[true, false, false, false, false, false] rfl rfl (by kernel_rfl) (by kernel_rfl) (by kernel_rfl) rfl (fun _ _ _ h => h) (Or.inl ⟨by rfl, ?_⟩) hHeld0 ?_ ?_
      rotate_left
      · rintro w' s0
        obtain ⟨e0, e1, e2, e3, e4⟩ := HC.out w' s0; go_simp
        with_reducible rfl
      rotate_left
      · simp only [Act.put, List.setIfInBounds_toArray, List.set_cons_zero, List.set_cons_succ]
        rfl
      refine RegH.takeH_ (i := 2) (N := (some 88)) (v := ?_) (a' := ?_) #[true, false, true, false, false, false] rfl rfl (by kernel_rfl) (by kernel_rfl) (by kernel_rfl) rfl (fun _ _ _ h => h) (Or.inl ⟨by rfl, ?_⟩) hHeld0 ?_ ?_
      rotate_left
      · rintro w' s0
        obtain ⟨e0, e1, e2, e3, e4⟩ := HC.out w' s0; go_simp
        with_reducible rfl
      rotate_left
      · simp only [Act.put, List.setIfInBounds_toArray, List.set_cons_zero, List.set_cons_succ]
        rfl
      refine RegH.oneH_ (i := 1) (N := (some 87)) #[true, true, true, false, false, false] rfl rfl (by kernel_rfl) rfl (fun K hK => ?_)
      refine Go.Proofs.YtecliaogidemjaaW.PrintLast.goes_ Try.func19 (by kernel_rfl) rfl #[.agg #[.int .i64 F1, .int .i64 T1, .int .i64 S1, .int .i64 C1, .slice A1 l1.length cp1]] (by rfl) rfl rfl (by (try simp only [List.map_toArray, List.map_cons, List.map_nil]); first | done | rfl) ?_
      refine ((HK19.out _ hHeld0)).mono ?_
      rintro e w40 ⟨rfl, hb40⟩
      refine ⟨_, rfl, ?_⟩
      refine hK.out _ _ (bel_chain hHeld0 hb40) (fun hHeld1 => ?_)
      clear hK K hHeld0
      simp only [Act.put, List.setIfInBounds_toArray, List.set_cons_zero, List.set_cons_succ]
      refine RegH.oneH_ (i := 3) (N := (some 89)) #[true, true, true, true, false, false] rfl rfl (by kernel_rfl) rfl (fun K hK => ?_)
      refine Go.Proofs.YtecliaogidemjaaW.PrintLast.goes_ Try.func20 (by kernel_rfl) rfl #[.agg #[.int .i64 F1, .int .i64 T1, .int .i64 S1, .int .i64 C1, .slice A1 l1.length cp1]] (by rfl) rfl rfl (by (try simp only [List.map_toArray, List.map_cons, List.map_nil]); first | done | rfl) ?_
      refine ((HK20.out _ hHeld1)).mono ?_
      rintro e w41 ⟨rfl, hb41⟩
      refine ⟨_, rfl, ?_⟩
      refine hK.out _ _ (bel_chain hHeld1 hb41) (fun hHeld2 => ?_)
      clear hK K hHeld1
      simp only [Act.put, List.setIfInBounds_toArray, List.set_cons_zero, List.set_cons_succ]
      refine RegH.takeH_ (i := 4) (N := (some 90)) (v := ?_) (a' := ?_) #[true, true, true, true, true, false] rfl rfl (by kernel_rfl) (by kernel_rfl) (by kernel_rfl) rfl (fun _ _ _ h => h) (Or.inl ⟨by rfl, ?_⟩) hHeld2 ?_ ?_
      rotate_left
      · rintro w' s0
        obtain ⟨e0, e1, e2, e3, e4⟩ := HC.out w' s0; go_simp
        with_reducible rfl
      rotate_left
      · simp only [Act.put, List.setIfInBounds_toArray, List.set_cons_zero, List.set_cons_succ]
        rfl
      refine RegH.takeH_ (i := 5) (N := (some 6)) (v := ?_) (a' := ?_) #[true, true, true, true, true, true] rfl rfl (by kernel_rfl) (by kernel_rfl) (by kernel_rfl) rfl (fun _ _ _ h => h) (Or.inl ⟨by rfl, ?_⟩) hHeld2 ?_ ?_
      rotate_left
      · rintro w' s0
        obtain ⟨e0, e1, e2, e3, e4⟩ := HC.out w' s0; go_simp
        with_reducible rfl
      rotate_left
      · simp only [Act.put, List.setIfInBounds_toArray, List.set_cons_zero, List.set_cons_succ]
        rfl
      refine RegH.doneH_ (by kernel_rfl) ?_
      refine NoPanic.normal ?_
      go_wp2
      go_ret
      exact ⟨rfl, bel_chain HTE.out.bel hHeld2⟩
    · go_wp2
      refine wp_region_still_tail 12 (by kernel_rfl) (by kernel_rfl) ?_
      simp only [List.take_succ_cons, List.take_zero, List.drop_succ_cons, List.drop_zero]
      repeat still_step
      refine wpStill_nil ?_
      go_wp2_with (first
        | ((with_reducible refine Go.Proofs.YtecliaogidemjaaW.PrintWords.gate_ (.store 4 (.tmp 45) (.tmp 43)) rfl ?_); refine Go.Proofs.YtecliaogidemjaaW.PrintWords.Kd.R_store k56 (w0 := X.drew) w2.heap.size rfl rfl 4 (.tmp 45) (.tmp 43) rfl 56 (kk : Int) 0 ps ({ p with f0 := !p.f0 } : S56) (.bool (!p.f0)) [.bool (!p.f0)] [.bool p.f0, .bool p.f1, .bool p.f2, .bool p.f3, .bool p.f4, .int .u32 p.f5, .int .i64 p.f6, .int .i64 p.f7, .int .i64 p.f8] (fun _ => True) (fun k => k ≠ gr) rfl rfl rfl rfl (by kernel_rfl) (fun q hq => by rw [List.mem_singleton.1 hq]; rfl) (Go.Proofs.YtecliaogidemjaaW.PrintWords.Kd.R_drew RX.out) hk0 hk1 rfl HPC2.out (show 0 + 1 ≤ 9 by decide) (k56_mkM _ _ _ ({ p with f0 := !p.f0 } : S56)) (fun k hk => ⟨trivial, hk⟩) (Below.refl _ _) ?_; intro X1 R1 _ G1)
        | fail)
      obtain ⟨XE, F1, T1, S1, C1, A1, l1, cp1, hX, TE⟩ : ∃ Z F1 T1 S1 C1 A1 l1 cp1, X1 = Z ∧ TEnd w Z g8 F1 T1 S1 C1 A1 l1 cp1 := ⟨_, _, _, _, _, _, _, _, rfl, (by have h := (show TEnd w X1 g8 (T + 140) T 60 C (some ⟨gr, 0, none⟩) (ps.set kk ({ p with f0 := !p.f0 } : S56)) cp from ⟨(bel_drew HBX.out).grown G1 HBX.out.size (fun k hk => by injection hk with hk; omega), by rw [List.length_set]; exact (G1.block g8 (blk_lt BX.out) (fun e => by injection e with e; exact hgr8 e)).trans BX.out, (Go.Proofs.YtecliaogidemjaaW.PrintWords.Kd.R_reads' R1).2.2 , (by rw [List.length_set]; exact (Go.Proofs.YtecliaogidemjaaW.PrintWords.Kd.R_reads' R1).2.1), set_wf HWF.out kk HP8.out⟩); exact h)⟩
      rw [hX]
      clear hX
      have HTE := Lib.hid TE
      have hC : ∀ w', Below XE.heap.size XE w' → w'.cell? ⟨g8, 0, none⟩ = some (.int .i64 F1) ∧ w'.cell? ⟨g8, 1, none⟩ = some (.int .i64 T1) ∧ w'.cell? ⟨g8, 2, none⟩ = some (.int .i64 S1) ∧ w'.cell? ⟨g8, 3, none⟩ = some (.int .i64 C1) ∧ w'.cell? ⟨g8, 4, none⟩ = some (.slice A1 l1.length cp1) := fun w' h => cells5 (blk_below HTE.out.box h)
      obtain ⟨E, hE⟩ : ∃ E, chkE F1 T1 S1 C1 l1 = E := ⟨_, rfl⟩
      have HC := Lib.hid hC
      have HK19 := Lib.hid (show ∀ w', Below XE.heap.size XE w' → Calls Try.prog 19 #[.agg #[.int .i64 F1, .int .i64 T1, .int .i64 S1, .int .i64 C1, .slice A1 l1.length cp1]] w' fun e w'' => e = .returned (.int .i64 E) ∧ Below w'.heap.size w' w'' from fun w' h => by rw [← hE]; exact check_any w' F1 T1 S1 C1 A1 l1 cp1 (Go.Proofs.YtecliaogidemjaaW.PrintWords.Kd.C_below HTE.out.row h) HTE.out.le HTE.out.wf)
      have HK20 := Lib.hid (show ∀ w', Below XE.heap.size XE w' → Calls Try.prog 20 #[.agg #[.int .i64 F1, .int .i64 T1, .int .i64 S1, .int .i64 C1, .slice A1 l1.length cp1]] w' fun e w'' => e = .returned (.int .i64 E) ∧ Below w'.heap.size w' w'' from fun w' h => by rw [← hE]; exact rcheck_any w' F1 T1 S1 C1 A1 l1 cp1 (Go.Proofs.YtecliaogidemjaaW.PrintWords.Kd.C_below HTE.out.row h) HTE.out.le HTE.out.wf)
      clear hC hE TE
      refine wp_region_noPanic ?_
      refine RegH.startH_ (n := 6) (S := fun w' => (Below XE.heap.size XE w')) #[false, false, false, false, false, false] (by kernel_rfl) rfl rfl (bel_drew (Below.refl _ _)) (fun hHeld0 => ?_)
      refine RegH.takeH_ (i := 0) (N := (some 86)) (v := ?_) (a' := ?_) #[true, false, false, false, false, false] rfl rfl (by kernel_rfl) (by kernel_rfl) (by kernel_rfl) rfl (fun _ _ _ h => h) (Or.inl ⟨by rfl, ?_⟩) hHeld0 ?_ ?_
      rotate_left
      · rintro w' s0
        obtain ⟨e0, e1, e2, e3, e4⟩ := HC.out w' s0; go_simp
        with_reducible rfl
      rotate_left
      · simp only [Act.put, List.setIfInBounds_toArray, List.set_cons_zero, List.set_cons_succ]
        rfl
      refine RegH.takeH_ (i := 2) (N := (some 88)) (v := ?_) (a' := ?_) #[true, false, true, false, false, false] rfl rfl (by kernel_rfl) (by kernel_rfl) (by kernel_rfl) rfl (fun _ _ _ h => h) (Or.inl ⟨by rfl, ?_⟩) hHeld0 ?_ ?_
      rotate_left
      · rintro w' s0
        obtain ⟨e0, e1, e2, e3, e4⟩ := HC.out w' s0; go_simp
        with_reducible rfl
      rotate_left
      · simp only [Act.put, List.setIfInBounds_toArray, List.set_cons_zero, List.set_cons_succ]
        rfl
      refine RegH.oneH_ (i := 1) (N := (some 87)) #[true, true, true, false, false, false] rfl rfl (by kernel_rfl) rfl (fun K hK => ?_)
      refine Go.Proofs.YtecliaogidemjaaW.PrintLast.goes_ Try.func19 (by kernel_rfl) rfl #[.agg #[.int .i64 F1, .int .i64 T1, .int .i64 S1, .int .i64 C1, .slice A1 l1.length cp1]] (by rfl) rfl rfl (by (try simp only [List.map_toArray, List.map_cons, List.map_nil]); first | done | rfl) ?_
      refine ((HK19.out _ hHeld0)).mono ?_
      rintro e w40 ⟨rfl, hb40⟩
      refine ⟨_, rfl, ?_⟩
      refine hK.out _ _ (bel_chain hHeld0 hb40) (fun hHeld1 => ?_)
      clear hK K hHeld0
      simp only [Act.put, List.setIfInBounds_toArray, List.set_cons_zero, List.set_cons_succ]
      refine RegH.oneH_ (i := 3) (N := (some 89)) #[true, true, true, true, false, false] rfl rfl (by kernel_rfl) rfl (fun K hK => ?_)
      refine Go.Proofs.YtecliaogidemjaaW.PrintLast.goes_ Try.func20 (by kernel_rfl) rfl #[.agg #[.int .i64 F1, .int .i64 T1, .int .i64 S1, .int .i64 C1, .slice A1 l1.length cp1]] (by rfl) rfl rfl (by (try simp only [List.map_toArray, List.map_cons, List.map_nil]); first | done | rfl) ?_
      refine ((HK20.out _ hHeld1)).mono ?_
      rintro e w41 ⟨rfl, hb41⟩
      refine ⟨_, rfl, ?_⟩
      refine hK.out _ _ (bel_chain hHeld1 hb41) (fun hHeld2 => ?_)
      clear hK K hHeld1
      simp only [Act.put, List.setIfInBounds_toArray, List.set_cons_zero, List.set_cons_succ]
      refine RegH.takeH_ (i := 4) (N := (some 90)) (v := ?_) (a' := ?_) #[true, true, true, true, true, false] rfl rfl (by kernel_rfl) (by kernel_rfl) (by kernel_rfl) rfl (fun _ _ _ h => h) (Or.inl ⟨by rfl, ?_⟩) hHeld2 ?_ ?_
      rotate_left
      · rintro w' s0
        obtain ⟨e0, e1, e2, e3, e4⟩ := HC.out w' s0; go_simp
        with_reducible rfl
      rotate_left
      · simp only [Act.put, List.setIfInBounds_toArray, List.set_cons_zero, List.set_cons_succ]
        rfl
      refine RegH.takeH_ (i := 5) (N := (some 6)) (v := ?_) (a' := ?_) #[true, true, true, true, true, true] rfl rfl (by kernel_rfl) (by kernel_rfl) (by kernel_rfl) rfl (fun _ _ _ h => h) (Or.inl ⟨by rfl, ?_⟩) hHeld2 ?_ ?_
      rotate_left
      · rintro w' s0
        obtain ⟨e0, e1, e2, e3, e4⟩ := HC.out w' s0; go_simp
        with_reducible rfl
      rotate_left
      · simp only [Act.put, List.setIfInBounds_toArray, List.set_cons_zero, List.set_cons_succ]
        rfl
      refine RegH.doneH_ (by kernel_rfl) ?_
      refine NoPanic.normal ?_
      go_wp2
      go_ret
      exact ⟨rfl, bel_chain HTE.out.bel hHeld2⟩
  · trivial
end Go.Proofs.Ytecliaogidemjaa.Boot
