/- The statement on all bills, walked. -/
import Derived.Test.YtecliaogidemjaaB8
namespace Go.Proofs.Ytecliaogidemjaa.Boot
open Go.RowKit Go.Proofs.Ytecliaogidemjaa.Mem Go.Proofs.Ytecliaogidemjaa.Kept Go.Proofs.Ytecliaogidemjaa.PBootAll Go.Proofs.Ytecliaogidemjaa.Pick
open Go.Proofs.YtecliaogidemjaaW.PrintWords (eqA_of eqf_cons eqf_last)
set_option linter.unusedVariables false
set_option linter.unusedSimpArgs false

theorem eqA47 (d : Nat) (w : World) (x0 y0 x1 y1 : Int) : (Op.equalIn (d + 2) 47 (.agg #[.int .i64 x0, .int .i64 x1]) (.agg #[.int .i64 y0, .int .i64 y1])).run Try.prog w = .ok (x0 == y0 && (x1 == y1)) w := by
  refine eqA_of Try.underlying47 (by kernel_rfl) ?_
  refine eqf_cons (by rfl) (by go_simp; rfl) (by go_simp; rfl) (by go_simp) ?_
  exact eqf_last (by rfl) (by go_simp; rfl) (by go_simp; rfl) (by go_simp)
theorem first_any {w : World} {A : Option Addr} {cp : Nat} {l : List S56} (F T S C pt : Int) (hc : Go.Proofs.YtecliaogidemjaaW.PrintWords.Kd.C k56 w A l.length l) (hl : l.length ≤ cp) (hv : LvIn l pt) :
    Calls Try.prog 24 #[.agg #[.int .i64 F, .int .i64 T, .int .i64 S, .int .i64 C, .slice A l.length cp], .int .i64 pt] w fun e w' => ∃ a3 c3, e = .returned (.slice a3 (lvP l pt).length c3) ∧ Go.Proofs.YtecliaogidemjaaW.PrintWords.Kd.C k47 w' a3 (lvP l pt).length (lvP l pt) ∧ Below w.heap.size w w' := by
  refine (boot_First.calls 1002 F T S C A cp l pt _ w hc hl (first_f F T S C l pt hv)).mono ?_
  rintro e w' ⟨v, rfl, hr, hb⟩
  obtain ⟨A3, c3, rfl, _, h3⟩ := Go.Proofs.YtecliaogidemjaaW.PrintWords.Kd.R_reads hr
  exact ⟨A3, c3, rfl, h3, hb⟩
theorem rfirst_any {w : World} {A : Option Addr} {cp : Nat} {l : List S56} (F T S C pt : Int) (hc : Go.Proofs.YtecliaogidemjaaW.PrintWords.Kd.C k56 w A l.length l) (hl : l.length ≤ cp) (hv : LvIn l pt) :
    Calls Try.prog 25 #[.agg #[.int .i64 F, .int .i64 T, .int .i64 S, .int .i64 C, .slice A l.length cp], .int .i64 pt] w fun e w' => ∃ a3 c3, e = .returned (.slice a3 (lvP l pt).length c3) ∧ Go.Proofs.YtecliaogidemjaaW.PrintWords.Kd.C k47 w' a3 (lvP l pt).length (lvP l pt) ∧ Below w.heap.size w w' := by
  refine (presidioref6_First.calls 1002 F T S C A cp l pt _ w hc hl (rfirst_f F T S C l pt hv)).mono ?_
  rintro e w' ⟨v, rfl, hr, hb⟩
  obtain ⟨A3, c3, rfl, _, h3⟩ := Go.Proofs.YtecliaogidemjaaW.PrintWords.Kd.R_reads hr
  exact ⟨A3, c3, rfl, h3, hb⟩
set_option maxRecDepth 100000 in
set_option maxHeartbeats 8000000 in
theorem boot_all (w : World) (F T S C pt : Int) (A : Option Addr) (l : List S56) (cp : Nat) (hr : Go.Proofs.YtecliaogidemjaaW.PrintWords.Kd.C k56 w A l.length l) (hl : l.length ≤ cp) (hwf : ∀ k, k < l.length → (Lit.int .i64 (rd_T56 l k).f8).wf = true) :
    Calls Try.prog 6 #[.agg #[.int .i64 F, .int .i64 T, .int .i64 S, .int .i64 C, .slice A l.length cp], .int .i64 pt] w fun e w' => e = .returned (.bool true) ∧ Below w.heap.size w w' := by
  have hu41 := Try.underlying41
  have hu47 := Try.underlying47
  have HR := Lib.hid hr
  have HL := Lib.hid hl
  have HW := Lib.hid hwf
  have hmax := Go.Proofs.YtecliaogidemjaaW.PrintWords.Kd.C_max hr
  clear hr hl hwf
  by_cases h8 : 8 < (l.length : Int)
  · go_enter Try.func6, Try.ntmps6
    go_wp2_with (first
      | (go_at_call 18; (with_reducible refine (begun8 _).mono ?_); rintro e W ⟨rfl, hb1⟩; have hb := bel_chain (bel_alloc (Below.refl w.heap.size w) _) hb1; have BK := blk_below (blk_new w (.cells #[.int .i64 F, .int .i64 T, .int .i64 S, .int .i64 C, .slice A l.length cp] 41)) hb1; have hc5 := cells5 BK)
      | fail)
    go_ret
    exact ⟨rfl, hb⟩
  go_enter Try.func6, Try.ntmps6
  go_wp2_with (first
    | (go_at_call 18; (with_reducible refine (begun8 _).mono ?_); rintro e W ⟨rfl, hb1⟩; have hb := bel_chain (bel_alloc (Below.refl w.heap.size w) _) hb1; have BK := blk_below (blk_new w (.cells #[.int .i64 F, .int .i64 T, .int .i64 S, .int .i64 C, .slice A l.length cp] 41)) hb1; have hc5 := cells5 BK)
    | fail)
  have HB := Lib.hid hb
  have HBK := Lib.hid BK
  clear hb BK hc5 hb1
  have hR : ∀ w', Below W.heap.size W w' → Go.Proofs.YtecliaogidemjaaW.PrintWords.Kd.C k56 w' A l.length l := fun w' h => Go.Proofs.YtecliaogidemjaaW.PrintWords.Kd.C_below HR.out (bel_chain HB.out h)
  have HRR := Lib.hid hR
  have hC : ∀ w', Below W.heap.size W w' → w'.cell? ⟨w.heap.size, 0, none⟩ = some (.int .i64 F) ∧ w'.cell? ⟨w.heap.size, 1, none⟩ = some (.int .i64 T) ∧ w'.cell? ⟨w.heap.size, 2, none⟩ = some (.int .i64 S) ∧ w'.cell? ⟨w.heap.size, 3, none⟩ = some (.int .i64 C) ∧ w'.cell? ⟨w.heap.size, 4, none⟩ = some (.slice A l.length cp) := fun w' h => cells5 (blk_below HBK.out h)
  have HC := Lib.hid hC
  obtain ⟨E, hE⟩ : ∃ E, chkE F T S C l = E := ⟨_, rfl⟩
  obtain ⟨q, hq⟩ : ∃ q, boot_Quota.f F T S C l = some q := by unfold boot_Quota.f; split <;> exact ⟨_, rfl⟩
  have HK19 := Lib.hid (show ∀ w', Below W.heap.size W w' → Calls Try.prog 19 #[.agg #[.int .i64 F, .int .i64 T, .int .i64 S, .int .i64 C, .slice A l.length cp]] w' fun e w'' => e = .returned (.int .i64 E) ∧ Below w'.heap.size w' w'' from fun w' h => by rw [← hE]; exact check_any w' F T S C A l cp (HRR.out w' h) HL.out HW.out)
  have HK20 := Lib.hid (show ∀ w', Below W.heap.size W w' → Calls Try.prog 20 #[.agg #[.int .i64 F, .int .i64 T, .int .i64 S, .int .i64 C, .slice A l.length cp]] w' fun e w'' => e = .returned (.int .i64 E) ∧ Below w'.heap.size w' w'' from fun w' h => by rw [← hE]; exact rcheck_any w' F T S C A l cp (HRR.out w' h) HL.out HW.out)
  have HK21 := Lib.hid (show ∀ w', Below W.heap.size W w' → Calls Try.prog 21 #[.agg #[.int .i64 F, .int .i64 T, .int .i64 S, .int .i64 C, .slice A l.length cp]] w' fun e w'' => e = .returned (.int .i64 q) ∧ Below w'.heap.size w' w'' from fun w' h => boot_Quota.calls F T S C A cp l q w' (HRR.out w' h) HL.out hq)
  have HK22 := Lib.hid (show ∀ w', Below W.heap.size W w' → Calls Try.prog 22 #[.agg #[.int .i64 F, .int .i64 T, .int .i64 S, .int .i64 C, .slice A l.length cp]] w' fun e w'' => e = .returned (.int .i64 q) ∧ Below w'.heap.size w' w'' from fun w' h => presidioref6_Quota.calls F T S C A cp l q w' (HRR.out w' h) HL.out hq)
  have HK23 := Lib.hid (show ∀ w', Below W.heap.size W w' → Calls Try.prog 23 #[.agg #[.int .i64 F, .int .i64 T, .int .i64 S, .int .i64 C, .slice A l.length cp]] w' fun e w'' => e = .returned (.int .i64 0) ∧ Below w'.heap.size w' w'' from fun w' h => boot_Roots.calls F T S C A cp l 0 w' (HRR.out w' h) HL.out rfl)
  have HE := Lib.hid hE
  clear hR hC hE hq h8
  refine wp_region_noPanic ?_
  refine RegH.startH_ (n := 17) (S := fun w' => (Below W.heap.size W w')) #[false, false, false, false, false, false, false, false, false, false, false, false, false, false, false, false, false] (by kernel_rfl) rfl rfl (bel_drew (Below.refl _ _)) (fun hHeld0 => ?_)
  refine RegH.takeH_ (i := 0) (N := (some 14)) (v := ?_) (a' := ?_) #[true, false, false, false, false, false, false, false, false, false, false, false, false, false, false, false, false] rfl rfl (by kernel_rfl) (by kernel_rfl) (by kernel_rfl) rfl (fun _ _ _ h => h) (Or.inl ⟨by rfl, ?_⟩) hHeld0 ?_ ?_
  rotate_left
  · rintro w' s0
    obtain ⟨e0, e1, e2, e3, e4⟩ := HC.out w' s0; go_simp
    with_reducible rfl
  rotate_left
  · simp only [Act.put, List.setIfInBounds_toArray, List.set_cons_zero, List.set_cons_succ]
    rfl
  refine RegH.takeH_ (i := 2) (N := (some 16)) (v := ?_) (a' := ?_) #[true, false, true, false, false, false, false, false, false, false, false, false, false, false, false, false, false] rfl rfl (by kernel_rfl) (by kernel_rfl) (by kernel_rfl) rfl (fun _ _ _ h => h) (Or.inl ⟨by rfl, ?_⟩) hHeld0 ?_ ?_
  rotate_left
  · rintro w' s0
    obtain ⟨e0, e1, e2, e3, e4⟩ := HC.out w' s0; go_simp
    with_reducible rfl
  rotate_left
  · simp only [Act.put, List.setIfInBounds_toArray, List.set_cons_zero, List.set_cons_succ]
    rfl
  refine RegH.oneH_ (i := 1) (N := (some 15)) #[true, true, true, false, false, false, false, false, false, false, false, false, false, false, false, false, false] rfl rfl (by kernel_rfl) rfl (fun K hK => ?_)
  refine Go.Proofs.YtecliaogidemjaaW.PrintLast.goes_ Try.func19 (by kernel_rfl) rfl #[.agg #[.int .i64 F, .int .i64 T, .int .i64 S, .int .i64 C, .slice A l.length cp]] (by rfl) rfl rfl (by (try simp only [List.map_toArray, List.map_cons, List.map_nil]); first | done | rfl) ?_
  refine ((HK19.out _ hHeld0)).mono ?_
  rintro e w20 ⟨rfl, hb20⟩
  refine ⟨_, rfl, ?_⟩
  refine hK.out _ _ (bel_chain hHeld0 hb20) (fun hHeld1 => ?_)
  clear hK K hHeld0
  simp only [Act.put, List.setIfInBounds_toArray, List.set_cons_zero, List.set_cons_succ]
  refine RegH.oneH_ (i := 3) (N := (some 17)) #[true, true, true, true, false, false, false, false, false, false, false, false, false, false, false, false, false] rfl rfl (by kernel_rfl) rfl (fun K hK => ?_)
  refine Go.Proofs.YtecliaogidemjaaW.PrintLast.goes_ Try.func20 (by kernel_rfl) rfl #[.agg #[.int .i64 F, .int .i64 T, .int .i64 S, .int .i64 C, .slice A l.length cp]] (by rfl) rfl rfl (by (try simp only [List.map_toArray, List.map_cons, List.map_nil]); first | done | rfl) ?_
  refine ((HK20.out _ hHeld1)).mono ?_
  rintro e w21 ⟨rfl, hb21⟩
  refine ⟨_, rfl, ?_⟩
  refine hK.out _ _ (bel_chain hHeld1 hb21) (fun hHeld2 => ?_)
  clear hK K hHeld1
  simp only [Act.put, List.setIfInBounds_toArray, List.set_cons_zero, List.set_cons_succ]
  refine RegH.takeH_ (i := 4) (N := (some 18)) (v := ?_) (a' := ?_) #[true, true, true, true, true, false, false, false, false, false, false, false, false, false, false, false, false] rfl rfl (by kernel_rfl) (by kernel_rfl) (by kernel_rfl) rfl (fun _ _ _ h => h) (Or.inl ⟨by rfl, ?_⟩) hHeld2 ?_ ?_
  rotate_left
  · rintro w' s0
    obtain ⟨e0, e1, e2, e3, e4⟩ := HC.out w' s0; go_simp
    with_reducible rfl
  rotate_left
  · simp only [Act.put, List.setIfInBounds_toArray, List.set_cons_zero, List.set_cons_succ]
    rfl
  refine RegH.takeH_ (i := 5) (N := (some 19)) (v := ?_) (a' := ?_) #[true, true, true, true, true, true, false, false, false, false, false, false, false, false, false, false, false] rfl rfl (by kernel_rfl) (by kernel_rfl) (by kernel_rfl) rfl (fun _ _ _ h => h) (Or.inl ⟨by rfl, ?_⟩) hHeld2 ?_ ?_
  rotate_left
  · rintro w' s0
    obtain ⟨e0, e1, e2, e3, e4⟩ := HC.out w' s0; go_simp
    with_reducible rfl
  rotate_left
  · simp only [Act.put, List.setIfInBounds_toArray, List.set_cons_zero, List.set_cons_succ]
    rfl
  refine RegH.takeH_ (i := 6) (N := (some 20)) (v := ?_) (a' := ?_) #[true, true, true, true, true, true, true, false, false, false, false, false, false, false, false, false, false] rfl rfl (by kernel_rfl) (by kernel_rfl) (by kernel_rfl) rfl (fun _ _ _ h => h) (Or.inl ⟨by rfl, ?_⟩) hHeld2 ?_ ?_
  rotate_left
  · rintro w' s0
    obtain ⟨e0, e1, e2, e3, e4⟩ := HC.out w' s0; go_simp
    with_reducible rfl
  rotate_left
  · simp only [Act.put, List.setIfInBounds_toArray, List.set_cons_zero, List.set_cons_succ]
    rfl
  refine RegH.takeH_ (i := 8) (N := (some 22)) (v := ?_) (a' := ?_) #[true, true, true, true, true, true, true, false, true, false, false, false, false, false, false, false, false] rfl rfl (by kernel_rfl) (by kernel_rfl) (by kernel_rfl) rfl (fun _ _ _ h => h) (Or.inl ⟨by rfl, ?_⟩) hHeld2 ?_ ?_
  rotate_left
  · rintro w' s0
    obtain ⟨e0, e1, e2, e3, e4⟩ := HC.out w' s0; go_simp
    with_reducible rfl
  rotate_left
  · simp only [Act.put, List.setIfInBounds_toArray, List.set_cons_zero, List.set_cons_succ]
    rfl
  refine RegH.oneH_ (i := 7) (N := (some 21)) #[true, true, true, true, true, true, true, true, true, false, false, false, false, false, false, false, false] rfl rfl (by kernel_rfl) rfl (fun K hK => ?_)
  refine Go.Proofs.YtecliaogidemjaaW.PrintLast.goes_ Try.func21 (by kernel_rfl) rfl #[.agg #[.int .i64 F, .int .i64 T, .int .i64 S, .int .i64 C, .slice A l.length cp]] (by rfl) rfl rfl (by (try simp only [List.map_toArray, List.map_cons, List.map_nil]); first | done | rfl) ?_
  refine ((HK21.out _ hHeld2)).mono ?_
  rintro e w22 ⟨rfl, hb22⟩
  refine ⟨_, rfl, ?_⟩
  refine hK.out _ _ (bel_chain hHeld2 hb22) (fun hHeld3 => ?_)
  clear hK K hHeld2
  simp only [Act.put, List.setIfInBounds_toArray, List.set_cons_zero, List.set_cons_succ]
  refine RegH.oneH_ (i := 9) (N := (some 23)) #[true, true, true, true, true, true, true, true, true, true, false, false, false, false, false, false, false] rfl rfl (by kernel_rfl) rfl (fun K hK => ?_)
  refine Go.Proofs.YtecliaogidemjaaW.PrintLast.goes_ Try.func22 (by kernel_rfl) rfl #[.agg #[.int .i64 F, .int .i64 T, .int .i64 S, .int .i64 C, .slice A l.length cp]] (by rfl) rfl rfl (by (try simp only [List.map_toArray, List.map_cons, List.map_nil]); first | done | rfl) ?_
  refine ((HK22.out _ hHeld3)).mono ?_
  rintro e w23 ⟨rfl, hb23⟩
  refine ⟨_, rfl, ?_⟩
  refine hK.out _ _ (bel_chain hHeld3 hb23) (fun hHeld4 => ?_)
  clear hK K hHeld3
  simp only [Act.put, List.setIfInBounds_toArray, List.set_cons_zero, List.set_cons_succ]
  refine RegH.takeH_ (i := 10) (N := (some 24)) (v := ?_) (a' := ?_) #[true, true, true, true, true, true, true, true, true, true, true, false, false, false, false, false, false] rfl rfl (by kernel_rfl) (by kernel_rfl) (by kernel_rfl) rfl (fun _ _ _ h => h) (Or.inl ⟨by rfl, ?_⟩) hHeld4 ?_ ?_
  rotate_left
  · rintro w' s0
    obtain ⟨e0, e1, e2, e3, e4⟩ := HC.out w' s0; go_simp
    with_reducible rfl
  rotate_left
  · simp only [Act.put, List.setIfInBounds_toArray, List.set_cons_zero, List.set_cons_succ]
    rfl
  refine RegH.takeH_ (i := 11) (N := (some 25)) (v := ?_) (a' := ?_) #[true, true, true, true, true, true, true, true, true, true, true, true, false, false, false, false, false] rfl rfl (by kernel_rfl) (by kernel_rfl) (by kernel_rfl) rfl (fun _ _ _ h => h) (Or.inl ⟨by rfl, ?_⟩) hHeld4 ?_ ?_
  rotate_left
  · rintro w' s0
    obtain ⟨e0, e1, e2, e3, e4⟩ := HC.out w' s0; go_simp
    with_reducible rfl
  rotate_left
  · simp only [Act.put, List.setIfInBounds_toArray, List.set_cons_zero, List.set_cons_succ]
    rfl
  refine RegH.takeH_ (i := 12) (N := (some 26)) (v := ?_) (a' := ?_) #[true, true, true, true, true, true, true, true, true, true, true, true, true, false, false, false, false] rfl rfl (by kernel_rfl) (by kernel_rfl) (by kernel_rfl) rfl (fun _ _ _ h => h) (Or.inl ⟨by rfl, ?_⟩) hHeld4 ?_ ?_
  rotate_left
  · rintro w' s0
    obtain ⟨e0, e1, e2, e3, e4⟩ := HC.out w' s0; go_simp
    with_reducible rfl
  rotate_left
  · simp only [Act.put, List.setIfInBounds_toArray, List.set_cons_zero, List.set_cons_succ]
    rfl
  refine RegH.takeH_ (i := 13) (N := (some 27)) (v := ?_) (a' := ?_) #[true, true, true, true, true, true, true, true, true, true, true, true, true, true, false, false, false] rfl rfl (by kernel_rfl) (by kernel_rfl) (by kernel_rfl) rfl (fun _ _ _ h => h) (Or.inl ⟨by rfl, ?_⟩) hHeld4 ?_ ?_
  rotate_left
  · rintro w' s0
    obtain ⟨e0, e1, e2, e3, e4⟩ := HC.out w' s0; go_simp
    with_reducible rfl
  rotate_left
  · simp only [Act.put, List.setIfInBounds_toArray, List.set_cons_zero, List.set_cons_succ]
    rfl
  refine RegH.oneH_ (i := 14) (N := (some 28)) #[true, true, true, true, true, true, true, true, true, true, true, true, true, true, true, false, false] rfl rfl (by kernel_rfl) rfl (fun K hK => ?_)
  refine Go.Proofs.YtecliaogidemjaaW.PrintLast.goes_ Try.func23 (by kernel_rfl) rfl #[.agg #[.int .i64 F, .int .i64 T, .int .i64 S, .int .i64 C, .slice A l.length cp]] (by rfl) rfl rfl (by (try simp only [List.map_toArray, List.map_cons, List.map_nil]); first | done | rfl) ?_
  refine ((HK23.out _ hHeld4)).mono ?_
  rintro e w24 ⟨rfl, hb24⟩
  refine ⟨_, rfl, ?_⟩
  refine hK.out _ _ (bel_chain hHeld4 hb24) (fun hHeld5 => ?_)
  clear hK K hHeld4
  simp only [Act.put, List.setIfInBounds_toArray, List.set_cons_zero, List.set_cons_succ]
  refine RegH.takeH_ (i := 15) (N := (some 29)) (v := ?_) (a' := ?_) #[true, true, true, true, true, true, true, true, true, true, true, true, true, true, true, true, false] rfl rfl (by kernel_rfl) (by kernel_rfl) (by kernel_rfl) rfl (fun _ _ _ h => h) (Or.inl ⟨by rfl, ?_⟩) hHeld5 ?_ ?_
  rotate_left
  · rintro w' s0
    obtain ⟨e0, e1, e2, e3, e4⟩ := HC.out w' s0; go_simp
    with_reducible rfl
  rotate_left
  · simp only [Act.put, List.setIfInBounds_toArray, List.set_cons_zero, List.set_cons_succ]
    rfl
  refine RegH.takeH_ (i := 16) (N := (some 30)) (v := ?_) (a' := ?_) #[true, true, true, true, true, true, true, true, true, true, true, true, true, true, true, true, true] rfl rfl (by kernel_rfl) (by kernel_rfl) (by kernel_rfl) rfl (fun _ _ _ h => h) (Or.inl ⟨by rfl, ?_⟩) hHeld5 ?_ ?_
  rotate_left
  · rintro w' s0
    obtain ⟨e0, e1, e2, e3, e4⟩ := HC.out w' s0; go_simp
    with_reducible rfl
  rotate_left
  · simp only [Act.put, List.setIfInBounds_toArray, List.set_cons_zero, List.set_cons_succ]
    rfl
  refine RegH.doneH_ (by kernel_rfl) ?_
  refine NoPanic.normal ?_
  have HD := Lib.hid hHeld5
  have hcX := HC.out _ hHeld5
  clear hHeld5 hb20 hb21 hb22 hb23
  by_cases hE0 : E = 0
  · have HEE := Lib.hid hE0
    have e0 : (E != 0) = false := by simp [hE0]
    clear hE0
    go_wp2_with (first
      | (go_at_call 20; (with_reducible refine (HK20.out _ HD.out).mono ?_); rintro e X ⟨rfl, hbX⟩; have HX := Lib.hid (bel_chain HD.out hbX); clear hcX hbX)
      | fail)
    have hchk : chk F T S C l = true := by
      have h := HE.out
      rw [HEE.out] at h
      unfold chkE at h
      by_cases hc : chk F T S C l = true
      · exact hc
      · rw [if_neg hc] at h; cases h
    have HLV := Lib.hid (chk_lv hchk pt)
    clear hchk
    obtain ⟨lv, hlv⟩ : ∃ x, lvP l pt = x := ⟨_, rfl⟩
    have hCX : ∀ w', Below X.heap.size X w' → w'.cell? ⟨w.heap.size, 0, none⟩ = some (.int .i64 F) ∧ w'.cell? ⟨w.heap.size, 1, none⟩ = some (.int .i64 T) ∧ w'.cell? ⟨w.heap.size, 2, none⟩ = some (.int .i64 S) ∧ w'.cell? ⟨w.heap.size, 3, none⟩ = some (.int .i64 C) ∧ w'.cell? ⟨w.heap.size, 4, none⟩ = some (.slice A l.length cp) := fun w' h => HC.out w' (bel_chain HX.out h)
    have HCX := Lib.hid hCX
    have hK24 : ∀ w', Below X.heap.size X w' → Calls Try.prog 24 #[.agg #[.int .i64 F, .int .i64 T, .int .i64 S, .int .i64 C, .slice A l.length cp], .int .i64 pt] w' fun e w'' => ∃ a3 c3, e = .returned (.slice a3 lv.length c3) ∧ Go.Proofs.YtecliaogidemjaaW.PrintWords.Kd.C k47 w'' a3 lv.length lv ∧ Below w'.heap.size w' w'' := fun w' h => by rw [← hlv]; exact first_any F T S C pt (HRR.out w' (bel_chain HX.out h)) HL.out HLV.out
    have hK25 : ∀ w', Below X.heap.size X w' → Calls Try.prog 25 #[.agg #[.int .i64 F, .int .i64 T, .int .i64 S, .int .i64 C, .slice A l.length cp], .int .i64 pt] w' fun e w'' => ∃ a3 c3, e = .returned (.slice a3 lv.length c3) ∧ Go.Proofs.YtecliaogidemjaaW.PrintWords.Kd.C k47 w'' a3 lv.length lv ∧ Below w'.heap.size w' w'' := fun w' h => by rw [← hlv]; exact rfirst_any F T S C pt (HRR.out w' (bel_chain HX.out h)) HL.out HLV.out
    have HK24 := Lib.hid hK24
    have HK25 := Lib.hid hK25
    clear hCX hK24 hK25 hlv
    refine wp_region_noPanic ?_
    refine RegH.startH_ (n := 8) (S := fun w' => (Below X.heap.size X w')) #[false, false, false, false, false, false, false, false] (by kernel_rfl) rfl rfl (bel_drew (Below.refl _ _)) (fun hHeld0 => ?_)
    refine RegH.takeH_ (i := 0) (N := (some 34)) (v := ?_) (a' := ?_) #[true, false, false, false, false, false, false, false] rfl rfl (by kernel_rfl) (by kernel_rfl) (by kernel_rfl) rfl (fun _ _ _ h => h) (Or.inl ⟨by rfl, ?_⟩) hHeld0 ?_ ?_
    rotate_left
    · rintro w' s0
      obtain ⟨e0, e1, e2, e3, e4⟩ := HCX.out w' s0; go_simp
      with_reducible rfl
    rotate_left
    · simp only [Act.put, List.setIfInBounds_toArray, List.set_cons_zero, List.set_cons_succ]
      rfl
    refine RegH.takeH_ (i := 1) (N := (some 35)) (v := ?_) (a' := ?_) #[true, true, false, false, false, false, false, false] rfl rfl (by kernel_rfl) (by kernel_rfl) (by kernel_rfl) rfl (fun _ _ _ h => h) (Or.inl ⟨by rfl, ?_⟩) hHeld0 ?_ ?_
    rotate_left
    · rintro w' s0
      obtain ⟨e0, e1, e2, e3, e4⟩ := HCX.out w' s0; go_simp
      with_reducible rfl
    rotate_left
    · simp only [Act.put, List.setIfInBounds_toArray, List.set_cons_zero, List.set_cons_succ]
      rfl
    refine RegH.takeH_ (i := 3) (N := (some 37)) (v := ?_) (a' := ?_) #[true, true, false, true, false, false, false, false] rfl rfl (by kernel_rfl) (by kernel_rfl) (by kernel_rfl) rfl (fun _ _ _ h => h) (Or.inl ⟨by rfl, ?_⟩) hHeld0 ?_ ?_
    rotate_left
    · rintro w' s0
      obtain ⟨e0, e1, e2, e3, e4⟩ := HCX.out w' s0; go_simp
      with_reducible rfl
    rotate_left
    · simp only [Act.put, List.setIfInBounds_toArray, List.set_cons_zero, List.set_cons_succ]
      rfl
    refine RegH.takeH_ (i := 4) (N := (some 38)) (v := ?_) (a' := ?_) #[true, true, false, true, true, false, false, false] rfl rfl (by kernel_rfl) (by kernel_rfl) (by kernel_rfl) rfl (fun _ _ _ h => h) (Or.inl ⟨by rfl, ?_⟩) hHeld0 ?_ ?_
    rotate_left
    · rintro w' s0
      obtain ⟨e0, e1, e2, e3, e4⟩ := HCX.out w' s0; go_simp
      with_reducible rfl
    rotate_left
    · simp only [Act.put, List.setIfInBounds_toArray, List.set_cons_zero, List.set_cons_succ]
      rfl
    refine RegH.oneH_ (i := 2) (N := (some 36)) #[true, true, true, true, true, false, false, false] rfl rfl (by kernel_rfl) rfl (fun K hK => ?_)
    refine Go.Proofs.YtecliaogidemjaaW.PrintLast.goes_ Try.func24 (by kernel_rfl) rfl #[.agg #[.int .i64 F, .int .i64 T, .int .i64 S, .int .i64 C, .slice A l.length cp], .int .i64 pt] (by rfl) rfl rfl (by (try simp only [List.map_toArray, List.map_cons, List.map_nil]); first | done | rfl) ?_
    refine ((HK24.out _ hHeld0)).mono ?_
    rintro e w30 ⟨A5, c5, rfl, hC5, hb30⟩
    refine ⟨_, rfl, ?_⟩
    refine hK.out _ _ (bel_chain hHeld0 hb30) (fun hHeld1 => ?_)
    clear hK K hHeld0
    simp only [Act.put, List.setIfInBounds_toArray, List.set_cons_zero, List.set_cons_succ]
    refine RegH.oneH_ (i := 5) (N := (some 39)) #[true, true, true, true, true, true, false, false] rfl rfl (by kernel_rfl) rfl (fun K hK => ?_)
    refine Go.Proofs.YtecliaogidemjaaW.PrintLast.goes_ Try.func25 (by kernel_rfl) rfl #[.agg #[.int .i64 F, .int .i64 T, .int .i64 S, .int .i64 C, .slice A l.length cp], .int .i64 pt] (by rfl) rfl rfl (by (try simp only [List.map_toArray, List.map_cons, List.map_nil]); first | done | rfl) ?_
    refine ((HK25.out _ hHeld1)).mono ?_
    rintro e w31 ⟨A6, c6, rfl, hC6, hb31⟩
    refine ⟨_, rfl, ?_⟩
    have hC5' := Go.Proofs.YtecliaogidemjaaW.PrintWords.Kd.C_below hC5 hb31
    refine hK.out _ _ (bel_chain hHeld1 hb31) (fun hHeld2 => ?_)
    clear hK K hHeld1
    simp only [Act.put, List.setIfInBounds_toArray, List.set_cons_zero, List.set_cons_succ]
    refine RegH.takeH_ (i := 6) (N := (some 5)) (v := ?_) (a' := ?_) #[true, true, true, true, true, true, true, false] rfl rfl (by kernel_rfl) (by kernel_rfl) (by kernel_rfl) rfl (fun _ _ _ h => h) (Or.inl ⟨by rfl, ?_⟩) hHeld2 ?_ ?_
    rotate_left
    · rintro w' s0
      obtain ⟨e0, e1, e2, e3, e4⟩ := HCX.out w' s0; go_simp
      with_reducible rfl
    rotate_left
    · simp only [Act.put, List.setIfInBounds_toArray, List.set_cons_zero, List.set_cons_succ]
      rfl
    refine RegH.takeH_ (i := 7) (N := (some 6)) (v := ?_) (a' := ?_) #[true, true, true, true, true, true, true, true] rfl rfl (by kernel_rfl) (by kernel_rfl) (by kernel_rfl) rfl (fun _ _ _ h => h) (Or.inl ⟨by rfl, ?_⟩) hHeld2 ?_ ?_
    rotate_left
    · rintro w' s0
      obtain ⟨e0, e1, e2, e3, e4⟩ := HCX.out w' s0; go_simp
      with_reducible rfl
    rotate_left
    · simp only [Act.put, List.setIfInBounds_toArray, List.set_cons_zero, List.set_cons_succ]
      rfl
    refine RegH.doneH_ (by kernel_rfl) ?_
    refine NoPanic.normal ?_
    have HQ5 := Lib.hid hC5'
    have HQ6 := Lib.hid hC6
    have HY := Lib.hid (bel_chain HB.out (bel_chain HX.out hHeld2))
    have hmx := Go.Proofs.YtecliaogidemjaaW.PrintWords.Kd.C_max hC6
    clear hC5 hC5' hC6 hHeld2 hb30 hb31
    go_wp2
    go_loopw [7] (fun i wr => ∃ k : Nat, k ≤ lv.length ∧ i = .int .i64 k ∧ Below w31.heap.size w31 wr) (fun i _ => lv.length - (intOf i).toNat)
    case atStart => exact ⟨0, by omega, rfl, Below.refl _ _⟩
    case round =>
      obtain ⟨k, hk, rfl, hbw⟩ := hrel
      by_cases hkl : k < lv.length
      · obtain ⟨a5, r5, p0, p1⟩ := at_T47 (Go.Proofs.YtecliaogidemjaaW.PrintWords.Kd.C_below HQ5.out hbw) k (by omega) (by omega)
        obtain ⟨a6, r6, q0, q1⟩ := at_T47 (Go.Proofs.YtecliaogidemjaaW.PrintWords.Kd.C_below HQ6.out hbw) k (by omega) (by omega)
        cases r5
        cases r6
        rw [Int.toNat_natCast] at p0 p1 q0 q1
        obtain ⟨x, hx⟩ : ∃ x, rd_T47 lv k = x := ⟨_, rfl⟩
        simp only [hx] at p0 p1 q0 q1
        have heq : ∀ w', (Op.equalIn 10000 47 (.agg #[.int .i64 x.f0, .int .i64 x.f1]) (.agg #[.int .i64 x.f0, .int .i64 x.f1])).run Try.prog w' = .ok true w' := fun w' => by rw [eqA47 9998]; simp
        have hk0 : (0 : Int) ≤ (k : Int) := by omega
        have hk1 : (k : Int) < (lv.length : Int) := by omega
        clear hx
        go_wp2
        go_quiet (fail)
        go_wp2
        go_roundw
        case measure => simp [intOf]; omega
        case rel => exact ⟨k + 1, by omega, by go_num, bel_drewN hbw _⟩
      · have hkl2 : k = lv.length := by omega
        subst hkl2
        go_wp2
        go_ret
        exact ⟨rfl, bel_chain HY.out hbw⟩
  · have e0 : (E != 0) = true := by simpa using hE0
    clear hE0
    go_wp2_with (first
      | (go_at_call 20; (with_reducible refine (HK20.out _ HD.out).mono ?_); rintro e X ⟨rfl, hbX⟩; have HX := Lib.hid (bel_chain HD.out hbX); clear hcX hbX)
      | fail)
    go_ret
    exact ⟨rfl, bel_chain HB.out HX.out⟩
end Go.Proofs.Ytecliaogidemjaa.Boot
