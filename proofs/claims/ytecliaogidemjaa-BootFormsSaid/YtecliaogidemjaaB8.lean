/- The statements on boot: what was begun. -/
import Derived.Test.YtecliaogidemjaaBootL
import Derived.Test.YtecliaogidemjaaRegH
namespace Go.Proofs.Ytecliaogidemjaa.Boot
open Go.RowKit Go.Proofs.Ytecliaogidemjaa.Mem Go.Proofs.Ytecliaogidemjaa.Kept Go.Proofs.Ytecliaogidemjaa.PBootAll Go.Proofs.Ytecliaogidemjaa.Pick
open Go.Proofs.YtecliaogidemjaaW.PrintWords (Kd)
set_option linter.unusedVariables false
set_option linter.unusedSimpArgs false

theorem c_nums {w : World} {g : Nat} {t : TypeId} {l : List Int} (h : w.heap[g]? = some (.cells (l.map (Value.int .u8)).toArray t (0, 0))) (hl : l.length ≤ 1000) : Go.Proofs.YtecliaogidemjaaW.PrintWords.Kd.C (Go.Proofs.YtecliaogidemjaaW.PrintWords.Kd.int .u8) w (some ⟨g, 0, none⟩) l.length l := by
  refine ⟨rfl, by omega, fun _ => ⟨_, rfl, fun j p hj => ⟨[.int .u8 p], rfl, rfl, fun i u hi => ?_⟩⟩⟩
  rcases i with _ | i
  · injection hi with hi
    subst hi
    rw [Kept.add_at, Mem.blk_cell h]
    obtain ⟨hlt, rfl⟩ := List.getElem?_eq_some_iff.1 hj
    show (l.map (Value.int .u8)).toArray[0 + (j * 1 + 0)]? = _
    simp [hlt]
  · simp at hi
def bps : List S56 := [⟨false, true, false, false, false, 1, 74, 18, 0⟩, ⟨true, false, false, false, false, 1, 14, 4, 1⟩]
theorem bps_eq : (bst [1, 2, 3] 0 14 2).1 = bps := by
  have h : (bst [1, 2, 3] 0 14 2).1 = [(part0 [1, 2, 3] 2 14 74).1, (part1 [1, 2, 3] 8 1 14 14 92).1] := rfl
  rw [h]
  rfl
theorem bps_chk : chkE 154 14 60 2 bps = 0 := by decide +kernel
theorem nil_chk : chkE 0 0 0 0 [] = -2 := by decide +kernel
theorem bill2 {w0 w : World} {g : Nat} (h : IsS72 w0 w g [1, 2, 3] (posI [1, 2, 3] 0)) (hB : Below w0.heap.size w0 w) :
    Calls Try.prog 27 #[.pointer (some ⟨g, 0, none⟩), .int .i64 2] w fun e w' => ∃ ad c, e = .returned (.agg #[.int .i64 154, .int .i64 14, .int .i64 60, .int .i64 2, .slice (some ad) 2 c]) ∧ (2 ≤ c ∧ Go.Proofs.YtecliaogidemjaaW.PrintWords.Kd.C k56 w' (some ad) bps.length bps) ∧ Below w0.heap.size w0 w' := by
  refine (bill_any (l := [1, 2, 3]) (by decide) (by decide) 0 2 (by decide) h hB).mono ?_
  rintro e w' ⟨v, rfl, hr, hb, _, _⟩
  have e1 : bT [1, 2, 3] 0 2 = 14 := by decide +kernel
  have e2 : pk [1, 2, 3] 0 3 = 1 := by decide +kernel
  rw [e1, bps_eq] at hr
  obtain ⟨A, c, rfl, hl, hc⟩ := Go.Proofs.YtecliaogidemjaaW.PrintWords.Kd.R_reads hr
  obtain ⟨ad, rfl, _⟩ := at_T56 hc 0 (by decide) (by decide)
  exact ⟨ad, c, by rw [e1, e2]; rfl, ⟨hl, hc⟩, hb⟩
theorem first2 {w : World} {ad : Addr} {c : Nat} (hc : Go.Proofs.YtecliaogidemjaaW.PrintWords.Kd.C k56 w (some ad) bps.length bps) (hl : 2 ≤ c) :
    Calls Try.prog 24 #[.agg #[.int .i64 154, .int .i64 14, .int .i64 60, .int .i64 2, .slice (some ad) 2 c], .int .i64 0] w fun e w' => ∃ a3 c3, e = .returned (.slice (some a3) 18 c3) ∧ (w'.cell? a3 = some (.int .i64 74) ∧ w'.cell? ⟨a3.block, a3.off + 1, none⟩ = some (.int .i64 7)) ∧ Below w.heap.size w w' := by
  refine (boot_First.calls 1002 154 14 60 2 (some ad) c bps 0 _ w hc hl (first_f 154 14 60 2 bps 0 (fun _ _ => by decide))).mono ?_
  rintro e w' ⟨v, rfl, hr, hb⟩
  obtain ⟨A3, c3, rfl, _, h3⟩ := Go.Proofs.YtecliaogidemjaaW.PrintWords.Kd.R_reads hr
  obtain ⟨a3, rfl, q0, q1⟩ := at_T47 h3 0 (by decide) (by decide)
  simp only [Int.toNat_zero, Nat.zero_mul, add0] at q0 q1
  exact ⟨a3, c3, rfl, ⟨q0, q1⟩, hb⟩
set_option maxRecDepth 100000 in
set_option maxHeartbeats 8000000 in
theorem begun8 (w : World) : Calls Try.prog 18 #[] w fun e w' => e = .returned (.bool true) ∧ Below w.heap.size w w' := by
  have hu41 := Try.underlying41
  have hu56 := Try.underlying56
  have hu47 := Try.underlying47
  go_enter Try.func18, Try.ntmps18
  go_wp2_with (first
    | (go_at_call 26; refine (made_any _ 3 [1, 2, 3] _ (c_nums (l := [1, 2, 3]) (Mem.blk_new w _) (by decide)) (by decide)).mono ?_; rintro e w1 ⟨g, rfl, I1, B1⟩)
    | (go_at_call 27; (with_reducible refine (bill2 I1 B1).mono ?_); rintro e w2 ⟨ad, cp, rfl, hp, B2⟩; have hb2 := Lib.hid (bel_chain (bel_alloc (Below.refl w.heap.size w) _) B2); have HP := Lib.hid hp; clear I1 B1 B2 hp)
    | (go_at_call 24; (with_reducible refine (first2 (Go.Proofs.YtecliaogidemjaaW.PrintWords.Kd.C_alloc HP.out.2 _) HP.out.1).mono ?_); rintro e W ⟨a3, c3, rfl, hl3, B3⟩; have hb3 := Lib.hid (bel_chain (bel_alloc hb2.out _) B3); have BK := Lib.hid (blk_below (blk_new w2 (.cells #[.int .i64 154, .int .i64 14, .int .i64 60, .int .i64 2, .slice (some ad) 2 cp] 41)) B3); have HP3 := Lib.hid (And.intro HP.out.1 (Go.Proofs.YtecliaogidemjaaW.PrintWords.Kd.C_below (Go.Proofs.YtecliaogidemjaaW.PrintWords.Kd.C_alloc HP.out.2 _) B3)); have HL3 := Lib.hid hl3; clear B3 HP hb2 hl3)
    | fail)
  have hC : ∀ w', Below W.heap.size W w' → w'.cell? ⟨w2.heap.size, 0, none⟩ = some (.int .i64 154) ∧ w'.cell? ⟨w2.heap.size, 1, none⟩ = some (.int .i64 14) ∧ w'.cell? ⟨w2.heap.size, 2, none⟩ = some (.int .i64 60) ∧ w'.cell? ⟨w2.heap.size, 3, none⟩ = some (.int .i64 2) ∧ w'.cell? ⟨w2.heap.size, 4, none⟩ = some (.slice (some ad) 2 cp) ∧
      w'.cell? ⟨ad.block, ad.off + 7, none⟩ = some (.int .i64 18) ∧ w'.cell? ⟨ad.block, ad.off + 6, none⟩ = some (.int .i64 74) ∧ w'.cell? a3 = some (.int .i64 74) ∧ w'.cell? ⟨a3.block, a3.off + 1, none⟩ = some (.int .i64 7) := fun w' hb => by
    obtain ⟨x0, x1, x2, x3, x4⟩ := cells5 (blk_below BK.out hb)
    obtain ⟨_, e0, _, _, _, _, _, _, y6, y7, _⟩ := at_T56 (Go.Proofs.YtecliaogidemjaaW.PrintWords.Kd.C_below HP3.out.2 hb) 0 (by decide) (by decide)
    cases e0
    simp only [Int.toNat_zero, Nat.zero_mul, add0] at y6 y7
    exact ⟨x0, x1, x2, x3, x4, y7, y6, (hb.cell (World.block_lt_of_cell? _ _ HL3.out.1)).trans HL3.out.1, (hb.cell (World.block_lt_of_cell? _ _ HL3.out.2)).trans HL3.out.2⟩
  have HC := Lib.hid hC
  have hwf : ∀ k, k < bps.length → (Lit.int .i64 (rd_T56 bps k).f8).wf = true := by decide
  have hK19 : ∀ w', Below W.heap.size W w' → Calls Try.prog 19 #[.agg #[.int .i64 154, .int .i64 14, .int .i64 60, .int .i64 2, .slice (some ad) 2 cp]] w' fun e w'' => e = .returned (.int .i64 0) ∧ Below w'.heap.size w' w'' := fun w' hb => by
    have h := check_any w' 154 14 60 2 (some ad) bps cp (Go.Proofs.YtecliaogidemjaaW.PrintWords.Kd.C_below HP3.out.2 hb) HP3.out.1 hwf
    rw [bps_chk] at h
    exact h
  have hKZ : ∀ w', Below W.heap.size W w' → Calls Try.prog 19 #[.agg #[.int .i64 0, .int .i64 0, .int .i64 0, .int .i64 0, .slice none 0 0]] w' fun e w'' => e = .returned (.int .i64 (-2)) ∧ Below w'.heap.size w' w'' := fun w' hb => by
    have h := check_any w' 0 0 0 0 none [] 0 (Go.Proofs.YtecliaogidemjaaW.PrintWords.Kd.C_nil _ _) (Nat.le_refl _) (fun k hk => by simp at hk)
    rw [nil_chk] at h
    exact h
  have hK21 : ∀ w', Below W.heap.size W w' → Calls Try.prog 21 #[.agg #[.int .i64 154, .int .i64 14, .int .i64 60, .int .i64 2, .slice (some ad) 2 cp]] w' fun e w'' => e = .returned (.int .i64 7) ∧ Below w'.heap.size w' w'' := fun w' hb =>
    boot_Quota.calls 154 14 60 2 (some ad) cp bps 7 w' (Go.Proofs.YtecliaogidemjaaW.PrintWords.Kd.C_below HP3.out.2 hb) HP3.out.1 (by decide +kernel)
  have hK23 : ∀ w', Below W.heap.size W w' → Calls Try.prog 23 #[.agg #[.int .i64 154, .int .i64 14, .int .i64 60, .int .i64 2, .slice (some ad) 2 cp]] w' fun e w'' => e = .returned (.int .i64 0) ∧ Below w'.heap.size w' w'' := fun w' hb =>
    boot_Roots.calls 154 14 60 2 (some ad) cp bps 0 w' (Go.Proofs.YtecliaogidemjaaW.PrintWords.Kd.C_below HP3.out.2 hb) HP3.out.1 rfl
  have HK19 := Lib.hid hK19
  have HKZ := Lib.hid hKZ
  have HK21 := Lib.hid hK21
  have HK23 := Lib.hid hK23
  clear hC hwf hK19 hKZ hK21 hK23 BK HP3 HL3
  refine wp_region_noPanic ?_
  refine RegH.startH_ (n := 48) (S := fun w' => (Below W.heap.size W w')) #[false, false, false, false, false, false, false, false, false, false, false, false, false, false, false, false, false, false, false, false, false, false, false, false, false, false, false, false, false, false, false, false, false, false, false, false, false, false, false, false, false, false, false, false, false, false, false, false] (by kernel_rfl) rfl rfl (bel_drew (Below.refl _ _)) (fun hHeld0 => ?_)
  refine RegH.takeH_ (i := 0) (N := (some 10)) (v := ?_) (a' := ?_) #[true, false, false, false, false, false, false, false, false, false, false, false, false, false, false, false, false, false, false, false, false, false, false, false, false, false, false, false, false, false, false, false, false, false, false, false, false, false, false, false, false, false, false, false, false, false, false, false] rfl rfl (by kernel_rfl) (by kernel_rfl) (by kernel_rfl) rfl (fun _ _ _ h => h) (Or.inl ⟨by rfl, ?_⟩) hHeld0 ?_ ?_
  rotate_left
  · rintro w' s0
    obtain ⟨e0, e1, e2, e3, e4, e5, e6, e7, e8⟩ := HC.out w' s0; go_simp
    with_reducible rfl
  rotate_left
  · simp only [Act.put, List.setIfInBounds_toArray, List.set_cons_zero, List.set_cons_succ]
    rfl
  refine RegH.oneH_ (i := 1) (N := (some 11)) #[true, true, false, false, false, false, false, false, false, false, false, false, false, false, false, false, false, false, false, false, false, false, false, false, false, false, false, false, false, false, false, false, false, false, false, false, false, false, false, false, false, false, false, false, false, false, false, false] rfl rfl (by kernel_rfl) rfl (fun K hK => ?_)
  refine Go.Proofs.YtecliaogidemjaaW.PrintLast.goes_ Try.func19 (by kernel_rfl) rfl #[.agg #[.int .i64 154, .int .i64 14, .int .i64 60, .int .i64 2, .slice (some ad) 2 cp]] (by rfl) rfl rfl (by (try simp only [List.map_toArray, List.map_cons, List.map_nil]); first | done | rfl) ?_
  refine ((HK19.out _ hHeld0)).mono ?_
  rintro e w20 ⟨rfl, hb20⟩
  refine ⟨_, rfl, ?_⟩
  refine hK.out _ _ (bel_chain hHeld0 hb20) (fun hHeld1 => ?_)
  clear hK K hHeld0
  simp only [Act.put, List.setIfInBounds_toArray, List.set_cons_zero, List.set_cons_succ]
  refine RegH.takeH_ (i := 2) (N := (some 12)) (v := ?_) (a' := ?_) #[true, true, true, false, false, false, false, false, false, false, false, false, false, false, false, false, false, false, false, false, false, false, false, false, false, false, false, false, false, false, false, false, false, false, false, false, false, false, false, false, false, false, false, false, false, false, false, false] rfl rfl (by kernel_rfl) (by kernel_rfl) (by kernel_rfl) rfl (fun _ _ _ h => h) (Or.inl ⟨by rfl, ?_⟩) hHeld1 ?_ ?_
  rotate_left
  · rintro w' s0
    obtain ⟨e0, e1, e2, e3, e4, e5, e6, e7, e8⟩ := HC.out w' s0; go_simp
    with_reducible rfl
  rotate_left
  · simp only [Act.put, List.setIfInBounds_toArray, List.set_cons_zero, List.set_cons_succ]
    rfl
  refine RegH.takeH_ (i := 3) (N := (some 13)) (v := ?_) (a' := ?_) #[true, true, true, true, false, false, false, false, false, false, false, false, false, false, false, false, false, false, false, false, false, false, false, false, false, false, false, false, false, false, false, false, false, false, false, false, false, false, false, false, false, false, false, false, false, false, false, false] rfl rfl (by kernel_rfl) (by kernel_rfl) (by kernel_rfl) rfl (fun _ _ _ h => h) (Or.inl ⟨by rfl, ?_⟩) hHeld1 ?_ ?_
  rotate_left
  · rintro w' s0
    obtain ⟨e0, e1, e2, e3, e4, e5, e6, e7, e8⟩ := HC.out w' s0; go_simp
    with_reducible rfl
  rotate_left
  · simp only [Act.put, List.setIfInBounds_toArray, List.set_cons_zero, List.set_cons_succ]
    rfl
  refine RegH.takeH_ (i := 4) (N := (some 14)) (v := ?_) (a' := ?_) #[true, true, true, true, true, false, false, false, false, false, false, false, false, false, false, false, false, false, false, false, false, false, false, false, false, false, false, false, false, false, false, false, false, false, false, false, false, false, false, false, false, false, false, false, false, false, false, false] rfl rfl (by kernel_rfl) (by kernel_rfl) (by kernel_rfl) rfl (fun _ _ _ h => h) (Or.inl ⟨by rfl, ?_⟩) hHeld1 ?_ ?_
  rotate_left
  · rintro w' s0
    obtain ⟨e0, e1, e2, e3, e4, e5, e6, e7, e8⟩ := HC.out w' s0; go_simp
    with_reducible rfl
  rotate_left
  · simp only [Act.put, List.setIfInBounds_toArray, List.set_cons_zero, List.set_cons_succ]
    rfl
  refine RegH.oneH_ (i := 5) (N := (some 15)) #[true, true, true, true, true, true, false, false, false, false, false, false, false, false, false, false, false, false, false, false, false, false, false, false, false, false, false, false, false, false, false, false, false, false, false, false, false, false, false, false, false, false, false, false, false, false, false, false] rfl rfl (by kernel_rfl) rfl (fun K hK => ?_)
  refine Go.Proofs.YtecliaogidemjaaW.PrintLast.goes_ Try.func19 (by kernel_rfl) rfl #[.agg #[.int .i64 0, .int .i64 0, .int .i64 0, .int .i64 0, .slice none 0 0]] (by rfl) rfl rfl (by (try simp only [List.map_toArray, List.map_cons, List.map_nil]); first | done | rfl) ?_
  refine ((HKZ.out _ hHeld1)).mono ?_
  rintro e w21 ⟨rfl, hb21⟩
  refine ⟨_, rfl, ?_⟩
  refine hK.out _ _ (bel_chain hHeld1 hb21) (fun hHeld2 => ?_)
  clear hK K hHeld1
  simp only [Act.put, List.setIfInBounds_toArray, List.set_cons_zero, List.set_cons_succ]
  refine RegH.takeH_ (i := 6) (N := (some 16)) (v := ?_) (a' := ?_) #[true, true, true, true, true, true, true, false, false, false, false, false, false, false, false, false, false, false, false, false, false, false, false, false, false, false, false, false, false, false, false, false, false, false, false, false, false, false, false, false, false, false, false, false, false, false, false, false] rfl rfl (by kernel_rfl) (by kernel_rfl) (by kernel_rfl) rfl (fun _ _ _ h => h) (Or.inl ⟨by rfl, ?_⟩) hHeld2 ?_ ?_
  rotate_left
  · rintro w' s0
    obtain ⟨e0, e1, e2, e3, e4, e5, e6, e7, e8⟩ := HC.out w' s0; go_simp
    with_reducible rfl
  rotate_left
  · simp only [Act.put, List.setIfInBounds_toArray, List.set_cons_zero, List.set_cons_succ]
    rfl
  refine RegH.takeH_ (i := 7) (N := (some 17)) (v := ?_) (a' := ?_) #[true, true, true, true, true, true, true, true, false, false, false, false, false, false, false, false, false, false, false, false, false, false, false, false, false, false, false, false, false, false, false, false, false, false, false, false, false, false, false, false, false, false, false, false, false, false, false, false] rfl rfl (by kernel_rfl) (by kernel_rfl) (by kernel_rfl) rfl (fun _ _ _ h => h) (Or.inl ⟨by rfl, ?_⟩) hHeld2 ?_ ?_
  rotate_left
  · rintro w' s0
    obtain ⟨e0, e1, e2, e3, e4, e5, e6, e7, e8⟩ := HC.out w' s0; go_simp
    with_reducible rfl
  rotate_left
  · simp only [Act.put, List.setIfInBounds_toArray, List.set_cons_zero, List.set_cons_succ]
    rfl
  refine RegH.takeH_ (i := 8) (N := (some 18)) (v := ?_) (a' := ?_) #[true, true, true, true, true, true, true, true, true, false, false, false, false, false, false, false, false, false, false, false, false, false, false, false, false, false, false, false, false, false, false, false, false, false, false, false, false, false, false, false, false, false, false, false, false, false, false, false] rfl rfl (by kernel_rfl) (by kernel_rfl) (by kernel_rfl) rfl (fun _ _ _ h => h) (Or.inl ⟨by rfl, ?_⟩) hHeld2 ?_ ?_
  rotate_left
  · rintro w' s0
    obtain ⟨e0, e1, e2, e3, e4, e5, e6, e7, e8⟩ := HC.out w' s0; go_simp
    with_reducible rfl
  rotate_left
  · simp only [Act.put, List.setIfInBounds_toArray, List.set_cons_zero, List.set_cons_succ]
    rfl
  refine RegH.takeH_ (i := 9) (N := (some 19)) (v := ?_) (a' := ?_) #[true, true, true, true, true, true, true, true, true, true, false, false, false, false, false, false, false, false, false, false, false, false, false, false, false, false, false, false, false, false, false, false, false, false, false, false, false, false, false, false, false, false, false, false, false, false, false, false] rfl rfl (by kernel_rfl) (by kernel_rfl) (by kernel_rfl) rfl (fun _ _ _ h => h) (Or.inl ⟨by rfl, ?_⟩) hHeld2 ?_ ?_
  rotate_left
  · rintro w' s0
    obtain ⟨e0, e1, e2, e3, e4, e5, e6, e7, e8⟩ := HC.out w' s0; go_simp
    with_reducible rfl
  rotate_left
  · simp only [Act.put, List.setIfInBounds_toArray, List.set_cons_zero, List.set_cons_succ]
    rfl
  refine RegH.oneH_ (i := 10) (N := (some 20)) #[true, true, true, true, true, true, true, true, true, true, true, false, false, false, false, false, false, false, false, false, false, false, false, false, false, false, false, false, false, false, false, false, false, false, false, false, false, false, false, false, false, false, false, false, false, false, false, false] rfl rfl (by kernel_rfl) rfl (fun K hK => ?_)
  refine Go.Proofs.YtecliaogidemjaaW.PrintLast.goes_ Try.func21 (by kernel_rfl) rfl #[.agg #[.int .i64 154, .int .i64 14, .int .i64 60, .int .i64 2, .slice (some ad) 2 cp]] (by rfl) rfl rfl (by (try simp only [List.map_toArray, List.map_cons, List.map_nil]); first | done | rfl) ?_
  refine ((HK21.out _ hHeld2)).mono ?_
  rintro e w22 ⟨rfl, hb22⟩
  refine ⟨_, rfl, ?_⟩
  refine hK.out _ _ (bel_chain hHeld2 hb22) (fun hHeld3 => ?_)
  clear hK K hHeld2
  simp only [Act.put, List.setIfInBounds_toArray, List.set_cons_zero, List.set_cons_succ]
  refine RegH.takeH_ (i := 11) (N := (some 21)) (v := ?_) (a' := ?_) #[true, true, true, true, true, true, true, true, true, true, true, true, false, false, false, false, false, false, false, false, false, false, false, false, false, false, false, false, false, false, false, false, false, false, false, false, false, false, false, false, false, false, false, false, false, false, false, false] rfl rfl (by kernel_rfl) (by kernel_rfl) (by kernel_rfl) rfl (fun _ _ _ h => h) (Or.inl ⟨by rfl, ?_⟩) hHeld3 ?_ ?_
  rotate_left
  · rintro w' s0
    obtain ⟨e0, e1, e2, e3, e4, e5, e6, e7, e8⟩ := HC.out w' s0; go_simp
    with_reducible rfl
  rotate_left
  · simp only [Act.put, List.setIfInBounds_toArray, List.set_cons_zero, List.set_cons_succ]
    rfl
  refine RegH.takeH_ (i := 12) (N := (some 22)) (v := ?_) (a' := ?_) #[true, true, true, true, true, true, true, true, true, true, true, true, true, false, false, false, false, false, false, false, false, false, false, false, false, false, false, false, false, false, false, false, false, false, false, false, false, false, false, false, false, false, false, false, false, false, false, false] rfl rfl (by kernel_rfl) (by kernel_rfl) (by kernel_rfl) rfl (fun _ _ _ h => h) (Or.inl ⟨by rfl, ?_⟩) hHeld3 ?_ ?_
  rotate_left
  · rintro w' s0
    obtain ⟨e0, e1, e2, e3, e4, e5, e6, e7, e8⟩ := HC.out w' s0; go_simp
    with_reducible rfl
  rotate_left
  · simp only [Act.put, List.setIfInBounds_toArray, List.set_cons_zero, List.set_cons_succ]
    rfl
  refine RegH.takeH_ (i := 13) (N := (some 23)) (v := ?_) (a' := ?_) #[true, true, true, true, true, true, true, true, true, true, true, true, true, true, false, false, false, false, false, false, false, false, false, false, false, false, false, false, false, false, false, false, false, false, false, false, false, false, false, false, false, false, false, false, false, false, false, false] rfl rfl (by kernel_rfl) (by kernel_rfl) (by kernel_rfl) rfl (fun _ _ _ h => h) (Or.inl ⟨by rfl, ?_⟩) hHeld3 ?_ ?_
  rotate_left
  · rintro w' s0
    obtain ⟨e0, e1, e2, e3, e4, e5, e6, e7, e8⟩ := HC.out w' s0; go_simp
    with_reducible rfl
  rotate_left
  · simp only [Act.put, List.setIfInBounds_toArray, List.set_cons_zero, List.set_cons_succ]
    rfl
  refine RegH.takeH_ (i := 14) (N := (some 24)) (v := ?_) (a' := ?_) #[true, true, true, true, true, true, true, true, true, true, true, true, true, true, true, false, false, false, false, false, false, false, false, false, false, false, false, false, false, false, false, false, false, false, false, false, false, false, false, false, false, false, false, false, false, false, false, false] rfl rfl (by kernel_rfl) (by kernel_rfl) (by kernel_rfl) rfl (fun _ _ _ h => h) (Or.inl ⟨by rfl, ?_⟩) hHeld3 ?_ ?_
  rotate_left
  · rintro w' s0
    obtain ⟨e0, e1, e2, e3, e4, e5, e6, e7, e8⟩ := HC.out w' s0; go_simp
    with_reducible rfl
  rotate_left
  · simp only [Act.put, List.setIfInBounds_toArray, List.set_cons_zero, List.set_cons_succ]
    rfl
  refine RegH.oneH_ (i := 15) (N := (some 25)) #[true, true, true, true, true, true, true, true, true, true, true, true, true, true, true, true, false, false, false, false, false, false, false, false, false, false, false, false, false, false, false, false, false, false, false, false, false, false, false, false, false, false, false, false, false, false, false, false] rfl rfl (by kernel_rfl) rfl (fun K hK => ?_)
  refine Go.Proofs.YtecliaogidemjaaW.PrintLast.goes_ Try.func23 (by kernel_rfl) rfl #[.agg #[.int .i64 154, .int .i64 14, .int .i64 60, .int .i64 2, .slice (some ad) 2 cp]] (by rfl) rfl rfl (by (try simp only [List.map_toArray, List.map_cons, List.map_nil]); first | done | rfl) ?_
  refine ((HK23.out _ hHeld3)).mono ?_
  rintro e w23 ⟨rfl, hb23⟩
  refine ⟨_, rfl, ?_⟩
  refine hK.out _ _ (bel_chain hHeld3 hb23) (fun hHeld4 => ?_)
  clear hK K hHeld3
  simp only [Act.put, List.setIfInBounds_toArray, List.set_cons_zero, List.set_cons_succ]
  refine RegH.takeH_ (i := 16) (N := (some 26)) (v := ?_) (a' := ?_) #[true, true, true, true, true, true, true, true, true, true, true, true, true, true, true, true, true, false, false, false, false, false, false, false, false, false, false, false, false, false, false, false, false, false, false, false, false, false, false, false, false, false, false, false, false, false, false, false] rfl rfl (by kernel_rfl) (by kernel_rfl) (by kernel_rfl) rfl (fun _ _ _ h => h) (Or.inl ⟨by rfl, ?_⟩) hHeld4 ?_ ?_
  rotate_left
  · rintro w' s0
    obtain ⟨e0, e1, e2, e3, e4, e5, e6, e7, e8⟩ := HC.out w' s0; go_simp
    with_reducible rfl
  rotate_left
  · simp only [Act.put, List.setIfInBounds_toArray, List.set_cons_zero, List.set_cons_succ]
    rfl
  refine RegH.takeH_ (i := 17) (N := (some 27)) (v := ?_) (a' := ?_) #[true, true, true, true, true, true, true, true, true, true, true, true, true, true, true, true, true, true, false, false, false, false, false, false, false, false, false, false, false, false, false, false, false, false, false, false, false, false, false, false, false, false, false, false, false, false, false, false] rfl rfl (by kernel_rfl) (by kernel_rfl) (by kernel_rfl) rfl (fun _ _ _ h => h) (Or.inl ⟨by rfl, ?_⟩) hHeld4 ?_ ?_
  rotate_left
  · rintro w' s0
    obtain ⟨e0, e1, e2, e3, e4, e5, e6, e7, e8⟩ := HC.out w' s0; go_simp
    with_reducible rfl
  rotate_left
  · simp only [Act.put, List.setIfInBounds_toArray, List.set_cons_zero, List.set_cons_succ]
    rfl
  refine RegH.takeH_ (i := 18) (N := (some 28)) (v := ?_) (a' := ?_) #[true, true, true, true, true, true, true, true, true, true, true, true, true, true, true, true, true, true, true, false, false, false, false, false, false, false, false, false, false, false, false, false, false, false, false, false, false, false, false, false, false, false, false, false, false, false, false, false] rfl rfl (by kernel_rfl) (by kernel_rfl) (by kernel_rfl) rfl (fun _ _ _ h => h) (Or.inl ⟨by rfl, ?_⟩) hHeld4 ?_ ?_
  rotate_left
  · rintro w' s0
    obtain ⟨e0, e1, e2, e3, e4, e5, e6, e7, e8⟩ := HC.out w' s0; go_simp
    with_reducible rfl
  rotate_left
  · simp only [Act.put, List.setIfInBounds_toArray, List.set_cons_zero, List.set_cons_succ]
    rfl
  refine RegH.takeH_ (i := 19) (N := (some 29)) (v := ?_) (a' := ?_) #[true, true, true, true, true, true, true, true, true, true, true, true, true, true, true, true, true, true, true, true, false, false, false, false, false, false, false, false, false, false, false, false, false, false, false, false, false, false, false, false, false, false, false, false, false, false, false, false] rfl rfl (by kernel_rfl) (by kernel_rfl) (by kernel_rfl) rfl (fun _ _ _ h => h) (Or.inl ⟨by rfl, ?_⟩) hHeld4 ?_ ?_
  rotate_left
  · rintro w' s0
    obtain ⟨e0, e1, e2, e3, e4, e5, e6, e7, e8⟩ := HC.out w' s0; go_simp
    with_reducible rfl
  rotate_left
  · simp only [Act.put, List.setIfInBounds_toArray, List.set_cons_zero, List.set_cons_succ]
    rfl
  refine RegH.takeH_ (i := 20) (N := (some 30)) (v := ?_) (a' := ?_) #[true, true, true, true, true, true, true, true, true, true, true, true, true, true, true, true, true, true, true, true, true, false, false, false, false, false, false, false, false, false, false, false, false, false, false, false, false, false, false, false, false, false, false, false, false, false, false, false] rfl rfl (by kernel_rfl) (by kernel_rfl) (by kernel_rfl) rfl (fun _ _ _ h => h) (Or.inl ⟨by rfl, ?_⟩) hHeld4 ?_ ?_
  rotate_left
  · rintro w' s0
    obtain ⟨e0, e1, e2, e3, e4, e5, e6, e7, e8⟩ := HC.out w' s0; go_simp
    with_reducible rfl
  rotate_left
  · simp only [Act.put, List.setIfInBounds_toArray, List.set_cons_zero, List.set_cons_succ]
    rfl
  refine RegH.takeH_ (i := 21) (N := (some 31)) (v := ?_) (a' := ?_) #[true, true, true, true, true, true, true, true, true, true, true, true, true, true, true, true, true, true, true, true, true, true, false, false, false, false, false, false, false, false, false, false, false, false, false, false, false, false, false, false, false, false, false, false, false, false, false, false] rfl rfl (by kernel_rfl) (by kernel_rfl) (by kernel_rfl) rfl (fun _ _ _ h => h) (Or.inl ⟨by rfl, ?_⟩) hHeld4 ?_ ?_
  rotate_left
  · rintro w' s0
    obtain ⟨e0, e1, e2, e3, e4, e5, e6, e7, e8⟩ := HC.out w' s0; go_simp
    with_reducible rfl
  rotate_left
  · simp only [Act.put, List.setIfInBounds_toArray, List.set_cons_zero, List.set_cons_succ]
    rfl
  refine RegH.takeH_ (i := 22) (N := (some 32)) (v := ?_) (a' := ?_) #[true, true, true, true, true, true, true, true, true, true, true, true, true, true, true, true, true, true, true, true, true, true, true, false, false, false, false, false, false, false, false, false, false, false, false, false, false, false, false, false, false, false, false, false, false, false, false, false] rfl rfl (by kernel_rfl) (by kernel_rfl) (by kernel_rfl) rfl (fun _ _ _ h => h) (Or.inl ⟨by rfl, ?_⟩) hHeld4 ?_ ?_
  rotate_left
  · rintro w' s0
    obtain ⟨e0, e1, e2, e3, e4, e5, e6, e7, e8⟩ := HC.out w' s0; go_simp
    with_reducible rfl
  rotate_left
  · simp only [Act.put, List.setIfInBounds_toArray, List.set_cons_zero, List.set_cons_succ]
    rfl
  refine RegH.takeH_ (i := 23) (N := (some 33)) (v := ?_) (a' := ?_) #[true, true, true, true, true, true, true, true, true, true, true, true, true, true, true, true, true, true, true, true, true, true, true, true, false, false, false, false, false, false, false, false, false, false, false, false, false, false, false, false, false, false, false, false, false, false, false, false] rfl rfl (by kernel_rfl) (by kernel_rfl) (by kernel_rfl) rfl (fun _ _ _ h => h) (Or.inl ⟨by rfl, ?_⟩) hHeld4 ?_ ?_
  rotate_left
  · rintro w' s0
    obtain ⟨e0, e1, e2, e3, e4, e5, e6, e7, e8⟩ := HC.out w' s0; go_simp
    with_reducible rfl
  rotate_left
  · simp only [Act.put, List.setIfInBounds_toArray, List.set_cons_zero, List.set_cons_succ]
    rfl
  refine RegH.takeH_ (i := 24) (N := (some 34)) (v := ?_) (a' := ?_) #[true, true, true, true, true, true, true, true, true, true, true, true, true, true, true, true, true, true, true, true, true, true, true, true, true, false, false, false, false, false, false, false, false, false, false, false, false, false, false, false, false, false, false, false, false, false, false, false] rfl rfl (by kernel_rfl) (by kernel_rfl) (by kernel_rfl) rfl (fun _ _ _ h => h) (Or.inl ⟨by rfl, ?_⟩) hHeld4 ?_ ?_
  rotate_left
  · rintro w' s0
    obtain ⟨e0, e1, e2, e3, e4, e5, e6, e7, e8⟩ := HC.out w' s0; go_simp
    with_reducible rfl
  rotate_left
  · simp only [Act.put, List.setIfInBounds_toArray, List.set_cons_zero, List.set_cons_succ]
    rfl
  refine RegH.takeH_ (i := 25) (N := (some 35)) (v := ?_) (a' := ?_) #[true, true, true, true, true, true, true, true, true, true, true, true, true, true, true, true, true, true, true, true, true, true, true, true, true, true, false, false, false, false, false, false, false, false, false, false, false, false, false, false, false, false, false, false, false, false, false, false] rfl rfl (by kernel_rfl) (by kernel_rfl) (by kernel_rfl) rfl (fun _ _ _ h => h) (Or.inl ⟨by rfl, ?_⟩) hHeld4 ?_ ?_
  rotate_left
  · rintro w' s0
    obtain ⟨e0, e1, e2, e3, e4, e5, e6, e7, e8⟩ := HC.out w' s0; go_simp
    with_reducible rfl
  rotate_left
  · simp only [Act.put, List.setIfInBounds_toArray, List.set_cons_zero, List.set_cons_succ]
    rfl
  refine RegH.takeH_ (i := 26) (N := (some 36)) (v := ?_) (a' := ?_) #[true, true, true, true, true, true, true, true, true, true, true, true, true, true, true, true, true, true, true, true, true, true, true, true, true, true, true, false, false, false, false, false, false, false, false, false, false, false, false, false, false, false, false, false, false, false, false, false] rfl rfl (by kernel_rfl) (by kernel_rfl) (by kernel_rfl) rfl (fun _ _ _ h => h) (Or.inl ⟨by rfl, ?_⟩) hHeld4 ?_ ?_
  rotate_left
  · rintro w' s0
    obtain ⟨e0, e1, e2, e3, e4, e5, e6, e7, e8⟩ := HC.out w' s0; go_simp
    with_reducible rfl
  rotate_left
  · simp only [Act.put, List.setIfInBounds_toArray, List.set_cons_zero, List.set_cons_succ]
    rfl
  refine RegH.takeH_ (i := 27) (N := (some 37)) (v := ?_) (a' := ?_) #[true, true, true, true, true, true, true, true, true, true, true, true, true, true, true, true, true, true, true, true, true, true, true, true, true, true, true, true, false, false, false, false, false, false, false, false, false, false, false, false, false, false, false, false, false, false, false, false] rfl rfl (by kernel_rfl) (by kernel_rfl) (by kernel_rfl) rfl (fun _ _ _ h => h) (Or.inl ⟨by rfl, ?_⟩) hHeld4 ?_ ?_
  rotate_left
  · rintro w' s0
    obtain ⟨e0, e1, e2, e3, e4, e5, e6, e7, e8⟩ := HC.out w' s0; go_simp
    with_reducible rfl
  rotate_left
  · simp only [Act.put, List.setIfInBounds_toArray, List.set_cons_zero, List.set_cons_succ]
    rfl
  refine RegH.takeH_ (i := 28) (N := (some 38)) (v := ?_) (a' := ?_) #[true, true, true, true, true, true, true, true, true, true, true, true, true, true, true, true, true, true, true, true, true, true, true, true, true, true, true, true, true, false, false, false, false, false, false, false, false, false, false, false, false, false, false, false, false, false, false, false] rfl rfl (by kernel_rfl) (by kernel_rfl) (by kernel_rfl) rfl (fun _ _ _ h => h) (Or.inl ⟨by rfl, ?_⟩) hHeld4 ?_ ?_
  rotate_left
  · rintro w' s0
    obtain ⟨e0, e1, e2, e3, e4, e5, e6, e7, e8⟩ := HC.out w' s0; go_simp
    with_reducible rfl
  rotate_left
  · simp only [Act.put, List.setIfInBounds_toArray, List.set_cons_zero, List.set_cons_succ]
    rfl
  refine RegH.takeH_ (i := 29) (N := (some 39)) (v := ?_) (a' := ?_) #[true, true, true, true, true, true, true, true, true, true, true, true, true, true, true, true, true, true, true, true, true, true, true, true, true, true, true, true, true, true, false, false, false, false, false, false, false, false, false, false, false, false, false, false, false, false, false, false] rfl rfl (by kernel_rfl) (by kernel_rfl) (by kernel_rfl) rfl (fun _ _ _ h => h) (Or.inl ⟨by rfl, ?_⟩) hHeld4 ?_ ?_
  rotate_left
  · rintro w' s0
    obtain ⟨e0, e1, e2, e3, e4, e5, e6, e7, e8⟩ := HC.out w' s0; go_simp
    with_reducible rfl
  rotate_left
  · simp only [Act.put, List.setIfInBounds_toArray, List.set_cons_zero, List.set_cons_succ]
    rfl
  refine RegH.takeH_ (i := 30) (N := (some 40)) (v := ?_) (a' := ?_) #[true, true, true, true, true, true, true, true, true, true, true, true, true, true, true, true, true, true, true, true, true, true, true, true, true, true, true, true, true, true, true, false, false, false, false, false, false, false, false, false, false, false, false, false, false, false, false, false] rfl rfl (by kernel_rfl) (by kernel_rfl) (by kernel_rfl) rfl (fun _ _ _ h => h) (Or.inl ⟨by rfl, ?_⟩) hHeld4 ?_ ?_
  rotate_left
  · rintro w' s0
    obtain ⟨e0, e1, e2, e3, e4, e5, e6, e7, e8⟩ := HC.out w' s0; go_simp
    with_reducible rfl
  rotate_left
  · simp only [Act.put, List.setIfInBounds_toArray, List.set_cons_zero, List.set_cons_succ]
    rfl
  refine RegH.takeH_ (i := 31) (N := (some 41)) (v := ?_) (a' := ?_) #[true, true, true, true, true, true, true, true, true, true, true, true, true, true, true, true, true, true, true, true, true, true, true, true, true, true, true, true, true, true, true, true, false, false, false, false, false, false, false, false, false, false, false, false, false, false, false, false] rfl rfl (by kernel_rfl) (by kernel_rfl) (by kernel_rfl) rfl (fun _ _ _ h => h) (Or.inl ⟨by rfl, ?_⟩) hHeld4 ?_ ?_
  rotate_left
  · rintro w' s0
    obtain ⟨e0, e1, e2, e3, e4, e5, e6, e7, e8⟩ := HC.out w' s0; go_simp
    with_reducible rfl
  rotate_left
  · simp only [Act.put, List.setIfInBounds_toArray, List.set_cons_zero, List.set_cons_succ]
    rfl
  refine RegH.takeH_ (i := 32) (N := (some 42)) (v := ?_) (a' := ?_) #[true, true, true, true, true, true, true, true, true, true, true, true, true, true, true, true, true, true, true, true, true, true, true, true, true, true, true, true, true, true, true, true, true, false, false, false, false, false, false, false, false, false, false, false, false, false, false, false] rfl rfl (by kernel_rfl) (by kernel_rfl) (by kernel_rfl) rfl (fun _ _ _ h => h) (Or.inl ⟨by rfl, ?_⟩) hHeld4 ?_ ?_
  rotate_left
  · rintro w' s0
    obtain ⟨e0, e1, e2, e3, e4, e5, e6, e7, e8⟩ := HC.out w' s0; go_simp
    with_reducible rfl
  rotate_left
  · simp only [Act.put, List.setIfInBounds_toArray, List.set_cons_zero, List.set_cons_succ]
    rfl
  refine RegH.takeH_ (i := 33) (N := (some 43)) (v := ?_) (a' := ?_) #[true, true, true, true, true, true, true, true, true, true, true, true, true, true, true, true, true, true, true, true, true, true, true, true, true, true, true, true, true, true, true, true, true, true, false, false, false, false, false, false, false, false, false, false, false, false, false, false] rfl rfl (by kernel_rfl) (by kernel_rfl) (by kernel_rfl) rfl (fun _ _ _ h => h) (Or.inl ⟨by rfl, ?_⟩) hHeld4 ?_ ?_
  rotate_left
  · rintro w' s0
    obtain ⟨e0, e1, e2, e3, e4, e5, e6, e7, e8⟩ := HC.out w' s0; go_simp
    with_reducible rfl
  rotate_left
  · simp only [Act.put, List.setIfInBounds_toArray, List.set_cons_zero, List.set_cons_succ]
    rfl
  refine RegH.takeH_ (i := 34) (N := (some 44)) (v := ?_) (a' := ?_) #[true, true, true, true, true, true, true, true, true, true, true, true, true, true, true, true, true, true, true, true, true, true, true, true, true, true, true, true, true, true, true, true, true, true, true, false, false, false, false, false, false, false, false, false, false, false, false, false] rfl rfl (by kernel_rfl) (by kernel_rfl) (by kernel_rfl) rfl (fun _ _ _ h => h) (Or.inl ⟨by rfl, ?_⟩) hHeld4 ?_ ?_
  rotate_left
  · rintro w' s0
    obtain ⟨e0, e1, e2, e3, e4, e5, e6, e7, e8⟩ := HC.out w' s0; go_simp
    with_reducible rfl
  rotate_left
  · simp only [Act.put, List.setIfInBounds_toArray, List.set_cons_zero, List.set_cons_succ]
    rfl
  refine RegH.takeH_ (i := 35) (N := (some 45)) (v := ?_) (a' := ?_) #[true, true, true, true, true, true, true, true, true, true, true, true, true, true, true, true, true, true, true, true, true, true, true, true, true, true, true, true, true, true, true, true, true, true, true, true, false, false, false, false, false, false, false, false, false, false, false, false] rfl rfl (by kernel_rfl) (by kernel_rfl) (by kernel_rfl) rfl (fun _ _ _ h => h) (Or.inl ⟨by rfl, ?_⟩) hHeld4 ?_ ?_
  rotate_left
  · rintro w' s0
    obtain ⟨e0, e1, e2, e3, e4, e5, e6, e7, e8⟩ := HC.out w' s0; go_simp
    with_reducible rfl
  rotate_left
  · simp only [Act.put, List.setIfInBounds_toArray, List.set_cons_zero, List.set_cons_succ]
    rfl
  refine RegH.takeH_ (i := 36) (N := (some 46)) (v := ?_) (a' := ?_) #[true, true, true, true, true, true, true, true, true, true, true, true, true, true, true, true, true, true, true, true, true, true, true, true, true, true, true, true, true, true, true, true, true, true, true, true, true, false, false, false, false, false, false, false, false, false, false, false] rfl rfl (by kernel_rfl) (by kernel_rfl) (by kernel_rfl) rfl (fun _ _ _ h => h) (Or.inl ⟨by rfl, ?_⟩) hHeld4 ?_ ?_
  rotate_left
  · rintro w' s0
    obtain ⟨e0, e1, e2, e3, e4, e5, e6, e7, e8⟩ := HC.out w' s0; go_simp
    with_reducible rfl
  rotate_left
  · simp only [Act.put, List.setIfInBounds_toArray, List.set_cons_zero, List.set_cons_succ]
    rfl
  refine RegH.takeH_ (i := 37) (N := (some 47)) (v := ?_) (a' := ?_) #[true, true, true, true, true, true, true, true, true, true, true, true, true, true, true, true, true, true, true, true, true, true, true, true, true, true, true, true, true, true, true, true, true, true, true, true, true, true, false, false, false, false, false, false, false, false, false, false] rfl rfl (by kernel_rfl) (by kernel_rfl) (by kernel_rfl) rfl (fun _ _ _ h => h) (Or.inl ⟨by rfl, ?_⟩) hHeld4 ?_ ?_
  rotate_left
  · rintro w' s0
    obtain ⟨e0, e1, e2, e3, e4, e5, e6, e7, e8⟩ := HC.out w' s0; go_simp
    with_reducible rfl
  rotate_left
  · simp only [Act.put, List.setIfInBounds_toArray, List.set_cons_zero, List.set_cons_succ]
    rfl
  refine RegH.takeH_ (i := 38) (N := (some 48)) (v := ?_) (a' := ?_) #[true, true, true, true, true, true, true, true, true, true, true, true, true, true, true, true, true, true, true, true, true, true, true, true, true, true, true, true, true, true, true, true, true, true, true, true, true, true, true, false, false, false, false, false, false, false, false, false] rfl rfl (by kernel_rfl) (by kernel_rfl) (by kernel_rfl) rfl (fun _ _ _ h => h) (Or.inl ⟨by rfl, ?_⟩) hHeld4 ?_ ?_
  rotate_left
  · rintro w' s0
    obtain ⟨e0, e1, e2, e3, e4, e5, e6, e7, e8⟩ := HC.out w' s0; go_simp
    with_reducible rfl
  rotate_left
  · simp only [Act.put, List.setIfInBounds_toArray, List.set_cons_zero, List.set_cons_succ]
    rfl
  refine RegH.takeH_ (i := 39) (N := (some 49)) (v := ?_) (a' := ?_) #[true, true, true, true, true, true, true, true, true, true, true, true, true, true, true, true, true, true, true, true, true, true, true, true, true, true, true, true, true, true, true, true, true, true, true, true, true, true, true, true, false, false, false, false, false, false, false, false] rfl rfl (by kernel_rfl) (by kernel_rfl) (by kernel_rfl) rfl (fun _ _ _ h => h) (Or.inl ⟨by rfl, ?_⟩) hHeld4 ?_ ?_
  rotate_left
  · rintro w' s0
    obtain ⟨e0, e1, e2, e3, e4, e5, e6, e7, e8⟩ := HC.out w' s0; go_simp
    with_reducible rfl
  rotate_left
  · simp only [Act.put, List.setIfInBounds_toArray, List.set_cons_zero, List.set_cons_succ]
    rfl
  refine RegH.takeH_ (i := 40) (N := (some 50)) (v := ?_) (a' := ?_) #[true, true, true, true, true, true, true, true, true, true, true, true, true, true, true, true, true, true, true, true, true, true, true, true, true, true, true, true, true, true, true, true, true, true, true, true, true, true, true, true, true, false, false, false, false, false, false, false] rfl rfl (by kernel_rfl) (by kernel_rfl) (by kernel_rfl) rfl (fun _ _ _ h => h) (Or.inl ⟨by rfl, ?_⟩) hHeld4 ?_ ?_
  rotate_left
  · rintro w' s0
    obtain ⟨e0, e1, e2, e3, e4, e5, e6, e7, e8⟩ := HC.out w' s0; go_simp
    with_reducible rfl
  rotate_left
  · simp only [Act.put, List.setIfInBounds_toArray, List.set_cons_zero, List.set_cons_succ]
    rfl
  refine RegH.takeH_ (i := 41) (N := (some 51)) (v := ?_) (a' := ?_) #[true, true, true, true, true, true, true, true, true, true, true, true, true, true, true, true, true, true, true, true, true, true, true, true, true, true, true, true, true, true, true, true, true, true, true, true, true, true, true, true, true, true, false, false, false, false, false, false] rfl rfl (by kernel_rfl) (by kernel_rfl) (by kernel_rfl) rfl (fun _ _ _ h => h) (Or.inl ⟨by rfl, ?_⟩) hHeld4 ?_ ?_
  rotate_left
  · rintro w' s0
    obtain ⟨e0, e1, e2, e3, e4, e5, e6, e7, e8⟩ := HC.out w' s0; go_simp
    with_reducible rfl
  rotate_left
  · simp only [Act.put, List.setIfInBounds_toArray, List.set_cons_zero, List.set_cons_succ]
    rfl
  refine RegH.takeH_ (i := 42) (N := (some 52)) (v := ?_) (a' := ?_) #[true, true, true, true, true, true, true, true, true, true, true, true, true, true, true, true, true, true, true, true, true, true, true, true, true, true, true, true, true, true, true, true, true, true, true, true, true, true, true, true, true, true, true, false, false, false, false, false] rfl rfl (by kernel_rfl) (by kernel_rfl) (by kernel_rfl) rfl (fun _ _ _ h => h) (Or.inl ⟨by rfl, ?_⟩) hHeld4 ?_ ?_
  rotate_left
  · rintro w' s0
    obtain ⟨e0, e1, e2, e3, e4, e5, e6, e7, e8⟩ := HC.out w' s0; go_simp
    with_reducible rfl
  rotate_left
  · simp only [Act.put, List.setIfInBounds_toArray, List.set_cons_zero, List.set_cons_succ]
    rfl
  refine RegH.takeH_ (i := 43) (N := (some 53)) (v := ?_) (a' := ?_) #[true, true, true, true, true, true, true, true, true, true, true, true, true, true, true, true, true, true, true, true, true, true, true, true, true, true, true, true, true, true, true, true, true, true, true, true, true, true, true, true, true, true, true, true, false, false, false, false] rfl rfl (by kernel_rfl) (by kernel_rfl) (by kernel_rfl) rfl (fun _ _ _ h => h) (Or.inl ⟨by rfl, ?_⟩) hHeld4 ?_ ?_
  rotate_left
  · rintro w' s0
    obtain ⟨e0, e1, e2, e3, e4, e5, e6, e7, e8⟩ := HC.out w' s0; go_simp
    with_reducible rfl
  rotate_left
  · simp only [Act.put, List.setIfInBounds_toArray, List.set_cons_zero, List.set_cons_succ]
    rfl
  refine RegH.takeH_ (i := 44) (N := (some 54)) (v := ?_) (a' := ?_) #[true, true, true, true, true, true, true, true, true, true, true, true, true, true, true, true, true, true, true, true, true, true, true, true, true, true, true, true, true, true, true, true, true, true, true, true, true, true, true, true, true, true, true, true, true, false, false, false] rfl rfl (by kernel_rfl) (by kernel_rfl) (by kernel_rfl) rfl (fun _ _ _ h => h) (Or.inl ⟨by rfl, ?_⟩) hHeld4 ?_ ?_
  rotate_left
  · rintro w' s0
    obtain ⟨e0, e1, e2, e3, e4, e5, e6, e7, e8⟩ := HC.out w' s0; go_simp
    with_reducible rfl
  rotate_left
  · simp only [Act.put, List.setIfInBounds_toArray, List.set_cons_zero, List.set_cons_succ]
    rfl
  refine RegH.takeH_ (i := 45) (N := (some 55)) (v := ?_) (a' := ?_) #[true, true, true, true, true, true, true, true, true, true, true, true, true, true, true, true, true, true, true, true, true, true, true, true, true, true, true, true, true, true, true, true, true, true, true, true, true, true, true, true, true, true, true, true, true, true, false, false] rfl rfl (by kernel_rfl) (by kernel_rfl) (by kernel_rfl) rfl (fun _ _ _ h => h) (Or.inl ⟨by rfl, ?_⟩) hHeld4 ?_ ?_
  rotate_left
  · rintro w' s0
    obtain ⟨e0, e1, e2, e3, e4, e5, e6, e7, e8⟩ := HC.out w' s0; go_simp
    with_reducible rfl
  rotate_left
  · simp only [Act.put, List.setIfInBounds_toArray, List.set_cons_zero, List.set_cons_succ]
    rfl
  refine RegH.takeH_ (i := 46) (N := (some 56)) (v := ?_) (a' := ?_) #[true, true, true, true, true, true, true, true, true, true, true, true, true, true, true, true, true, true, true, true, true, true, true, true, true, true, true, true, true, true, true, true, true, true, true, true, true, true, true, true, true, true, true, true, true, true, true, false] rfl rfl (by kernel_rfl) (by kernel_rfl) (by kernel_rfl) rfl (fun _ _ _ h => h) (Or.inl ⟨by rfl, ?_⟩) hHeld4 ?_ ?_
  rotate_left
  · rintro w' s0
    obtain ⟨e0, e1, e2, e3, e4, e5, e6, e7, e8⟩ := HC.out w' s0; go_simp
    with_reducible rfl
  rotate_left
  · simp only [Act.put, List.setIfInBounds_toArray, List.set_cons_zero, List.set_cons_succ]
    rfl
  refine RegH.takeH_ (i := 47) (N := (some 0)) (v := ?_) (a' := ?_) #[true, true, true, true, true, true, true, true, true, true, true, true, true, true, true, true, true, true, true, true, true, true, true, true, true, true, true, true, true, true, true, true, true, true, true, true, true, true, true, true, true, true, true, true, true, true, true, true] rfl rfl (by kernel_rfl) (by kernel_rfl) (by kernel_rfl) rfl (fun _ _ _ h => h) (Or.inl ⟨by rfl, ?_⟩) hHeld4 ?_ ?_
  rotate_left
  · rintro w' s0
    obtain ⟨e0, e1, e2, e3, e4, e5, e6, e7, e8⟩ := HC.out w' s0; go_simp
    with_reducible rfl
  rotate_left
  · simp only [Act.put, List.setIfInBounds_toArray, List.set_cons_zero, List.set_cons_succ]
    rfl
  refine RegH.doneH_ (by kernel_rfl) ?_
  refine NoPanic.normal ?_

  go_wp2
  go_ret
  exact ⟨rfl, bel_chain hb3.out hHeld4⟩
end Go.Proofs.Ytecliaogidemjaa.Boot
