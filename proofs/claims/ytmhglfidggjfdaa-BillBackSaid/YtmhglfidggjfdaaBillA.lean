/- Which bytes bills are, and which bills bytes: BillAll walked. -/
import Derived.Test.YtmhglfidggjfdaaBillE
import Derived.Test.YtmhglfidggjfdaaRegH
import Derived.Test.YtmhglfidggjfdaaLoan
import Derived.Test.YtmhglfidggjfdaaCRow
namespace Go.Proofs.Ytmhglfidggjfdaa.Bill
open Go Go.RowKit Go.Proofs.YtmhglfidggjfdaaW.PrintWords
open Go.Proofs.Ytmhglfidggjfdaa.PBillBack (S60 z60 k60 rd_T60 at_T60)
set_option linter.unusedVariables false
set_option linter.unusedSimpArgs false

theorem BR.reads {w : World} {A : Option Addr} {c : Nat} {l : List Int} (h : BR w A c l) : ReadsInt w .u8 A l.length l := by
  refine ⟨rfl, Kd.C_max h.1, fun h0 => ?_⟩
  obtain ⟨ad, e, _⟩ := Kd.at_int h.1 0 (by omega) (by omega)
  refine ⟨ad, e, fun j hj => ?_⟩
  obtain ⟨ad', e', hc⟩ := Kd.at_int h.1 (j : Int) (by omega) (by omega)
  rw [e] at e'
  cases e'
  rw [Int.toNat_natCast] at hc
  rw [hc]
  unfold rd
  rw [Int.toNat_natCast]
theorem BR.lent {w : World} {g c : Nat} {l : List Int} (h : Loan.Lent w g l) (hl : l.length ≤ 1000) (hc : l.length ≤ c) : BR w (some ⟨g, 0, Option.none⟩) c l := by
  obtain ⟨r, _⟩ := h.reads hl
  refine ⟨CRow.c_row (b := g) (o := 0) (by omega) (fun _ => rfl) (fun i hi => ?_), hc⟩
  obtain ⟨ad, e, hcc⟩ := r.2.2 (by omega)
  cases e
  have := hcc i hi
  rw [Kept.add_at] at this
  exact this
theorem parts_le : ∀ (m : Nat) (r : List Int), (partsO m r).length * 8 ≤ r.length
  | 0, r => by simp [partsO]
  | m + 1, r => by
    show (if 8 ≤ r.length then _ else _ : List S60).length * 8 ≤ _
    split
    · have := parts_le m (r.drop 8)
      rw [List.length_drop] at this
      rw [List.length_cons]
      omega
    · simp
theorem takeB_len (b : List Int) (hb : BytesIn b) : (takeB b).2.2.2.2.1.length ≤ b.length := by
  unfold takeB
  split
  · have := parts_le (rd b 6).toNat (b.drop 7)
    rw [List.length_drop] at this
    show (billL b).length ≤ _
    unfold billL
    omega
  · simp
theorem sameB_refl (F T S C : Int) (l : List S60) : sameB F T S C l F T S C l = true := by unfold sameB; simp
set_option maxRecDepth 100000 in
set_option maxHeartbeats 400000 in
theorem bill_main (w : World) (F T S C : Int) (A : Option Addr) (c : Nat) (l : List S60) (F' T' S' C' : Int) (A' : Option Addr) (c' : Nat) (l' : List S60) (Ab : Option Addr) (cb : Nat) (bl : List Int)
    (hx : PR w A c l) (hxw : WfL l) (hy : PR w A' c' l') (hyw : WfL l') (hb : BR w Ab cb bl) (hbb : BytesIn bl)
    (h1 : ¬ 10 < (l.length : Int)) (h2 : ¬ 10 < (l'.length : Int)) (h3 : ¬ 100 < (bl.length : Int)) :
    Calls Try.prog 6 #[.agg #[.int .i64 F, .int .i64 T, .int .i64 S, .int .i64 C, .slice A l.length c], .agg #[.int .i64 F', .int .i64 T', .int .i64 S', .int .i64 C', .slice A' l'.length c'], .slice Ab bl.length cb] w fun e w' => e = .returned (.bool true) ∧ Below w.heap.size w w' := by
  have hu44 := Try.underlying44
  have hmx := Kd.C_max hx.1
  have hmy := Kd.C_max hy.1
  have hmb := Kd.C_max hb.1
  have HX := Lib.hid hx
  have HXW := Lib.hid hxw
  have HY := Lib.hid hy
  have HB := Lib.hid hb
  have HBB := Lib.hid hbb
  clear hx hxw hy hyw hb hbb
  have d1 : decide (10 < (l.length : Int)) = false := decide_eq_false h1
  have d2 : decide (10 < (l'.length : Int)) = false := decide_eq_false h2
  have d3 : decide (100 < (bl.length : Int)) = false := decide_eq_false h3
  have es : ∀ o : Obj, (w.alloc o).heap.size = w.heap.size + 1 := fun o => sz w o
  obtain ⟨⟨f1, f2, f3, f4, lp, E⟩, hE⟩ : ∃ t, takeB bl = t := ⟨_, rfl⟩
  obtain ⟨PB, hPB⟩ : ∃ p, putB F T S C l = p := ⟨_, rfl⟩
  have hlp : lp.length ≤ 1000 := by
    have h := takeB_len bl HBB.out
    rw [hE] at h
    exact Nat.le_trans h (by omega)
  obtain ⟨sb, hsb⟩ : ∃ r, sameB F T S C l F' T' S' C' l' = r := ⟨_, rfl⟩
  have HE := Lib.hid hE
  have HPB := Lib.hid hPB
  have HSB := Lib.hid hsb
  clear hE hPB hsb
  suffices hgoal : True from ?_
  · go_enter Try.func6, Try.ntmps6
    go_upto_region 8 with (first
      | (go_at_call 23; (with_reducible refine (begun7 _).mono ?_); rintro e W ⟨rfl, B⟩; have HBg := Lib.hid B; clear B; have K1 := Lib.hid (Mem.blk_below (Mem.blk_alloc (Mem.blk_new w (.cells #[.int .i64 F, .int .i64 T, .int .i64 S, .int .i64 C, .slice A l.length c] 44)) (.cells #[.int .i64 F', .int .i64 T', .int .i64 S', .int .i64 C', .slice A' l'.length c'] 44)) HBg.out); have K2 := (Mem.blk_below (Mem.blk_new (w.alloc (.cells #[.int .i64 F, .int .i64 T, .int .i64 S, .int .i64 C, .slice A l.length c] 44)) (.cells #[.int .i64 F', .int .i64 T', .int .i64 S', .int .i64 C', .slice A' l'.length c'] 44)) HBg.out); rw [es] at K2; have K2 := Lib.hid K2; have hc5 := Mem.cells5 K1.out; have hy5 := Mem.cells5 K2.out; have HW := Lib.hid (Mem.bel_chain (Mem.bel_alloc (Mem.bel_alloc (Below.refl w.heap.size w) _) _) HBg.out); clear HBg)
      | (go_at_call 24; refine (Loan.loan_any _ Ab cb bl (by omega) (BR.reads (HB.out.below HW.out))).mono ?_; rintro e W2 ⟨gl, cl, rfl, hcl1, hcl2, hL, B, _⟩; have HL := Lib.hid hL; have HBa := Lib.hid B; clear hL B hc5 hy5)
      | (go_at_call 25; refine (take_eq (BR.lent HL.out (by omega) (by omega)) HBB.out HE.out).mono ?_; rintro e W3 ⟨Ap, cp, rfl, R3, B⟩; have HBc := Lib.hid B; have HR3 := Lib.hid R3; clear R3 B)
      | (go_at_call 26; refine (rtake_eq (HB.out.below (Mem.bel_alloc (Mem.bel_chain (Mem.bel_chain HW.out HBa.out) HBc.out) _)) HBB.out HE.out).mono ?_; rintro e W4 ⟨Aq, cq, rfl, R4, B⟩; have HBd := Lib.hid B; have HR4 := Lib.hid R4; clear R4 B)
      | fail)
    obtain ⟨g3, hg3⟩ : ∃ g, W3.heap.size = g := ⟨_, rfl⟩
    obtain ⟨g4, hg4⟩ : ∃ g, W4.heap.size = g := ⟨_, rfl⟩
    rw [hg3, hg4]
    obtain ⟨XE, hXE⟩ : ∃ Z, W4.alloc (.cells #[.int .i64 f1, .int .i64 f2, .int .i64 f3, .int .i64 f4, .slice Aq lp.length cq] 44) = Z := ⟨_, rfl⟩
    have b34 : Below W3.heap.size W3 XE := by rw [← hXE]; exact Mem.bel_alloc (Mem.bel_chain (Mem.bel_alloc (Below.refl _ _) _) HBd.out) _
    have b23 : Below W2.heap.size W2 XE := Mem.bel_chain HBc.out b34
    have b12 : Below W.heap.size W XE := Mem.bel_chain HBa.out b23
    have bE : Below w.heap.size w XE := Mem.bel_chain HW.out b12
    have k3 : XE.heap[g3]? = some (.cells #[.int .i64 f1, .int .i64 f2, .int .i64 f3, .int .i64 f4, .slice Ap lp.length cp] 44 (0, 0)) := by rw [← hXE, ← hg3]; exact Mem.blk_alloc (Mem.blk_below (Mem.blk_new W3 _) HBd.out) _
    have k4 : XE.heap[g4]? = some (.cells #[.int .i64 f1, .int .i64 f2, .int .i64 f3, .int .i64 f4, .slice Aq lp.length cq] 44 (0, 0)) := by rw [← hXE, ← hg4]; exact Mem.blk_new W4 _
    have k1 := Mem.blk_below K1.out b12
    have k2 := Mem.blk_below K2.out b12
    have lX : Loan.Lent XE gl bl := HL.out.below b23
    have rX : PR XE A c l := HX.out.below bE
    have rY : PR XE A' c' l' := HY.out.below bE
    have rB : BR XE Ab cb bl := HB.out.below bE
    have rP : PR XE Ap cp lp := HR3.out.below b34
    have rQ : PR XE Aq cq lp := by rw [← hXE]; exact HR4.out.below (Mem.bel_alloc (Below.refl _ _) _)
    rw [hXE]
    have HBE := Lib.hid bE
    clear hXE b34 b23 b12 bE hg3 hg4 K1 K2 HL HBa HBc HBd HR3 HR4
    have HC := Lib.hid (show ∀ w', Below XE.heap.size XE w' → (w'.cell? ⟨w.heap.size, 0, none⟩ = some (.int .i64 F) ∧ w'.cell? ⟨w.heap.size, 1, none⟩ = some (.int .i64 T) ∧ w'.cell? ⟨w.heap.size, 2, none⟩ = some (.int .i64 S) ∧ w'.cell? ⟨w.heap.size, 3, none⟩ = some (.int .i64 C) ∧ w'.cell? ⟨w.heap.size, 4, none⟩ = some (.slice A l.length c)) ∧
        (w'.cell? ⟨w.heap.size + 1, 0, none⟩ = some (.int .i64 F') ∧ w'.cell? ⟨w.heap.size + 1, 1, none⟩ = some (.int .i64 T') ∧ w'.cell? ⟨w.heap.size + 1, 2, none⟩ = some (.int .i64 S') ∧ w'.cell? ⟨w.heap.size + 1, 3, none⟩ = some (.int .i64 C') ∧ w'.cell? ⟨w.heap.size + 1, 4, none⟩ = some (.slice A' l'.length c')) ∧
        (w'.cell? ⟨g3, 0, none⟩ = some (.int .i64 f1) ∧ w'.cell? ⟨g3, 1, none⟩ = some (.int .i64 f2) ∧ w'.cell? ⟨g3, 2, none⟩ = some (.int .i64 f3) ∧ w'.cell? ⟨g3, 3, none⟩ = some (.int .i64 f4) ∧ w'.cell? ⟨g3, 4, none⟩ = some (.slice Ap lp.length cp)) ∧
        w'.cell? ⟨g4, 0, none⟩ = some (.int .i64 f1) ∧ w'.cell? ⟨g4, 1, none⟩ = some (.int .i64 f2) ∧ w'.cell? ⟨g4, 2, none⟩ = some (.int .i64 f3) ∧ w'.cell? ⟨g4, 3, none⟩ = some (.int .i64 f4) ∧ w'.cell? ⟨g4, 4, none⟩ = some (.slice Aq lp.length cq) from
      fun w' h => ⟨Mem.cells5 (Mem.blk_below k1 h), Mem.cells5 (Mem.blk_below k2 h), Mem.cells5 (Mem.blk_below k3 h), Mem.cells5 (Mem.blk_below k4 h)⟩)
    have HK27 := Lib.hid (fun w' (h : Below XE.heap.size XE w') => put_eq (rX.below h) HXW.out HPB.out)
    have HK28 := Lib.hid (fun w' (h : Below XE.heap.size XE w') => rput_eq (rX.below h) (by omega) HXW.out HPB.out)
    have HK29 := Lib.hid (fun w' (h : Below XE.heap.size XE w') => rsame_eq (rP.below h) (rQ.below h) hlp (sameB_refl f1 f2 f3 f4 lp))
    have HK30 := Lib.hid (fun w' (h : Below XE.heap.size XE w') => same_eq (rX.below h) (rY.below h) (by omega) HSB.out)
    have HK39 := Lib.hid (fun w' (h : Below XE.heap.size XE w') => rsame_eq (rX.below h) (rY.below h) (by omega) HSB.out)
    have HK3X := Lib.hid (fun w' (h : Below XE.heap.size XE w') => same_eq (rX.below h) (rX.below h) (by omega) (sameB_refl F T S C l))
    have HK31 := Lib.hid (show ∀ w', Below XE.heap.size XE w' → Calls Try.prog 31 #[.slice (some ⟨gl, 0, none⟩) bl.length cl, .slice Ab bl.length cb] w' fun e w'' => e = .returned (.bool true) ∧ Below w'.heap.size w' w'' from fun w' h =>
      (Loan.same_any w' gl cl Ab cb bl (by omega) hcl1 hcl2 (lX.below h) (BR.reads (rB.below h))).mono (by rintro e w'' ⟨rfl, n, rfl⟩; exact ⟨rfl, Mem.bel_drewN (Below.refl _ _) n⟩))
    clear k1 k2 k3 k4 lX rX rY rB rP rQ
    refine wp_region_noPanic ?_
    refine RegH.startH_ (n := 37) (S := fun w' => (Below XE.heap.size XE w')) #[false, false, false, false, false, false, false, false, false, false, false, false, false, false, false, false, false, false, false, false, false, false, false, false, false, false, false, false, false, false, false, false, false, false, false, false, false] (by kernel_rfl) rfl rfl (Mem.bel_drew (Below.refl _ _)) (fun hHeld0 => ?_)
    refine RegH.takeH_ (i := 0) (N := (some 41)) (v := ?_) (a' := ?_) #[true, false, false, false, false, false, false, false, false, false, false, false, false, false, false, false, false, false, false, false, false, false, false, false, false, false, false, false, false, false, false, false, false, false, false, false, false] rfl rfl (by kernel_rfl) (by kernel_rfl) (by kernel_rfl) rfl (fun _ _ _ h => h) (Or.inl ⟨by rfl, ?_⟩) hHeld0 ?_ ?_
    rotate_left
    · rintro w' s0
      obtain ⟨⟨x0, x1, x2, x3, x4⟩, ⟨y0, y1, y2, y3, y4⟩, ⟨p0, p1, p2, p3, p4⟩, q0, q1, q2, q3, q4⟩ := HC.out w' s0; go_simp
      with_reducible rfl
    rotate_left
    · simp only [Act.put, List.setIfInBounds_toArray, List.set_cons_zero, List.set_cons_succ]
      rfl
    refine RegH.takeH_ (i := 3) (N := (some 44)) (v := ?_) (a' := ?_) #[true, false, false, true, false, false, false, false, false, false, false, false, false, false, false, false, false, false, false, false, false, false, false, false, false, false, false, false, false, false, false, false, false, false, false, false, false] rfl rfl (by kernel_rfl) (by kernel_rfl) (by kernel_rfl) rfl (fun _ _ _ h => h) (Or.inl ⟨by rfl, ?_⟩) hHeld0 ?_ ?_
    rotate_left
    · rintro w' s0
      obtain ⟨⟨x0, x1, x2, x3, x4⟩, ⟨y0, y1, y2, y3, y4⟩, ⟨p0, p1, p2, p3, p4⟩, q0, q1, q2, q3, q4⟩ := HC.out w' s0; go_simp
      with_reducible rfl
    rotate_left
    · simp only [Act.put, List.setIfInBounds_toArray, List.set_cons_zero, List.set_cons_succ]
      rfl
    refine RegH.oneH_ (i := 1) (N := (some 42)) #[true, true, false, true, false, false, false, false, false, false, false, false, false, false, false, false, false, false, false, false, false, false, false, false, false, false, false, false, false, false, false, false, false, false, false, false, false] rfl rfl (by kernel_rfl) rfl (fun K hK => ?_)
    refine Go.Proofs.YtmhglfidggjfdaaW.PrintLast.goes_ Try.func27 (by kernel_rfl) rfl #[.agg #[.int .i64 F, .int .i64 T, .int .i64 S, .int .i64 C, .slice A l.length c]] (by rfl) rfl rfl (by (try simp only [List.map_toArray, List.map_cons, List.map_nil]); first | done | rfl) ?_
    refine (HK27.out _ hHeld0).mono ?_
    rintro e w1 ⟨A1, c1, rfl, R1, hb1⟩
    refine ⟨_, rfl, ?_⟩
    have hB1 := Mem.bel_chain hHeld0 hb1
    refine hK.out _ _ (Mem.bel_chain hHeld0 hb1) (fun hHeld1 => ?_)
    clear hK K hHeld0
    refine RegH.heldMono (S' := fun w' => (Below XE.heap.size XE w') ∧ ((convert 38 9 (.slice A1 PB.length c1)).run Try.prog w' = .ok (.string (strOfNums PB)) w')) (fun w' ⟨s0, s1⟩ => s0) _ _ _ _ ?_
    have h_0 := hHeld1
    have hHeld2 := And.intro h_0 (BR.conv R1)
    clear h_0
    simp only [Act.put, List.setIfInBounds_toArray, List.set_cons_zero, List.set_cons_succ]
    refine RegH.takeH_ (i := 2) (N := (some 43)) (v := ?_) (a' := ?_) #[true, true, true, true, false, false, false, false, false, false, false, false, false, false, false, false, false, false, false, false, false, false, false, false, false, false, false, false, false, false, false, false, false, false, false, false, false] rfl rfl (by kernel_rfl) (by kernel_rfl) (by kernel_rfl) rfl (fun _ _ _ h => h) (Or.inl ⟨by rfl, ?_⟩) hHeld2 ?_ ?_
    rotate_left
    · rintro w' ⟨s0, s1⟩
      obtain ⟨⟨x0, x1, x2, x3, x4⟩, ⟨y0, y1, y2, y3, y4⟩, ⟨p0, p1, p2, p3, p4⟩, q0, q1, q2, q3, q4⟩ := HC.out w' s0; go_simp
      with_reducible rfl
    rotate_left
    · simp only [Act.put, List.setIfInBounds_toArray, List.set_cons_zero, List.set_cons_succ]
      rfl
    refine RegH.oneH_ (i := 4) (N := (some 45)) #[true, true, true, true, true, false, false, false, false, false, false, false, false, false, false, false, false, false, false, false, false, false, false, false, false, false, false, false, false, false, false, false, false, false, false, false, false] rfl rfl (by kernel_rfl) rfl (fun K hK => ?_)
    refine Go.Proofs.YtmhglfidggjfdaaW.PrintLast.goes_ Try.func28 (by kernel_rfl) rfl #[.agg #[.int .i64 F, .int .i64 T, .int .i64 S, .int .i64 C, .slice A l.length c]] (by rfl) rfl rfl (by (try simp only [List.map_toArray, List.map_cons, List.map_nil]); first | done | rfl) ?_
    refine (HK28.out _ hB1).mono ?_
    rintro e w2 ⟨A2, c2, rfl, R2, hb2⟩
    refine ⟨_, rfl, ?_⟩
    have hB2 := Mem.bel_chain hB1 hb2
    have R12 := R1.below hb2
    refine hK.out _ _ ⟨hB2, BR.conv R12⟩ (fun hHeld3 => ?_)
    clear hK K hHeld2
    refine RegH.heldMono (S' := fun w' => (Below XE.heap.size XE w') ∧ ((convert 38 9 (.slice A1 PB.length c1)).run Try.prog w' = .ok (.string (strOfNums PB)) w') ∧ ((convert 38 9 (.slice A2 PB.length c2)).run Try.prog w' = .ok (.string (strOfNums PB)) w')) (fun w' ⟨s0, s1, s2⟩ => ⟨s0, s1⟩) _ _ _ _ ?_
    obtain ⟨h_0, h_1⟩ := hHeld3
    have hHeld4 := And.intro h_0 (And.intro (h_1) (BR.conv R2))
    clear h_0 h_1
    simp only [Act.put, List.setIfInBounds_toArray, List.set_cons_zero, List.set_cons_succ]
    refine RegH.takeH_ (i := 5) (N := (some 46)) (v := ?_) (a' := ?_) #[true, true, true, true, true, true, false, false, false, false, false, false, false, false, false, false, false, false, false, false, false, false, false, false, false, false, false, false, false, false, false, false, false, false, false, false, false] rfl rfl (by kernel_rfl) (by kernel_rfl) (by kernel_rfl) rfl (fun _ _ _ h => h) (Or.inl ⟨by rfl, ?_⟩) hHeld4 ?_ ?_
    rotate_left
    · rintro w' ⟨s0, s1, s2⟩
      obtain ⟨⟨x0, x1, x2, x3, x4⟩, ⟨y0, y1, y2, y3, y4⟩, ⟨p0, p1, p2, p3, p4⟩, q0, q1, q2, q3, q4⟩ := HC.out w' s0; go_simp
      with_reducible rfl
    rotate_left
    · simp only [Act.put, List.setIfInBounds_toArray, List.set_cons_zero, List.set_cons_succ]
      rfl
    refine RegH.takeH_ (i := 6) (N := (some 47)) (v := ?_) (a' := ?_) #[true, true, true, true, true, true, true, false, false, false, false, false, false, false, false, false, false, false, false, false, false, false, false, false, false, false, false, false, false, false, false, false, false, false, false, false, false] rfl rfl (by kernel_rfl) (by kernel_rfl) (by kernel_rfl) rfl (fun _ _ _ h => h) (Or.inl ⟨by rfl, ?_⟩) hHeld4 ?_ ?_
    rotate_left
    · rintro w' ⟨s0, s1, s2⟩
      obtain ⟨⟨x0, x1, x2, x3, x4⟩, ⟨y0, y1, y2, y3, y4⟩, ⟨p0, p1, p2, p3, p4⟩, q0, q1, q2, q3, q4⟩ := HC.out w' s0; go_simp
      with_reducible rfl
    rotate_left
    · simp only [Act.put, List.setIfInBounds_toArray, List.set_cons_zero, List.set_cons_succ]
      rfl
    refine RegH.takeH_ (i := 7) (N := (some 48)) (v := ?_) (a' := ?_) #[true, true, true, true, true, true, true, true, false, false, false, false, false, false, false, false, false, false, false, false, false, false, false, false, false, false, false, false, false, false, false, false, false, false, false, false, false] rfl rfl (by kernel_rfl) (by kernel_rfl) (by kernel_rfl) rfl (fun _ _ _ h => h) (Or.inl ⟨by rfl, ?_⟩) hHeld4 ?_ ?_
    rotate_left
    · rintro w' ⟨s0, s1, s2⟩
      obtain ⟨⟨x0, x1, x2, x3, x4⟩, ⟨y0, y1, y2, y3, y4⟩, ⟨p0, p1, p2, p3, p4⟩, q0, q1, q2, q3, q4⟩ := HC.out w' s0; go_simp
      with_reducible rfl
    rotate_left
    · simp only [Act.put, List.setIfInBounds_toArray, List.set_cons_zero, List.set_cons_succ]
      rfl
    refine RegH.takeH_ (i := 8) (N := (some 49)) (v := ?_) (a' := ?_) #[true, true, true, true, true, true, true, true, true, false, false, false, false, false, false, false, false, false, false, false, false, false, false, false, false, false, false, false, false, false, false, false, false, false, false, false, false] rfl rfl (by kernel_rfl) (by kernel_rfl) (by kernel_rfl) rfl (fun _ _ _ h => h) (Or.inl ⟨by rfl, ?_⟩) hHeld4 ?_ ?_
    rotate_left
    · rintro w' ⟨s0, s1, s2⟩
      obtain ⟨⟨x0, x1, x2, x3, x4⟩, ⟨y0, y1, y2, y3, y4⟩, ⟨p0, p1, p2, p3, p4⟩, q0, q1, q2, q3, q4⟩ := HC.out w' s0; go_simp
      with_reducible rfl
    rotate_left
    · simp only [Act.put, List.setIfInBounds_toArray, List.set_cons_zero, List.set_cons_succ]
      rfl
    refine RegH.takeH_ (i := 9) (N := (some 50)) (v := ?_) (a' := ?_) #[true, true, true, true, true, true, true, true, true, true, false, false, false, false, false, false, false, false, false, false, false, false, false, false, false, false, false, false, false, false, false, false, false, false, false, false, false] rfl rfl (by kernel_rfl) (by kernel_rfl) (by kernel_rfl) rfl (fun _ _ _ h => h) (Or.inl ⟨by rfl, ?_⟩) hHeld4 ?_ ?_
    rotate_left
    · rintro w' ⟨s0, s1, s2⟩
      obtain ⟨⟨x0, x1, x2, x3, x4⟩, ⟨y0, y1, y2, y3, y4⟩, ⟨p0, p1, p2, p3, p4⟩, q0, q1, q2, q3, q4⟩ := HC.out w' s0; go_simp
      with_reducible rfl
    rotate_left
    · simp only [Act.put, List.setIfInBounds_toArray, List.set_cons_zero, List.set_cons_succ]
      rfl
    refine RegH.takeH_ (i := 10) (N := (some 51)) (v := ?_) (a' := ?_) #[true, true, true, true, true, true, true, true, true, true, true, false, false, false, false, false, false, false, false, false, false, false, false, false, false, false, false, false, false, false, false, false, false, false, false, false, false] rfl rfl (by kernel_rfl) (by kernel_rfl) (by kernel_rfl) rfl (fun _ _ _ h => h) (Or.inl ⟨by rfl, ?_⟩) hHeld4 ?_ ?_
    rotate_left
    · rintro w' ⟨s0, s1, s2⟩
      obtain ⟨⟨x0, x1, x2, x3, x4⟩, ⟨y0, y1, y2, y3, y4⟩, ⟨p0, p1, p2, p3, p4⟩, q0, q1, q2, q3, q4⟩ := HC.out w' s0; go_simp
      with_reducible rfl
    rotate_left
    · simp only [Act.put, List.setIfInBounds_toArray, List.set_cons_zero, List.set_cons_succ]
      rfl
    refine RegH.takeH_ (i := 11) (N := (some 52)) (v := ?_) (a' := ?_) #[true, true, true, true, true, true, true, true, true, true, true, true, false, false, false, false, false, false, false, false, false, false, false, false, false, false, false, false, false, false, false, false, false, false, false, false, false] rfl rfl (by kernel_rfl) (by kernel_rfl) (by kernel_rfl) rfl (fun _ _ _ h => h) (Or.inl ⟨by rfl, ?_⟩) hHeld4 ?_ ?_
    rotate_left
    · rintro w' ⟨s0, s1, s2⟩
      obtain ⟨⟨x0, x1, x2, x3, x4⟩, ⟨y0, y1, y2, y3, y4⟩, ⟨p0, p1, p2, p3, p4⟩, q0, q1, q2, q3, q4⟩ := HC.out w' s0; go_simp
      with_reducible rfl
    rotate_left
    · simp only [Act.put, List.setIfInBounds_toArray, List.set_cons_zero, List.set_cons_succ]
      rfl
    refine RegH.takeH_ (i := 12) (N := (some 53)) (v := ?_) (a' := ?_) #[true, true, true, true, true, true, true, true, true, true, true, true, true, false, false, false, false, false, false, false, false, false, false, false, false, false, false, false, false, false, false, false, false, false, false, false, false] rfl rfl (by kernel_rfl) (by kernel_rfl) (by kernel_rfl) rfl (fun _ _ _ h => h) (Or.inl ⟨by rfl, ?_⟩) hHeld4 ?_ ?_
    rotate_left
    · rintro w' ⟨s0, s1, s2⟩
      obtain ⟨⟨x0, x1, x2, x3, x4⟩, ⟨y0, y1, y2, y3, y4⟩, ⟨p0, p1, p2, p3, p4⟩, q0, q1, q2, q3, q4⟩ := HC.out w' s0; go_simp
      with_reducible rfl
    rotate_left
    · simp only [Act.put, List.setIfInBounds_toArray, List.set_cons_zero, List.set_cons_succ]
      rfl
    refine RegH.takeH_ (i := 13) (N := (some 54)) (v := ?_) (a' := ?_) #[true, true, true, true, true, true, true, true, true, true, true, true, true, true, false, false, false, false, false, false, false, false, false, false, false, false, false, false, false, false, false, false, false, false, false, false, false] rfl rfl (by kernel_rfl) (by kernel_rfl) (by kernel_rfl) rfl (fun _ _ _ h => h) (Or.inl ⟨by rfl, ?_⟩) hHeld4 ?_ ?_
    rotate_left
    · rintro w' ⟨s0, s1, s2⟩
      obtain ⟨⟨x0, x1, x2, x3, x4⟩, ⟨y0, y1, y2, y3, y4⟩, ⟨p0, p1, p2, p3, p4⟩, q0, q1, q2, q3, q4⟩ := HC.out w' s0; go_simp
      with_reducible rfl
    rotate_left
    · simp only [Act.put, List.setIfInBounds_toArray, List.set_cons_zero, List.set_cons_succ]
      rfl
    refine RegH.takeH_ (i := 14) (N := (some 55)) (v := ?_) (a' := ?_) #[true, true, true, true, true, true, true, true, true, true, true, true, true, true, true, false, false, false, false, false, false, false, false, false, false, false, false, false, false, false, false, false, false, false, false, false, false] rfl rfl (by kernel_rfl) (by kernel_rfl) (by kernel_rfl) rfl (fun _ _ _ h => h) (Or.inl ⟨by rfl, ?_⟩) hHeld4 ?_ ?_
    rotate_left
    · rintro w' ⟨s0, s1, s2⟩
      obtain ⟨⟨x0, x1, x2, x3, x4⟩, ⟨y0, y1, y2, y3, y4⟩, ⟨p0, p1, p2, p3, p4⟩, q0, q1, q2, q3, q4⟩ := HC.out w' s0; go_simp
      with_reducible rfl
    rotate_left
    · simp only [Act.put, List.setIfInBounds_toArray, List.set_cons_zero, List.set_cons_succ]
      rfl
    refine RegH.oneH_ (i := 15) (N := (some 56)) #[true, true, true, true, true, true, true, true, true, true, true, true, true, true, true, true, false, false, false, false, false, false, false, false, false, false, false, false, false, false, false, false, false, false, false, false, false] rfl rfl (by kernel_rfl) rfl (fun K hK => ?_)
    refine Go.Proofs.YtmhglfidggjfdaaW.PrintLast.goes_ Try.func29 (by kernel_rfl) rfl #[.agg #[.int .i64 f1, .int .i64 f2, .int .i64 f3, .int .i64 f4, .slice Ap lp.length cp], .agg #[.int .i64 f1, .int .i64 f2, .int .i64 f3, .int .i64 f4, .slice Aq lp.length cq]] (by rfl) rfl rfl (by (try simp only [List.map_toArray, List.map_cons, List.map_nil]); first | done | rfl) ?_
    refine (HK29.out _ hB2).mono ?_
    rintro e w3 ⟨rfl, hb3⟩
    refine ⟨_, rfl, ?_⟩
    have hB3 := Mem.bel_chain hB2 hb3
    refine hK.out _ _ ⟨hB3, BR.conv (R12.below hb3), BR.conv (R2.below hb3)⟩ (fun hHeld5 => ?_)
    clear hK K hHeld4
    simp only [Act.put, List.setIfInBounds_toArray, List.set_cons_zero, List.set_cons_succ]
    refine RegH.takeH_ (i := 16) (N := (some 57)) (v := ?_) (a' := ?_) #[true, true, true, true, true, true, true, true, true, true, true, true, true, true, true, true, true, false, false, false, false, false, false, false, false, false, false, false, false, false, false, false, false, false, false, false, false] rfl rfl (by kernel_rfl) (by kernel_rfl) (by kernel_rfl) rfl (fun _ _ _ h => h) (Or.inl ⟨by rfl, ?_⟩) hHeld5 ?_ ?_
    rotate_left
    · rintro w' ⟨s0, s1, s2⟩
      obtain ⟨⟨x0, x1, x2, x3, x4⟩, ⟨y0, y1, y2, y3, y4⟩, ⟨p0, p1, p2, p3, p4⟩, q0, q1, q2, q3, q4⟩ := HC.out w' s0; go_simp
      with_reducible rfl
    rotate_left
    · simp only [Act.put, List.setIfInBounds_toArray, List.set_cons_zero, List.set_cons_succ]
      rfl
    refine RegH.takeH_ (i := 17) (N := (some 58)) (v := ?_) (a' := ?_) #[true, true, true, true, true, true, true, true, true, true, true, true, true, true, true, true, true, true, false, false, false, false, false, false, false, false, false, false, false, false, false, false, false, false, false, false, false] rfl rfl (by kernel_rfl) (by kernel_rfl) (by kernel_rfl) rfl (fun _ _ _ h => h) (Or.inl ⟨by rfl, ?_⟩) hHeld5 ?_ ?_
    rotate_left
    · rintro w' ⟨s0, s1, s2⟩
      obtain ⟨⟨x0, x1, x2, x3, x4⟩, ⟨y0, y1, y2, y3, y4⟩, ⟨p0, p1, p2, p3, p4⟩, q0, q1, q2, q3, q4⟩ := HC.out w' s0; go_simp
      with_reducible rfl
    rotate_left
    · simp only [Act.put, List.setIfInBounds_toArray, List.set_cons_zero, List.set_cons_succ]
      rfl
    refine RegH.takeH_ (i := 18) (N := (some 59)) (v := ?_) (a' := ?_) #[true, true, true, true, true, true, true, true, true, true, true, true, true, true, true, true, true, true, true, false, false, false, false, false, false, false, false, false, false, false, false, false, false, false, false, false, false] rfl rfl (by kernel_rfl) (by kernel_rfl) (by kernel_rfl) rfl (fun _ _ _ h => h) (Or.inl ⟨by rfl, ?_⟩) hHeld5 ?_ ?_
    rotate_left
    · rintro w' ⟨s0, s1, s2⟩
      obtain ⟨⟨x0, x1, x2, x3, x4⟩, ⟨y0, y1, y2, y3, y4⟩, ⟨p0, p1, p2, p3, p4⟩, q0, q1, q2, q3, q4⟩ := HC.out w' s0; go_simp
      with_reducible rfl
    rotate_left
    · simp only [Act.put, List.setIfInBounds_toArray, List.set_cons_zero, List.set_cons_succ]
      rfl
    refine RegH.takeH_ (i := 19) (N := (some 60)) (v := ?_) (a' := ?_) #[true, true, true, true, true, true, true, true, true, true, true, true, true, true, true, true, true, true, true, true, false, false, false, false, false, false, false, false, false, false, false, false, false, false, false, false, false] rfl rfl (by kernel_rfl) (by kernel_rfl) (by kernel_rfl) rfl (fun _ _ _ h => h) (Or.inl ⟨by rfl, ?_⟩) hHeld5 ?_ ?_
    rotate_left
    · rintro w' ⟨s0, s1, s2⟩
      obtain ⟨⟨x0, x1, x2, x3, x4⟩, ⟨y0, y1, y2, y3, y4⟩, ⟨p0, p1, p2, p3, p4⟩, q0, q1, q2, q3, q4⟩ := HC.out w' s0; go_simp
      with_reducible rfl
    rotate_left
    · simp only [Act.put, List.setIfInBounds_toArray, List.set_cons_zero, List.set_cons_succ]
      rfl
    refine RegH.takeH_ (i := 21) (N := (some 62)) (v := ?_) (a' := ?_) #[true, true, true, true, true, true, true, true, true, true, true, true, true, true, true, true, true, true, true, true, false, true, false, false, false, false, false, false, false, false, false, false, false, false, false, false, false] rfl rfl (by kernel_rfl) (by kernel_rfl) (by kernel_rfl) rfl (fun _ _ _ h => h) (Or.inl ⟨by rfl, ?_⟩) hHeld5 ?_ ?_
    rotate_left
    · rintro w' ⟨s0, s1, s2⟩
      obtain ⟨⟨x0, x1, x2, x3, x4⟩, ⟨y0, y1, y2, y3, y4⟩, ⟨p0, p1, p2, p3, p4⟩, q0, q1, q2, q3, q4⟩ := HC.out w' s0; go_simp
      with_reducible rfl
    rotate_left
    · simp only [Act.put, List.setIfInBounds_toArray, List.set_cons_zero, List.set_cons_succ]
      rfl
    refine RegH.takeH_ (i := 22) (N := (some 63)) (v := ?_) (a' := ?_) #[true, true, true, true, true, true, true, true, true, true, true, true, true, true, true, true, true, true, true, true, false, true, true, false, false, false, false, false, false, false, false, false, false, false, false, false, false] rfl rfl (by kernel_rfl) (by kernel_rfl) (by kernel_rfl) rfl (fun _ _ _ h => h) (Or.inl ⟨by rfl, ?_⟩) hHeld5 ?_ ?_
    rotate_left
    · rintro w' ⟨s0, s1, s2⟩
      obtain ⟨⟨x0, x1, x2, x3, x4⟩, ⟨y0, y1, y2, y3, y4⟩, ⟨p0, p1, p2, p3, p4⟩, q0, q1, q2, q3, q4⟩ := HC.out w' s0; go_simp
      with_reducible rfl
    rotate_left
    · simp only [Act.put, List.setIfInBounds_toArray, List.set_cons_zero, List.set_cons_succ]
      rfl
    refine RegH.oneH_ (i := 20) (N := (some 61)) #[true, true, true, true, true, true, true, true, true, true, true, true, true, true, true, true, true, true, true, true, true, true, true, false, false, false, false, false, false, false, false, false, false, false, false, false, false] rfl rfl (by kernel_rfl) rfl (fun K hK => ?_)
    refine Go.Proofs.YtmhglfidggjfdaaW.PrintLast.goes_ Try.func30 (by kernel_rfl) rfl #[.agg #[.int .i64 F, .int .i64 T, .int .i64 S, .int .i64 C, .slice A l.length c], .agg #[.int .i64 F', .int .i64 T', .int .i64 S', .int .i64 C', .slice A' l'.length c']] (by rfl) rfl rfl (by (try simp only [List.map_toArray, List.map_cons, List.map_nil]); first | done | rfl) ?_
    refine (HK30.out _ hB3).mono ?_
    rintro e w4 ⟨rfl, hb4⟩
    refine ⟨_, rfl, ?_⟩
    have hB4 := Mem.bel_chain hB3 hb4
    refine hK.out _ _ ⟨hB4, BR.conv ((R12.below hb3).below hb4), BR.conv ((R2.below hb3).below hb4)⟩ (fun hHeld6 => ?_)
    clear hK K hHeld5
    simp only [Act.put, List.setIfInBounds_toArray, List.set_cons_zero, List.set_cons_succ]
    refine RegH.oneH_ (i := 23) (N := (some 64)) #[true, true, true, true, true, true, true, true, true, true, true, true, true, true, true, true, true, true, true, true, true, true, true, true, false, false, false, false, false, false, false, false, false, false, false, false, false] rfl rfl (by kernel_rfl) rfl (fun K hK => ?_)
    refine Go.Proofs.YtmhglfidggjfdaaW.PrintLast.goes_ Try.func29 (by kernel_rfl) rfl #[.agg #[.int .i64 F, .int .i64 T, .int .i64 S, .int .i64 C, .slice A l.length c], .agg #[.int .i64 F', .int .i64 T', .int .i64 S', .int .i64 C', .slice A' l'.length c']] (by rfl) rfl rfl (by (try simp only [List.map_toArray, List.map_cons, List.map_nil]); first | done | rfl) ?_
    refine (HK39.out _ hB4).mono ?_
    rintro e w5 ⟨rfl, hb5⟩
    refine ⟨_, rfl, ?_⟩
    have hB5 := Mem.bel_chain hB4 hb5
    refine hK.out _ _ ⟨hB5, BR.conv (((R12.below hb3).below hb4).below hb5), BR.conv (((R2.below hb3).below hb4).below hb5)⟩ (fun hHeld7 => ?_)
    clear hK K hHeld6
    simp only [Act.put, List.setIfInBounds_toArray, List.set_cons_zero, List.set_cons_succ]
    refine RegH.takeH_ (i := 24) (N := (some 65)) (v := ?_) (a' := ?_) #[true, true, true, true, true, true, true, true, true, true, true, true, true, true, true, true, true, true, true, true, true, true, true, true, true, false, false, false, false, false, false, false, false, false, false, false, false] rfl rfl (by kernel_rfl) (by kernel_rfl) (by kernel_rfl) rfl (fun _ _ _ h => h) (Or.inl ⟨by rfl, ?_⟩) hHeld7 ?_ ?_
    rotate_left
    · rintro w' ⟨s0, s1, s2⟩
      obtain ⟨⟨x0, x1, x2, x3, x4⟩, ⟨y0, y1, y2, y3, y4⟩, ⟨p0, p1, p2, p3, p4⟩, q0, q1, q2, q3, q4⟩ := HC.out w' s0; go_simp
      with_reducible rfl
    rotate_left
    · simp only [Act.put, List.setIfInBounds_toArray, List.set_cons_zero, List.set_cons_succ]
      rfl
    refine RegH.takeH_ (i := 25) (N := (some 66)) (v := ?_) (a' := ?_) #[true, true, true, true, true, true, true, true, true, true, true, true, true, true, true, true, true, true, true, true, true, true, true, true, true, true, false, false, false, false, false, false, false, false, false, false, false] rfl rfl (by kernel_rfl) (by kernel_rfl) (by kernel_rfl) rfl (fun _ _ _ h => h) (Or.inl ⟨by rfl, ?_⟩) hHeld7 ?_ ?_
    rotate_left
    · rintro w' ⟨s0, s1, s2⟩
      obtain ⟨⟨x0, x1, x2, x3, x4⟩, ⟨y0, y1, y2, y3, y4⟩, ⟨p0, p1, p2, p3, p4⟩, q0, q1, q2, q3, q4⟩ := HC.out w' s0; go_simp
      with_reducible rfl
    rotate_left
    · simp only [Act.put, List.setIfInBounds_toArray, List.set_cons_zero, List.set_cons_succ]
      rfl
    refine RegH.takeH_ (i := 26) (N := (some 67)) (v := ?_) (a' := ?_) #[true, true, true, true, true, true, true, true, true, true, true, true, true, true, true, true, true, true, true, true, true, true, true, true, true, true, true, false, false, false, false, false, false, false, false, false, false] rfl rfl (by kernel_rfl) (by kernel_rfl) (by kernel_rfl) rfl (fun _ _ _ h => h) (Or.inl ⟨by rfl, ?_⟩) hHeld7 ?_ ?_
    rotate_left
    · rintro w' ⟨s0, s1, s2⟩
      obtain ⟨⟨x0, x1, x2, x3, x4⟩, ⟨y0, y1, y2, y3, y4⟩, ⟨p0, p1, p2, p3, p4⟩, q0, q1, q2, q3, q4⟩ := HC.out w' s0; go_simp
      with_reducible rfl
    rotate_left
    · simp only [Act.put, List.setIfInBounds_toArray, List.set_cons_zero, List.set_cons_succ]
      rfl
    refine RegH.takeH_ (i := 27) (N := (some 68)) (v := ?_) (a' := ?_) #[true, true, true, true, true, true, true, true, true, true, true, true, true, true, true, true, true, true, true, true, true, true, true, true, true, true, true, true, false, false, false, false, false, false, false, false, false] rfl rfl (by kernel_rfl) (by kernel_rfl) (by kernel_rfl) rfl (fun _ _ _ h => h) (Or.inl ⟨by rfl, ?_⟩) hHeld7 ?_ ?_
    rotate_left
    · rintro w' ⟨s0, s1, s2⟩
      obtain ⟨⟨x0, x1, x2, x3, x4⟩, ⟨y0, y1, y2, y3, y4⟩, ⟨p0, p1, p2, p3, p4⟩, q0, q1, q2, q3, q4⟩ := HC.out w' s0; go_simp
      with_reducible rfl
    rotate_left
    · simp only [Act.put, List.setIfInBounds_toArray, List.set_cons_zero, List.set_cons_succ]
      rfl
    refine RegH.takeH_ (i := 28) (N := (some 69)) (v := ?_) (a' := ?_) #[true, true, true, true, true, true, true, true, true, true, true, true, true, true, true, true, true, true, true, true, true, true, true, true, true, true, true, true, true, false, false, false, false, false, false, false, false] rfl rfl (by kernel_rfl) (by kernel_rfl) (by kernel_rfl) rfl (fun _ _ _ h => h) (Or.inl ⟨by rfl, ?_⟩) hHeld7 ?_ ?_
    rotate_left
    · rintro w' ⟨s0, s1, s2⟩
      obtain ⟨⟨x0, x1, x2, x3, x4⟩, ⟨y0, y1, y2, y3, y4⟩, ⟨p0, p1, p2, p3, p4⟩, q0, q1, q2, q3, q4⟩ := HC.out w' s0; go_simp
      with_reducible rfl
    rotate_left
    · simp only [Act.put, List.setIfInBounds_toArray, List.set_cons_zero, List.set_cons_succ]
      rfl
    refine RegH.oneH_ (i := 29) (N := (some 70)) #[true, true, true, true, true, true, true, true, true, true, true, true, true, true, true, true, true, true, true, true, true, true, true, true, true, true, true, true, true, true, false, false, false, false, false, false, false] rfl rfl (by kernel_rfl) rfl (fun K hK => ?_)
    refine Go.Proofs.YtmhglfidggjfdaaW.PrintLast.goes_ Try.func30 (by kernel_rfl) rfl #[.agg #[.int .i64 F, .int .i64 T, .int .i64 S, .int .i64 C, .slice A l.length c], .agg #[.int .i64 F, .int .i64 T, .int .i64 S, .int .i64 C, .slice A l.length c]] (by rfl) rfl rfl (by (try simp only [List.map_toArray, List.map_cons, List.map_nil]); first | done | rfl) ?_
    refine (HK3X.out _ hB5).mono ?_
    rintro e w6 ⟨rfl, hb6⟩
    refine ⟨_, rfl, ?_⟩
    have hB6 := Mem.bel_chain hB5 hb6
    refine hK.out _ _ ⟨hB6, BR.conv ((((R12.below hb3).below hb4).below hb5).below hb6), BR.conv ((((R2.below hb3).below hb4).below hb5).below hb6)⟩ (fun hHeld8 => ?_)
    clear hK K hHeld7
    simp only [Act.put, List.setIfInBounds_toArray, List.set_cons_zero, List.set_cons_succ]
    refine RegH.takeH_ (i := 30) (N := (some 71)) (v := ?_) (a' := ?_) #[true, true, true, true, true, true, true, true, true, true, true, true, true, true, true, true, true, true, true, true, true, true, true, true, true, true, true, true, true, true, true, false, false, false, false, false, false] rfl rfl (by kernel_rfl) (by kernel_rfl) (by kernel_rfl) rfl (fun _ _ _ h => h) (Or.inl ⟨by rfl, ?_⟩) hHeld8 ?_ ?_
    rotate_left
    · rintro w' ⟨s0, s1, s2⟩
      obtain ⟨⟨x0, x1, x2, x3, x4⟩, ⟨y0, y1, y2, y3, y4⟩, ⟨p0, p1, p2, p3, p4⟩, q0, q1, q2, q3, q4⟩ := HC.out w' s0; go_simp
      with_reducible rfl
    rotate_left
    · simp only [Act.put, List.setIfInBounds_toArray, List.set_cons_zero, List.set_cons_succ]
      rfl
    refine RegH.takeH_ (i := 31) (N := (some 72)) (v := ?_) (a' := ?_) #[true, true, true, true, true, true, true, true, true, true, true, true, true, true, true, true, true, true, true, true, true, true, true, true, true, true, true, true, true, true, true, true, false, false, false, false, false] rfl rfl (by kernel_rfl) (by kernel_rfl) (by kernel_rfl) rfl (fun _ _ _ h => h) (Or.inl ⟨by rfl, ?_⟩) hHeld8 ?_ ?_
    rotate_left
    · rintro w' ⟨s0, s1, s2⟩
      obtain ⟨⟨x0, x1, x2, x3, x4⟩, ⟨y0, y1, y2, y3, y4⟩, ⟨p0, p1, p2, p3, p4⟩, q0, q1, q2, q3, q4⟩ := HC.out w' s0; go_simp
      with_reducible rfl
    rotate_left
    · simp only [Act.put, List.setIfInBounds_toArray, List.set_cons_zero, List.set_cons_succ]
      rfl
    refine RegH.takeH_ (i := 32) (N := (some 73)) (v := ?_) (a' := ?_) #[true, true, true, true, true, true, true, true, true, true, true, true, true, true, true, true, true, true, true, true, true, true, true, true, true, true, true, true, true, true, true, true, true, false, false, false, false] rfl rfl (by kernel_rfl) (by kernel_rfl) (by kernel_rfl) rfl (fun _ _ _ h => h) (Or.inl ⟨by rfl, ?_⟩) hHeld8 ?_ ?_
    rotate_left
    · rintro w' ⟨s0, s1, s2⟩
      obtain ⟨⟨x0, x1, x2, x3, x4⟩, ⟨y0, y1, y2, y3, y4⟩, ⟨p0, p1, p2, p3, p4⟩, q0, q1, q2, q3, q4⟩ := HC.out w' s0; go_simp
      with_reducible rfl
    rotate_left
    · simp only [Act.put, List.setIfInBounds_toArray, List.set_cons_zero, List.set_cons_succ]
      rfl
    refine RegH.takeH_ (i := 33) (N := (some 74)) (v := ?_) (a' := ?_) #[true, true, true, true, true, true, true, true, true, true, true, true, true, true, true, true, true, true, true, true, true, true, true, true, true, true, true, true, true, true, true, true, true, true, false, false, false] rfl rfl (by kernel_rfl) (by kernel_rfl) (by kernel_rfl) rfl (fun _ _ _ h => h) (Or.inl ⟨by rfl, ?_⟩) hHeld8 ?_ ?_
    rotate_left
    · rintro w' ⟨s0, s1, s2⟩
      obtain ⟨⟨x0, x1, x2, x3, x4⟩, ⟨y0, y1, y2, y3, y4⟩, ⟨p0, p1, p2, p3, p4⟩, q0, q1, q2, q3, q4⟩ := HC.out w' s0; go_simp
      with_reducible rfl
    rotate_left
    · simp only [Act.put, List.setIfInBounds_toArray, List.set_cons_zero, List.set_cons_succ]
      rfl
    refine RegH.oneH_ (i := 34) (N := (some 75)) #[true, true, true, true, true, true, true, true, true, true, true, true, true, true, true, true, true, true, true, true, true, true, true, true, true, true, true, true, true, true, true, true, true, true, true, false, false] rfl rfl (by kernel_rfl) rfl (fun K hK => ?_)
    refine Go.Proofs.YtmhglfidggjfdaaW.PrintLast.goes_ Try.func31 (by kernel_rfl) rfl #[.slice (some ⟨gl, 0, none⟩) bl.length cl, .slice Ab bl.length cb] (by rfl) rfl rfl (by (try simp only [List.map_toArray, List.map_cons, List.map_nil]); first | done | rfl) ?_
    refine (HK31.out _ hB6).mono ?_
    rintro e w7 ⟨rfl, hb7⟩
    refine ⟨_, rfl, ?_⟩
    have hB7 := Mem.bel_chain hB6 hb7
    refine hK.out _ _ ⟨hB7, BR.conv (((((R12.below hb3).below hb4).below hb5).below hb6).below hb7), BR.conv (((((R2.below hb3).below hb4).below hb5).below hb6).below hb7)⟩ (fun hHeld9 => ?_)
    clear hK K hHeld8
    simp only [Act.put, List.setIfInBounds_toArray, List.set_cons_zero, List.set_cons_succ]
    refine RegH.takeH_ (i := 35) (N := (some 76)) (v := ?_) (a' := ?_) #[true, true, true, true, true, true, true, true, true, true, true, true, true, true, true, true, true, true, true, true, true, true, true, true, true, true, true, true, true, true, true, true, true, true, true, true, false] rfl rfl (by kernel_rfl) (by kernel_rfl) (by kernel_rfl) rfl (fun _ _ _ h => h) (Or.inl ⟨by rfl, ?_⟩) hHeld9 ?_ ?_
    rotate_left
    · rintro w' ⟨s0, s1, s2⟩
      obtain ⟨⟨x0, x1, x2, x3, x4⟩, ⟨y0, y1, y2, y3, y4⟩, ⟨p0, p1, p2, p3, p4⟩, q0, q1, q2, q3, q4⟩ := HC.out w' s0; go_simp
      with_reducible rfl
    rotate_left
    · simp only [Act.put, List.setIfInBounds_toArray, List.set_cons_zero, List.set_cons_succ]
      rfl
    refine RegH.takeH_ (i := 36) (N := (some 6)) (v := ?_) (a' := ?_) #[true, true, true, true, true, true, true, true, true, true, true, true, true, true, true, true, true, true, true, true, true, true, true, true, true, true, true, true, true, true, true, true, true, true, true, true, true] rfl rfl (by kernel_rfl) (by kernel_rfl) (by kernel_rfl) rfl (fun _ _ _ h => h) (Or.inl ⟨by rfl, ?_⟩) hHeld9 ?_ ?_
    rotate_left
    · rintro w' ⟨s0, s1, s2⟩
      obtain ⟨⟨x0, x1, x2, x3, x4⟩, ⟨y0, y1, y2, y3, y4⟩, ⟨p0, p1, p2, p3, p4⟩, q0, q1, q2, q3, q4⟩ := HC.out w' s0; go_simp
      with_reducible rfl
    rotate_left
    · simp only [Act.put, List.setIfInBounds_toArray, List.set_cons_zero, List.set_cons_succ]
      rfl
    refine RegH.doneH_ (by kernel_rfl) ?_
    refine NoPanic.normal ?_
    go_wp2
    go_ret
    exact ⟨rfl, Mem.bel_chain HBE.out hB7⟩
  · trivial
set_option maxRecDepth 100000 in
set_option maxHeartbeats 8000000 in
theorem bill_all (w : World) (F T S C : Int) (A : Option Addr) (c : Nat) (l : List S60) (F' T' S' C' : Int) (A' : Option Addr) (c' : Nat) (l' : List S60) (Ab : Option Addr) (cb : Nat) (bl : List Int)
    (hx : PR w A c l) (hxw : WfL l) (hy : PR w A' c' l') (hyw : WfL l') (hb : BR w Ab cb bl) (hbb : BytesIn bl) :
    Calls Try.prog 6 #[.agg #[.int .i64 F, .int .i64 T, .int .i64 S, .int .i64 C, .slice A l.length c], .agg #[.int .i64 F', .int .i64 T', .int .i64 S', .int .i64 C', .slice A' l'.length c'], .slice Ab bl.length cb] w fun e w' => e = .returned (.bool true) ∧ Below w.heap.size w w' := by
  have hu44 := Try.underlying44
  have hmx := Kd.C_max hx.1
  have hmy := Kd.C_max hy.1
  have hmb := Kd.C_max hb.1
  have HX := Lib.hid hx
  have HXW := Lib.hid hxw
  have HY := Lib.hid hy
  have HYW := Lib.hid hyw
  have HB := Lib.hid hb
  have HBB := Lib.hid hbb
  clear hx hxw hy hyw hb hbb
  by_cases h1 : 10 < (l.length : Int)
  · have d1 : decide (10 < (l.length : Int)) = true := decide_eq_true h1
    go_enter Try.func6, Try.ntmps6
    go_wp2_with (first
      | (go_at_call 23; (with_reducible refine (begun7 _).mono ?_); rintro e W ⟨rfl, B⟩; have HBg := Lib.hid B; clear B; have hc5 := Mem.cells5 (Mem.blk_below (Mem.blk_alloc (Mem.blk_new w (.cells #[.int .i64 F, .int .i64 T, .int .i64 S, .int .i64 C, .slice A l.length c] 44)) (.cells #[.int .i64 F', .int .i64 T', .int .i64 S', .int .i64 C', .slice A' l'.length c'] 44)) HBg.out))
      | fail)
    go_ret
    exact ⟨rfl, Mem.bel_chain (Mem.bel_alloc (Mem.bel_alloc (Below.refl _ _) _) _) HBg.out⟩
  have d1 : decide (10 < (l.length : Int)) = false := decide_eq_false h1
  have es : ∀ o : Obj, (w.alloc o).heap.size = w.heap.size + 1 := fun o => sz w o
  by_cases h2 : 10 < (l'.length : Int)
  · have d2 : decide (10 < (l'.length : Int)) = true := decide_eq_true h2
    go_enter Try.func6, Try.ntmps6
    go_wp2_with (first
      | (go_at_call 23; (with_reducible refine (begun7 _).mono ?_); rintro e W ⟨rfl, B⟩; have HBg := Lib.hid B; clear B; have hc5 := Mem.cells5 (Mem.blk_below (Mem.blk_alloc (Mem.blk_new w (.cells #[.int .i64 F, .int .i64 T, .int .i64 S, .int .i64 C, .slice A l.length c] 44)) (.cells #[.int .i64 F', .int .i64 T', .int .i64 S', .int .i64 C', .slice A' l'.length c'] 44)) HBg.out); have hy5 := Mem.cells5 (Mem.blk_below (Mem.blk_new (w.alloc (.cells #[.int .i64 F, .int .i64 T, .int .i64 S, .int .i64 C, .slice A l.length c] 44)) (.cells #[.int .i64 F', .int .i64 T', .int .i64 S', .int .i64 C', .slice A' l'.length c'] 44)) HBg.out); rw [es] at hy5)
      | fail)
    go_ret
    exact ⟨rfl, Mem.bel_chain (Mem.bel_alloc (Mem.bel_alloc (Below.refl _ _) _) _) HBg.out⟩
  have d2 : decide (10 < (l'.length : Int)) = false := decide_eq_false h2
  by_cases h3 : 100 < (bl.length : Int)
  · have d3 : decide (100 < (bl.length : Int)) = true := decide_eq_true h3
    go_enter Try.func6, Try.ntmps6
    go_wp2_with (first
      | (go_at_call 23; (with_reducible refine (begun7 _).mono ?_); rintro e W ⟨rfl, B⟩; have HBg := Lib.hid B; clear B; have hc5 := Mem.cells5 (Mem.blk_below (Mem.blk_alloc (Mem.blk_new w (.cells #[.int .i64 F, .int .i64 T, .int .i64 S, .int .i64 C, .slice A l.length c] 44)) (.cells #[.int .i64 F', .int .i64 T', .int .i64 S', .int .i64 C', .slice A' l'.length c'] 44)) HBg.out); have hy5 := Mem.cells5 (Mem.blk_below (Mem.blk_new (w.alloc (.cells #[.int .i64 F, .int .i64 T, .int .i64 S, .int .i64 C, .slice A l.length c] 44)) (.cells #[.int .i64 F', .int .i64 T', .int .i64 S', .int .i64 C', .slice A' l'.length c'] 44)) HBg.out); rw [es] at hy5)
      | fail)
    go_ret
    exact ⟨rfl, Mem.bel_chain (Mem.bel_alloc (Mem.bel_alloc (Below.refl _ _) _) _) HBg.out⟩
  have d3 : decide (100 < (bl.length : Int)) = false := decide_eq_false h3
  exact bill_main w F T S C A c l F' T' S' C' A' c' l' Ab cb bl HX.out HXW.out HY.out HYW.out HB.out HBB.out h1 h2 h3
end Go.Proofs.Ytmhglfidggjfdaa.Bill
