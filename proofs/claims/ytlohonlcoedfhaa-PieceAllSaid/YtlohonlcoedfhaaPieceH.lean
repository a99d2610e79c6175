/- Which bytes are there, and when all are, in any run: the walk. -/
import Derived.Test.YtlohonlcoedfhaaPieceG
import Derived.Test.YtlohonlcoedfhaaRegH
namespace Go.Proofs.Ytlohonlcoedfhaa.Piece
open Go.RowKit Go.Proofs.Ytlohonlcoedfhaa.Mem
open Go.Proofs.YtlohonlcoedfhaaW.PrintWords (nums ReadsInt own_reads own_reads')
set_option linter.unusedVariables false

theorem cell_below {w w' : World} {b o : Nat} {v : Value} (h : w.cell? ⟨b, o, none⟩ = some v) (hb : Below w.heap.size w w') : w'.cell? ⟨b, o, none⟩ = some v := by
  rw [hb.cell (p := ⟨b, o, none⟩) (World.block_lt_of_cell? w _ h)]; exact h
theorem gg_ne {w : World} {B g g' gg : Nat} {R R' : Option Nat} {L : List Int} {all : Int} (h : Both w B g g' R R' L all) (hg : w.heap.size ≤ gg) : ¬ Sof g R gg ∧ gg ≠ g' := by
  refine ⟨?_, by have := h.r.lt; omega⟩
  rintro (e | e)
  · have := h.p.lt; omega
  · have := (h.p.row e).2.1; omega
theorem same_m {w : World} (g c : Nat) (a : Option Addr) (cap : Nat) (l : List Int) {n : Nat} (hl : n ≤ 500) (hn : l.length = n) (hc : n + 5 ≤ c) (hc2 : c ≤ 9223372036854775807) (hL : Loan.Lent w g l) (hr : ReadsInt w .u8 a n l) :
    Calls Try.prog 21 #[.slice (some ⟨g, 0, none⟩) n c, .slice a n cap] w fun e w' => e = .returned (.bool true) ∧ Below w.heap.size w w' := by
  subst hn
  exact (Loan.same_any w g c a cap l (by omega) hc hc2 hL hr).mono fun _ _ ⟨h1, n, h2⟩ => ⟨h1, by rw [h2]; exact bel_drewN (Below.refl _ _) _⟩
theorem loan_m (w : World) (a : Option Addr) (cap : Nat) (l : List Int) {n : Nat} (hl : n ≤ 500) (hn : l.length = n) (hr : ReadsInt w .u8 a n l) :
    Calls Try.prog 16 #[.slice a n cap] w fun e w' => ∃ g c, e = .returned (.slice (some ⟨g, 0, none⟩) n c) ∧ n + 5 ≤ c ∧ c ≤ 9223372036854775807 ∧ Loan.Lent w' g l ∧ Below w.heap.size w w' ∧ w.heap.size ≤ g := by
  subst hn
  exact Loan.loan_any w a cap l (by omega) hr
theorem lent_reads {w : World} {g n : Nat} {l : List Int} (h : Loan.Lent w g l) (hn : l.length = n) (hl : n ≤ 500) : ReadsInt w .u8 (some ⟨g, 0, none⟩) n l := by
  subst hn
  exact (h.reads (by omega)).1

set_option maxRecDepth 100000 in
set_option maxHeartbeats 2000000 in
theorem all_out (w : World) (all : Int) (a : Option Addr) (n cap : Nat) (h : 20 < n) :
    Calls Try.prog 12 #[.int .i64 all, .slice a n cap] w fun e w' => e = .returned (.bool true) ∧ Below w.heap.size w w' := by
  have hb := Below.refl w.heap.size w
  have h1 : (20 : Int) < (n : Int) := by omega
  go_enter Try.func12, Try.ntmps12
  go_wp2_with (first
    | (go_at_call 34; (with_reducible refine (begun _).mono ?_); rintro e w1 ⟨rfl, hb1⟩; replace hb := bel_chain hb hb1; clear hb1)
    | fail)
  all_goals go_ret
  all_goals exact ⟨rfl, hb⟩
set_option maxRecDepth 100000 in
set_option maxHeartbeats 4000000 in
theorem all_none (w : World) (all : Int) (a : Option Addr) (n cap : Nat) (h : n ≤ 20) (hall : all < 1 ∨ 400 < all) :
    Calls Try.prog 12 #[.int .i64 all, .slice a n cap] w fun e w' => e = .returned (.bool true) ∧ Below w.heap.size w w' := by
  have hb := Below.refl w.heap.size w
  have h1 : ¬ ((20 : Int) < (n : Int)) := by omega
  have HA := Lib.hid hall
  have kc := fun (w : World) (C : Array Value) (n c : Nat) => Lib.run_convert_bytes_const (P := Try.prog) w 25 5 C n c Try.underlying25 Loan.underlyingU
  clear hall
  go_enter Try.func12, Try.ntmps12
  go_wp2_with (first
    | (go_at_call 34; (with_reducible refine (begun _).mono ?_); rintro e w1 ⟨rfl, hb1⟩; replace hb := bel_chain hb hb1; clear hb1)
    | (go_at_call 35; (with_reducible refine (new_no _ all HA.out).mono ?_); rintro e w2 ⟨rfl, rfl⟩)
    | (go_at_call 36; (with_reducible refine (rnew_no _ all HA.out).mono ?_); rintro e w3 ⟨rfl, rfl⟩)
    | (go_at_call 37; (with_reducible refine (add_nil _ _ _ _).mono ?_); rintro e w4 ⟨rfl, hw⟩; replace hb := bel_alloc hb (.cells #[.int .u8 97] 5 (1, 2)); rw [hw] at hb; clear hw)
    | (go_at_call 38; (with_reducible refine (bytes_nil _).mono ?_); rintro e w5 ⟨rfl, rfl⟩)
    | (go_at_call 39; (with_reducible refine (left_nil _).mono ?_); rintro e w6 ⟨rfl, rfl⟩)
    | fail)
  all_goals go_ret
  all_goals exact ⟨rfl, hb⟩

set_option maxRecDepth 100000 in
set_option maxHeartbeats 16000000 in
theorem all_run (w : World) (all : Int) (b o n cap : Nat) (Af : Nat → Option Addr) (Cf : Nat → Nat) (X : Nat → List Int) (h : n ≤ 20) (hn : 0 < n) (h1 : 1 ≤ all) (h2 : all ≤ 400) (hcn : n ≤ cap)
    (hx : ∀ i, i < n → w.cell? ⟨b, o + i, none⟩ = some (.slice (Af i) (X i).length (Cf i)) ∧ ReadsInt w .u8 (Af i) (X i).length (X i)) :
    Calls Try.prog 12 #[.int .i64 all, .slice (some ⟨b, o, none⟩) n cap] w fun e w' => e = .returned (.bool true) ∧ Below w.heap.size w w' := by
  have hb := Below.refl w.heap.size w
  have hn1 : ¬ ((20 : Int) < (n : Int)) := by omega
  have q0 : 0 ≤ all := by omega
  have q1 := h2
  have HX := Lib.hid hx
  clear hx
  go_enter Try.func12, Try.ntmps12
  go_wp2_with (first
    | (go_at_call 34; (with_reducible refine (begun _).mono ?_); rintro e w1 ⟨rfl, hb1⟩; replace hb := bel_chain hb hb1; clear hb1)
    | (go_at_call 35; (with_reducible refine (new_ok w1 w1.heap.size (Nat.le_refl _) all h1 h2).mono ?_); rintro e w2 ⟨rfl, H, hb2⟩; have H2 := Lib.hid H; have hgN := Lib.hid hb.size; have hs2 := Lib.hid hb2.size; replace hb := bel_chain hb hb2; clear H hb2)
    | (go_at_call 36; (with_reducible refine (rnew_ok w2 w1.heap.size hs2.out all h1 h2).mono ?_); rintro e w3 ⟨rfl, H, hb3⟩; have HR3 := Lib.hid H; have H3 := Lib.hid (H2.out.below hb3); replace hb := bel_chain hb hb3; clear H hb3 H2)
    | fail)
  have HB := hgN.out
  have H3' := H3.out
  have HR3' := HR3.out
  obtain ⟨G1, hG1⟩ : ∃ G, w1.heap.size = G := ⟨_, rfl⟩
  obtain ⟨G2, hG2⟩ : ∃ G, w2.heap.size = G := ⟨_, rfl⟩
  clear H3 HR3 hs2 hgN
  rw [hG1] at H3' HR3' HB ⊢
  rw [hG2] at HR3' ⊢
  clear hG1 hG2
  go_loopw [12] (fun i wr => ∃ (k : Nat) (R1 R2 : Option Nat) (L : List Int), k ≤ n ∧ i = .int .i64 k ∧ Hid ((L.length : Int) ≤ all) ∧ Hid (Both wr G1 G1 G2 R1 R2 L all) ∧ Hid (Below w.heap.size w wr)) (fun i _ => n - (intOf i).toNat)
  case atStart => exact ⟨0, none, none, [], by omega, rfl, Lib.hid (by simpa using q0), Lib.hid ⟨H3', HR3', fun k h => by cases h⟩, Lib.hid hb⟩
  case round =>
    clear H3' HR3' hb
    obtain ⟨k, R1, R2, L, hk, rfl, HLL, HBo, HBel⟩ := hrel
    by_cases hlt : k < n
    · obtain ⟨hx0, hx1⟩ := HX.out k hlt
      obtain ⟨m, hm⟩ : ∃ m, (X k).length = m := ⟨_, rfl⟩
      obtain ⟨A, hA⟩ : ∃ A, Af k = A := ⟨_, rfl⟩
      obtain ⟨c, hc⟩ : ∃ c, Cf k = c := ⟨_, rfl⟩
      rw [hm, hA, hc] at hx0
      rw [hm, hA] at hx1
      have x0 := cell_below hx0 HBel.out
      have Xr := Lib.hid (hx1.below HBel.out)
      have X0 := Lib.hid hx0
      have X1 := Lib.hid hx1
      have HXm := Lib.hid hm
      clear hx0 hx1 hm hA hc
      by_cases h500 : 500 < (m : Int)
      · go_wp2_with fail
        all_goals go_ret
        all_goals exact ⟨rfl, HBel.out⟩
      · have hm5 : m ≤ 500 := by omega
        obtain ⟨M, hM⟩ : ∃ M, addL L (X k) all = M := ⟨_, rfl⟩
        obtain ⟨vb, hvb⟩ : ∃ v, addB L (X k) all = v := ⟨_, rfl⟩
        obtain ⟨ve, hve⟩ : ∃ v, addE L (X k) all = v := ⟨_, rfl⟩
        have HML0 := addL_len (l := X k) HLL.out
        rw [hM] at HML0
        obtain ⟨nM, hnM⟩ : ∃ v, M.length = v := ⟨_, rfl⟩
        have HM := Lib.hid hnM
        have HML := Lib.hid HML0
        have HM4 : Hid (M.length ≤ 400) := Lib.hid (by omega)
        have HMR : Hid (all - (M.length : Int) = all - (nM : Int)) := Lib.hid (by rw [hnM])
        have v1_ : IntKind.i64.wrap (all - (nM : Int)) = all - (nM : Int) := IntWalk.i64_in _ (by omega)
        have HMe := Lib.hid hM
        have HVb := Lib.hid hvb
        have HVe := Lib.hid hve
        clear hM hvb hve HML0 hnM
        go_wp2_with (first
          | (go_at_call 16; (with_reducible refine (loan_m _ A c (X k) hm5 HXm.out Xr.out).mono ?_); rintro e w4 ⟨gg, c3, rfl, hc5, hcM, hL, hb4, hgg⟩; have HL4 := Lib.hid hL; have HB4 := Lib.hid (HBo.out.below hb4); have hG4 := Lib.hid (gg_ne HBo.out hgg); have Bel4 := Lib.hid (bel_chain HBel.out hb4); have HR4 := Lib.hid (lent_reads hL HXm.out hm5); clear hL hb4 hgg)
          | (go_at_call 37; (with_reducible refine (add_any (some ⟨gg, 0, none⟩) m c3 HB4.out.p q0 q1 HLL.out HXm.out HR4.out).mono ?_); rintro e w5 ⟨rfl, ⟨R1', hp, hR⟩, hk5⟩; rw [HMe.out] at hp; rw [HVb.out, HVe.out]; have HRS := Lib.hid (HB4.out.after hk5 hp hR); have HP5 := Lib.hid hp; have HL5 := Lib.hid (lent_kept HL4.out hk5 hG4.out.1); have Bel5 := Lib.hid (bel_kept Bel4.out HB4.out.p HB hk5); have x5 := cell_below X0.out Bel5.out; have Xr5 := Lib.hid (X1.out.below Bel5.out); clear hp hR hk5)
          | (go_at_call 40; (with_reducible refine (radd_any A m c HRS.out.1 q0 q1 HLL.out HXm.out Xr5.out).mono ?_); rintro e w6 ⟨rfl, ⟨R2', hr, hR⟩, hk6⟩; rw [HMe.out] at hr; rw [HVb.out, HVe.out]; have HBo6 := Lib.hid (Both.over HP5.out HRS.out.1 HRS.out.2 hk6 hr hR); have HL6 := Lib.hid (lent_kept HL5.out hk6 hG4.out.2); have Bel6 := Lib.hid (bel_kept_r Bel5.out HRS.out.1 HB hk6); clear hr hR hk6)
          | fail)
        have hbl_d := bel_drew Bel6.out
        have Bo_d : Both w6.drew G1 G1 G2 R1' R2' M all := ⟨HBo6.out.p, HBo6.out.r, HBo6.out.s⟩
        have Le_d : Loan.Lent w6.drew gg (X k) := HL6.out
        have Rr_d : ReadsInt w6.drew .u8 A m (X k) := X1.out.below hbl_d
        obtain ⟨AR, cR, hblk_d, ho_d, _, _⟩ := Bo_d.r
        have hrow_d : ReadsInt w6.drew .u8 AR nM M := by have := own_reads' ho_d; rwa [HM.out] at this
        rw [HM.out] at hblk_d
        have hcells_d := cells2 hblk_d
        have hx_d := cell_below X0.out hbl_d
        refine wp_region_noPanic ?_
        refine RegH.startH_ (n := 43) (S := fun w' => (w'.cell? ⟨G2, 0, none⟩ = some (.int .i64 all)) ∧ (w'.cell? ⟨G2, 1, none⟩ = some (.slice AR nM cR)) ∧ ((convert 25 9 (.slice AR nM cR)).run Try.prog w' = .ok (.string (strOfNums M)) w') ∧ (w'.cell? ⟨b, o + k, none⟩ = some (.slice A m c))) #[false, false, false, false, false, false, false, false, false, false, false, false, false, false, false, false, false, false, false, false, false, false, false, false, false, false, false, false, false, false, false, false, false, false, false, false, false, false, false, false, false, false, false] (by kernel_rfl) rfl rfl ⟨(hcells_d).1, (hcells_d).2, Loan.conv (c := cR) hrow_d, hx_d⟩ (fun hHeld0 => ?_)
        refine RegH.takeH_ (i := 0) (N := (some 94)) (v := ?_) (a' := ?_) #[true, false, false, false, false, false, false, false, false, false, false, false, false, false, false, false, false, false, false, false, false, false, false, false, false, false, false, false, false, false, false, false, false, false, false, false, false, false, false, false, false, false, false] rfl rfl (by kernel_rfl) (by kernel_rfl) (by kernel_rfl) rfl (fun _ _ _ h => h) (Or.inl ⟨by rfl, ?_⟩) hHeld0 ?_ ?_
        rotate_left
        · rintro w' ⟨s0, s1, s2, s3⟩
          go_simp
          with_reducible rfl
        rotate_left
        · simp only [Act.put, List.setIfInBounds_toArray, List.set_cons_zero, List.set_cons_succ]
          rfl
        refine RegH.takeH_ (i := 1) (N := (some 95)) (v := ?_) (a' := ?_) #[true, true, false, false, false, false, false, false, false, false, false, false, false, false, false, false, false, false, false, false, false, false, false, false, false, false, false, false, false, false, false, false, false, false, false, false, false, false, false, false, false, false, false] rfl rfl (by kernel_rfl) (by kernel_rfl) (by kernel_rfl) rfl (fun _ _ _ h => h) (Or.inl ⟨by rfl, ?_⟩) hHeld0 ?_ ?_
        rotate_left
        · rintro w' ⟨s0, s1, s2, s3⟩
          go_simp
          with_reducible rfl
        rotate_left
        · simp only [Act.put, List.setIfInBounds_toArray, List.set_cons_zero, List.set_cons_succ]
          rfl
        refine RegH.takeH_ (i := 2) (N := (some 96)) (v := ?_) (a' := ?_) #[true, true, true, false, false, false, false, false, false, false, false, false, false, false, false, false, false, false, false, false, false, false, false, false, false, false, false, false, false, false, false, false, false, false, false, false, false, false, false, false, false, false, false] rfl rfl (by kernel_rfl) (by kernel_rfl) (by kernel_rfl) rfl (fun _ _ _ h => h) (Or.inl ⟨by rfl, ?_⟩) hHeld0 ?_ ?_
        rotate_left
        · rintro w' ⟨s0, s1, s2, s3⟩
          go_simp
          with_reducible rfl
        rotate_left
        · simp only [Act.put, List.setIfInBounds_toArray, List.set_cons_zero, List.set_cons_succ]
          rfl
        refine RegH.takeH_ (i := 3) (N := (some 97)) (v := ?_) (a' := ?_) #[true, true, true, true, false, false, false, false, false, false, false, false, false, false, false, false, false, false, false, false, false, false, false, false, false, false, false, false, false, false, false, false, false, false, false, false, false, false, false, false, false, false, false] rfl rfl (by kernel_rfl) (by kernel_rfl) (by kernel_rfl) rfl (fun _ _ _ h => h) (Or.inl ⟨by rfl, ?_⟩) hHeld0 ?_ ?_
        rotate_left
        · rintro w' ⟨s0, s1, s2, s3⟩
          go_simp
          with_reducible rfl
        rotate_left
        · simp only [Act.put, List.setIfInBounds_toArray, List.set_cons_zero, List.set_cons_succ]
          rfl
        refine RegH.takeH_ (i := 4) (N := (some 98)) (v := ?_) (a' := ?_) #[true, true, true, true, true, false, false, false, false, false, false, false, false, false, false, false, false, false, false, false, false, false, false, false, false, false, false, false, false, false, false, false, false, false, false, false, false, false, false, false, false, false, false] rfl rfl (by kernel_rfl) (by kernel_rfl) (by kernel_rfl) rfl (fun _ _ _ h => h) (Or.inl ⟨by rfl, ?_⟩) hHeld0 ?_ ?_
        rotate_left
        · rintro w' ⟨s0, s1, s2, s3⟩
          go_simp
          with_reducible rfl
        rotate_left
        · simp only [Act.put, List.setIfInBounds_toArray, List.set_cons_zero, List.set_cons_succ]
          rfl
        refine RegH.takeH_ (i := 5) (N := (some 99)) (v := ?_) (a' := ?_) #[true, true, true, true, true, true, false, false, false, false, false, false, false, false, false, false, false, false, false, false, false, false, false, false, false, false, false, false, false, false, false, false, false, false, false, false, false, false, false, false, false, false, false] rfl rfl (by kernel_rfl) (by kernel_rfl) (by kernel_rfl) rfl (fun _ _ _ h => h) (Or.inl ⟨by rfl, ?_⟩) hHeld0 ?_ ?_
        rotate_left
        · rintro w' ⟨s0, s1, s2, s3⟩
          go_simp
          with_reducible rfl
        rotate_left
        · simp only [Act.put, List.setIfInBounds_toArray, List.set_cons_zero, List.set_cons_succ]
          rfl
        refine RegH.takeH_ (i := 6) (N := (some 100)) (v := ?_) (a' := ?_) #[true, true, true, true, true, true, true, false, false, false, false, false, false, false, false, false, false, false, false, false, false, false, false, false, false, false, false, false, false, false, false, false, false, false, false, false, false, false, false, false, false, false, false] rfl rfl (by kernel_rfl) (by kernel_rfl) (by kernel_rfl) rfl (fun _ _ _ h => h) (Or.inl ⟨by rfl, ?_⟩) hHeld0 ?_ ?_
        rotate_left
        · rintro w' ⟨s0, s1, s2, s3⟩
          go_simp
          with_reducible rfl
        rotate_left
        · simp only [Act.put, List.setIfInBounds_toArray, List.set_cons_zero, List.set_cons_succ]
          rfl
        refine RegH.takeH_ (i := 7) (N := (some 101)) (v := ?_) (a' := ?_) #[true, true, true, true, true, true, true, true, false, false, false, false, false, false, false, false, false, false, false, false, false, false, false, false, false, false, false, false, false, false, false, false, false, false, false, false, false, false, false, false, false, false, false] rfl rfl (by kernel_rfl) (by kernel_rfl) (by kernel_rfl) rfl (fun _ _ _ h => h) (Or.inl ⟨by rfl, ?_⟩) hHeld0 ?_ ?_
        rotate_left
        · rintro w' ⟨s0, s1, s2, s3⟩
          go_simp
          with_reducible rfl
        rotate_left
        · simp only [Act.put, List.setIfInBounds_toArray, List.set_cons_zero, List.set_cons_succ]
          rfl
        refine RegH.takeH_ (i := 8) (N := (some 102)) (v := ?_) (a' := ?_) #[true, true, true, true, true, true, true, true, true, false, false, false, false, false, false, false, false, false, false, false, false, false, false, false, false, false, false, false, false, false, false, false, false, false, false, false, false, false, false, false, false, false, false] rfl rfl (by kernel_rfl) (by kernel_rfl) (by kernel_rfl) rfl (fun _ _ _ h => h) (Or.inl ⟨by rfl, ?_⟩) hHeld0 ?_ ?_
        rotate_left
        · rintro w' ⟨s0, s1, s2, s3⟩
          go_simp
          with_reducible rfl
        rotate_left
        · simp only [Act.put, List.setIfInBounds_toArray, List.set_cons_zero, List.set_cons_succ]
          rfl
        refine RegH.takeH_ (i := 9) (N := (some 103)) (v := ?_) (a' := ?_) #[true, true, true, true, true, true, true, true, true, true, false, false, false, false, false, false, false, false, false, false, false, false, false, false, false, false, false, false, false, false, false, false, false, false, false, false, false, false, false, false, false, false, false] rfl rfl (by kernel_rfl) (by kernel_rfl) (by kernel_rfl) rfl (fun _ _ _ h => h) (Or.inl ⟨by rfl, ?_⟩) hHeld0 ?_ ?_
        rotate_left
        · rintro w' ⟨s0, s1, s2, s3⟩
          go_simp
          with_reducible rfl
        rotate_left
        · simp only [Act.put, List.setIfInBounds_toArray, List.set_cons_zero, List.set_cons_succ]
          rfl
        refine RegH.takeH_ (i := 12) (N := (some 106)) (v := ?_) (a' := ?_) #[true, true, true, true, true, true, true, true, true, true, false, false, true, false, false, false, false, false, false, false, false, false, false, false, false, false, false, false, false, false, false, false, false, false, false, false, false, false, false, false, false, false, false] rfl rfl (by kernel_rfl) (by kernel_rfl) (by kernel_rfl) rfl (fun _ _ _ h => h) (Or.inl ⟨by rfl, ?_⟩) hHeld0 ?_ ?_
        rotate_left
        · rintro w' ⟨s0, s1, s2, s3⟩
          go_simp
          with_reducible rfl
        rotate_left
        · simp only [Act.put, List.setIfInBounds_toArray, List.set_cons_zero, List.set_cons_succ]
          rfl
        refine RegH.takeH_ (i := 13) (N := (some 107)) (v := ?_) (a' := ?_) #[true, true, true, true, true, true, true, true, true, true, false, false, true, true, false, false, false, false, false, false, false, false, false, false, false, false, false, false, false, false, false, false, false, false, false, false, false, false, false, false, false, false, false] rfl rfl (by kernel_rfl) (by kernel_rfl) (by kernel_rfl) rfl (fun _ _ _ h => h) (Or.inl ⟨by rfl, ?_⟩) hHeld0 ?_ ?_
        rotate_left
        · rintro w' ⟨s0, s1, s2, s3⟩
          go_simp
          with_reducible rfl
        rotate_left
        · simp only [Act.put, List.setIfInBounds_toArray, List.set_cons_zero, List.set_cons_succ]
          rfl
        refine RegH.takeH_ (i := 14) (N := (some 108)) (v := ?_) (a' := ?_) #[true, true, true, true, true, true, true, true, true, true, false, false, true, true, true, false, false, false, false, false, false, false, false, false, false, false, false, false, false, false, false, false, false, false, false, false, false, false, false, false, false, false, false] rfl rfl (by kernel_rfl) (by kernel_rfl) (by kernel_rfl) rfl (fun _ _ _ h => h) (Or.inl ⟨by rfl, ?_⟩) hHeld0 ?_ ?_
        rotate_left
        · rintro w' ⟨s0, s1, s2, s3⟩
          go_simp
          with_reducible rfl
        rotate_left
        · simp only [Act.put, List.setIfInBounds_toArray, List.set_cons_zero, List.set_cons_succ]
          rfl
        refine RegH.takeH_ (i := 15) (N := (some 109)) (v := ?_) (a' := ?_) #[true, true, true, true, true, true, true, true, true, true, false, false, true, true, true, true, false, false, false, false, false, false, false, false, false, false, false, false, false, false, false, false, false, false, false, false, false, false, false, false, false, false, false] rfl rfl (by kernel_rfl) (by kernel_rfl) (by kernel_rfl) rfl (fun _ _ _ h => h) (Or.inl ⟨by rfl, ?_⟩) hHeld0 ?_ ?_
        rotate_left
        · rintro w' ⟨s0, s1, s2, s3⟩
          go_simp
          with_reducible rfl
        rotate_left
        · simp only [Act.put, List.setIfInBounds_toArray, List.set_cons_zero, List.set_cons_succ]
          rfl
        refine RegH.takeH_ (i := 16) (N := (some 110)) (v := ?_) (a' := ?_) #[true, true, true, true, true, true, true, true, true, true, false, false, true, true, true, true, true, false, false, false, false, false, false, false, false, false, false, false, false, false, false, false, false, false, false, false, false, false, false, false, false, false, false] rfl rfl (by kernel_rfl) (by kernel_rfl) (by kernel_rfl) rfl (fun _ _ _ h => h) (Or.inl ⟨by rfl, ?_⟩) hHeld0 ?_ ?_
        rotate_left
        · rintro w' ⟨s0, s1, s2, s3⟩
          go_simp
          with_reducible rfl
        rotate_left
        · simp only [Act.put, List.setIfInBounds_toArray, List.set_cons_zero, List.set_cons_succ]
          rfl
        refine RegH.oneH_ (i := 10) (N := (some 104)) #[true, true, true, true, true, true, true, true, true, true, true, false, true, true, true, true, true, false, false, false, false, false, false, false, false, false, false, false, false, false, false, false, false, false, false, false, false, false, false, false, false, false, false] rfl rfl (by kernel_rfl) rfl (fun K hK => ?_)
        refine Go.Proofs.YtlohonlcoedfhaaW.PrintLast.goes_ Try.func38 (by kernel_rfl) rfl #[.pointer (some ⟨G1, 0, none⟩)] (by rfl) rfl rfl (by (try simp only [List.map_toArray, List.map_cons, List.map_nil]); first | done | rfl) ?_
        refine (bytes_n Bo_d.p HM4.out HM.out).mono ?_
        rintro e w8 ⟨A8, c8, rfl, hc8, hr8, hb8⟩
        refine ⟨_, rfl, ?_⟩
        have Bo_8 := Bo_d.below hb8
        have Le_8 := Le_d.below hb8
        have Rr_8 := Rr_d.below hb8
        have hcells_8 := cells2 (blk_below hblk_d hb8)
        have hblk_8 := blk_below hblk_d hb8
        have hrow_8 := hrow_d.below hb8
        have hx_8 := cell_below hx_d hb8
        have hbl_8 := bel_chain hbl_d hb8
        refine hK.out _ _ ⟨(hcells_8).1, (hcells_8).2, Loan.conv (c := cR) hrow_8, hx_8⟩ (fun hHeld1 => ?_)
        clear hK K hHeld0
        refine RegH.heldMono (S' := fun w' => (w'.cell? ⟨G2, 0, none⟩ = some (.int .i64 all)) ∧ (w'.cell? ⟨G2, 1, none⟩ = some (.slice AR nM cR)) ∧ ((convert 25 9 (.slice AR nM cR)).run Try.prog w' = .ok (.string (strOfNums M)) w') ∧ (w'.cell? ⟨b, o + k, none⟩ = some (.slice A m c)) ∧ ((convert 25 9 (.slice A8 nM c8)).run Try.prog w' = .ok (.string (strOfNums M)) w')) (fun w' ⟨s0, s1, s2, s3, s4⟩ => ⟨s0, s1, s2, s3⟩) _ _ _ _ ?_
        obtain ⟨h_0, h_1, h_2, h_3⟩ := hHeld1
        have hHeld2 := And.intro h_0 (And.intro (h_1) (And.intro (h_2) (And.intro (h_3) (Loan.conv (c := c8) hr8))))
        clear h_0 h_1 h_2 h_3
        simp only [Act.put, List.setIfInBounds_toArray, List.set_cons_zero, List.set_cons_succ]
        refine RegH.takeH_ (i := 11) (N := (some 105)) (v := ?_) (a' := ?_) #[true, true, true, true, true, true, true, true, true, true, true, true, true, true, true, true, true, false, false, false, false, false, false, false, false, false, false, false, false, false, false, false, false, false, false, false, false, false, false, false, false, false, false] rfl rfl (by kernel_rfl) (by kernel_rfl) (by kernel_rfl) rfl (fun _ _ _ h => h) (Or.inl ⟨by rfl, ?_⟩) hHeld2 ?_ ?_
        rotate_left
        · rintro w' ⟨s0, s1, s2, s3, s4⟩
          go_simp
          with_reducible rfl
        rotate_left
        · simp only [Act.put, List.setIfInBounds_toArray, List.set_cons_zero, List.set_cons_succ]
          rfl
        refine RegH.takeH_ (i := 17) (N := (some 111)) (v := ?_) (a' := ?_) #[true, true, true, true, true, true, true, true, true, true, true, true, true, true, true, true, true, true, false, false, false, false, false, false, false, false, false, false, false, false, false, false, false, false, false, false, false, false, false, false, false, false, false] rfl rfl (by kernel_rfl) (by kernel_rfl) (by kernel_rfl) rfl (fun _ _ _ h => h) (Or.inl ⟨by rfl, ?_⟩) hHeld2 ?_ ?_
        rotate_left
        · rintro w' ⟨s0, s1, s2, s3, s4⟩
          go_simp
          with_reducible rfl
        rotate_left
        · simp only [Act.put, List.setIfInBounds_toArray, List.set_cons_zero, List.set_cons_succ]
          rfl
        refine RegH.takeH_ (i := 18) (N := (some 112)) (v := ?_) (a' := ?_) #[true, true, true, true, true, true, true, true, true, true, true, true, true, true, true, true, true, true, true, false, false, false, false, false, false, false, false, false, false, false, false, false, false, false, false, false, false, false, false, false, false, false, false] rfl rfl (by kernel_rfl) (by kernel_rfl) (by kernel_rfl) rfl (fun _ _ _ h => h) (Or.inl ⟨by rfl, ?_⟩) hHeld2 ?_ ?_
        rotate_left
        · rintro w' ⟨s0, s1, s2, s3, s4⟩
          go_simp
          with_reducible rfl
        rotate_left
        · simp only [Act.put, List.setIfInBounds_toArray, List.set_cons_zero, List.set_cons_succ]
          rfl
        refine RegH.takeH_ (i := 19) (N := (some 113)) (v := ?_) (a' := ?_) #[true, true, true, true, true, true, true, true, true, true, true, true, true, true, true, true, true, true, true, true, false, false, false, false, false, false, false, false, false, false, false, false, false, false, false, false, false, false, false, false, false, false, false] rfl rfl (by kernel_rfl) (by kernel_rfl) (by kernel_rfl) rfl (fun _ _ _ h => h) (Or.inl ⟨by rfl, ?_⟩) hHeld2 ?_ ?_
        rotate_left
        · rintro w' ⟨s0, s1, s2, s3, s4⟩
          go_simp
          with_reducible rfl
        rotate_left
        · simp only [Act.put, List.setIfInBounds_toArray, List.set_cons_zero, List.set_cons_succ]
          rfl
        refine RegH.takeH_ (i := 20) (N := (some 114)) (v := ?_) (a' := ?_) #[true, true, true, true, true, true, true, true, true, true, true, true, true, true, true, true, true, true, true, true, true, false, false, false, false, false, false, false, false, false, false, false, false, false, false, false, false, false, false, false, false, false, false] rfl rfl (by kernel_rfl) (by kernel_rfl) (by kernel_rfl) rfl (fun _ _ _ h => h) (Or.inl ⟨by rfl, ?_⟩) hHeld2 ?_ ?_
        rotate_left
        · rintro w' ⟨s0, s1, s2, s3, s4⟩
          go_simp
          with_reducible rfl
        rotate_left
        · simp only [Act.put, List.setIfInBounds_toArray, List.set_cons_zero, List.set_cons_succ]
          rfl
        refine RegH.takeH_ (i := 22) (N := (some 116)) (v := ?_) (a' := ?_) #[true, true, true, true, true, true, true, true, true, true, true, true, true, true, true, true, true, true, true, true, true, false, true, false, false, false, false, false, false, false, false, false, false, false, false, false, false, false, false, false, false, false, false] rfl rfl (by kernel_rfl) (by kernel_rfl) (by kernel_rfl) rfl (fun _ _ _ h => h) (Or.inl ⟨by rfl, ?_⟩) hHeld2 ?_ ?_
        rotate_left
        · rintro w' ⟨s0, s1, s2, s3, s4⟩
          go_simp
          with_reducible rfl
        rotate_left
        · simp only [Act.put, List.setIfInBounds_toArray, List.set_cons_zero, List.set_cons_succ]
          rfl
        refine RegH.takeH_ (i := 23) (N := (some 117)) (v := ?_) (a' := ?_) #[true, true, true, true, true, true, true, true, true, true, true, true, true, true, true, true, true, true, true, true, true, false, true, true, false, false, false, false, false, false, false, false, false, false, false, false, false, false, false, false, false, false, false] rfl rfl (by kernel_rfl) (by kernel_rfl) (by kernel_rfl) rfl (fun _ _ _ h => h) (Or.inl ⟨by rfl, ?_⟩) hHeld2 ?_ ?_
        rotate_left
        · rintro w' ⟨s0, s1, s2, s3, s4⟩
          go_simp
          with_reducible rfl
        rotate_left
        · simp only [Act.put, List.setIfInBounds_toArray, List.set_cons_zero, List.set_cons_succ]
          rfl
        refine RegH.takeH_ (i := 24) (N := (some 118)) (v := ?_) (a' := ?_) #[true, true, true, true, true, true, true, true, true, true, true, true, true, true, true, true, true, true, true, true, true, false, true, true, true, false, false, false, false, false, false, false, false, false, false, false, false, false, false, false, false, false, false] rfl rfl (by kernel_rfl) (by kernel_rfl) (by kernel_rfl) rfl (fun _ _ _ h => h) (Or.inl ⟨by rfl, ?_⟩) hHeld2 ?_ ?_
        rotate_left
        · rintro w' ⟨s0, s1, s2, s3, s4⟩
          go_simp
          with_reducible rfl
        rotate_left
        · simp only [Act.put, List.setIfInBounds_toArray, List.set_cons_zero, List.set_cons_succ]
          rfl
        refine RegH.takeH_ (i := 25) (N := (some 119)) (v := ?_) (a' := ?_) #[true, true, true, true, true, true, true, true, true, true, true, true, true, true, true, true, true, true, true, true, true, false, true, true, true, true, false, false, false, false, false, false, false, false, false, false, false, false, false, false, false, false, false] rfl rfl (by kernel_rfl) (by kernel_rfl) (by kernel_rfl) rfl (fun _ _ _ h => h) (Or.inl ⟨by rfl, ?_⟩) hHeld2 ?_ ?_
        rotate_left
        · rintro w' ⟨s0, s1, s2, s3, s4⟩
          go_simp
          with_reducible rfl
        rotate_left
        · simp only [Act.put, List.setIfInBounds_toArray, List.set_cons_zero, List.set_cons_succ]
          rfl
        refine RegH.takeH_ (i := 26) (N := (some 120)) (v := ?_) (a' := ?_) #[true, true, true, true, true, true, true, true, true, true, true, true, true, true, true, true, true, true, true, true, true, false, true, true, true, true, true, false, false, false, false, false, false, false, false, false, false, false, false, false, false, false, false] rfl rfl (by kernel_rfl) (by kernel_rfl) (by kernel_rfl) rfl (fun _ _ _ h => h) (Or.inl ⟨by rfl, ?_⟩) hHeld2 ?_ ?_
        rotate_left
        · rintro w' ⟨s0, s1, s2, s3, s4⟩
          go_simp
          with_reducible rfl
        rotate_left
        · simp only [Act.put, List.setIfInBounds_toArray, List.set_cons_zero, List.set_cons_succ]
          rfl
        refine RegH.takeH_ (i := 27) (N := (some 121)) (v := ?_) (a' := ?_) #[true, true, true, true, true, true, true, true, true, true, true, true, true, true, true, true, true, true, true, true, true, false, true, true, true, true, true, true, false, false, false, false, false, false, false, false, false, false, false, false, false, false, false] rfl rfl (by kernel_rfl) (by kernel_rfl) (by kernel_rfl) rfl (fun _ _ _ h => h) (Or.inl ⟨by rfl, ?_⟩) hHeld2 ?_ ?_
        rotate_left
        · rintro w' ⟨s0, s1, s2, s3, s4⟩
          go_simp
          with_reducible rfl
        rotate_left
        · simp only [Act.put, List.setIfInBounds_toArray, List.set_cons_zero, List.set_cons_succ]
          rfl
        refine RegH.takeH_ (i := 28) (N := (some 122)) (v := ?_) (a' := ?_) #[true, true, true, true, true, true, true, true, true, true, true, true, true, true, true, true, true, true, true, true, true, false, true, true, true, true, true, true, true, false, false, false, false, false, false, false, false, false, false, false, false, false, false] rfl rfl (by kernel_rfl) (by kernel_rfl) (by kernel_rfl) rfl (fun _ _ _ h => h) (Or.inl ⟨by rfl, ?_⟩) hHeld2 ?_ ?_
        rotate_left
        · rintro w' ⟨s0, s1, s2, s3, s4⟩
          go_simp
          with_reducible rfl
        rotate_left
        · simp only [Act.put, List.setIfInBounds_toArray, List.set_cons_zero, List.set_cons_succ]
          rfl
        refine RegH.takeH_ (i := 29) (N := (some 123)) (v := ?_) (a' := ?_) #[true, true, true, true, true, true, true, true, true, true, true, true, true, true, true, true, true, true, true, true, true, false, true, true, true, true, true, true, true, true, false, false, false, false, false, false, false, false, false, false, false, false, false] rfl rfl (by kernel_rfl) (by kernel_rfl) (by kernel_rfl) rfl (fun _ _ _ h => h) (Or.inl ⟨by rfl, ?_⟩) hHeld2 ?_ ?_
        rotate_left
        · rintro w' ⟨s0, s1, s2, s3, s4⟩
          go_simp
          with_reducible rfl
        rotate_left
        · simp only [Act.put, List.setIfInBounds_toArray, List.set_cons_zero, List.set_cons_succ]
          rfl
        refine RegH.takeH_ (i := 30) (N := (some 124)) (v := ?_) (a' := ?_) #[true, true, true, true, true, true, true, true, true, true, true, true, true, true, true, true, true, true, true, true, true, false, true, true, true, true, true, true, true, true, true, false, false, false, false, false, false, false, false, false, false, false, false] rfl rfl (by kernel_rfl) (by kernel_rfl) (by kernel_rfl) rfl (fun _ _ _ h => h) (Or.inl ⟨by rfl, ?_⟩) hHeld2 ?_ ?_
        rotate_left
        · rintro w' ⟨s0, s1, s2, s3, s4⟩
          go_simp
          with_reducible rfl
        rotate_left
        · simp only [Act.put, List.setIfInBounds_toArray, List.set_cons_zero, List.set_cons_succ]
          rfl
        refine RegH.takeH_ (i := 31) (N := (some 125)) (v := ?_) (a' := ?_) #[true, true, true, true, true, true, true, true, true, true, true, true, true, true, true, true, true, true, true, true, true, false, true, true, true, true, true, true, true, true, true, true, false, false, false, false, false, false, false, false, false, false, false] rfl rfl (by kernel_rfl) (by kernel_rfl) (by kernel_rfl) rfl (fun _ _ _ h => h) (Or.inl ⟨by rfl, ?_⟩) hHeld2 ?_ ?_
        rotate_left
        · rintro w' ⟨s0, s1, s2, s3, s4⟩
          go_simp
          with_reducible rfl
        rotate_left
        · simp only [Act.put, List.setIfInBounds_toArray, List.set_cons_zero, List.set_cons_succ]
          rfl
        refine RegH.oneH_ (i := 21) (N := (some 115)) #[true, true, true, true, true, true, true, true, true, true, true, true, true, true, true, true, true, true, true, true, true, true, true, true, true, true, true, true, true, true, true, true, false, false, false, false, false, false, false, false, false, false, false] rfl rfl (by kernel_rfl) rfl (fun K hK => ?_)
        refine Go.Proofs.YtlohonlcoedfhaaW.PrintLast.goes_ Try.func39 (by kernel_rfl) rfl #[.pointer (some ⟨G1, 0, none⟩)] (by rfl) rfl rfl (by (try simp only [List.map_toArray, List.map_cons, List.map_nil]); first | done | rfl) ?_
        refine (left_m (r := all - (nM : Int)) Bo_8.p q0 q1 HML.out HMR.out).mono ?_
        rintro e w9 ⟨rfl, hb9⟩
        refine ⟨_, rfl, ?_⟩
        have Bo_9 := Bo_8.below hb9
        have Le_9 := Le_8.below hb9
        have Rr_9 := Rr_8.below hb9
        have hcells_9 := cells2 (blk_below hblk_8 hb9)
        have hblk_9 := blk_below hblk_8 hb9
        have hrow_9 := hrow_8.below hb9
        have hx_9 := cell_below hx_8 hb9
        have hbl_9 := bel_chain hbl_8 hb9
        have hr9 := hr8.below hb9
        refine hK.out _ _ ⟨(hcells_9).1, (hcells_9).2, Loan.conv (c := cR) hrow_9, hx_9, Loan.conv (c := c8) hr9⟩ (fun hHeld3 => ?_)
        clear hK K hHeld2
        simp only [Act.put, List.setIfInBounds_toArray, List.set_cons_zero, List.set_cons_succ]
        refine RegH.takeH_ (i := 32) (N := (some 126)) (v := ?_) (a' := ?_) #[true, true, true, true, true, true, true, true, true, true, true, true, true, true, true, true, true, true, true, true, true, true, true, true, true, true, true, true, true, true, true, true, true, false, false, false, false, false, false, false, false, false, false] rfl rfl (by kernel_rfl) (by kernel_rfl) (by kernel_rfl) rfl (fun _ _ _ h => h) (Or.inl ⟨by rfl, ?_⟩) hHeld3 ?_ ?_
        rotate_left
        · rintro w' ⟨s0, s1, s2, s3, s4⟩
          go_simp
          with_reducible rfl
        rotate_left
        · simp only [Act.put, List.setIfInBounds_toArray, List.set_cons_zero, List.set_cons_succ]
          rfl
        refine RegH.takeH_ (i := 33) (N := (some 127)) (v := ?_) (a' := ?_) #[true, true, true, true, true, true, true, true, true, true, true, true, true, true, true, true, true, true, true, true, true, true, true, true, true, true, true, true, true, true, true, true, true, true, false, false, false, false, false, false, false, false, false] rfl rfl (by kernel_rfl) (by kernel_rfl) (by kernel_rfl) rfl (fun _ _ _ h => h) (Or.inl ⟨by rfl, ?_⟩) hHeld3 ?_ ?_
        rotate_left
        · rintro w' ⟨s0, s1, s2, s3, s4⟩
          go_simp
          with_reducible rfl
        rotate_left
        · simp only [Act.put, List.setIfInBounds_toArray, List.set_cons_zero, List.set_cons_succ]
          rfl
        refine RegH.takeH_ (i := 34) (N := (some 128)) (v := ?_) (a' := ?_) #[true, true, true, true, true, true, true, true, true, true, true, true, true, true, true, true, true, true, true, true, true, true, true, true, true, true, true, true, true, true, true, true, true, true, true, false, false, false, false, false, false, false, false] rfl rfl (by kernel_rfl) (by kernel_rfl) (by kernel_rfl) rfl (fun _ _ _ h => h) (Or.inl ⟨by rfl, ?_⟩) hHeld3 ?_ ?_
        rotate_left
        · rintro w' ⟨s0, s1, s2, s3, s4⟩
          go_simp
          with_reducible rfl
        rotate_left
        · simp only [Act.put, List.setIfInBounds_toArray, List.set_cons_zero, List.set_cons_succ]
          rfl
        refine RegH.takeH_ (i := 35) (N := (some 129)) (v := ?_) (a' := ?_) #[true, true, true, true, true, true, true, true, true, true, true, true, true, true, true, true, true, true, true, true, true, true, true, true, true, true, true, true, true, true, true, true, true, true, true, true, false, false, false, false, false, false, false] rfl rfl (by kernel_rfl) (by kernel_rfl) (by kernel_rfl) rfl (fun _ _ _ h => h) (Or.inl ⟨by rfl, ?_⟩) hHeld3 ?_ ?_
        rotate_left
        · rintro w' ⟨s0, s1, s2, s3, s4⟩
          go_simp
          with_reducible rfl
        rotate_left
        · simp only [Act.put, List.setIfInBounds_toArray, List.set_cons_zero, List.set_cons_succ]
          rfl
        refine RegH.takeH_ (i := 36) (N := (some 130)) (v := ?_) (a' := ?_) #[true, true, true, true, true, true, true, true, true, true, true, true, true, true, true, true, true, true, true, true, true, true, true, true, true, true, true, true, true, true, true, true, true, true, true, true, true, false, false, false, false, false, false] rfl rfl (by kernel_rfl) (by kernel_rfl) (by kernel_rfl) rfl (fun _ _ _ h => h) (Or.inl ⟨by rfl, ?_⟩) hHeld3 ?_ ?_
        rotate_left
        · rintro w' ⟨s0, s1, s2, s3, s4⟩
          go_simp
          with_reducible rfl
        rotate_left
        · simp only [Act.put, List.setIfInBounds_toArray, List.set_cons_zero, List.set_cons_succ]
          rfl
        refine RegH.takeH_ (i := 37) (N := (some 131)) (v := ?_) (a' := ?_) #[true, true, true, true, true, true, true, true, true, true, true, true, true, true, true, true, true, true, true, true, true, true, true, true, true, true, true, true, true, true, true, true, true, true, true, true, true, true, false, false, false, false, false] rfl rfl (by kernel_rfl) (by kernel_rfl) (by kernel_rfl) rfl (fun _ _ _ h => h) (Or.inl ⟨by rfl, ?_⟩) hHeld3 ?_ ?_
        rotate_left
        · rintro w' ⟨s0, s1, s2, s3, s4⟩
          go_simp
          with_reducible rfl
        rotate_left
        · simp only [Act.put, List.setIfInBounds_toArray, List.set_cons_zero, List.set_cons_succ]
          rfl
        refine RegH.takeH_ (i := 38) (N := (some 132)) (v := ?_) (a' := ?_) #[true, true, true, true, true, true, true, true, true, true, true, true, true, true, true, true, true, true, true, true, true, true, true, true, true, true, true, true, true, true, true, true, true, true, true, true, true, true, true, false, false, false, false] rfl rfl (by kernel_rfl) (by kernel_rfl) (by kernel_rfl) rfl (fun _ _ _ h => h) (Or.inl ⟨by rfl, ?_⟩) hHeld3 ?_ ?_
        rotate_left
        · rintro w' ⟨s0, s1, s2, s3, s4⟩
          go_simp
          with_reducible rfl
        rotate_left
        · simp only [Act.put, List.setIfInBounds_toArray, List.set_cons_zero, List.set_cons_succ]
          rfl
        refine RegH.takeH_ (i := 39) (N := (some 133)) (v := ?_) (a' := ?_) #[true, true, true, true, true, true, true, true, true, true, true, true, true, true, true, true, true, true, true, true, true, true, true, true, true, true, true, true, true, true, true, true, true, true, true, true, true, true, true, true, false, false, false] rfl rfl (by kernel_rfl) (by kernel_rfl) (by kernel_rfl) rfl (fun _ _ _ h => h) (Or.inl ⟨by rfl, ?_⟩) hHeld3 ?_ ?_
        rotate_left
        · rintro w' ⟨s0, s1, s2, s3, s4⟩
          go_simp
          with_reducible rfl
        rotate_left
        · simp only [Act.put, List.setIfInBounds_toArray, List.set_cons_zero, List.set_cons_succ]
          rfl
        refine RegH.oneH_ (i := 40) (N := (some 134)) #[true, true, true, true, true, true, true, true, true, true, true, true, true, true, true, true, true, true, true, true, true, true, true, true, true, true, true, true, true, true, true, true, true, true, true, true, true, true, true, true, true, false, false] rfl rfl (by kernel_rfl) rfl (fun K hK => ?_)
        refine Go.Proofs.YtlohonlcoedfhaaW.PrintLast.goes_ Try.func21 (by kernel_rfl) rfl #[.slice (some ⟨gg, 0, none⟩) m c3, .slice A m c] (by rfl) rfl rfl (by (try simp only [List.map_toArray, List.map_cons, List.map_nil]); first | done | rfl) ?_
        refine (same_m gg c3 A c (X k) hm5 HXm.out hc5 hcM Le_9 Rr_9).mono ?_
        rintro e w10 ⟨rfl, hb10⟩
        refine ⟨_, rfl, ?_⟩
        have Bo_10 := Bo_9.below hb10
        have Le_10 := Le_9.below hb10
        have Rr_10 := Rr_9.below hb10
        have hcells_10 := cells2 (blk_below hblk_9 hb10)
        have hblk_10 := blk_below hblk_9 hb10
        have hrow_10 := hrow_9.below hb10
        have hx_10 := cell_below hx_9 hb10
        have hbl_10 := bel_chain hbl_9 hb10
        have hr10 := hr9.below hb10
        refine hK.out _ _ ⟨(hcells_10).1, (hcells_10).2, Loan.conv (c := cR) hrow_10, hx_10, Loan.conv (c := c8) hr10⟩ (fun hHeld4 => ?_)
        clear hK K hHeld3
        simp only [Act.put, List.setIfInBounds_toArray, List.set_cons_zero, List.set_cons_succ]
        refine RegH.takeH_ (i := 41) (N := (some 135)) (v := ?_) (a' := ?_) #[true, true, true, true, true, true, true, true, true, true, true, true, true, true, true, true, true, true, true, true, true, true, true, true, true, true, true, true, true, true, true, true, true, true, true, true, true, true, true, true, true, true, false] rfl rfl (by kernel_rfl) (by kernel_rfl) (by kernel_rfl) rfl (fun _ _ _ h => h) (Or.inl ⟨by rfl, ?_⟩) hHeld4 ?_ ?_
        rotate_left
        · rintro w' ⟨s0, s1, s2, s3, s4⟩
          go_simp
          with_reducible rfl
        rotate_left
        · simp only [Act.put, List.setIfInBounds_toArray, List.set_cons_zero, List.set_cons_succ]
          rfl
        refine RegH.takeH_ (i := 42) (N := (some 136)) (v := ?_) (a' := ?_) #[true, true, true, true, true, true, true, true, true, true, true, true, true, true, true, true, true, true, true, true, true, true, true, true, true, true, true, true, true, true, true, true, true, true, true, true, true, true, true, true, true, true, true] rfl rfl (by kernel_rfl) (by kernel_rfl) (by kernel_rfl) rfl (fun _ _ _ h => h) (Or.inl ⟨by rfl, ?_⟩) hHeld4 ?_ ?_
        rotate_left
        · rintro w' ⟨s0, s1, s2, s3, s4⟩
          go_simp
          with_reducible rfl
        rotate_left
        · simp only [Act.put, List.setIfInBounds_toArray, List.set_cons_zero, List.set_cons_succ]
          rfl
        refine RegH.doneH_ (by kernel_rfl) ?_
        refine NoPanic.normal ?_
        go_wp2
        go_roundw
        case rel => exact ⟨k + 1, R1', R2', M, by omega, by go_num, HML, Lib.hid Bo_10, Lib.hid hbl_10⟩
        case measure => simp [intOf]; omega
    · have hkn : k = n := by omega
      subst hkn
      go_wp2_with fail
      all_goals go_ret
      all_goals exact ⟨rfl, HBel.out⟩
end Go.Proofs.Ytlohonlcoedfhaa.Piece
