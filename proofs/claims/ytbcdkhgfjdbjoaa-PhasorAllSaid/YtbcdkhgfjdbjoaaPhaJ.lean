/- What the device tells, word by word, in any run: PhasorAll walked. -/
import Derived.Test.YtbcdkhgfjdbjoaaPhaG
import Derived.Test.YtbcdkhgfjdbjoaaPhaE
import Derived.Deep.RegionHeld3
import Derived.Deep.QuietTactic
import Derived.BigQuiet
namespace Go.Proofs.Ytbcdkhgfjdbjoaa.Pha
open Go Go.RowKit Go.Proofs.Ytbcdkhgfjdbjoaa.Mem Go.Proofs.Ytbcdkhgfjdbjoaa.Kept Go.Proofs.Ytbcdkhgfjdbjoaa.Flt
set_option linter.unusedVariables false
set_option linter.unusedSimpArgs false
/-- The device, the document's beside it. -/
structure Bo (W0 w : World) (g q : Nat) (s : PS) : Prop where
  p : Is w g s
  r : RIs w q s
  bel : Below W0.heap.size W0 w
  gg : W0.heap.size ≤ g
  gq : W0.heap.size ≤ q
theorem Bo.ne {W0 w : World} {g q : Nat} {s : PS} (h : Bo W0 w g q s) : g ≠ q := by
  intro e
  obtain ⟨_, cs, h1⟩ := h.p.blk
  have h2 := h.r.1
  rw [e] at h1
  rw [h1] at h2
  injection h2 with h2
  injection h2 with _ h2
  exact absurd h2 (by decide)
theorem Bo.drewN {W0 w : World} {g q : Nat} {s : PS} (h : Bo W0 w g q s) (n : Nat) : Bo W0 (w.drewN n) g q s := ⟨h.p.drewN n, h.r, bel_drewN h.bel n, h.gg, h.gq⟩
theorem Bo.drew {W0 w : World} {g q : Nat} {s : PS} (h : Bo W0 w g q s) : Bo W0 w.drew g q s := ⟨h.p.drewN 1, h.r, bel_drew h.bel, h.gg, h.gq⟩
theorem rload_q {w : World} {g : Nat} {s : PS} (h : RIs w g s) (k : Int) {n : Int} (hn : IntKind.u64.wrap (loadF s k) = n) : Calls Try.prog 20 #[.pointer (some ⟨g, 0, none⟩), .int .i64 k] w fun e w' => e = .returned (.int .u64 n) ∧ w = w' :=
  (rload_any h k).mono fun e w' ⟨h1, h2⟩ => ⟨by rw [← hn]; exact h1, h2.symm⟩
theorem bel_back {W0 w : World} {g : Nat} (h : Below W0.heap.size W0 w) : W0.heap.size ≤ w.heap.size := h.size
set_option maxRecDepth 100000 in
set_option maxHeartbeats 8000000 in
theorem all_out (W : World) (A A' : Option Addr) (n m c c' : Nat) (h : 40 < n ∨ m < n) : Calls Try.prog 3 #[.slice A n c, .slice A' m c'] W fun e w' => e = .returned (.bool true) ∧ Below W.heap.size W w' := by
  by_cases h1 : (40 : Int) < (n : Int)
  · go_enter Try.func3, Try.ntmps3
    go_wp2_with (first
      | (go_at_call 14; refine (begun _).mono ?_; rintro e w1 ⟨rfl, hb1⟩)
      | fail)
    go_ret
    exact ⟨rfl, hb1⟩
  · have h2 : (m : Int) < (n : Int) := by omega
    clear h
    go_enter Try.func3, Try.ntmps3
    go_wp2_with (first
      | (go_at_call 14; refine (begun _).mono ?_; rintro e w1 ⟨rfl, hb1⟩)
      | fail)
    go_ret
    exact ⟨rfl, hb1⟩
set_option maxRecDepth 100000 in
set_option maxHeartbeats 8000000 in
theorem all_run (W : World) (A A' : Option Addr) (b0 o0 b1 o1 n m c c' : Nat) (hn : n ≤ 40) (hm : n ≤ m) (hA : 0 < n → A = some ⟨b0, o0, none⟩) (hA' : 0 < n → A' = some ⟨b1, o1, none⟩)
    (hd : ∀ i, i < n → ∃ k v : Int, W.cell? ⟨b0, o0 + i, none⟩ = some (.int .i64 k) ∧ W.cell? ⟨b1, o1 + i, none⟩ = some (.int .u64 v)) :
    Calls Try.prog 3 #[.slice A n c, .slice A' m c'] W fun e w' => e = .returned (.bool true) ∧ Below W.heap.size W w' := by
  have q1 : ¬ (40 : Int) < (n : Int) := by omega
  have q2 : ¬ (m : Int) < (n : Int) := by omega
  have hnm : (n : Int) ≤ (m : Int) := by omega
  have hn40 : (n : Int) ≤ 40 := by omega
  obtain ⟨h, hh⟩ : ∃ h : Nat, n / 2 = h := ⟨_, rfl⟩
  have t2 : (n : Int).tdiv 2 = (h : Int) := by rw [Int.tdiv_eq_ediv_of_nonneg (by omega)]; omega
  have t3 : (n : Int) / 2 = (h : Int) := by omega
  have HD := Lib.hid hd
  clear hd hh
  go_enter Try.func3, Try.ntmps3
  go_wp2_with (first
    | (go_at_call 14; refine (begun _).mono ?_; rintro e w1 ⟨rfl, hb1⟩)
    | (go_at_call 15; refine (new_c _).mono ?_; rintro e w2 ⟨g, rfl, H2, hb2', hg'⟩; have hb2 := bel_chain hb1 hb2'; have hg : W.heap.size ≤ g := Nat.le_trans hb1.size hg')
    | fail)
  have B0 : Bo W (w2.alloc (.cells #[.int .i64 0, .int .i64 0, .int .i64 0, .int .i64 0, .int .i64 0, .int .i64 0] 30)) g w2.heap.size ⟨0, 0, 0, 0, 0, 0⟩ :=
    ⟨H2.below (bel_alloc (Below.refl _ _) _), ⟨blk_new _ _, H2.inn⟩, bel_alloc hb2 _, hg, hb2.size⟩
  obtain ⟨q, hq⟩ : ∃ q, w2.heap.size = q := ⟨_, rfl⟩
  rw [hq] at B0 ⊢
  clear hq H2 hb1 hb2 hb2' hg hg'
  go_loopw [5, 7] (fun p i wr => ∃ (k gp : Nat) (s : PS), k ≤ n ∧ p = .pointer (some ⟨gp, 0, none⟩) ∧ i = .int .i64 k ∧ Hid (Bo W wr gp q s)) (fun _ i _ => n - (intOf i).toNat)
  case atStart => exact ⟨0, g, _, by omega, rfl, rfl, Lib.hid B0⟩
  case round =>
    clear B0
    obtain ⟨k, gp, s, hk, rfl, rfl, HB⟩ := hrel
    by_cases hkn : k < n
    · have ea := hA (by omega)
      subst ea
      have ea := hA' (by omega)
      subst ea
      obtain ⟨wd, v, d0, d1⟩ := HD.out k hkn
      have q3 : (k : Int) < (n : Int) := by omega
      have q4 : (k : Int) < (m : Int) := by omega
      have x0 := cell_below d0 HB.out.bel
      have x1 := cell_below d1 HB.out.bel
      have D0 := Lib.hid d0
      have D1 := Lib.hid d1
      clear d0 d1
      by_cases hkh : k = h
      · subst hkh
        go_wp2_with (first
          | (go_at_call 16; with_reducible refine (copy_any HB.out.p).mono ?_; rintro e w3 ⟨rfl, H3, hb3⟩; have HP3 := HB.out.p.below hb3; have R3 := HB.out.r.below hb3; have hb3' := bel_chain HB.out.bel hb3; have hlt := HB.out.p.blk.1; have ne := HB.out.ne; have gg := HB.out.gg; have gq := HB.out.gq; have hsz := HB.out.bel.size)
          | (go_at_call 17; with_reducible refine (store_any HP3 0 77).mono ?_; rintro e w4 ⟨rfl, HP4, k4⟩; have hb4 := bel_g hb3' gg k4; have H4 := H3.kept k4 (fun e => absurd e (Nat.ne_of_gt hlt)); have R4 := R3.kept k4 (fun e => absurd e ne.symm))
          | (go_at_call 17; with_reducible refine (store_any HP4 4 1).mono ?_; rintro e w5 ⟨rfl, HP5, k5⟩; have hb5 := bel_g hb4 gg k5; have H5 := H4.kept k5 (fun e => absurd e (Nat.ne_of_gt hlt)); have R5 := R4.kept k5 (fun e => absurd e ne.symm); have T0 := Lib.hid (show Bo W w5 wr.heap.size q s from ⟨H5, R5, hb5, hsz, gq⟩); clear HP5 k5 hb5 H5 R5)
          | fail)
        clear HP3 R3 hb3' hlt ne gg gq hsz HP4 k4 hb4 H4 R4 H3 hb3
        have T1 := T0.out.drew
        have a1 := cell_below D0.out T1.bel
        have a2 := cell_below D1.out T1.bel
        go_region_held3 (fun w' => w'.cell? ⟨b0, o0 + k, none⟩ = some (.int .i64 wd) ∧ w'.cell? ⟨b1, o1 + k, none⟩ = some (.int .u64 v)) (first | exact ⟨a1, a2⟩ | exact ⟨a3, a4⟩) (first | (go_at_call 17; refine (store_any T1.p wd v).mono ?_; rintro e w6 ⟨rfl, H6, k6⟩; have hb6 := bel_g T1.bel T1.gg k6; have R6 := T1.r.kept k6 (fun e => absurd e T1.ne.symm); have a3 := cell_below D0.out hb6; have a4 := cell_below D1.out hb6; have ne6 := T1.ne; have gg6 := T1.gg; have gq6 := T1.gq; clear k6))
        clear T1 a1 a2
        go_wp2
        have R6d : RIs w6.drew q s := R6
        have H6d := H6.drewN 1
        have hb6d := bel_drew hb6
        go_region_held3 (fun w' => w'.cell? ⟨b0, o0 + k, none⟩ = some (.int .i64 wd) ∧ w'.cell? ⟨b1, o1 + k, none⟩ = some (.int .u64 v)) (first | exact ⟨a3, a4⟩ | exact ⟨a5, a6⟩) (first | (go_at_call 18; refine (rstore_any R6d wd v).mono ?_; rintro e w7 ⟨rfl, R7, k7⟩; have hb7 := bel_g hb6d gq6 k7; have H7 := H6d.kept k7 ne6; have a5 := cell_below D0.out hb7; have a6 := cell_below D1.out hb7; clear k7))
        have T7 := Lib.hid (show Bo W w7 _ q (storeF s wd v) from ⟨H7, R7, hb7, gg6, gq6⟩)
        clear H6 hb6 R6 a3 a4 ne6 gg6 gq6 R6d H6d hb6d R7 hb7 H7
        obtain ⟨s7, hs7⟩ : ∃ s7, storeF s wd v = s7 := ⟨_, rfl⟩
        rw [hs7] at T7
        clear hs7
        go_wp2
        go_loopw [9] (fun i w' => ∃ (j : Nat) (z : Int), j ≤ 19 ∧ z = (j : Int) - 1 ∧ i = .int .i64 z ∧ w' = w7) (fun i _ => (18 - intOf i).toNat)
        case atStart => exact ⟨0, _, by omega, by omega, rfl, rfl⟩
        case round =>
          obtain ⟨j, z, hj, hz, rfl, rfl⟩ := hrel
          obtain ⟨V, hV⟩ : ∃ V, IntKind.u64.wrap (loadF s7 z) = V := ⟨_, rfl⟩
          by_cases hj19 : j < 19
          · have q7 : z < 18 := by omega
            have q8 : -1 ≤ z := by omega
            have HZ := Lib.hid hz
            clear hz
            go_wp2_with (first
              | (go_at_call 19; with_reducible refine (load_q T7.out.p z hV).mono ?_; rintro e w8 ⟨rfl, rfl⟩)
              | (go_at_call 20; with_reducible refine (rload_q T7.out.r z hV).mono ?_; rintro e w8 ⟨rfl, rfl⟩)
              | fail)
            go_roundw
            case rel => exact ⟨j + 1, z + 1, by omega, by have := HZ.out; push_cast; omega, by go_num, trivial⟩
            case measure => simp [intOf]; omega
          · obtain rfl : j = 19 := by omega
            obtain rfl : z = 18 := by omega
            clear hz hV
            have e1 := cell_below D0.out T7.out.bel
            go_wp2
            go_quiet ((first | (go_at_call 19; exact Calls.quiet_of_same (load_same (T7.out.drewN _).p wd)) | (go_at_call 20; exact Calls.quiet_of_same (rload_any (T7.out.drewN _).r wd))))
            go_wp2
            go_roundw
            case rel => exact ⟨k + 1, _, s7, by omega, rfl, by go_num, Lib.hid (T7.out.drewN _)⟩
            case measure => simp [intOf]; omega
      · have q5 : ((k : Int) == (h : Int)) = false := by rw [beq_eq_false_iff_ne]; omega
        go_wp2
        have T0 := HB
        have T1 := T0.out.drew
        have a1 := cell_below D0.out T1.bel
        have a2 := cell_below D1.out T1.bel
        go_region_held3 (fun w' => w'.cell? ⟨b0, o0 + k, none⟩ = some (.int .i64 wd) ∧ w'.cell? ⟨b1, o1 + k, none⟩ = some (.int .u64 v)) (first | exact ⟨a1, a2⟩ | exact ⟨a3, a4⟩) (first | (go_at_call 17; refine (store_any T1.p wd v).mono ?_; rintro e w6 ⟨rfl, H6, k6⟩; have hb6 := bel_g T1.bel T1.gg k6; have R6 := T1.r.kept k6 (fun e => absurd e T1.ne.symm); have a3 := cell_below D0.out hb6; have a4 := cell_below D1.out hb6; have ne6 := T1.ne; have gg6 := T1.gg; have gq6 := T1.gq; clear k6))
        clear T1 a1 a2
        go_wp2
        have R6d : RIs w6.drew q s := R6
        have H6d := H6.drewN 1
        have hb6d := bel_drew hb6
        go_region_held3 (fun w' => w'.cell? ⟨b0, o0 + k, none⟩ = some (.int .i64 wd) ∧ w'.cell? ⟨b1, o1 + k, none⟩ = some (.int .u64 v)) (first | exact ⟨a3, a4⟩ | exact ⟨a5, a6⟩) (first | (go_at_call 18; refine (rstore_any R6d wd v).mono ?_; rintro e w7 ⟨rfl, R7, k7⟩; have hb7 := bel_g hb6d gq6 k7; have H7 := H6d.kept k7 ne6; have a5 := cell_below D0.out hb7; have a6 := cell_below D1.out hb7; clear k7))
        have T7 := Lib.hid (show Bo W w7 _ q (storeF s wd v) from ⟨H7, R7, hb7, gg6, gq6⟩)
        clear H6 hb6 R6 a3 a4 ne6 gg6 gq6 R6d H6d hb6d R7 hb7 H7
        obtain ⟨s7, hs7⟩ : ∃ s7, storeF s wd v = s7 := ⟨_, rfl⟩
        rw [hs7] at T7
        clear hs7
        go_wp2
        go_loopw [9] (fun i w' => ∃ (j : Nat) (z : Int), j ≤ 19 ∧ z = (j : Int) - 1 ∧ i = .int .i64 z ∧ w' = w7) (fun i _ => (18 - intOf i).toNat)
        case atStart => exact ⟨0, _, by omega, by omega, rfl, rfl⟩
        case round =>
          obtain ⟨j, z, hj, hz, rfl, rfl⟩ := hrel
          obtain ⟨V, hV⟩ : ∃ V, IntKind.u64.wrap (loadF s7 z) = V := ⟨_, rfl⟩
          by_cases hj19 : j < 19
          · have q7 : z < 18 := by omega
            have q8 : -1 ≤ z := by omega
            have HZ := Lib.hid hz
            clear hz
            go_wp2_with (first
              | (go_at_call 19; with_reducible refine (load_q T7.out.p z hV).mono ?_; rintro e w8 ⟨rfl, rfl⟩)
              | (go_at_call 20; with_reducible refine (rload_q T7.out.r z hV).mono ?_; rintro e w8 ⟨rfl, rfl⟩)
              | fail)
            go_roundw
            case rel => exact ⟨j + 1, z + 1, by omega, by have := HZ.out; push_cast; omega, by go_num, trivial⟩
            case measure => simp [intOf]; omega
          · obtain rfl : j = 19 := by omega
            obtain rfl : z = 18 := by omega
            clear hz hV
            have e1 := cell_below D0.out T7.out.bel
            go_wp2
            go_quiet ((first | (go_at_call 19; exact Calls.quiet_of_same (load_same (T7.out.drewN _).p wd)) | (go_at_call 20; exact Calls.quiet_of_same (rload_any (T7.out.drewN _).r wd))))
            go_wp2
            go_roundw
            case rel => exact ⟨k + 1, _, s7, by omega, rfl, by go_num, Lib.hid (T7.out.drewN _)⟩
            case measure => simp [intOf]; omega
    · obtain rfl : k = n := by omega
      have HBl := HB.out.bel
      clear HB HD
      go_wp2_with (first
        | (go_at_call 17; refine (store_nil _ _ _).mono ?_; rintro e w4 ⟨rfl, rfl⟩)
        | (go_at_call 19; refine (load_nil _ _).mono ?_; rintro e w4 ⟨rfl, rfl⟩)
        | (go_at_call 16; refine (copy_nil _).mono ?_; rintro e w4 ⟨rfl, rfl⟩)
        | fail)
      go_ret
      exact ⟨rfl, HBl⟩
theorem all_l (W : World) (A : Option Addr) (b0 o0 c : Nat) (l : List Int) (A' : Option Addr) (b1 o1 c' : Nat) (l' : List Int) (ha : 0 < l.length → A = some ⟨b0, o0, none⟩) (hc : ∀ i, i < l.length → W.cell? ⟨b0, o0 + i, none⟩ = some (.int .i64 (l.getD i 0)))
    (ha' : 0 < l'.length → A' = some ⟨b1, o1, none⟩) (hc' : ∀ i, i < l'.length → W.cell? ⟨b1, o1 + i, none⟩ = some (.int .u64 (l'.getD i 0))) :
    Calls Try.prog 3 #[.slice A l.length c, .slice A' l'.length c'] W fun e w' => e = .returned (.bool true) ∧ Below W.heap.size W w' := by
  by_cases h : 40 < l.length ∨ l'.length < l.length
  · exact all_out W A A' _ _ c c' h
  · exact all_run W A A' b0 o0 b1 o1 _ _ c c' (by omega) (by omega) ha (fun h0 => ha' (by omega)) (fun i hi => ⟨_, _, hc i hi, hc' i (by omega)⟩)
end Go.Proofs.Ytbcdkhgfjdbjoaa.Pha
