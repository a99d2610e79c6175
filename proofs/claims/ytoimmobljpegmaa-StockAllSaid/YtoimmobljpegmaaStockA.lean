/- The statement on stocks against the reference: every op on both. -/
import Derived.Test.YtoimmobljpegmaaStockS
namespace Go.Proofs.Ytoimmobljpegmaa.Stock
open Go.RowKit Go.Proofs.Ytoimmobljpegmaa.Mem
open Go.Proofs.YtoimmobljpegmaaW.PrintWords (bools nums print_append_num print_append_row print_make_of own_reads ReadsInt own_lt own_other own_lit nums_length)
set_option linter.unusedVariables false

set_option maxRecDepth 100000 in
set_option maxHeartbeats 8000000 in
theorem all_stock (f n : Int) (a : Option Addr) (b off cap : Nat) (l : List Int) (w : World) (hl : l.length ≤ 1152921504606846976) (ha : 0 < l.length → a = some ⟨b, off, none⟩) (hblt : 0 < l.length → b < w.heap.size)
    (hc : ∀ i, i < l.length → w.cell? ⟨b, off + i, none⟩ = some (.int .i64 (l.getD i 0))) (hw : ∀ n ∈ l, (Lit.int .i64 n).wf = true) :
    Calls Try.prog 9 #[.int .i64 f, .int .i64 n, .slice a l.length cap] w fun e w' => e = .returned (.bool true) ∧ Below w.heap.size w w' := by
  have hb := Below.refl w.heap.size w
  have HC := Lib.hid hc
  have HA := Lib.hid ha
  have HB := Lib.hid hblt
  have HW := Lib.hid hw
  clear hc ha hblt hw
  by_cases h60 : 60 < (l.length : Int)
  · go_enter Try.func9, Try.ntmps9
    go_wp2_with (first
      | (go_at_call 32; refine (begun _).mono ?_; rintro e w1 ⟨rfl, hb1⟩; replace hb := bel_chain hb hb1; clear hb1)
      | fail)
    go_ret
    exact ⟨rfl, hb⟩
  · have hF := cl_in f
    obtain ⟨F, hFe⟩ : ∃ F, cl f = F := ⟨_, rfl⟩
    rw [hFe] at hF
    obtain ⟨xs0, hxe⟩ : ∃ xs, List.replicate (cl n).toNat false = xs := ⟨_, rfl⟩
    have hx0 : xs0.length ≤ 240 := by have := cl_in n; rw [← hxe, List.length_replicate]; omega
    go_enter Try.func9, Try.ntmps9
    go_wp2_with (first
      | (go_at_call 32; refine (begun _).mono ?_; rintro e w1 ⟨rfl, hb1⟩; replace hb := bel_chain hb hb1; clear hb1)
      | (go_at_call 33; refine (new_val _ hFe hxe).mono ?_; rintro e w2 ⟨g, r, rfl, H, hb1, hg, hr⟩; have hb2 := bel_then hb hb.size hb1; have hs1 := hb.size; have hgl := blk_lt H.1; have hrl := blk_lt H.2.1; clear hb1)
      | (go_at_call 34; refine (rnew_any _ _ _).mono ?_; rintro e w3 ⟨g2, r2, rfl, K, hb3, hg2, hr2⟩; rw [hFe, hxe] at K; have H2 := H.below hb3; have hb4 := bel_then hb2 hb2.size hb3; clear hb3)
      | fail)
    have hge : w.heap.size ≤ g := by omega
    have hre : w.heap.size ≤ r := by omega
    have hge2 : w.heap.size ≤ g2 := by omega
    have hre2 : w.heap.size ≤ r2 := by omega
    have n1 : g ≠ r2 := by omega
    have n2 : r ≠ r2 := by omega
    have n3 : g2 ≠ r := by omega
    have n4 : r2 ≠ r := by omega
    clear hg hr hg2 hr2 hgl hrl hs1 H hb hb2 hxe hFe
    go_loopw [9] (fun t9 wr => ∃ (k : Nat) (xs : List Bool), k ≤ l.length ∧ t9 = .int .i64 k ∧ xs.length ≤ 240 ∧ Is 69 wr g r F xs ∧ Is 54 wr g2 r2 F xs ∧ Below w.heap.size w wr) (fun t9 _ => l.length - (intOf t9).toNat)
    case atStart => exact ⟨0, xs0, by omega, rfl, hx0, H2, K, hb4⟩
    case round =>
      obtain ⟨k, xs, hk, rfl, hxl, H, K, hb⟩ := hrel
      by_cases hlt : (k : Int) < l.length
      · obtain ⟨v, hv⟩ : ∃ v, v = l.getD k 0 := ⟨_, rfl⟩
        have hv0 : -9223372036854775808 ≤ v ∧ v ≤ 9223372036854775807 := bounds_i64 (HW.out v (by rw [hv, List.getD_eq_getElem?_getD, List.getElem?_eq_getElem (by omega)]; exact List.getElem_mem _))
        have hcv : w.cell? ⟨b, off + k, none⟩ = some (.int .i64 v) := by rw [hv]; exact HC.out k (by omega)
        have hbl : b < w.heap.size := HB.out (by omega)
        have hck := (hb.cell (p := ⟨b, off + k, none⟩) hbl).trans hcv
        clear hv
        obtain rfl := HA.out (by omega)
        by_cases hneg : v < 0
        · cases hx : least xs with
          | none =>
            have hxl2 := hxl
            go_wp2_with (first
                  | (go_at_call 35; (with_reducible refine (take_full H hF hxl hx).mono ?_); rintro e w3 ⟨rfl, H1, g1⟩; have K1 := K.grown g1 n3 n4; have hb1 := hb.grown g1 hb.size (fun k hk => by cases hk; exact hre); clear g1)
                  | (go_at_call 36; (with_reducible refine (rtake_full K1 hF hxl hx).mono ?_); rintro e w4 ⟨rfl, K3, g3⟩; have H3 := H1.grown g3 n1 n2; have hb3 := hb1.grown g3 hb1.size (fun k hk => by cases hk; exact hre2); clear g3)
                  | (go_at_call 39; (with_reducible refine (taken_any _ _ _ _ _ H3 hF hxl2).mono ?_); rintro e w5 ⟨v5, rfl, o5, h5⟩; have H5 := H3.below h5; have K5 := K3.below h5; have hb5 := bel_then hb3 hb3.size h5)
                  | (go_at_call 40; (with_reducible refine (rtaken_any _ _ _ _ _ K5 hF hxl2).mono ?_); rintro e w6 ⟨v6, rfl, o6, h6⟩; have H6 := H5.below h6; have K6 := K5.below h6; have hb6 := bel_then hb5 hb5.size h6)
                  | fail)
            obtain ⟨A5, c5, rfl, q5⟩ := own_reads o5
            obtain ⟨A6, c6, rfl, q6⟩ := own_reads o6
            have p5 := q5.below h6
            have ch := K6.cells.2
            have hg2l := blk_lt K6.1
            have htl := tk_len F (xs) (xs).length
            have hsub : IntKind.i64.wrap (((xs).length : Int) - (tk F (xs) (xs).length).length) = ((xs).length : Int) - (tk F (xs) (xs).length).length := IntWalk.i64_in _ (by omega)
            have P5 := Lib.hid p5
            have P6 := Lib.hid q6
            clear p5 q6 q5 o5 o6 h5 h6
            go_region_held3 (fun w' => w'.cell? ⟨g2, 1, none⟩ = some (.slice (some ⟨r2, 0, none⟩) (xs).length (xs).length)) (first | exact ch | exact ch2)
              (first
                | (go_at_call 41; refine (left_any _ g r F _ (show Is 69 w6.drew g r F (xs) from H6) hF hxl2).mono ?_; rintro e w7 ⟨rfl, h7⟩; have ch2 := (h7.cell (p := ⟨g2, 1, none⟩) hg2l).trans ch; have H7 := (show Is 69 w6.drew g r F (xs) from H6).below h7; have K7 := (show Is 54 w6.drew g2 r2 F (xs) from K6).below h7; have Q5 := Lib.hid (ReadsInt.below (show ReadsInt w6.drew _ _ _ _ from P5.out) h7); have Q6 := Lib.hid (ReadsInt.below (show ReadsInt w6.drew _ _ _ _ from P6.out) h7); have hb7 := bel_then (bel_drew hb6) hb6.size h7; clear h7)
                | fail)
            go_wp2
            obtain ⟨ts, hts⟩ : ∃ ts, ts = tk F (xs) (xs).length := ⟨_, rfl⟩
            simp only [← hts] at Q5 Q6 ⊢
            have hts240 : ts.length ≤ 240 := by rw [hts]; omega
            clear hts hsub htl
            go_loopw [16] (fun t16 wr => ∃ (i N : Nat), i ≤ ts.length ∧ t16 = .int .i64 i ∧ wr = w7.drewN N) (fun t16 _ => ts.length - (intOf t16).toNat)
            case atStart => exact ⟨0, 0, by omega, rfl, rfl⟩
            case round =>
              obtain ⟨i, N, hi, rfl, rfl⟩ := hrel
              by_cases him : (i : Int) < (ts.length : Int)
              · obtain ⟨ad5, rfl, k5⟩ := Q5.out.2.2 (by omega)
                obtain ⟨ad6, rfl, k6⟩ := Q6.out.2.2 (by omega)
                have e5 : w7.cell? (ad5.add i) = some (.int .i64 (ts.getD i 0)) := k5 i (by omega)
                have e6 : w7.cell? (ad6.add i) = some (.int .i64 (ts.getD i 0)) := k6 i (by omega)
                have hi0 : (0 : Int) ≤ (i : Int) := by omega
                clear k5 k6
                go_wp2
                go_quiet (fail)
                go_wp2
                go_roundw
                case rel => exact ⟨i + 1, _, by omega, by go_num, rfl⟩
                case measure => simp [intOf]; omega
              · obtain rfl : i = ts.length := by omega
                go_wp2
                go_roundw
                case rel => exact ⟨k + 1, xs, by omega, by go_num, hxl2, H7, K7, bel_drewN hb7 _⟩
                case measure => simp [intOf]; omega
          | some j =>
            obtain ⟨ys, hys⟩ : ∃ ys, xs.set j true = ys := ⟨_, rfl⟩
            have hxl2 : ys.length ≤ 240 := by rw [← hys, List.length_set]; exact hxl
            have hjl := (least_spec hx).1
            have hwj : IntKind.i64.wrap (F + (j : Int)) = F + (j : Int) := IntWalk.i64_in _ (by omega)
            go_wp2_with (first
                  | (go_at_call 35; (with_reducible refine (take_hit j ys H hF hxl hx hys).mono ?_); rintro e w3 ⟨rfl, H1, g1⟩; have K1 := K.grown g1 n3 n4; have hb1 := hb.grown g1 hb.size (fun k hk => by cases hk; exact hre); clear g1)
                  | (go_at_call 36; (with_reducible refine (rtake_hit j ys K1 hF hxl hx hys).mono ?_); rintro e w4 ⟨rfl, K3, g3⟩; have H3 := H1.grown g3 n1 n2; have hb3 := hb1.grown g3 hb1.size (fun k hk => by cases hk; exact hre2); clear g3)
                  | (go_at_call 39; (with_reducible refine (taken_any _ _ _ _ _ H3 hF hxl2).mono ?_); rintro e w5 ⟨v5, rfl, o5, h5⟩; have H5 := H3.below h5; have K5 := K3.below h5; have hb5 := bel_then hb3 hb3.size h5)
                  | (go_at_call 40; (with_reducible refine (rtaken_any _ _ _ _ _ K5 hF hxl2).mono ?_); rintro e w6 ⟨v6, rfl, o6, h6⟩; have H6 := H5.below h6; have K6 := K5.below h6; have hb6 := bel_then hb5 hb5.size h6)
                  | fail)
            obtain ⟨A5, c5, rfl, q5⟩ := own_reads o5
            obtain ⟨A6, c6, rfl, q6⟩ := own_reads o6
            have p5 := q5.below h6
            have ch := K6.cells.2
            have hg2l := blk_lt K6.1
            have htl := tk_len F (ys) (ys).length
            have hsub : IntKind.i64.wrap (((ys).length : Int) - (tk F (ys) (ys).length).length) = ((ys).length : Int) - (tk F (ys) (ys).length).length := IntWalk.i64_in _ (by omega)
            have P5 := Lib.hid p5
            have P6 := Lib.hid q6
            clear p5 q6 q5 o5 o6 h5 h6
            go_region_held3 (fun w' => w'.cell? ⟨g2, 1, none⟩ = some (.slice (some ⟨r2, 0, none⟩) (ys).length (ys).length)) (first | exact ch | exact ch2)
              (first
                | (go_at_call 41; refine (left_any _ g r F _ (show Is 69 w6.drew g r F (ys) from H6) hF hxl2).mono ?_; rintro e w7 ⟨rfl, h7⟩; have ch2 := (h7.cell (p := ⟨g2, 1, none⟩) hg2l).trans ch; have H7 := (show Is 69 w6.drew g r F (ys) from H6).below h7; have K7 := (show Is 54 w6.drew g2 r2 F (ys) from K6).below h7; have Q5 := Lib.hid (ReadsInt.below (show ReadsInt w6.drew _ _ _ _ from P5.out) h7); have Q6 := Lib.hid (ReadsInt.below (show ReadsInt w6.drew _ _ _ _ from P6.out) h7); have hb7 := bel_then (bel_drew hb6) hb6.size h7; clear h7)
                | fail)
            go_wp2
            obtain ⟨ts, hts⟩ : ∃ ts, ts = tk F (ys) (ys).length := ⟨_, rfl⟩
            simp only [← hts] at Q5 Q6 ⊢
            have hts240 : ts.length ≤ 240 := by rw [hts]; omega
            clear hts hsub htl
            go_loopw [16] (fun t16 wr => ∃ (i N : Nat), i ≤ ts.length ∧ t16 = .int .i64 i ∧ wr = w7.drewN N) (fun t16 _ => ts.length - (intOf t16).toNat)
            case atStart => exact ⟨0, 0, by omega, rfl, rfl⟩
            case round =>
              obtain ⟨i, N, hi, rfl, rfl⟩ := hrel
              by_cases him : (i : Int) < (ts.length : Int)
              · obtain ⟨ad5, rfl, k5⟩ := Q5.out.2.2 (by omega)
                obtain ⟨ad6, rfl, k6⟩ := Q6.out.2.2 (by omega)
                have e5 : w7.cell? (ad5.add i) = some (.int .i64 (ts.getD i 0)) := k5 i (by omega)
                have e6 : w7.cell? (ad6.add i) = some (.int .i64 (ts.getD i 0)) := k6 i (by omega)
                have hi0 : (0 : Int) ≤ (i : Int) := by omega
                clear k5 k6
                go_wp2
                go_quiet (fail)
                go_wp2
                go_roundw
                case rel => exact ⟨i + 1, _, by omega, by go_num, rfl⟩
                case measure => simp [intOf]; omega
              · obtain rfl : i = ts.length := by omega
                go_wp2
                go_roundw
                case rel => exact ⟨k + 1, ys, by omega, by go_num, hxl2, H7, K7, bel_drewN hb7 _⟩
                case measure => simp [intOf]; omega
        · have hv00 : 0 ≤ v ∧ v ≤ 9223372036854775807 := by omega
          have n5 : b ≠ r := by omega
          have n6 : b ≠ r2 := by omega
          cases hx : backF F xs v with
          | none =>
            have hxl2 := hxl
            have KR := K
            have HR : Is 69 wr.drew g r F xs := H
            go_wp2
            go_region_held3 (fun w' => w'.cell? ⟨b, off + k, none⟩ = some (.int .i64 v))
              (first | exact hck | exact hck1 | exact hck2)
              (first
                | (go_at_call 37; (with_reducible refine (back_miss HR hF hxl hv00.2 hx).mono ?_); rintro e w3 ⟨rfl, H1, g1⟩; have K1 := (show Is 54 wr.drew g2 r2 F xs from KR).grown g1 n3 n4; have hb1 := (bel_drew hb).grown g1 hb.size (fun k hk => by cases hk; exact hre); have hck1 := g1.cell (show wr.drew.cell? ⟨b, off + k, none⟩ = some (.int .i64 v) from hck) (by simpa using n5); clear g1)
                | (go_at_call 38; (with_reducible refine (rback_miss K1 hF hxl hv00 hx).mono ?_); rintro e w4 ⟨rfl, K3, g3⟩; have H3 := H1.grown g3 n1 n2; have hb3 := hb1.grown g3 hb1.size (fun k hk => by cases hk; exact hre2); have hck2 := g3.cell hck1 (by simpa using n6); clear g3)
                | fail)
            go_wp2_with (first
                  | (go_at_call 39; (with_reducible refine (taken_any _ _ _ _ _ H3 hF hxl2).mono ?_); rintro e w5 ⟨v5, rfl, o5, h5⟩; have H5 := H3.below h5; have K5 := K3.below h5; have hb5 := bel_then hb3 hb3.size h5)
                  | (go_at_call 40; (with_reducible refine (rtaken_any _ _ _ _ _ K5 hF hxl2).mono ?_); rintro e w6 ⟨v6, rfl, o6, h6⟩; have H6 := H5.below h6; have K6 := K5.below h6; have hb6 := bel_then hb5 hb5.size h6)
                  | fail)
            obtain ⟨A5, c5, rfl, q5⟩ := own_reads o5
            obtain ⟨A6, c6, rfl, q6⟩ := own_reads o6
            have p5 := q5.below h6
            have ch := K6.cells.2
            have hg2l := blk_lt K6.1
            have htl := tk_len F (xs) (xs).length
            have hsub : IntKind.i64.wrap (((xs).length : Int) - (tk F (xs) (xs).length).length) = ((xs).length : Int) - (tk F (xs) (xs).length).length := IntWalk.i64_in _ (by omega)
            have P5 := Lib.hid p5
            have P6 := Lib.hid q6
            clear p5 q6 q5 o5 o6 h5 h6
            go_region_held3 (fun w' => w'.cell? ⟨g2, 1, none⟩ = some (.slice (some ⟨r2, 0, none⟩) (xs).length (xs).length)) (first | exact ch | exact ch2)
              (first
                | (go_at_call 41; refine (left_any _ g r F _ (show Is 69 w6.drew g r F (xs) from H6) hF hxl2).mono ?_; rintro e w7 ⟨rfl, h7⟩; have ch2 := (h7.cell (p := ⟨g2, 1, none⟩) hg2l).trans ch; have H7 := (show Is 69 w6.drew g r F (xs) from H6).below h7; have K7 := (show Is 54 w6.drew g2 r2 F (xs) from K6).below h7; have Q5 := Lib.hid (ReadsInt.below (show ReadsInt w6.drew _ _ _ _ from P5.out) h7); have Q6 := Lib.hid (ReadsInt.below (show ReadsInt w6.drew _ _ _ _ from P6.out) h7); have hb7 := bel_then (bel_drew hb6) hb6.size h7; clear h7)
                | fail)
            go_wp2
            obtain ⟨ts, hts⟩ : ∃ ts, ts = tk F (xs) (xs).length := ⟨_, rfl⟩
            simp only [← hts] at Q5 Q6 ⊢
            have hts240 : ts.length ≤ 240 := by rw [hts]; omega
            clear hts hsub htl
            go_loopw [16] (fun t16 wr => ∃ (i N : Nat), i ≤ ts.length ∧ t16 = .int .i64 i ∧ wr = w7.drewN N) (fun t16 _ => ts.length - (intOf t16).toNat)
            case atStart => exact ⟨0, 0, by omega, rfl, rfl⟩
            case round =>
              obtain ⟨i, N, hi, rfl, rfl⟩ := hrel
              by_cases him : (i : Int) < (ts.length : Int)
              · obtain ⟨ad5, rfl, k5⟩ := Q5.out.2.2 (by omega)
                obtain ⟨ad6, rfl, k6⟩ := Q6.out.2.2 (by omega)
                have e5 : w7.cell? (ad5.add i) = some (.int .i64 (ts.getD i 0)) := k5 i (by omega)
                have e6 : w7.cell? (ad6.add i) = some (.int .i64 (ts.getD i 0)) := k6 i (by omega)
                have hi0 : (0 : Int) ≤ (i : Int) := by omega
                clear k5 k6
                go_wp2
                go_quiet (fail)
                go_wp2
                go_roundw
                case rel => exact ⟨i + 1, _, by omega, by go_num, rfl⟩
                case measure => simp [intOf]; omega
              · obtain rfl : i = ts.length := by omega
                go_wp2
                go_roundw
                case rel => exact ⟨k + 1, xs, by omega, by go_num, hxl2, H7, K7, bel_drewN hb7 _⟩
                case measure => simp [intOf]; omega
          | some j =>
            obtain ⟨ys, hys⟩ : ∃ ys, xs.set j false = ys := ⟨_, rfl⟩
            have hxl2 : ys.length ≤ 240 := by rw [← hys, List.length_set]; exact hxl
            have KR := K
            have HR : Is 69 wr.drew g r F xs := H
            go_wp2
            go_region_held3 (fun w' => w'.cell? ⟨b, off + k, none⟩ = some (.int .i64 v))
              (first | exact hck | exact hck1 | exact hck2)
              (first
                | (go_at_call 37; (with_reducible refine (back_hit j ys HR hF hxl hx hys).mono ?_); rintro e w3 ⟨rfl, H1, g1⟩; have K1 := (show Is 54 wr.drew g2 r2 F xs from KR).grown g1 n3 n4; have hb1 := (bel_drew hb).grown g1 hb.size (fun k hk => by cases hk; exact hre); have hck1 := g1.cell (show wr.drew.cell? ⟨b, off + k, none⟩ = some (.int .i64 v) from hck) (by simpa using n5); clear g1)
                | (go_at_call 38; (with_reducible refine (rback_hit j ys K1 hF hxl hx hys).mono ?_); rintro e w4 ⟨rfl, K3, g3⟩; have H3 := H1.grown g3 n1 n2; have hb3 := hb1.grown g3 hb1.size (fun k hk => by cases hk; exact hre2); have hck2 := g3.cell hck1 (by simpa using n6); clear g3)
                | fail)
            go_wp2_with (first
                  | (go_at_call 39; (with_reducible refine (taken_any _ _ _ _ _ H3 hF hxl2).mono ?_); rintro e w5 ⟨v5, rfl, o5, h5⟩; have H5 := H3.below h5; have K5 := K3.below h5; have hb5 := bel_then hb3 hb3.size h5)
                  | (go_at_call 40; (with_reducible refine (rtaken_any _ _ _ _ _ K5 hF hxl2).mono ?_); rintro e w6 ⟨v6, rfl, o6, h6⟩; have H6 := H5.below h6; have K6 := K5.below h6; have hb6 := bel_then hb5 hb5.size h6)
                  | fail)
            obtain ⟨A5, c5, rfl, q5⟩ := own_reads o5
            obtain ⟨A6, c6, rfl, q6⟩ := own_reads o6
            have p5 := q5.below h6
            have ch := K6.cells.2
            have hg2l := blk_lt K6.1
            have htl := tk_len F (ys) (ys).length
            have hsub : IntKind.i64.wrap (((ys).length : Int) - (tk F (ys) (ys).length).length) = ((ys).length : Int) - (tk F (ys) (ys).length).length := IntWalk.i64_in _ (by omega)
            have P5 := Lib.hid p5
            have P6 := Lib.hid q6
            clear p5 q6 q5 o5 o6 h5 h6
            go_region_held3 (fun w' => w'.cell? ⟨g2, 1, none⟩ = some (.slice (some ⟨r2, 0, none⟩) (ys).length (ys).length)) (first | exact ch | exact ch2)
              (first
                | (go_at_call 41; refine (left_any _ g r F _ (show Is 69 w6.drew g r F (ys) from H6) hF hxl2).mono ?_; rintro e w7 ⟨rfl, h7⟩; have ch2 := (h7.cell (p := ⟨g2, 1, none⟩) hg2l).trans ch; have H7 := (show Is 69 w6.drew g r F (ys) from H6).below h7; have K7 := (show Is 54 w6.drew g2 r2 F (ys) from K6).below h7; have Q5 := Lib.hid (ReadsInt.below (show ReadsInt w6.drew _ _ _ _ from P5.out) h7); have Q6 := Lib.hid (ReadsInt.below (show ReadsInt w6.drew _ _ _ _ from P6.out) h7); have hb7 := bel_then (bel_drew hb6) hb6.size h7; clear h7)
                | fail)
            go_wp2
            obtain ⟨ts, hts⟩ : ∃ ts, ts = tk F (ys) (ys).length := ⟨_, rfl⟩
            simp only [← hts] at Q5 Q6 ⊢
            have hts240 : ts.length ≤ 240 := by rw [hts]; omega
            clear hts hsub htl
            go_loopw [16] (fun t16 wr => ∃ (i N : Nat), i ≤ ts.length ∧ t16 = .int .i64 i ∧ wr = w7.drewN N) (fun t16 _ => ts.length - (intOf t16).toNat)
            case atStart => exact ⟨0, 0, by omega, rfl, rfl⟩
            case round =>
              obtain ⟨i, N, hi, rfl, rfl⟩ := hrel
              by_cases him : (i : Int) < (ts.length : Int)
              · obtain ⟨ad5, rfl, k5⟩ := Q5.out.2.2 (by omega)
                obtain ⟨ad6, rfl, k6⟩ := Q6.out.2.2 (by omega)
                have e5 : w7.cell? (ad5.add i) = some (.int .i64 (ts.getD i 0)) := k5 i (by omega)
                have e6 : w7.cell? (ad6.add i) = some (.int .i64 (ts.getD i 0)) := k6 i (by omega)
                have hi0 : (0 : Int) ≤ (i : Int) := by omega
                clear k5 k6
                go_wp2
                go_quiet (fail)
                go_wp2
                go_roundw
                case rel => exact ⟨i + 1, _, by omega, by go_num, rfl⟩
                case measure => simp [intOf]; omega
              · obtain rfl : i = ts.length := by omega
                go_wp2
                go_roundw
                case rel => exact ⟨k + 1, ys, by omega, by go_num, hxl2, H7, K7, bel_drewN hb7 _⟩
                case measure => simp [intOf]; omega
      · obtain rfl : k = l.length := by omega
        go_wp2_with (first
          | (go_at_call 35; (with_reducible refine (take_none _).mono ?_); rintro e w3 ⟨rfl, rfl⟩)
          | (go_at_call 37; (with_reducible refine (back_none _ _).mono ?_); rintro e w4 ⟨rfl, n4, rfl⟩)
          | (go_at_call 41; (with_reducible refine (left_none _).mono ?_); rintro e w5 ⟨rfl, rfl⟩)
          | (go_at_call 39; (with_reducible refine (taken_none _).mono ?_); rintro e w6 ⟨rfl, rfl⟩)
          | fail)
        go_ret
        exact ⟨rfl, bel_drewN hb _⟩
end Go.Proofs.Ytoimmobljpegmaa.Stock
