/- The closed statement on one stock: taking and giving back, against a row of what is held. -/
import Derived.Test.YtoimmobljpegmaaStockL
namespace Go.Proofs.Ytoimmobljpegmaa.Stock
open Go.RowKit Go.Proofs.Ytoimmobljpegmaa.Mem
open Go.Proofs.YtoimmobljpegmaaW.PrintWords (bools nums print_append_num print_append_row print_make_of own_reads own_lt own_other own_lit nums_length)
set_option linter.unusedVariables false

theorem left_val {w : World} {g r : Nat} {f : Int} {xs : List Bool} (H : Is 69 w g r f xs) (hf : 0 ≤ f ∧ f ≤ 240) (hl : xs.length ≤ 240) :
    Calls Try.prog 41 #[.pointer (some ⟨g, 0, none⟩)] w fun e w' => e = .returned (.int .i64 (xs.count false)) ∧ Below w.heap.size w w' :=
  (left_any w g r f xs H hf hl).mono fun e w' ⟨he, hw⟩ => ⟨by rw [he]; have := tk_all f xs; congr 2; omega, hw⟩
theorem getD_app {xs ys : List Bool} {j : Nat} (h : j < xs.length) : (xs ++ ys).getD j false = xs.getD j false := by
  simp [List.getD_eq_getElem?_getD, List.getElem?_append_left h]
theorem set_app {xs ys : List Bool} {j : Nat} (u : Bool) (h : j < xs.length) : (xs ++ ys).set j u = xs.set j u ++ ys := by
  rw [List.set_append_left _ _ h]

set_option maxRecDepth 100000 in
set_option maxHeartbeats 4000000 in
theorem once (b0 : Int) (hb0 : 0 ≤ b0 ∧ b0 ≤ 255) (a : Option Addr) (b off cap : Nat) (l : List Int) (w : World) (hl : l.length ≤ 1152921504606846976) (ha : 0 < l.length → a = some ⟨b, off, none⟩) (hblt : 0 < l.length → b < w.heap.size)
    (hc : ∀ i, i < l.length → w.cell? ⟨b, off + i, none⟩ = some (.int .u8 (l.getD i 0))) (hw : ∀ n ∈ l, (Lit.int .u8 n).wf = true) :
    Calls Try.prog 10 #[.int .u8 b0, .slice a l.length cap] w fun e w' => e = .returned (.bool true) ∧ Below w.heap.size w w' := by
  have hb := Below.refl w.heap.size w
  have HC := Lib.hid hc
  have HA := Lib.hid ha
  have HB := Lib.hid hblt
  have HW := Lib.hid hw
  clear hc ha hblt hw
  have h0 := Int.tmod_nonneg 30 hb0.1
  have h2 := Int.tmod_lt_of_pos b0 (show (0 : Int) < 30 by decide)
  have he : Int.tmod b0 30 = b0 % 30 := Int.tmod_eq_emod_of_nonneg hb0.1
  rw [he] at h0 h2
  have hm1 : IntKind.u8.wrap (b0 % 30) = b0 % 30 := IntWalk.u8_in _ (by omega)
  obtain ⟨n, hn⟩ : ∃ n : Nat, 1 + b0 % 30 = (n : Int) := ⟨(1 + b0 % 30).toNat, by omega⟩
  have hn0 : 1 ≤ n ∧ n ≤ 30 := by omega
  by_cases h20 : 20 < (l.length : Int)
  · go_enter Try.func10, Try.ntmps10
    go_wp2_with (first
      | (go_at_call 32; refine (begun _).mono ?_; rintro e w1 ⟨rfl, hb1⟩; replace hb := bel_chain hb hb1; clear hb1))
    go_ret
    exact ⟨rfl, hb⟩
  · have hn1 : IntKind.i64.wrap (1 + b0 % 30) = (n : Int) := by rw [IntWalk.i64_in _ (by omega)]; omega
    clear h0 h2
    go_enter Try.func10, Try.ntmps10
    go_wp2_with (first
      | (go_at_call 32; refine (begun _).mono ?_; rintro e w1 ⟨rfl, hb1⟩; replace hb := bel_chain hb hb1; clear hb1)
      | (go_at_call 33; refine (new_val (F := 7) (xs := List.replicate n false) _ (by decide) (by unfold cl; rw [if_neg (by omega), if_neg (by omega)]; rfl)).mono ?_; rintro e w2 ⟨g, r, rfl, H, hb1, hg, hr⟩))
    have R0 := blk_new w2 (.cells (bools (List.replicate 40 false)).toArray 55)
    have hbb := bel_alloc (bel_then hb hb.size hb1) (.cells (bools (List.replicate 40 false)).toArray 55)
    have H0 : Is 69 (w2.alloc (.cells (bools (List.replicate 40 false)).toArray 55)) g r 7 (List.replicate n false) := ⟨blk_alloc H.1 _, blk_alloc H.2.1 _, H.2.2⟩
    have hgl := blk_lt H.1
    have hrl := blk_lt H.2.1
    obtain ⟨h, hh⟩ : ∃ h, h = w2.heap.size := ⟨_, rfl⟩
    clear H
    simp only [← hh] at R0 hgl hrl ⊢
    change Row 55 _ h _ at R0
    generalize hW : w2.alloc (.cells (bools (List.replicate 40 false)).toArray 55) = W0 at R0 hbb H0
    have hW2 : w2.alloc (.cells #[.bool false, .bool false, .bool false, .bool false, .bool false, .bool false, .bool false, .bool false, .bool false, .bool false, .bool false, .bool false, .bool false, .bool false, .bool false, .bool false, .bool false, .bool false, .bool false, .bool false, .bool false, .bool false, .bool false, .bool false, .bool false, .bool false, .bool false, .bool false, .bool false, .bool false, .bool false, .bool false, .bool false, .bool false, .bool false, .bool false, .bool false, .bool false, .bool false, .bool false] 55) = W0 := hW
    simp only [hW2]
    clear hW hW2 hh
    have hge : w.heap.size ≤ g := Nat.le_trans hb.size hg
    have hre : w.heap.size ≤ r := Nat.le_trans hb.size hr
    clear hb hb1 hg hr
    go_loopw [8, 9] (fun t8 t9 wr => ∃ (k : Nat) (xs : List Bool), k ≤ n + l.length ∧ t9 = .int .i64 k ∧ xs.length = n ∧ t8 = .int .i64 (xs.count false) ∧ Is 69 wr g r 7 xs ∧ Row 55 wr h (xs ++ List.replicate (40 - n) false) ∧ Below w.heap.size w wr) (fun _ t9 _ => n + l.length - (intOf t9).toNat)
    case atStart => exact ⟨0, List.replicate n false, by omega, rfl, by simp, by simp, H0, by rw [List.replicate_append_replicate, show n + (40 - n) = 40 by omega]; exact R0, hbb⟩
    case round =>
      obtain ⟨k, xs, hk, rfl, hxl, rfl, H, R, hb⟩ := hrel

      have d7 : (0 : Int) ≤ 7 ∧ (7 : Int) ≤ 240 := by decide
      by_cases hlt : (k : Int) < (n : Int) + l.length
      · have hs1 : IntKind.i64.wrap ((n : Int) + l.length) = (n : Int) + l.length := IntWalk.i64_in _ (by omega)
        cases hx : least xs with
        | none =>
          have hz := least_count hx
          by_cases hkl : (k : Int) < l.length
          · obtain ⟨v, hv⟩ : ∃ v, v = l.getD k 0 := ⟨_, rfl⟩
            have hv0 : 0 ≤ v ∧ v ≤ 255 := bounds_u8 (HW.out v (by rw [hv, List.getD_eq_getElem?_getD, List.getElem?_eq_getElem (by omega)]; exact List.getElem_mem _))
            have hcv : w.cell? ⟨b, off + k, none⟩ = some (.int .u8 v) := by rw [hv]; exact HC.out k (by omega)
            have hbl : b < w.heap.size := HB.out (by omega)
            clear hv
            obtain rfl := HA.out (by omega)
            have he2 : Int.tmod v n = v % n := Int.tmod_eq_emod_of_nonneg hv0.1
            have hm0 := Int.emod_nonneg v (show (n : Int) ≠ 0 by omega)
            have hm2 := Int.emod_lt_of_pos v (show (0 : Int) < n by omega)
            obtain ⟨q, hq⟩ : ∃ q : Nat, v % (n : Int) = (q : Int) := ⟨(v % (n : Int)).toNat, by omega⟩
            have hqn : q < n := by omega
            have hs5 : IntKind.i64.wrap v = v := IntWalk.i64_in _ (by omega)
            have hs6 : IntKind.i64.wrap (q : Int) = (q : Int) := IntWalk.i64_in _ (by omega)
            have hs7 : IntKind.i64.wrap (7 + (q : Int)) = 7 + (q : Int) := IntWalk.i64_in _ (by omega)
            have hnz : ¬ ((n : Int) = 0) := by omega
            have hqa : (0 : Int) ≤ (q : Int) := by omega
            have hqb : (q : Int) < 40 := by omega
            have hle : w.heap.size ≤ h := by omega
            clear hm0 hm2
            have hzi : ((xs.count false : Nat) : Int) = 0 := by omega
            simp only [hzi]
            go_wp2_with (first
              | (go_at_call 35; (with_reducible refine (take_full H d7 (by omega) hx).mono ?_); rintro e w3 ⟨rfl, H1, g1⟩; have R1 := R.grown g1 (by omega); have hb1 := hb.grown g1 hb.size (fun k hk => by cases hk; exact hre); have hc3 := (hb1.cell (p := ⟨b, off + k, none⟩) hbl).trans hcv; clear g1)
              | fail)
            have cq := R1.cellAt q (by simp; omega)
            cases hvq : xs.getD q false with
            | true =>
              rw [getD_app (by skip; omega), hvq] at cq
              have hbq : backF 7 (xs) (7 + (q : Int)) = some q := by
                unfold backF
                rw [show (7 + (q : Int) - 7).toNat = q by omega, hvq]
                exact if_pos ⟨by omega, by skip; omega, rfl⟩
              have HV := Lib.hid hvq
              have hc1 : IntKind.i64.wrap (0 + 1) = 1 := by decide
              clear hvq
              go_region_held3 (fun w' => w'.cell? ⟨h, q, none⟩ = some (.bool true)) (first | exact cq | exact cq5)
                (first
                  | (go_at_call 37; refine (back_hit q _ (show Is 69 (w3).drew g r 7 (xs) from H1) d7 (by skip; omega) hbq rfl).mono ?_; rintro e w5 ⟨rfl, H5, g5⟩; have cq5 := g5.cell (show (w3).drew.cell? ⟨h, q, none⟩ = some (.bool true) from cq) (by simpa using (show h ≠ r by omega)); have R5 := (show Row 55 (w3).drew h _ from R1).grown g5 (by omega); have hb5 := (bel_drew hb1).grown g5 (hb1).size (fun k hk => by cases hk; exact hre); clear g5)
                  | fail)
              have f5 := R5.free q
              go_wp2
              go_roundw
              case rel => exact ⟨k + 1, (xs).set q false, by omega, by go_num, by simp [hxl], by rw [count_back HV.out, hz]; rfl, H5.far ⟨h, q, none⟩ (show g ≠ h by omega) (show r ≠ h by omega) _, by have := R5.set q false; rw [set_app _ (by skip; omega)] at this; exact this, bel_set hb5 hle _ _⟩
              case measure => simp [intOf]; omega
            | false =>
              rw [getD_app (by skip; omega), hvq] at cq
              have hbq : backF 7 (xs) (7 + (q : Int)) = none := by
                unfold backF
                rw [show (7 + (q : Int) - 7).toNat = q by omega, hvq]
                simp
              have HV := Lib.hid hvq
              have hc1 : IntKind.i64.wrap (0 + 1) = 1 := by decide
              clear hvq
              go_region_held3 (fun w' => w'.cell? ⟨h, q, none⟩ = some (.bool false)) (first | exact cq | exact cq5)
                (first
                  | (go_at_call 37; refine (back_miss (show Is 69 (w3).drew g r 7 (xs) from H1) d7 (by skip; omega) (by omega) hbq).mono ?_; rintro e w5 ⟨rfl, H5, g5⟩; have cq5 := g5.cell (show (w3).drew.cell? ⟨h, q, none⟩ = some (.bool false) from cq) (by simpa using (show h ≠ r by omega)); have R5 := (show Row 55 (w3).drew h _ from R1).grown g5 (by omega); have hb5 := (bel_drew hb1).grown g5 (hb1).size (fun k hk => by cases hk; exact hre); clear g5)
                  | fail)
              have f5 := R5.free q
              go_wp2
              go_roundw
              case rel => exact ⟨k + 1, xs, by omega, by go_num, by simp [hxl], by rw [hz]; rfl, H5.far ⟨h, q, none⟩ (show g ≠ h by omega) (show r ≠ h by omega) _, by have := R5.set q false; rw [set_app _ (by skip; omega), set_same HV.out] at this; exact this, bel_set hb5 hle _ _⟩
              case measure => simp [intOf]; omega
          · simp only [hz]
            go_wp2_with (first
              | (go_at_call 35; (with_reducible refine (take_full H d7 (by omega) hx).mono ?_); rintro e w3 ⟨rfl, H1, g1⟩; have R1 := R.grown g1 (by omega); have hb1 := hb.grown g1 hb.size (fun k hk => by cases hk; exact hre); clear g1)
              | fail)
            go_roundw
            case rel => exact ⟨k + 1, xs, by omega, by go_num, hxl, by rw [hz]; rfl, H1, R1, hb1⟩
            case measure => simp [intOf]; omega
        | some j =>
          by_cases hkl : (k : Int) < l.length
          · obtain ⟨v, hv⟩ : ∃ v, v = l.getD k 0 := ⟨_, rfl⟩
            have hv0 : 0 ≤ v ∧ v ≤ 255 := bounds_u8 (HW.out v (by rw [hv, List.getD_eq_getElem?_getD, List.getElem?_eq_getElem (by omega)]; exact List.getElem_mem _))
            have hcv : w.cell? ⟨b, off + k, none⟩ = some (.int .u8 v) := by rw [hv]; exact HC.out k (by omega)
            have hbl : b < w.heap.size := HB.out (by omega)
            clear hv
            obtain rfl := HA.out (by omega)
            have he2 : Int.tmod v n = v % n := Int.tmod_eq_emod_of_nonneg hv0.1
            have hm0 := Int.emod_nonneg v (show (n : Int) ≠ 0 by omega)
            have hm2 := Int.emod_lt_of_pos v (show (0 : Int) < n by omega)
            obtain ⟨q, hq⟩ : ∃ q : Nat, v % (n : Int) = (q : Int) := ⟨(v % (n : Int)).toNat, by omega⟩
            have hqn : q < n := by omega
            have hs5 : IntKind.i64.wrap v = v := IntWalk.i64_in _ (by omega)
            have hs6 : IntKind.i64.wrap (q : Int) = (q : Int) := IntWalk.i64_in _ (by omega)
            have hs7 : IntKind.i64.wrap (7 + (q : Int)) = 7 + (q : Int) := IntWalk.i64_in _ (by omega)
            have hnz : ¬ ((n : Int) = 0) := by omega
            have hqa : (0 : Int) ≤ (q : Int) := by omega
            have hqb : (q : Int) < 40 := by omega
            have hle : w.heap.size ≤ h := by omega
            clear hm0 hm2
            obtain ⟨hjl, hjv, hjall⟩ := least_spec hx
            have hpos := least_pos hx
            have hcnt := count_taken hjl hjv
            have ck := R.cellAt j (by simp; omega)
            rw [getD_app hjl, hjv] at ck
            have hs2 : IntKind.i64.wrap (7 + (n : Int)) = 7 + (n : Int) := IntWalk.i64_in _ (by omega)
            have hs3 : IntKind.i64.wrap (7 + (j : Int) - 7) = (j : Int) := by rw [IntWalk.i64_in _ (by omega)]; omega
            obtain ⟨c, hc⟩ : ∃ c, c = xs.count false - 1 := ⟨_, rfl⟩
            have hs4 : IntKind.i64.wrap ((xs.count false : Int) - 1) = (c : Int) := by rw [IntWalk.i64_in _ (by have := List.count_le_length (a := false) (l := xs); omega)]; omega
            rw [← hc] at hcnt
            have hc40 : c ≤ 40 := by have := List.count_le_length (a := false) (l := xs); omega
            clear hc
            have hd1 : decide ((7 : Int) + j < 7) = false := by simp; omega
            have hd2 : decide ((7 : Int) + n ≤ 7 + j) = false := by simp; omega
            have Hall := Lib.hid hjall
            have Hv := Lib.hid hjv
            clear hjall hjv
            go_wp2_with (first
              | (go_at_call 35; (with_reducible refine (take_hit j _ H d7 (by omega) hx rfl).mono ?_); rintro e w3 ⟨rfl, H1, g1⟩; have R1 := R.grown g1 (by omega); have ck1 := g1.cell ck (by simpa using (show h ≠ r by omega)); have hb1 := hb.grown g1 hb.size (fun k hk => by cases hk; exact hre); have hc3 := (hb1.cell (p := ⟨b, off + k, none⟩) hbl).trans hcv; clear g1)
              | fail)
            have hjr : (w3.heap.size : Int) = w3.heap.size := rfl
            go_loop [12] (fun t12 => ∃ i : Nat, i ≤ j ∧ t12 = .int .i64 i) (fun t12 => j - (intOf t12).toNat)
            case atStart => exact ⟨0, by omega, rfl⟩
            case round =>
              obtain ⟨i, hi, rfl⟩ := hrel
              by_cases hij : (i : Int) < (j : Int)
              · have ci := R1.cellAt i (by simp; omega)
                rw [getD_app (by omega), Hall.out i (by omega)] at ci
                go_wp2
                go_round
                case rel => exact ⟨i + 1, by omega, by go_num⟩
                case measure => simp [intOf]; omega
              · obtain rfl : i = j := by omega
                have fj := R1.free i
                have H4 := H1.far ⟨h, i, none⟩ (show g ≠ h by omega) (show r ≠ h by omega) (.bool true)
                have R4 := R1.set i true
                rw [set_app _ hjl] at R4
                have hb4 := bel_set hb1 hle i (.bool true)
                have hc4 := (hb4.cell (p := ⟨b, off + k, none⟩) hbl).trans hcv
                have cq := R4.cellAt q (by simp; omega)
                go_wp2
                cases hvq : (xs.set i true).getD q false with
                | true =>
                  rw [getD_app (by simp only [List.length_set]; omega), hvq] at cq
                  have hbq : backF 7 (xs.set i true) (7 + (q : Int)) = some q := by
                    unfold backF
                    rw [show (7 + (q : Int) - 7).toNat = q by omega, hvq]
                    exact if_pos ⟨by omega, by simp only [List.length_set]; omega, rfl⟩
                  have HV := Lib.hid hvq
                  have hc1 : IntKind.i64.wrap ((c : Int) + 1) = (c : Int) + 1 := IntWalk.i64_in _ (by omega)
                  clear hvq
                  go_region_held3 (fun w' => w'.cell? ⟨h, q, none⟩ = some (.bool true)) (first | exact cq | exact cq5)
                    (first
                      | (go_at_call 37; refine (back_hit q _ (show Is 69 (w3.setCell ⟨h, i, none⟩ (.bool true)).drew g r 7 (xs.set i true) from H4) d7 (by simp only [List.length_set]; omega) hbq rfl).mono ?_; rintro e w5 ⟨rfl, H5, g5⟩; have cq5 := g5.cell (show (w3.setCell ⟨h, i, none⟩ (.bool true)).drew.cell? ⟨h, q, none⟩ = some (.bool true) from cq) (by simpa using (show h ≠ r by omega)); have R5 := (show Row 55 (w3.setCell ⟨h, i, none⟩ (.bool true)).drew h _ from R4).grown g5 (by omega); have hb5 := (bel_drew hb4).grown g5 (hb4).size (fun k hk => by cases hk; exact hre); clear g5)
                      | fail)
                  have f5 := R5.free q
                  go_wp2
                  go_roundw
                  case rel => exact ⟨k + 1, (xs.set i true).set q false, by omega, by go_num, by simp [hxl], by rw [count_back HV.out, hcnt]; rfl, H5.far ⟨h, q, none⟩ (show g ≠ h by omega) (show r ≠ h by omega) _, by have := R5.set q false; rw [set_app _ (by simp only [List.length_set]; omega)] at this; exact this, bel_set hb5 hle _ _⟩
                  case measure => simp [intOf]; omega
                | false =>
                  rw [getD_app (by simp only [List.length_set]; omega), hvq] at cq
                  have hbq : backF 7 (xs.set i true) (7 + (q : Int)) = none := by
                    unfold backF
                    rw [show (7 + (q : Int) - 7).toNat = q by omega, hvq]
                    simp
                  have HV := Lib.hid hvq
                  have hc1 : IntKind.i64.wrap ((c : Int) + 1) = (c : Int) + 1 := IntWalk.i64_in _ (by omega)
                  clear hvq
                  go_region_held3 (fun w' => w'.cell? ⟨h, q, none⟩ = some (.bool false)) (first | exact cq | exact cq5)
                    (first
                      | (go_at_call 37; refine (back_miss (show Is 69 (w3.setCell ⟨h, i, none⟩ (.bool true)).drew g r 7 (xs.set i true) from H4) d7 (by simp only [List.length_set]; omega) (by omega) hbq).mono ?_; rintro e w5 ⟨rfl, H5, g5⟩; have cq5 := g5.cell (show (w3.setCell ⟨h, i, none⟩ (.bool true)).drew.cell? ⟨h, q, none⟩ = some (.bool false) from cq) (by simpa using (show h ≠ r by omega)); have R5 := (show Row 55 (w3.setCell ⟨h, i, none⟩ (.bool true)).drew h _ from R4).grown g5 (by omega); have hb5 := (bel_drew hb4).grown g5 (hb4).size (fun k hk => by cases hk; exact hre); clear g5)
                      | fail)
                  have f5 := R5.free q
                  go_wp2
                  go_roundw
                  case rel => exact ⟨k + 1, xs.set i true, by omega, by go_num, by simp [hxl], by rw [hcnt], H5.far ⟨h, q, none⟩ (show g ≠ h by omega) (show r ≠ h by omega) _, by have := R5.set q false; rw [set_app _ (by simp only [List.length_set]; omega), set_same HV.out] at this; exact this, bel_set hb5 hle _ _⟩
                  case measure => simp [intOf]; omega
          · obtain ⟨hjl, hjv, hjall⟩ := least_spec hx
            have hpos := least_pos hx
            have hcnt := count_taken hjl hjv
            have ck := R.cellAt j (by simp; omega)
            rw [getD_app hjl, hjv] at ck
            have hs2 : IntKind.i64.wrap (7 + (n : Int)) = 7 + (n : Int) := IntWalk.i64_in _ (by omega)
            have hs3 : IntKind.i64.wrap (7 + (j : Int) - 7) = (j : Int) := by rw [IntWalk.i64_in _ (by omega)]; omega
            obtain ⟨c, hc⟩ : ∃ c, c = xs.count false - 1 := ⟨_, rfl⟩
            have hs4 : IntKind.i64.wrap ((xs.count false : Int) - 1) = (c : Int) := by rw [IntWalk.i64_in _ (by have := List.count_le_length (a := false) (l := xs); omega)]; omega
            rw [← hc] at hcnt
            have hc40 : c ≤ 40 := by have := List.count_le_length (a := false) (l := xs); omega
            clear hc
            have hd1 : decide ((7 : Int) + j < 7) = false := by simp; omega
            have hd2 : decide ((7 : Int) + n ≤ 7 + j) = false := by simp; omega
            have Hall := Lib.hid hjall
            have Hv := Lib.hid hjv
            clear hjall hjv
            go_wp2_with (first
              | (go_at_call 35; (with_reducible refine (take_hit j _ H d7 (by omega) hx rfl).mono ?_); rintro e w3 ⟨rfl, H1, g1⟩; have R1 := R.grown g1 (by omega); have ck1 := g1.cell ck (by simpa using (show h ≠ r by omega)); have hb1 := hb.grown g1 hb.size (fun k hk => by cases hk; exact hre); clear g1)
              | fail)
            have hjr : (w3.heap.size : Int) = w3.heap.size := rfl
            go_loop [12] (fun t12 => ∃ i : Nat, i ≤ j ∧ t12 = .int .i64 i) (fun t12 => j - (intOf t12).toNat)
            case atStart => exact ⟨0, by omega, rfl⟩
            case round =>
              obtain ⟨i, hi, rfl⟩ := hrel
              by_cases hij : (i : Int) < (j : Int)
              · have ci := R1.cellAt i (by simp; omega)
                rw [getD_app (by omega), Hall.out i (by omega)] at ci
                go_wp2
                go_round
                case rel => exact ⟨i + 1, by omega, by go_num⟩
                case measure => simp [intOf]; omega
              · obtain rfl : i = j := by omega
                have fj := R1.free i
                go_wp2
                go_roundw
                case rel => exact ⟨k + 1, xs.set i true, by omega, by go_num, by simp [hxl], by rw [hcnt], H1.far ⟨h, i, none⟩ (show g ≠ h by omega) (show r ≠ h by omega) _, by have := R1.set i true; rw [set_app _ hjl] at this; exact this, bel_set hb1 (show w.heap.size ≤ h by omega) _ _⟩
                case measure => simp [intOf]; omega
      · obtain rfl : k = n + l.length := by omega
        have hs1 : IntKind.i64.wrap ((n : Int) + l.length) = (n : Int) + l.length := IntWalk.i64_in _ (by omega)
        go_wp2_with (first
          | (go_at_call 41; (with_reducible refine (left_val H d7 (by omega)).mono ?_); rintro e w3 ⟨rfl, h3⟩; have hb1 := bel_then hb hb.size h3; clear h3)
          | fail)
        go_ret
        exact ⟨by simp, hb1⟩
end Go.Proofs.Ytoimmobljpegmaa.Stock
