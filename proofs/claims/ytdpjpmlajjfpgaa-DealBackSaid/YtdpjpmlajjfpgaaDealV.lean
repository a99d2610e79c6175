/- What may be is put and taken, cut off or longer it is none: DealBack walked. -/
import Derived.Test.YtdpjpmlajjfpgaaDealY
import Derived.Test.YtdpjpmlajjfpgaaCRow
import Derived.Laws.MakeOwn
import Derived.Deep.DeepCutAuto
namespace Go.Proofs.Ytdpjpmlajjfpgaa.Deal
open Go Go.RowKit Go.Proofs.Ytdpjpmlajjfpgaa.Mem Go.Proofs.Ytdpjpmlajjfpgaa.Kept Go.Proofs.Ytdpjpmlajjfpgaa.PDealK Go.Proofs.Ytdpjpmlajjfpgaa.PDealQ
open Go.Proofs.YtdpjpmlajjfpgaaW.PrintWords hiding add_at blk_alloc blk_below blk_cell blk_drewN blk_far blk_lt blk_new blk_set
set_option linter.unusedVariables false
set_option linter.unusedSimpArgs false
theorem bad_tuple : badD = (0, 0, false, [], [], -2) := rfl
theorem own_c {w : World} {B n : Nat} {v : Value} {xs : List Int} (ho : w.ownsRow B 5 1 v xs.length (nums .u8 xs)) (hn : xs.length = n) : ∃ A c, v = .slice A n c ∧ n ≤ c ∧ Kd.C (Kd.int .u8) w A n xs := r_open (Kd.R_of_own (ok := fun _ => True) ho (fun _ _ => trivial)) hn
theorem reads_n {w : World} {A : Option Addr} {n : Nat} {l : List Int} (hn : l.length = n) (h : Kd.C (Kd.int .u8) w A n l) : ReadsInt w .u8 A n l := by
  subst hn
  exact reads_c h
theorem take_n {w : World} {A : Option Addr} {n j : Nat} {l : List Int} (hn : l.length = n) (h : Kd.C (Kd.int .u8) w A n l) (hj : j ≤ n) : (l.take j).length = j ∧ Kd.C (Kd.int .u8) w A j (l.take j) := by
  subst hn
  have hl : (l.take j).length = j := by rw [List.length_take]; omega
  have := Kd.C_take h hj
  rw [hl] at this
  exact ⟨hl, this⟩
set_option maxRecDepth 100000 in
set_option maxHeartbeats 4000000 in
theorem back_any (W : World) (K S : Int) (z : Bool) (A : Option Addr) (c : Nat) (rv : List RV) (B : Option Addr) (e : Nat) (sp : List SP) (cut more : Int)
    (h1 : rv.length ≤ c) (h2 : Kd.C k40 W A rv.length rv) (h3 : sp.length ≤ e) (h4 : Kd.C k42 W B sp.length sp) (hcut : 0 ≤ cut ∧ cut ≤ 255) (hmore : 0 ≤ more ∧ more ≤ 255) :
    Calls Try.prog 5 #[.agg #[.int .i64 K, .int .i64 S, .bool z, .slice A rv.length c, .slice B sp.length e], .int .u8 cut, .int .u8 more] W fun e w' => e = .returned (.bool true) ∧ Below W.heap.size W w' := by
  have hu25 := Try.underlying25
  have H1 := Lib.hid h1
  have H2 := Lib.hid h2
  have H3 := Lib.hid h3
  have H4 := Lib.hid h4
  obtain ⟨n, hn⟩ : ∃ n, rv.length = n := ⟨_, rfl⟩
  obtain ⟨m, hm⟩ : ∃ m, sp.length = m := ⟨_, rfl⟩
  rw [hn] at H1 H2 ⊢
  rw [hm] at H3 H4 ⊢
  have HN := Lib.hid hn
  have HM := Lib.hid hm
  obtain ⟨BX, hBX⟩ : ∃ x : Array Value, #[.int .i64 K, .int .i64 S, .bool z, .slice A n c, .slice B m e] = x := ⟨_, rfl⟩
  have BK0 := Mem.blk_new W (.cells #[.int .i64 K, .int .i64 S, .bool z, .slice A n c, .slice B m e] 25)
  have HBL := Lib.hid (bel_alloc (Below.refl W.heap.size W) (.cells #[.int .i64 K, .int .i64 S, .bool z, .slice A n c, .slice B m e] 25))
  have HBK := Lib.hid BK0
  clear h1 h2 h3 h4 hn hm BK0 hBX BX
  cases hl : lightB rv sp with
  | false =>
    have HL := Lib.hid hl
    clear hl
    go_enter Try.func5, Try.ntmps5
    go_wp2_with (first
      | (go_at_call 14; (with_reducible refine (begun_any _).mono ?_); rintro e w1 ⟨rfl, b1⟩; have HB1 := Lib.hid b1; have q1 := cells5 (blk_below HBK.out b1); clear b1)
      | (go_at_call 15; (with_reducible refine (light_c _ K S z _ HN.out HM.out (Kd.C_below H2.out (bel_chain HBL.out HB1.out)) H1.out (Kd.C_below H4.out (bel_chain HBL.out HB1.out)) H3.out HL.out).mono ?_); rintro e w2 ⟨rfl, b2⟩; have HB2 := Lib.hid b2; clear b2 q1)
      | fail)
    go_ret
    exact ⟨rfl, bel_chain (bel_chain HBL.out HB1.out) HB2.out⟩
  | true =>
    have HL := Lib.hid hl
    have hl' := hl
    unfold lightB at hl'
    simp only [Bool.and_eq_true, decide_eq_true_eq] at hl'
    have hn8 : n ≤ 8 := by rw [← HN.out]; exact hl'.1
    have hm12 : m ≤ 12 := by rw [← HM.out]; exact hl'.2
    clear hl hl'
    obtain ⟨b, hb⟩ : ∃ b, putD K S z rv sp = b := ⟨_, rfl⟩
    obtain ⟨q, hq⟩ : ∃ q, b.length = q := ⟨_, rfl⟩
    have HBY := Lib.hid (show ∀ x ∈ b, 0 ≤ x ∧ x ≤ 255 by rw [← hb]; exact putD_bytes _ _ _ _ _)
    cases hmy : mayD K S z rv sp with
    | false =>
      have hq0 : q = 0 := by rw [← hq, ← hb]; unfold putD; rw [if_neg (by rw [hmy]; decide)]; rfl
      subst hq0
      have HP := Lib.hid hb
      have HQ := Lib.hid hq
      have HMY := Lib.hid hmy
      clear hb hq hmy
      go_enter Try.func5, Try.ntmps5
      go_wp2_with (first
        | (go_at_call 14; (with_reducible refine (begun_any _).mono ?_); rintro e w1 ⟨rfl, b1⟩; have HB1 := Lib.hid (bel_chain HBL.out b1); have HK1 := Lib.hid (blk_below HBK.out b1); have q1 := cells5 HK1.out; clear b1)
        | (go_at_call 15; (with_reducible refine (light_c _ K S z _ HN.out HM.out (Kd.C_below H2.out HB1.out) H1.out (Kd.C_below H4.out HB1.out) H3.out HL.out).mono ?_); rintro e w2 ⟨rfl, b2⟩; have HB2 := Lib.hid (bel_chain HB1.out b2); have HK2 := Lib.hid (blk_below HK1.out b2); clear b2 q1; have q2 := cells5 HK2.out)
        | (go_at_call 21; (with_reducible refine (put_c _ K S z HN.out HM.out (Kd.C_below H2.out HB2.out) H1.out (Kd.C_below H4.out HB2.out) H3.out HP.out HQ.out).mono ?_); rintro e w3 ⟨A3, c3, rfl, g3, r3, b3⟩; have HB3 := Lib.hid (bel_chain HB2.out b3); have HK3 := Lib.hid (blk_below HK2.out b3); clear b3 r3 q2; have q3 := cells5 HK3.out)
        | (go_at_call 19; (with_reducible refine (Deal.may_c _ K S z _ HN.out HM.out (Kd.C_below H2.out HB3.out) H1.out (Kd.C_below H4.out HB3.out) H3.out HMY.out).mono ?_); rintro e w4 ⟨rfl, b4⟩; have HB4 := Lib.hid (bel_chain HB3.out b4); clear b4 q3)
        | fail)
      go_ret
      exact ⟨rfl, HB4.out⟩
    | true =>
      have hlen := putD_len hmy
      rw [hb, hq, HN.out, HM.out] at hlen
      have HT := Lib.hid (show takeD b = (K, S, z, rv, sp, 0) by rw [← hb]; exact take_put hmy)
      have hsum : b.length = 5 + 2 * nR b + 3 * nS b := by rw [← hb, nR_put hmy, nS_put hmy, putD_len hmy]
      obtain ⟨j, hj⟩ : ∃ j : Nat, cut % (q : Int) = j := ⟨(cut % (q : Int)).toNat, by have := Int.emod_nonneg cut (show (q : Int) ≠ 0 by omega); omega⟩
      have hjq : j < q := by have := Int.emod_lt_of_pos cut (show (0 : Int) < (q : Int) by omega); omega
      have HC := Lib.hid (show takeD (b.take j) = (0, 0, false, [], [], -2) from cut_bad HBY.out hsum (by omega))
      have HX := Lib.hid (show takeD (b ++ [more]) = (0, 0, false, [], [], -2) from more_bad HBY.out hsum hmore)
      have HCB := Lib.hid (show ∀ x ∈ b.take j, 0 ≤ x ∧ x ≤ 255 from fun x hx => HBY.out x (List.mem_of_mem_take hx))
      have HXB := Lib.hid (show ∀ x ∈ b ++ [more], 0 ≤ x ∧ x ≤ 255 from fun x hx => by rcases List.mem_append.1 hx with hx | hx; exact HBY.out x hx; rw [List.mem_singleton.1 hx]; exact hmore)
      have HSM := Lib.hid (same_f (k := 40) K S z rv sp (by rw [HN.out]; omega) (by rw [HM.out]; omega) (by rw [HN.out, HM.out]; omega))
      have HP := Lib.hid hb
      have HQ := Lib.hid hq
      have HMY := Lib.hid hmy
      have hb1 : IntKind.i64.wrap cut = cut := IntWalk.i64_in _ (by omega)
      have hb2 : Int.tmod cut (q : Int) = (j : Int) := by rw [← hj]; exact Int.tmod_eq_emod_of_nonneg hcut.1
      have hb3 : IntKind.i64.wrap (j : Int) = j := IntWalk.i64_in _ (by omega)
      have hq0 : ((q : Int) == 0) = false := beq_eq_false_iff_ne.2 (by omega)
      have hq1 : IntKind.i64.wrap (2 * (n : Int)) = 2 * n := IntWalk.i64_in _ (by omega)
      have hq2 : IntKind.i64.wrap (5 + 2 * (n : Int)) = 5 + 2 * n := IntWalk.i64_in _ (by omega)
      have hq3 : IntKind.i64.wrap (3 * (m : Int)) = 3 * m := IntWalk.i64_in _ (by omega)
      have hq4 : IntKind.i64.wrap (5 + 2 * (n : Int) + 3 * m) = 5 + 2 * n + 3 * m := IntWalk.i64_in _ (by omega)
      have hq5 : ((q : Int) != 5 + 2 * n + 3 * m) = false := by rw [bne_eq_false_iff_eq]; omega
      have hq6 : ((q : Int) == 5 + 2 * n + 3 * m) = true := by rw [beq_iff_eq]; omega
      obtain ⟨i5, hi5, hz5, hs5, hy5⟩ := info_parts infoB
      have hqn := Lib.hid (show q ≤ 1000 by omega)
      have hjn := Lib.hid hjq
      clear hb hq hmy hj hlen hsum hcut hn8 hm12
      go_enter Try.func5, Try.ntmps5
      go_upto_region 12 with (first
        | (go_at_call 14; (with_reducible refine (begun_any _).mono ?_); rintro e w1 ⟨rfl, b1⟩; have HB1 := Lib.hid (bel_chain HBL.out b1); have HK1 := Lib.hid (blk_below HBK.out b1); have q1 := cells5 HK1.out; clear b1)
        | (go_at_call 15; (with_reducible refine (light_c _ K S z _ HN.out HM.out (Kd.C_below H2.out HB1.out) H1.out (Kd.C_below H4.out HB1.out) H3.out HL.out).mono ?_); rintro e w2 ⟨rfl, b2⟩; have HB2 := Lib.hid (bel_chain HB1.out b2); have HK2 := Lib.hid (blk_below HK1.out b2); clear b2 q1; have q2 := cells5 HK2.out)
        | (go_at_call 21; (with_reducible refine (put_c _ K S z HN.out HM.out (Kd.C_below H2.out HB2.out) H1.out (Kd.C_below H4.out HB2.out) H3.out HP.out HQ.out).mono ?_); rintro e w3 ⟨A3, c3, rfl, g3, r3, b3⟩; have HB3 := Lib.hid (bel_chain HB2.out b3); have HK3 := Lib.hid (blk_below HK2.out b3); have HR3 := Lib.hid r3; have G3 := Lib.hid g3; clear b3 r3 q2 g3; have q3 := cells5 HK3.out)
        | (go_at_call 19; (with_reducible refine (Deal.may_c _ K S z _ HN.out HM.out (Kd.C_below H2.out HB3.out) H1.out (Kd.C_below H4.out HB3.out) H3.out HMY.out).mono ?_); rintro e w4 ⟨rfl, b4⟩; have HB4 := Lib.hid (bel_chain HB3.out b4); have HK4 := Lib.hid (blk_below HK3.out b4); have HR4 := Lib.hid (Kd.C_below HR3.out b4); clear b4 q3; have q4 := cells5 HK4.out; have hct := cut_to (P := Try.prog) 26 5 .i64 Try.underlying26 hi5 A3 q c3 (j : Int) (by omega) (by have := hjn.out; omega) G3.out; rw [Int.toNat_natCast] at hct)
        | (go_at_call 17; (with_reducible refine (take_c _ HQ.out HR4.out G3.out HBY.out HT.out HN.out HM.out).mono ?_); rintro e w5 ⟨A5, c5, A6, c6, rfl, g5, r5, g6, r6, b5⟩; have G5 := Lib.hid g5; have G6 := Lib.hid g6; have HR5 := Lib.hid (Kd.C_alloc r5 (.cells #[.int .i64 K, .int .i64 S, .bool z, .slice A5 n c5, .slice A6 m c6] 25)); have HR6 := Lib.hid (Kd.C_alloc r6 (.cells #[.int .i64 K, .int .i64 S, .bool z, .slice A5 n c5, .slice A6 m c6] 25)); have b6 := bel_chain b5 (bel_alloc (Below.refl w5.heap.size w5) (.cells #[.int .i64 K, .int .i64 S, .bool z, .slice A5 n c5, .slice A6 m c6] 25)); have HB6 := Lib.hid (bel_chain HB4.out b6); have HK6 := Lib.hid (blk_below HK4.out b6); have HX6 := Lib.hid (blk_new w5 (.cells #[.int .i64 K, .int .i64 S, .bool z, .slice A5 n c5, .slice A6 m c6] 25)); have HR7 := Lib.hid (Kd.C_below HR4.out b6); clear b5 b6 r5 r6 g5 g6 q4)
        | (go_at_call 17; (with_reducible refine (take_c _ (take_n HQ.out HR7.out (Nat.le_of_lt hjn.out)).1 (take_n HQ.out HR7.out (Nat.le_of_lt hjn.out)).2 (by have := hjn.out; have := G3.out; omega) HCB.out HC.out (p := 0) (q := 0) rfl rfl).mono ?_); rintro e w7 ⟨A7, c7, A8, c8, rfl, _, _, _, _, b7⟩; have b8 := bel_chain b7 (bel_alloc (Below.refl w7.heap.size w7) (.cells #[.int .i64 0, .int .i64 0, .bool false, .slice A7 0 c7, .slice A8 0 c8] 25)); have HB9 := Lib.hid (bel_chain HB6.out b8); have HK9 := Lib.hid (blk_below HK6.out b8); have HX9 := Lib.hid (blk_below HX6.out b8); have HR9 := Lib.hid (Kd.C_below HR7.out b8); have HR5b := Lib.hid (Kd.C_below HR5.out b8); have HR6b := Lib.hid (Kd.C_below HR6.out b8); clear b7 b8)
        | fail)
      obtain ⟨w8, hw8⟩ : ∃ x, w7.alloc (.cells #[.int .i64 0, .int .i64 0, .bool false, .slice A7 0 c7, .slice A8 0 c8] 25) = x := ⟨_, rfl⟩
      rw [hw8] at HB9 HK9 HX9 HR9 HR5b HR6b
      rw [hw8]
      have HW := Lib.hid (show w7.heap.size < w8.heap.size by rw [← hw8]; show _ < (w7.heap.push _).size; simp)
      have HE := Lib.hid (own_lit w8 w8.heap.size 5 .u8 [] (Nat.le_refl _) (by simp))
      have HBE := Lib.hid (bel_alloc (Below.refl w8.heap.size w8) (.cells #[] 5))
      have HRE := Lib.hid (Kd.C_alloc HR9.out (.cells #[] 5))
      have HREb := Lib.hid (reads_n HQ.out HRE.out)
      have hqx : (b ++ [more]).length = q + 1 := by rw [List.length_append, HQ.out]; rfl
      have HQX := Lib.hid hqx
      clear hqx
      go_wp2_with (first
        | (at_builtin; refine print_append_row (w0 := w8) w8.heap.size rfl (.tmp 57) (.tmp 58) 26 5 .u8 1 rfl Try.underlying26 infoB (by decide) _ [] b A3 q c3 rfl rfl HE.out HREb.out HBE.out HBE.out.size (by have := hqn.out; simp; omega) ?_; intro v1 w9 ho1 hb1 hg1 hat1; clear hg1 hat1; have HO9 := Lib.hid (show w9.ownsRow w8.heap.size 5 1 v1 b.length (nums .u8 b) from ho1); have HBF := Lib.hid hb1; clear ho1 hb1)
        | (at_builtin; refine print_append_num (w0 := w8) (W := w9) w8.heap.size rfl (.tmp 59) (.tmp 61) 26 5 .u8 1 rfl Try.underlying26 infoB (by decide) v1 b more rfl rfl HO9.out HBF.out HBF.out.size (by have := hqn.out; have := HQ.out; omega) ?_; intro v2 w10 ho2 hb2 hg2 hat2; clear hg2 hat2; obtain ⟨A10, c10, rfl, g10, r10⟩ := own_c ho2 HQX.out; have G10 := Lib.hid g10; have HR10 := Lib.hid r10; have HBG := Lib.hid hb2; clear ho2 hb2 g10 r10)
        | (go_at_call 17; (with_reducible refine (take_c _ HQX.out HR10.out G10.out HXB.out HX.out (p := 0) (q := 0) rfl rfl).mono ?_); rintro e w11 ⟨A11, c11, A12, c12, rfl, _, _, _, _, b11⟩; have b12 := bel_chain HBG.out (bel_chain b11 (bel_alloc (Below.refl w11.heap.size w11) (.cells #[.int .i64 0, .int .i64 0, .bool false, .slice A11 0 c11, .slice A12 0 c12] 25))); have HBH := Lib.hid (bel_chain HB9.out b12); have HKH := Lib.hid (blk_below HK9.out b12); have HXH := Lib.hid (blk_below HX9.out b12); have HR5c := Lib.hid (Kd.C_below HR5b.out b12); have HR6c := Lib.hid (Kd.C_below HR6b.out b12); have qK := cells5 HKH.out; have qX := cells5 HXH.out; clear b11 b12)
        | (go_at_call 23; (with_reducible refine (same_c _ K S K S z z _ 40 HN.out HM.out HR5c.out G5.out HR6c.out G6.out HN.out HM.out (Kd.C_below H2.out HBH.out) H1.out (Kd.C_below H4.out HBH.out) H3.out HSM.out).mono ?_); rintro e w13 ⟨rfl, b13⟩; have HBI := Lib.hid (bel_chain HBH.out b13); clear b13 qK qX)
        | fail)
      go_ret
      exact ⟨rfl, HBI.out⟩
end Go.Proofs.Ytdpjpmlajjfpgaa.Deal
