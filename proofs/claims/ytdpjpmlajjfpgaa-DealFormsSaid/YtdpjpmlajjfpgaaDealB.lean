/- Whether deals do anything yet: begun, walked. -/
import Derived.Test.YtdpjpmlajjfpgaaPDealQx4
import Derived.Test.YtdpjpmlajjfpgaaPDealQx5
import Derived.Test.YtdpjpmlajjfpgaaCRow
import Derived.Test.YtdpjpmlajjfpgaaLoan
namespace Go.Proofs.Ytdpjpmlajjfpgaa.Deal
open Go Go.RowKit Go.Proofs.Ytdpjpmlajjfpgaa.Mem Go.Proofs.Ytdpjpmlajjfpgaa.Kept Go.Proofs.Ytdpjpmlajjfpgaa.PDealK Go.Proofs.Ytdpjpmlajjfpgaa.PDealQ
open Go.Proofs.YtdpjpmlajjfpgaaW.PrintWords hiding add_at blk_alloc blk_below blk_cell blk_drewN blk_far blk_lt blk_new blk_set
set_option linter.unusedVariables false
set_option linter.unusedSimpArgs false
theorem c_rv {w : World} {g : Nat} {a b : Int} (h : w.heap[g]? = some (.cells #[.int .i64 a, .int .i64 b] 40 (0, 0))) : Kd.C k40 w (some ⟨g, 0, Option.none⟩) [(⟨a, b⟩ : RV)].length [⟨a, b⟩] := by
  refine ⟨rfl, by simp, fun h0 => ⟨_, rfl, fun j p hj => ?_⟩⟩
  obtain ⟨hlt, rfl⟩ := List.getElem?_eq_some_iff.1 hj
  obtain rfl : j = 0 := by simp at hlt; exact hlt
  refine ⟨[.int .i64 a, .int .i64 b], rfl, k40_mk w ⟨a, b⟩, fun i u hi => ?_⟩
  show w.cell? ((⟨g, 0, none⟩ : Addr).add (0 * 2 + i)) = _
  rw [Kept.add_at, blk_cell h, show 0 + (0 * 2 + i) = i by omega]
  rw [← hi]
  rcases i with _ | _ | i <;> rfl
theorem c_sp {w : World} {g : Nat} {a b : Int} (h : w.heap[g]? = some (.cells #[.int .i64 a, .int .i64 b] 42 (0, 0))) : Kd.C k42 w (some ⟨g, 0, Option.none⟩) [(⟨a, b⟩ : SP)].length [⟨a, b⟩] := by
  refine ⟨rfl, by simp, fun h0 => ⟨_, rfl, fun j p hj => ?_⟩⟩
  obtain ⟨hlt, rfl⟩ := List.getElem?_eq_some_iff.1 hj
  obtain rfl : j = 0 := by simp at hlt; exact hlt
  refine ⟨[.int .i64 a, .int .i64 b], rfl, k42_mk w ⟨a, b⟩, fun i u hi => ?_⟩
  show w.cell? ((⟨g, 0, none⟩ : Addr).add (0 * 2 + i)) = _
  rw [Kept.add_at, blk_cell h, show 0 + (0 * 2 + i) = i by omega]
  rw [← hi]
  rcases i with _ | _ | i <;> rfl
/-- A row of bytes, as it is converted to a string. -/
theorem reads_c {w : World} {A : Option Addr} {l : List Int} (h : Kd.C (Kd.int .u8) w A l.length l) : ReadsInt w .u8 A l.length l := by
  refine ⟨rfl, Kd.C_max h, fun h0 => ?_⟩
  obtain ⟨ad, e, _⟩ := Kd.at_int h 0 (by omega) (by omega)
  refine ⟨ad, e, fun j hj => ?_⟩
  obtain ⟨ad', e', hc⟩ := Kd.at_int h (j : Int) (by omega) (by omega)
  rw [e] at e'
  cases e'
  rw [Int.toNat_natCast] at hc
  rw [hc]
  unfold rd
  rw [Int.toNat_natCast]
/-- A row of the call's own, whose length is known. -/
theorem r_open {α : Type} {d : Kd α} {e : Nat} {w : World} {B n : Nat} {ok : Nat → Prop} {v : Value} {xs : List α} (h : Kd.R d e w B ok v xs) (hn : xs.length = n) : ∃ A c, v = .slice A n c ∧ n ≤ c ∧ Kd.C d w A n xs := by
  obtain ⟨A, c, h1, h2, h3⟩ := Kd.R_reads h
  subst hn
  exact ⟨A, c, h1, h2, h3⟩
theorem may_c (W : World) (k s : Int) (z r : Bool) {A B : Option Addr} {c d n m : Nat} {rv : List RV} {sp : List SP} (hn : rv.length = n) (hm : sp.length = m) (h3 : Kd.C k40 W A n rv) (hc3 : n ≤ c) (h4 : Kd.C k42 W B m sp) (hc4 : m ≤ d) (hr : mayD k s z rv sp = r) :
    Calls Try.prog 19 #[.agg #[.int .i64 k, .int .i64 s, .bool z, .slice A n c, .slice B m d]] W fun e w' => e = .returned (.bool r) ∧ Below W.heap.size W w' := by
  subst hn hm
  exact deal_May.calls 1 k s z A c rv B d sp r W h3 hc3 h4 hc4 (by rw [may_f (by decide), hr])
theorem put_c (W : World) (k s : Int) (z : Bool) {A B : Option Addr} {c d n m q : Nat} {rv : List RV} {sp : List SP} {b : List Int} (hn : rv.length = n) (hm : sp.length = m) (h3 : Kd.C k40 W A n rv) (hc3 : n ≤ c) (h4 : Kd.C k42 W B m sp) (hc4 : m ≤ d) (hr : putD k s z rv sp = b) (hq : b.length = q) :
    Calls Try.prog 21 #[.agg #[.int .i64 k, .int .i64 s, .bool z, .slice A n c, .slice B m d]] W fun e w' => ∃ A6 c6, e = .returned (.slice A6 q c6) ∧ q ≤ c6 ∧ Kd.C (Kd.int .u8) w' A6 q b ∧ Below W.heap.size W w' := by
  subst hn hm
  refine (deal_Put.calls 20 k s z A c rv B d sp _ W h3 hc3 h4 hc4 (put_f (by decide) ..)).mono ?_
  rintro e w' ⟨v, rfl, h1, h2⟩
  rw [hr] at h1
  obtain ⟨A6, c6, rfl, h5, h6⟩ := r_open h1 hq
  exact ⟨A6, c6, rfl, h5, h6, h2⟩
theorem take_c (W : World) {A : Option Addr} {c n p q : Nat} {b : List Int} {k s e : Int} {z : Bool} {rv : List RV} {sp : List SP} (hn : b.length = n) (h : Kd.C (Kd.int .u8) W A n b) (hc : n ≤ c) (hb : ∀ x ∈ b, 0 ≤ x ∧ x ≤ 255) (hr : takeD b = (k, s, z, rv, sp, e)) (hp : rv.length = p) (hq : sp.length = q) :
    Calls Try.prog 17 #[.slice A n c] W fun e' w' => ∃ A3 c3 A4 c4, e' = .returned (.tuple #[.agg #[.int .i64 k, .int .i64 s, .bool z, .slice A3 p c3, .slice A4 q c4], .int .i64 e]) ∧ p ≤ c3 ∧ Kd.C k40 w' A3 p rv ∧ q ≤ c4 ∧ Kd.C k42 w' A4 q sp ∧ Below W.heap.size W w' := by
  subst hn
  refine (take_any W A c b h hc hb).mono ?_
  rintro e' w' ⟨v, u, he, h1, h2, h3⟩
  rw [hr] at he h1 h2
  obtain ⟨A3, c3, rfl, h5, h6⟩ := r_open h1 hp
  obtain ⟨A4, c4, rfl, h7, h8⟩ := r_open h2 hq
  exact ⟨A3, c3, A4, c4, he, h5, h6, h7, h8, h3⟩
theorem same_c (W : World) (k s k' s' : Int) (z z' r : Bool) {A B A' B' : Option Addr} {c d n m c' d' n' m' : Nat} {rv rv' : List RV} {sp sp' : List SP} (g : Nat) (hn : rv.length = n) (hm : sp.length = m) (h3 : Kd.C k40 W A n rv) (hc3 : n ≤ c) (h4 : Kd.C k42 W B m sp) (hc4 : m ≤ d)
    (hn' : rv'.length = n') (hm' : sp'.length = m') (h3' : Kd.C k40 W A' n' rv') (hc3' : n' ≤ c') (h4' : Kd.C k42 W B' m' sp') (hc4' : m' ≤ d') (hr : presidioref18_SameDeal.f g k s z rv sp k' s' z' rv' sp' = some r) :
    Calls Try.prog 23 #[.agg #[.int .i64 k, .int .i64 s, .bool z, .slice A n c, .slice B m d], .agg #[.int .i64 k', .int .i64 s', .bool z', .slice A' n' c', .slice B' m' d']] W fun e w' => e = .returned (.bool r) ∧ Below W.heap.size W w' := by
  subst hn hm hn' hm'
  exact presidioref18_SameDeal.calls g k s z A c rv B d sp k' s' z' A' c' rv' B' d' sp' r W h3 hc3 h4 hc4 h3' hc3' h4' hc4' hr
theorem conv_c {W : World} {A : Option Addr} {n c : Nat} {b : List Int} (hn : b.length = n) (h : Kd.C (Kd.int .u8) W A n b) : (convert 26 9 (.slice A n c)).run Try.prog W = .ok (.string (strOfNums b)) W := by
  subst hn
  exact Loan.conv (reads_c h)
set_option maxRecDepth 100000 in
set_option maxHeartbeats 2000000 in
theorem begun_any (w : World) : Calls Try.prog 14 #[] w fun e w' => e = .returned (.bool true) ∧ Below w.heap.size w w' := by
  have hu25 := Try.underlying25
  obtain ⟨L, hL⟩ : ∃ l : List RV, [⟨2, 1⟩] = l := ⟨_, rfl⟩
  obtain ⟨M, hM⟩ : ∃ l : List SP, [⟨258, 3⟩] = l := ⟨_, rfl⟩
  obtain ⟨b, hb⟩ : ∃ l : List Int, [1, 1, 0, 1, 2, 1, 1, 2, 1, 3] = l := ⟨_, rfl⟩
  have e1 : putD 1 1 false L M = b := by rw [← hL, ← hM, ← hb]; decide +kernel
  have e2 : takeD b = (1, 1, false, L, M, 0) := by rw [← hL, ← hM, ← hb]; kernel_rfl
  have e3 : takeD [] = (0, 0, false, [], [], -2) := by kernel_rfl
  have e4 : presidioref18_SameDeal.f 10 1 1 false L M 1 1 false L M = some true := by rw [← hL, ← hM]; decide +kernel
  have e5 : mayD 1 1 false L M = true := by rw [← hL, ← hM]; decide +kernel
  have e6 : mayD 0 0 false [] [] = false := by decide +kernel
  have e7 := e1
  have e8 : ∀ x ∈ b, 0 ≤ x ∧ x ≤ 255 := by rw [← hb]; decide
  have e9 : strOfNums b = ⟨#[1, 1, 0, 1, 2, 1, 1, 2, 1, 3]⟩ := by rw [← hb]; rfl
  have l1 : L.length = 1 := by rw [← hL]; rfl
  have l2 : M.length = 1 := by rw [← hM]; rfl
  have l3 : b.length = 10 := by rw [← hb]; rfl
  have B1 := Mem.blk_new w (.cells #[.int .i64 2, .int .i64 1] 40)
  have B2 := Mem.blk_new (w.alloc (.cells #[.int .i64 2, .int .i64 1] 40)) (.cells #[.int .i64 258, .int .i64 3] 42)
  have hsz : (w.alloc (.cells #[.int .i64 2, .int .i64 1] 40)).heap.size = w.heap.size + 1 := by show (w.heap.push _).size = _; simp
  rw [hsz] at B2
  have C1 := Kd.C_alloc (Kd.C_alloc (c_rv B1) (.cells #[.int .i64 258, .int .i64 3] 42)) (.cells #[.int .i64 1, .int .i64 1, .bool false, .slice (some ⟨w.heap.size, 0, none⟩) 1 1, .slice (some ⟨w.heap.size + 1, 0, none⟩) 1 1] 25)
  have C2 := Kd.C_alloc (c_sp B2) (.cells #[.int .i64 1, .int .i64 1, .bool false, .slice (some ⟨w.heap.size, 0, none⟩) 1 1, .slice (some ⟨w.heap.size + 1, 0, none⟩) 1 1] 25)
  have B3 := Mem.blk_new ((w.alloc (.cells #[.int .i64 2, .int .i64 1] 40)).alloc (.cells #[.int .i64 258, .int .i64 3] 42)) (.cells #[.int .i64 1, .int .i64 1, .bool false, .slice (some ⟨w.heap.size, 0, none⟩) 1 1, .slice (some ⟨w.heap.size + 1, 0, none⟩) 1 1] 25)
  have hsz2 : ((w.alloc (.cells #[.int .i64 2, .int .i64 1] 40)).alloc (.cells #[.int .i64 258, .int .i64 3] 42)).heap.size = w.heap.size + 2 := by show ((w.heap.push _).push _).size = _; simp
  rw [hsz2] at B3
  rw [hL, l1] at C1
  rw [hM, l2] at C2
  have HC1 := Lib.hid C1
  have HC2 := Lib.hid C2
  have HB3 := Lib.hid B3
  have HBL := Lib.hid (bel_alloc (bel_alloc (bel_alloc (Below.refl w.heap.size w) (.cells #[.int .i64 2, .int .i64 1] 40)) (.cells #[.int .i64 258, .int .i64 3] 42)) (.cells #[.int .i64 1, .int .i64 1, .bool false, .slice (some ⟨w.heap.size, 0, none⟩) 1 1, .slice (some ⟨w.heap.size + 1, 0, none⟩) 1 1] 25))
  have L1 := Lib.hid l1
  have L2 := Lib.hid l2
  have L3 := Lib.hid l3
  have E2 := Lib.hid e2
  have E3 := Lib.hid e3
  have E4 := Lib.hid e4
  have E5 := Lib.hid e5
  have E6 := Lib.hid e6
  have E7 := Lib.hid e7
  have E8 := Lib.hid e8
  have E9 := Lib.hid e9
  clear hsz hsz2 B1 B2 B3 C1 C2 hL hM hb e2 e3 e4 e5 e6 e7 e8 e9 l1 l2 l3 e1
  go_enter Try.func14, Try.ntmps14
  go_wp2_with (first
    | (go_at_call 21; (with_reducible refine (put_c _ 1 1 false L1.out L2.out HC1.out (by decide) HC2.out (by decide) E7.out L3.out).mono ?_); rintro e w4 ⟨A4, c4, rfl, g4, r4, b4⟩; have HB4 := Lib.hid b4; have HR4 := Lib.hid r4; have HB5 := Lib.hid (blk_below HB3.out b4); clear b4 r4)
    | (go_at_call 17; (with_reducible refine (take_c _ L3.out HR4.out g4 E8.out E2.out L1.out L2.out).mono ?_); rintro e w5 ⟨A5, c5, A6, c6, rfl, g5, r5, g6, r6, b5⟩; have HB6 := Lib.hid b5; have HB7 := Lib.hid (blk_below HB5.out b5); have HR5 := Lib.hid r5; have HR6 := Lib.hid r6; have K6 := Lib.hid (blk_new w5 (.cells #[.int .i64 1, .int .i64 1, .bool false, .slice A5 1 c5, .slice A6 1 c6] 25)); clear b5 r5 r6)
    | (go_at_call 17; (with_reducible refine (take_c _ (b := []) (n := 0) rfl (Kd.C_nil _ _) (Nat.le_refl _) (by simp) E3.out (p := 0) (q := 0) rfl rfl).mono ?_); rintro e w7 ⟨A7, c7, A8, c8, rfl, g7, r7, g8, r8, b7⟩; have HA := Lib.hid (bel_alloc (Below.refl w7.heap.size w7) (.cells #[.int .i64 0, .int .i64 0, .bool false, .slice A7 0 c7, .slice A8 0 c8] 25)); have HW := Lib.hid (bel_chain (bel_alloc (Below.refl w5.heap.size w5) (.cells #[.int .i64 1, .int .i64 1, .bool false, .slice A5 1 c5, .slice A6 1 c6] 25)) b7); have HV := Lib.hid (bel_chain HB6.out (bel_chain HW.out HA.out)); have cv := conv_c (c := c4) L3.out (Kd.C_below HR4.out HV.out); rw [E9.out] at cv; have q1 := cells5 (blk_below (blk_below K6.out b7) HA.out); have q2 := cells5 (blk_below (blk_below HB7.out HW.out) HA.out); have hq2 : w.heap.size + 1 + 1 = w.heap.size + 2 := rfl; clear b7 r7 r8)
    | (go_at_call 23; (with_reducible refine (same_c _ _ _ _ _ _ _ _ 10 L1.out L2.out (Kd.C_below HR5.out (bel_chain HW.out HA.out)) g5 (Kd.C_below HR6.out (bel_chain HW.out HA.out)) g6 L1.out L2.out (Kd.C_below HC1.out (bel_chain HB4.out HV.out)) (by decide) (Kd.C_below HC2.out (bel_chain HB4.out HV.out)) (by decide) E4.out).mono ?_); rintro e w9 ⟨rfl, b9⟩; have HB9 := Lib.hid b9; replace q2 := cells5 (blk_below (blk_below (blk_below HB7.out HW.out) HA.out) b9); clear b9 q1 cv)
    | (go_at_call 19; (with_reducible refine (may_c _ _ _ _ _ L1.out L2.out (Kd.C_below HC1.out (bel_chain (bel_chain HB4.out HV.out) HB9.out)) (by decide) (Kd.C_below HC2.out (bel_chain (bel_chain HB4.out HV.out) HB9.out)) (by decide) E5.out).mono ?_); rintro e w10 ⟨rfl, b10⟩; have HB10 := Lib.hid b10; clear b10 q2)
    | (go_at_call 19; (with_reducible refine (may_c _ _ _ _ _ (n := 0) (m := 0) rfl rfl (Kd.C_nil _ _) (Nat.le_refl _) (Kd.C_nil _ _) (Nat.le_refl _) E6.out).mono ?_); rintro e w11 ⟨rfl, b11⟩; have HB11 := Lib.hid b11; clear b11)
    | fail)
  go_ret
  exact ⟨rfl, bel_chain HBL.out (bel_chain HB4.out (bel_chain HV.out (bel_chain HB9.out (bel_chain HB10.out HB11.out))))⟩
end Go.Proofs.Ytdpjpmlajjfpgaa.Deal
