/- What frames say, to which world, in any run: what holds along it. -/
import Derived.Test.YtbcdkhgfjdbjoaaRamH
import Derived.Test.YtbcdkhgfjdbjoaaRamL
import Derived.Test.YtbcdkhgfjdbjoaaLoan
import Derived.Deep.RegionHeld3
namespace Go.Proofs.Ytbcdkhgfjdbjoaa.Ram
open Go.RowKit Go.Proofs.Ytbcdkhgfjdbjoaa.Mem Go.Proofs.Ytbcdkhgfjdbjoaa.Kept
open Go.Proofs.YtbcdkhgfjdbjoaaW.PrintWords (nums ReadsInt)
set_option linter.unusedVariables false
set_option linter.unusedSimpArgs false

theorem tmod6 (z : Int) : -5 ≤ z.tmod 6 ∧ z.tmod 6 ≤ 5 := by
  have h1 := Int.tmod_lt_of_pos z (show (0 : Int) < 6 by decide)
  have h2 := Int.lt_tmod_of_pos z (show (0 : Int) < 6 by decide)
  omega
/-- The program's frames, the reference's, and the deed at block O. -/
structure St (w0 w : World) (B g b n : Nat) (F : List Int) (s : Int) (B' g' : Nat) (R : Option Nat) (F' : List Int) (O : Nat) (C : Array Value) : Prop where
  p : Is w B g b n F s
  r : RIs w B' g' R n F' s
  o : w.heap[O]? = some (.cells C 52 (0, 0))
  bel : Below w0.heap.size w0 w
  hB : w0.heap.size ≤ B
  hB' : w0.heap.size ≤ B'
section
variable {w0 w w1 : World} {B g b n : Nat} {F F2 F' : List Int} {s : Int} {B' g' : Nat} {R : Option Nat} {O : Nat} {C : Array Value}
theorem St.below (h : St w0 w B g b n F s B' g' R F' O C) (hb : Below w.heap.size w w1) : St w0 w1 B g b n F s B' g' R F' O C :=
  ⟨h.p.below hb, h.r.below hb, blk_below h.o hb, bel_chain h.bel hb, h.hB, h.hB'⟩
theorem St.drew (h : St w0 w B g b n F s B' g' R F' O C) : St w0 w.drew B g b n F s B' g' R F' O C :=
  h.below (bel_drew (Below.refl _ _))
theorem St.prog (h : St w0 w B g b n F s B' g' R F' O C) (hk : Kept w w1 (fun j => 0 < n ∧ j = b)) (hp : Is w1 B g b n F2 s) : St w0 w1 B g b n F2 s B' g' R F' O C := by
  refine ⟨hp, ris_other h.p h.r hk, hk.blk h.o (fun ⟨hn, e⟩ => ?_), bel_own h.bel h.p h.hB hk, h.hB, h.hB'⟩
  subst e
  obtain ⟨A, c, cur, _, _, _, _, _, _, _, h8⟩ := h.p
  have h9 := (h8 hn).2.2.1
  rw [h.o] at h9
  injection h9 with h9
  injection h9 with _ h9 _
  exact absurd h9 (by decide)
theorem St.ref (h : St w0 w B g b n F s B' g' R F' O C) (hk : Kept w w1 (fun j => R = some j)) (hr : RIs w1 B' g' R n F2 s) : St w0 w1 B g b n F s B' g' R F2 O C := by
  refine ⟨is_other h.p h.r hk, hr, hk.blk h.o (fun e => ?_), bel_rown h.bel h.r h.hB' hk, h.hB, h.hB'⟩
  obtain ⟨A, c, _, _, _, _, ho, hR⟩ := h.r
  rw [← hR] at e
  obtain ⟨_, _, cs, h5⟩ := own_lt ho e
  rw [h.o] at h5
  injection h5 with h5
  injection h5 with _ h5 _
  exact absurd h5 (by decide)
end
theorem same_m {w : World} (g c : Nat) (a : Option Addr) (cap : Nat) (l : List Int) {n : Nat} (hl : n ≤ 500) (hn : l.length = n) (hc : n + 5 ≤ c) (hc2 : c ≤ 9223372036854775807) (hL : Loan.Lent w g l) (hr : ReadsInt w .u8 a n l) :
    Calls Try.prog 29 #[.slice (some ⟨g, 0, none⟩) n c, .slice a n cap] w fun e w' => e = .returned (.bool true) ∧ Below w.heap.size w w' := by
  subst hn
  exact (Loan.same_any w g c a cap l (by omega) hc hc2 hL hr).mono fun _ _ ⟨h1, n, h2⟩ => ⟨h1, by rw [h2]; exact bel_drewN (Below.refl _ _) _⟩
theorem loan_m (w : World) (a : Option Addr) (cap : Nat) (l : List Int) {n : Nat} (hl : n ≤ 500) (hn : l.length = n) (hr : ReadsInt w .u8 a n l) :
    Calls Try.prog 26 #[.slice a n cap] w fun e w' => ∃ g c, e = .returned (.slice (some ⟨g, 0, none⟩) n c) ∧ n + 5 ≤ c ∧ c ≤ 9223372036854775807 ∧ Loan.Lent w' g l ∧ ReadsInt w' .u8 (some ⟨g, 0, none⟩) n l ∧ Below w.heap.size w w' ∧ w.heap.size ≤ g := by
  subst hn
  exact (Loan.loan_any w a cap l (by omega) hr).mono fun e w' ⟨g, c, h1, h2, h3, h4, h5, h6⟩ => ⟨g, c, h1, h2, h3, h4, (h4.reads (by omega)).1, h5, h6⟩
theorem lent_kept {w w' : World} {S : Nat → Prop} {gg : Nat} {l : List Int} (h : Loan.Lent w gg l) (hk : Kept w w' S) (hS : ¬ S gg) : Loan.Lent w' gg l := by
  obtain ⟨cs, t, hg, hc⟩ := h
  exact ⟨cs, t, hk.blk hg hS, hc⟩
theorem frames_q {w : World} {B g b n : Nat} {F : List Int} {s : Int} (h : Is w B g b n F s) : Calls Try.prog 25 #[.pointer (some ⟨g, 0, none⟩)] w fun e w' => e = .returned (.int .i64 n) ∧ w' = w :=
  (frames_any h).mono fun _ _ ⟨h1, h2⟩ => ⟨h1, h2.symm⟩
theorem cells6o {w : World} {O : Nat} {c0 c1 c2 c3 c4 c5 : Value} (h : w.heap[O]? = some (.cells #[c0, c1, c2, c3, c4, c5] 52 (0, 0))) :
    w.cell? ⟨O, 1, none⟩ = some c1 ∧ w.cell? ⟨O, 2, none⟩ = some c2 ∧ w.cell? ⟨O, 3, none⟩ = some c3 ∧ w.cell? ⟨O, 4, none⟩ = some c4 ∧ w.cell? ⟨O, 5, none⟩ = some c5 :=
  ⟨blk_cell h 1, blk_cell h 2, blk_cell h 3, blk_cell h 4, blk_cell h 5⟩
theorem rcells2 {w : World} {B g : Nat} {R : Option Nat} {n : Nat} {F : List Int} {s : Int} (h : RIs w B g R n F s) : (∃ A c, w.cell? ⟨g, 0, none⟩ = some (.slice A n c)) ∧ w.cell? ⟨g, 1, none⟩ = some (.int .i64 s) := by
  obtain ⟨A, c, hg, _⟩ := h
  exact ⟨⟨A, c, (cells2 hg).1⟩, (cells2 hg).2⟩
/-- A deed in a row of them. -/
def Deed (w : World) (bl o : Nat) : Prop := ∃ (k f p : Int) (sec : Bool) (A : Option Addr) (m c : Nat) (X : List Int) (v : Int),
  w.cell? ⟨bl, o, none⟩ = some (.int .i64 k) ∧ w.cell? ⟨bl, o + 1, none⟩ = some (.int .i64 f) ∧ w.cell? ⟨bl, o + 2, none⟩ = some (.int .i64 p) ∧ w.cell? ⟨bl, o + 3, none⟩ = some (.bool sec) ∧ w.cell? ⟨bl, o + 4, none⟩ = some (.slice A m c) ∧ w.cell? ⟨bl, o + 5, none⟩ = some (.int .u64 v) ∧
  ReadsInt w .u8 A m X ∧ (∀ x ∈ X, 0 ≤ x ∧ x ≤ 255) ∧ 0 ≤ v ∧ v ≤ 18446744073709551615

set_option maxRecDepth 100000 in
set_option maxHeartbeats 32000000 in
theorem all_run (w : World) (fr sc : Int) (bl ol len cap : Nat) (nn : Int) (a : Option Addr) (ha : 0 < len → a = some ⟨bl, ol, none⟩) (hlen : len ≤ 25) (hcap : len ≤ cap) (hd : ∀ i, i < len → Deed w bl (ol + i * 6)) :
    Calls Try.prog 8 #[.int .i64 fr, .int .i64 sc, .slice a len cap, .int .i64 nn] w fun e w' => e = .returned (.bool true) ∧ Below w.heap.size w w' := by
  have hb := Below.refl w.heap.size w
  have hu := Try.underlying52
  have hl1 : ¬ ((25 : Int) < (len : Int)) := by omega
  have d1 : decide ((25 : Int) < (len : Int)) = false := decide_eq_false hl1
  have d1 : decide ((25 : Int) < (len : Int)) = false := decide_eq_false hl1
  have d1 : decide ((25 : Int) < (len : Int)) = false := decide_eq_false hl1
  have d1 : decide ((25 : Int) < (len : Int)) = false := decide_eq_false hl1
  have d1 : decide ((25 : Int) < (len : Int)) = false := decide_eq_false hl1
  have d1 : decide ((25 : Int) < (len : Int)) = false := decide_eq_false hl1
  have HD := Lib.hid hd
  obtain ⟨n, hn⟩ : ∃ n, frames fr = n := ⟨_, rfl⟩
  obtain ⟨s, hs⟩ : ∃ s, secures fr sc = s := ⟨_, rfl⟩
  have hn4 : n ≤ 240 := by rw [← hn]; exact (frames_in fr).2
  have HN := Lib.hid hn
  have HS := Lib.hid hs
  clear hd hn hs
  go_enter Try.func8, Try.ntmps8
  go_wp2_with (first
    | (go_at_call 22; (with_reducible refine (begun _).mono ?_); rintro e w1 ⟨rfl, hb1⟩; replace hb := bel_chain hb hb1; clear hb1)
    | (go_at_call 23; (with_reducible refine (new_i w1 fr sc n s HN.out HS.out).mono ?_); rintro e w2 ⟨g, b, rfl, H, hb2⟩; have H2 := Lib.hid H; have hB := Lib.hid hb.size; replace hb := bel_chain hb hb2; clear H hb2)
    | (go_at_call 24; (with_reducible refine (rnew_any w2 fr sc).mono ?_); rintro e w3 ⟨g', R, rfl, H, hb3⟩; rw [HN.out, HS.out] at H; have H3 := Lib.hid (H2.out.below hb3); have R3 := Lib.hid H; have hB' := Lib.hid hb.size; replace hb := bel_chain hb hb3; clear H hb3 H2)
    | fail)
  have xr : ∃ A c, w3.cell? ⟨g', 0, none⟩ = some (.slice A n c) := by
    obtain ⟨A, c, h, _⟩ := R3.out
    exact ⟨A, c, (cells2 h).1⟩
  obtain ⟨Ar, cr, xr⟩ := xr
  go_quiet ((go_at_call 25; exact Calls.quiet_of_same (frames_q (H3.out.below (bel_drewN (Below.refl _ _) _)))))
  go_wp2
  have HB := hB.out
  have HB' := hB'.out
  have P0 : Is (w3.drewN nq) w.heap.size g b n (List.replicate (n * 128) 0) s := (H3.out.below (bel_drewN (Below.refl _ _) _)).lower HB
  have P1 : RIs (w3.drewN nq) w2.heap.size g' R n (List.replicate (n * 128) 0) s := R3.out.below (bel_drewN (Below.refl _ _) _)
  have hbq := bel_drewN hb nq
  clear H3 R3 xr hb hB hB'
  go_loopw [9, 11] (fun t i wr => ∃ (k gk bk : Nat) (F : List Int), k ≤ len ∧ t = .pointer (some ⟨gk, 0, none⟩) ∧ i = .int .i64 k ∧ Hid (Is wr w.heap.size gk bk n F s) ∧ Hid (RIs wr w2.heap.size g' R n F s) ∧ Hid (∀ x ∈ F, 0 ≤ x ∧ x ≤ 255) ∧ Hid (Below w.heap.size w wr)) (fun _ i _ => len - (intOf i).toNat)
  case atStart => exact ⟨0, g, b, _, by omega, rfl, rfl, Lib.hid P0, Lib.hid P1, Lib.hid mem_zero, Lib.hid hbq⟩
  case round =>
    clear P0 P1 hbq
    obtain ⟨k, gk, bk, F, hk, rfl, rfl, HP, HR, HM, HBel⟩ := hrel
    by_cases hlt : k < len
    · have ea := ha (by omega)
      subst ea
      obtain ⟨kd, f, q, sec, A, m, c, X, v, d0, d1', d2, d3, d4, d5, dr, dX, hv0, hv1⟩ := HD.out k hlt
      have x0 := cell_below d0 HBel.out
      have x1 := cell_below d1' HBel.out
      have x2 := cell_below d2 HBel.out
      have x3 := cell_below d3 HBel.out
      have x4 := cell_below d4 HBel.out
      have x5 := cell_below d5 HBel.out
      have DR := Lib.hid dr
      have DX := Lib.hid dX
      have HXm := Lib.hid dr.1
      have HV : Hid (0 ≤ v ∧ v ≤ 18446744073709551615) := Lib.hid ⟨hv0, hv1⟩
      clear d0 d1' d2 d3 d4 d5 dr dX hv0 hv1
      obtain ⟨r6, hr6⟩ : ∃ r, Int.tmod kd 6 = r := ⟨_, rfl⟩
      have hr6b := tmod6 kd
      rw [hr6] at hr6b
      obtain ⟨hr6c, hr6d⟩ := hr6b
      by_cases h140 : 140 < (m : Int)
      · go_wp2_with fail
        all_goals go_ret
        all_goals exact ⟨rfl, bel_alloc HBel.out _⟩
      · have hm5 : m ≤ 500 := by omega
        have T0 : Hid (St w (wr.alloc (.cells #[.int .i64 kd, .int .i64 f, .int .i64 q, .bool sec, .slice A m c, .int .u64 v] 52)) w.heap.size gk bk n F s w2.heap.size g' R F wr.heap.size #[.int .i64 kd, .int .i64 f, .int .i64 q, .bool sec, .slice A m c, .int .u64 v]) :=
          Lib.hid ⟨HP.out.below (bel_alloc (Below.refl _ _) _), HR.out.below (bel_alloc (Below.refl _ _) _), blk_new _ _, bel_alloc HBel.out _, Nat.le_refl _, HB'⟩
        have hkk : r6 + 6 = 0 ∨ True := Or.inr trivial
        clear hkk
        go_wp2_with (first
          | (go_at_call 26; (with_reducible refine (loan_m _ A c X hm5 HXm.out (DR.out.below T0.out.bel)).mono ?_); rintro e w4 ⟨gg, c3, rfl, hc5, hcM, hL, hrL, hb4, hgg⟩; have T4 := Lib.hid (T0.out.below hb4); have L4 := Lib.hid hL; have RL4 := Lib.hid hrL; have G4 := Lib.hid (show (0 < n → bk < gg) ∧ (∀ j, R = some j → j < gg) from ⟨fun h => Nat.lt_of_lt_of_le (T0.out.p.row h).2.1 hgg, fun j h => Nat.lt_of_lt_of_le (T0.out.r.row h).2.1 hgg⟩); clear hL hrL hb4 hgg)
          | (go_at_call 34; (with_reducible refine (copy_i T0.out.p).mono ?_); rintro e w4 ⟨gc, bc, rfl, HC, HO, hb4⟩; have T4 := Lib.hid (T0.out.below hb4); have HC4 := Lib.hid HC; have hsz4 := Lib.hid T0.out.bel.size; have hlt4 := Lib.hid (show gk < (wr.alloc (.cells #[.int .i64 kd, .int .i64 f, .int .i64 q, .bool sec, .slice A m c, .int .u64 v] 52)).heap.size ∧ (0 < n → bk < (wr.alloc (.cells #[.int .i64 kd, .int .i64 f, .int .i64 q, .bool sec, .slice A m c, .int .u64 v] 52)).heap.size) from ⟨T0.out.p.lt.2, fun h => (T0.out.p.row h).2.1⟩); obtain ⟨z1, z2, z3, z4, z5⟩ := cells6o T4.out.o; clear HC HO hb4)
          | (go_at_call 32; (with_reducible refine (clear_any T4.out.p f).mono ?_); rintro e w44 ⟨rfl, H, hk4⟩; have T44 := Lib.hid (T4.out.prog hk4 H); have HC44 := Lib.hid ((HC4.out.kept hk4 (fun ⟨hn, e⟩ => by have := HC4.out.lt; have := hlt4.out.2 hn; omega) (fun hn ⟨_, e⟩ => by have := HC4.out.row hn; have := hlt4.out.2 hn; omega)).lower hsz4.out); have HT := Lib.hid (show St w w44 w.heap.size gc bc n F s w2.heap.size g' R F wr.heap.size #[.int .i64 kd, .int .i64 f, .int .i64 q, .bool sec, .slice A m c, .int .u64 v] from ⟨HC44.out, T44.out.r, T44.out.o, T44.out.bel, Nat.le_refl _, HB'⟩); clear z1 z2 z3 z4 z5; obtain ⟨z1, z2, z3, z4, z5⟩ := cells6o HT.out.o; clear H hk4)
          | fail)
        · as_aux_lemma =>
            have T4d := T4.out.drew
            have RL4d : ReadsInt w4.drew .u8 (some ⟨gg, 0, none⟩) m X := RL4.out
            have L4d : Loan.Lent w4.drew gg X := L4.out
            obtain ⟨a1, a2, a3, a4, a5⟩ := cells6o T4d.o
            go_region_held3 (fun w' => w'.cell? ⟨wr.heap.size, 1, none⟩ = some (.int .i64 f) ∧ w'.cell? ⟨wr.heap.size, 2, none⟩ = some (.int .i64 q) ∧ w'.cell? ⟨wr.heap.size, 3, none⟩ = some (.bool sec) ∧ w'.cell? ⟨wr.heap.size, 4, none⟩ = some (.slice A m c) ∧ w'.cell? ⟨wr.heap.size, 5, none⟩ = some (.int .u64 v)) (first | exact ⟨a1, a2, a3, a4, a5⟩ | exact ⟨b1, b2, b3, b4, b5⟩ | exact ⟨c1, c2, c3', c4, c5'⟩ | exact ⟨e1, e2, e3, e4, e5⟩) (first
              | (go_at_call 27; refine (write_any T4d.p sec f q (some ⟨gg, 0, none⟩) m c3 RL4d).mono ?_; rintro e w5 ⟨rfl, H5, hk5⟩; have T5 := T4d.prog hk5 H5; have L5 := lent_kept L4d hk5 (fun ⟨hn, e⟩ => (by have := G4.out.1 hn; omega)); obtain ⟨b1, b2, b3, b4, b5⟩ := cells6o T5.o; clear hk5 H5)
              | (go_at_call 28; refine (rwrite_any T5.r sec f q A m c (DR.out.below T5.bel)).mono ?_; rintro e w6 ⟨rfl, H6, hk6⟩; have T6 := T5.ref hk6 H6; have L6 := lent_kept L5 hk6 (fun e => (by have := G4.out.2 _ e; omega)); obtain ⟨c1, c2, c3', c4, c5'⟩ := cells6o T6.o; clear hk6 H6)
              | (go_at_call 29; refine (same_m gg c3 A c X hm5 HXm.out hc5 hcM L6 (DR.out.below T6.bel)).mono ?_; rintro e w7 ⟨rfl, hb7⟩; have T7 := T6.below hb7; obtain ⟨e1, e2, e3, e4, e5⟩ := cells6o T7.o; clear hb7))
            have HT := Lib.hid T7
            replace HM := Lib.hid (wrF_mem (n := n) (s := s) (sec := sec) (f := f) (o := q) HM.out DX.out)
            clear T4d RL4d L4d T5 T6 T7 L5 L6 a1 a2 a3 a4 a5 b1 b2 b3 b4 b5 c1 c2 c3' c4 c5'
            go_wp2_with (first
              | (go_at_call 35; (with_reducible refine (read_any HT.out.p sec f q nn).mono ?_); rintro e w5 ⟨A5, m5, c5, rfl, hr5, hb5, _⟩; have T5 := Lib.hid (HT.out.below hb5); obtain ⟨y1, y2, y3, y4, y5⟩ := cells6o T5.out.o; have R5 := Lib.hid hr5; clear hr5 hb5)
              | (go_at_call 36; (with_reducible refine (rread_any T5.out.r sec f q nn HM.out).mono ?_); rintro e w6 ⟨A6, m6, c6, rfl, hr6, hb6, _⟩; have T6 := Lib.hid (T5.out.below hb6); clear y1 y2 y3 y4 y5; obtain ⟨y1, y2, y3, y4, y5⟩ := cells6o T6.out.o; have R56 := Lib.hid (R5.out.below hb6); have R6 := Lib.hid hr6; clear hr6 hb6 R5 T5)
              | (go_at_call 37; (with_reducible refine (get_any T6.out.p sec f q HM.out).mono ?_); rintro e w7 ⟨rfl, rfl⟩)
              | (go_at_call 38; (with_reducible refine (rget_any T6.out.r sec f q HM.out).mono ?_); rintro e w8 ⟨rfl, hb8⟩; have T8 := Lib.hid (T6.out.below hb8); have cv5 := conv (c := c5) (R56.out.below hb8); have cv6 := conv (c := c6) (R6.out.below hb8); clear hb8 T6 R56 R6 y1 y2 y3 y4 y5)
              | fail)
            go_roundw
            case measure => simp [intOf]; omega
            case rel => exact ⟨k + 1, _, _, _, by omega, rfl, by go_num, Lib.hid T8.out.p, Lib.hid T8.out.r, HM, Lib.hid T8.out.bel⟩
        · as_aux_lemma =>
            have T4d := T4.out.drew
            have RL4d : ReadsInt w4.drew .u8 (some ⟨gg, 0, none⟩) m X := RL4.out
            have L4d : Loan.Lent w4.drew gg X := L4.out
            obtain ⟨a1, a2, a3, a4, a5⟩ := cells6o T4d.o
            go_region_held3 (fun w' => w'.cell? ⟨wr.heap.size, 1, none⟩ = some (.int .i64 f) ∧ w'.cell? ⟨wr.heap.size, 2, none⟩ = some (.int .i64 q) ∧ w'.cell? ⟨wr.heap.size, 3, none⟩ = some (.bool sec) ∧ w'.cell? ⟨wr.heap.size, 4, none⟩ = some (.slice A m c) ∧ w'.cell? ⟨wr.heap.size, 5, none⟩ = some (.int .u64 v)) (first | exact ⟨a1, a2, a3, a4, a5⟩ | exact ⟨b1, b2, b3, b4, b5⟩ | exact ⟨c1, c2, c3', c4, c5'⟩ | exact ⟨e1, e2, e3, e4, e5⟩) (first
              | (go_at_call 27; refine (write_any T4d.p sec f q (some ⟨gg, 0, none⟩) m c3 RL4d).mono ?_; rintro e w5 ⟨rfl, H5, hk5⟩; have T5 := T4d.prog hk5 H5; have L5 := lent_kept L4d hk5 (fun ⟨hn, e⟩ => (by have := G4.out.1 hn; omega)); obtain ⟨b1, b2, b3, b4, b5⟩ := cells6o T5.o; clear hk5 H5)
              | (go_at_call 28; refine (rwrite_any T5.r sec f q A m c (DR.out.below T5.bel)).mono ?_; rintro e w6 ⟨rfl, H6, hk6⟩; have T6 := T5.ref hk6 H6; have L6 := lent_kept L5 hk6 (fun e => (by have := G4.out.2 _ e; omega)); obtain ⟨c1, c2, c3', c4, c5'⟩ := cells6o T6.o; clear hk6 H6)
              | (go_at_call 29; refine (same_m gg c3 A c X hm5 HXm.out hc5 hcM L6 (DR.out.below T6.bel)).mono ?_; rintro e w7 ⟨rfl, hb7⟩; have T7 := T6.below hb7; obtain ⟨e1, e2, e3, e4, e5⟩ := cells6o T7.o; clear hb7))
            have HT := Lib.hid T7
            replace HM := Lib.hid (wrF_mem (n := n) (s := s) (sec := sec) (f := f) (o := q) HM.out DX.out)
            clear T4d RL4d L4d T5 T6 T7 L5 L6 a1 a2 a3 a4 a5 b1 b2 b3 b4 b5 c1 c2 c3' c4 c5'
            go_wp2_with (first
              | (go_at_call 35; (with_reducible refine (read_any HT.out.p sec f q nn).mono ?_); rintro e w5 ⟨A5, m5, c5, rfl, hr5, hb5, _⟩; have T5 := Lib.hid (HT.out.below hb5); obtain ⟨y1, y2, y3, y4, y5⟩ := cells6o T5.out.o; have R5 := Lib.hid hr5; clear hr5 hb5)
              | (go_at_call 36; (with_reducible refine (rread_any T5.out.r sec f q nn HM.out).mono ?_); rintro e w6 ⟨A6, m6, c6, rfl, hr6, hb6, _⟩; have T6 := Lib.hid (T5.out.below hb6); clear y1 y2 y3 y4 y5; obtain ⟨y1, y2, y3, y4, y5⟩ := cells6o T6.out.o; have R56 := Lib.hid (R5.out.below hb6); have R6 := Lib.hid hr6; clear hr6 hb6 R5 T5)
              | (go_at_call 37; (with_reducible refine (get_any T6.out.p sec f q HM.out).mono ?_); rintro e w7 ⟨rfl, rfl⟩)
              | (go_at_call 38; (with_reducible refine (rget_any T6.out.r sec f q HM.out).mono ?_); rintro e w8 ⟨rfl, hb8⟩; have T8 := Lib.hid (T6.out.below hb8); have cv5 := conv (c := c5) (R56.out.below hb8); have cv6 := conv (c := c6) (R6.out.below hb8); clear hb8 T6 R56 R6 y1 y2 y3 y4 y5)
              | fail)
            go_roundw
            case measure => simp [intOf]; omega
            case rel => exact ⟨k + 1, _, _, _, by omega, rfl, by go_num, Lib.hid T8.out.p, Lib.hid T8.out.r, HM, Lib.hid T8.out.bel⟩
        · as_aux_lemma =>
            have T4d := T4.out.drew
            have RL4d : ReadsInt w4.drew .u8 (some ⟨gg, 0, none⟩) m X := RL4.out
            have L4d : Loan.Lent w4.drew gg X := L4.out
            obtain ⟨a1, a2, a3, a4, a5⟩ := cells6o T4d.o
            go_region_held3 (fun w' => w'.cell? ⟨wr.heap.size, 1, none⟩ = some (.int .i64 f) ∧ w'.cell? ⟨wr.heap.size, 2, none⟩ = some (.int .i64 q) ∧ w'.cell? ⟨wr.heap.size, 3, none⟩ = some (.bool sec) ∧ w'.cell? ⟨wr.heap.size, 4, none⟩ = some (.slice A m c) ∧ w'.cell? ⟨wr.heap.size, 5, none⟩ = some (.int .u64 v)) (first | exact ⟨a1, a2, a3, a4, a5⟩ | exact ⟨b1, b2, b3, b4, b5⟩ | exact ⟨c1, c2, c3', c4, c5'⟩ | exact ⟨e1, e2, e3, e4, e5⟩) (first
              | (go_at_call 27; refine (write_any T4d.p sec f q (some ⟨gg, 0, none⟩) m c3 RL4d).mono ?_; rintro e w5 ⟨rfl, H5, hk5⟩; have T5 := T4d.prog hk5 H5; have L5 := lent_kept L4d hk5 (fun ⟨hn, e⟩ => (by have := G4.out.1 hn; omega)); obtain ⟨b1, b2, b3, b4, b5⟩ := cells6o T5.o; clear hk5 H5)
              | (go_at_call 28; refine (rwrite_any T5.r sec f q A m c (DR.out.below T5.bel)).mono ?_; rintro e w6 ⟨rfl, H6, hk6⟩; have T6 := T5.ref hk6 H6; have L6 := lent_kept L5 hk6 (fun e => (by have := G4.out.2 _ e; omega)); obtain ⟨c1, c2, c3', c4, c5'⟩ := cells6o T6.o; clear hk6 H6)
              | (go_at_call 29; refine (same_m gg c3 A c X hm5 HXm.out hc5 hcM L6 (DR.out.below T6.bel)).mono ?_; rintro e w7 ⟨rfl, hb7⟩; have T7 := T6.below hb7; obtain ⟨e1, e2, e3, e4, e5⟩ := cells6o T7.o; clear hb7))
            have HT := Lib.hid T7
            replace HM := Lib.hid (wrF_mem (n := n) (s := s) (sec := sec) (f := f) (o := q) HM.out DX.out)
            clear T4d RL4d L4d T5 T6 T7 L5 L6 a1 a2 a3 a4 a5 b1 b2 b3 b4 b5 c1 c2 c3' c4 c5'
            go_wp2_with (first
              | (go_at_call 35; (with_reducible refine (read_any HT.out.p sec f q nn).mono ?_); rintro e w5 ⟨A5, m5, c5, rfl, hr5, hb5, _⟩; have T5 := Lib.hid (HT.out.below hb5); obtain ⟨y1, y2, y3, y4, y5⟩ := cells6o T5.out.o; have R5 := Lib.hid hr5; clear hr5 hb5)
              | (go_at_call 36; (with_reducible refine (rread_any T5.out.r sec f q nn HM.out).mono ?_); rintro e w6 ⟨A6, m6, c6, rfl, hr6, hb6, _⟩; have T6 := Lib.hid (T5.out.below hb6); clear y1 y2 y3 y4 y5; obtain ⟨y1, y2, y3, y4, y5⟩ := cells6o T6.out.o; have R56 := Lib.hid (R5.out.below hb6); have R6 := Lib.hid hr6; clear hr6 hb6 R5 T5)
              | (go_at_call 37; (with_reducible refine (get_any T6.out.p sec f q HM.out).mono ?_); rintro e w7 ⟨rfl, rfl⟩)
              | (go_at_call 38; (with_reducible refine (rget_any T6.out.r sec f q HM.out).mono ?_); rintro e w8 ⟨rfl, hb8⟩; have T8 := Lib.hid (T6.out.below hb8); have cv5 := conv (c := c5) (R56.out.below hb8); have cv6 := conv (c := c6) (R6.out.below hb8); clear hb8 T6 R56 R6 y1 y2 y3 y4 y5)
              | fail)
            go_roundw
            case measure => simp [intOf]; omega
            case rel => exact ⟨k + 1, _, _, _, by omega, rfl, by go_num, Lib.hid T8.out.p, Lib.hid T8.out.r, HM, Lib.hid T8.out.bel⟩
        · as_aux_lemma =>
            have T4d := T0.out.drew
            obtain ⟨a1, a2, a3, a4, a5⟩ := cells6o T4d.o
            go_region_held3 (fun w' => w'.cell? ⟨wr.heap.size, 1, none⟩ = some (.int .i64 f) ∧ w'.cell? ⟨wr.heap.size, 2, none⟩ = some (.int .i64 q) ∧ w'.cell? ⟨wr.heap.size, 3, none⟩ = some (.bool sec) ∧ w'.cell? ⟨wr.heap.size, 4, none⟩ = some (.slice A m c) ∧ w'.cell? ⟨wr.heap.size, 5, none⟩ = some (.int .u64 v)) (first | exact ⟨a1, a2, a3, a4, a5⟩ | exact ⟨b1, b2, b3, b4, b5⟩ | exact ⟨c1, c2, c3', c4, c5'⟩ | exact ⟨e1, e2, e3, e4, e5⟩) (first
              | (go_at_call 30; refine (setWord_any T4d.p sec f q v HV.out).mono ?_; rintro e w5 ⟨rfl, H5, hk5⟩; have T5 := T4d.prog hk5 H5; obtain ⟨b1, b2, b3, b4, b5⟩ := cells6o T5.o; clear hk5 H5)
              | (go_at_call 31; refine (rsetWord_any T5.r sec f q v HV.out).mono ?_; rintro e w6 ⟨rfl, H6, hk6⟩; have T6 := T5.ref hk6 H6; obtain ⟨e1, e2, e3, e4, e5⟩ := cells6o T6.o; clear hk6 H6))
            have HT := Lib.hid T6
            replace HM := Lib.hid (swF_mem (n := n) (s := s) (sec := sec) (f := f) (k := q) (v := v) HM.out HV.out.1)
            clear T4d T5 T6 a1 a2 a3 a4 a5 b1 b2 b3 b4 b5
            go_wp2_with (first
              | (go_at_call 35; (with_reducible refine (read_any HT.out.p sec f q nn).mono ?_); rintro e w5 ⟨A5, m5, c5, rfl, hr5, hb5, _⟩; have T5 := Lib.hid (HT.out.below hb5); obtain ⟨y1, y2, y3, y4, y5⟩ := cells6o T5.out.o; have R5 := Lib.hid hr5; clear hr5 hb5)
              | (go_at_call 36; (with_reducible refine (rread_any T5.out.r sec f q nn HM.out).mono ?_); rintro e w6 ⟨A6, m6, c6, rfl, hr6, hb6, _⟩; have T6 := Lib.hid (T5.out.below hb6); clear y1 y2 y3 y4 y5; obtain ⟨y1, y2, y3, y4, y5⟩ := cells6o T6.out.o; have R56 := Lib.hid (R5.out.below hb6); have R6 := Lib.hid hr6; clear hr6 hb6 R5 T5)
              | (go_at_call 37; (with_reducible refine (get_any T6.out.p sec f q HM.out).mono ?_); rintro e w7 ⟨rfl, rfl⟩)
              | (go_at_call 38; (with_reducible refine (rget_any T6.out.r sec f q HM.out).mono ?_); rintro e w8 ⟨rfl, hb8⟩; have T8 := Lib.hid (T6.out.below hb8); have cv5 := conv (c := c5) (R56.out.below hb8); have cv6 := conv (c := c6) (R6.out.below hb8); clear hb8 T6 R56 R6 y1 y2 y3 y4 y5)
              | fail)
            go_roundw
            case measure => simp [intOf]; omega
            case rel => exact ⟨k + 1, _, _, _, by omega, rfl, by go_num, Lib.hid T8.out.p, Lib.hid T8.out.r, HM, Lib.hid T8.out.bel⟩
        · as_aux_lemma =>
            have T4d := T0.out.drew
            obtain ⟨a1, a2, a3, a4, a5⟩ := cells6o T4d.o
            go_region_held3 (fun w' => w'.cell? ⟨wr.heap.size, 1, none⟩ = some (.int .i64 f) ∧ w'.cell? ⟨wr.heap.size, 2, none⟩ = some (.int .i64 q) ∧ w'.cell? ⟨wr.heap.size, 3, none⟩ = some (.bool sec) ∧ w'.cell? ⟨wr.heap.size, 4, none⟩ = some (.slice A m c) ∧ w'.cell? ⟨wr.heap.size, 5, none⟩ = some (.int .u64 v)) (first | exact ⟨a1, a2, a3, a4, a5⟩ | exact ⟨b1, b2, b3, b4, b5⟩ | exact ⟨c1, c2, c3', c4, c5'⟩ | exact ⟨e1, e2, e3, e4, e5⟩) (first
              | (go_at_call 32; refine (clear_any T4d.p f).mono ?_; rintro e w5 ⟨rfl, H5, hk5⟩; have T5 := T4d.prog hk5 H5; obtain ⟨b1, b2, b3, b4, b5⟩ := cells6o T5.o; clear hk5 H5)
              | (go_at_call 33; refine (rclear_any T5.r f).mono ?_; rintro e w6 ⟨rfl, H6, hk6⟩; have T6 := T5.ref hk6 H6; obtain ⟨e1, e2, e3, e4, e5⟩ := cells6o T6.o; clear hk6 H6))
            have HT := Lib.hid T6
            replace HM := Lib.hid (clF_mem (n := n) (f := f) HM.out)
            clear T4d T5 T6 a1 a2 a3 a4 a5 b1 b2 b3 b4 b5
            go_wp2_with (first
              | (go_at_call 35; (with_reducible refine (read_any HT.out.p sec f q nn).mono ?_); rintro e w5 ⟨A5, m5, c5, rfl, hr5, hb5, _⟩; have T5 := Lib.hid (HT.out.below hb5); obtain ⟨y1, y2, y3, y4, y5⟩ := cells6o T5.out.o; have R5 := Lib.hid hr5; clear hr5 hb5)
              | (go_at_call 36; (with_reducible refine (rread_any T5.out.r sec f q nn HM.out).mono ?_); rintro e w6 ⟨A6, m6, c6, rfl, hr6, hb6, _⟩; have T6 := Lib.hid (T5.out.below hb6); clear y1 y2 y3 y4 y5; obtain ⟨y1, y2, y3, y4, y5⟩ := cells6o T6.out.o; have R56 := Lib.hid (R5.out.below hb6); have R6 := Lib.hid hr6; clear hr6 hb6 R5 T5)
              | (go_at_call 37; (with_reducible refine (get_any T6.out.p sec f q HM.out).mono ?_); rintro e w7 ⟨rfl, rfl⟩)
              | (go_at_call 38; (with_reducible refine (rget_any T6.out.r sec f q HM.out).mono ?_); rintro e w8 ⟨rfl, hb8⟩; have T8 := Lib.hid (T6.out.below hb8); have cv5 := conv (c := c5) (R56.out.below hb8); have cv6 := conv (c := c6) (R6.out.below hb8); clear hb8 T6 R56 R6 y1 y2 y3 y4 y5)
              | fail)
            go_roundw
            case measure => simp [intOf]; omega
            case rel => exact ⟨k + 1, _, _, _, by omega, rfl, by go_num, Lib.hid T8.out.p, Lib.hid T8.out.r, HM, Lib.hid T8.out.bel⟩
        · as_aux_lemma =>
            skip
            go_wp2_with (first
              | (go_at_call 35; (with_reducible refine (read_any HT.out.p sec f q nn).mono ?_); rintro e w5 ⟨A5, m5, c5, rfl, hr5, hb5, _⟩; have T5 := Lib.hid (HT.out.below hb5); obtain ⟨y1, y2, y3, y4, y5⟩ := cells6o T5.out.o; have R5 := Lib.hid hr5; clear hr5 hb5)
              | (go_at_call 36; (with_reducible refine (rread_any T5.out.r sec f q nn HM.out).mono ?_); rintro e w6 ⟨A6, m6, c6, rfl, hr6, hb6, _⟩; have T6 := Lib.hid (T5.out.below hb6); clear y1 y2 y3 y4 y5; obtain ⟨y1, y2, y3, y4, y5⟩ := cells6o T6.out.o; have R56 := Lib.hid (R5.out.below hb6); have R6 := Lib.hid hr6; clear hr6 hb6 R5 T5)
              | (go_at_call 37; (with_reducible refine (get_any T6.out.p sec f q HM.out).mono ?_); rintro e w7 ⟨rfl, rfl⟩)
              | (go_at_call 38; (with_reducible refine (rget_any T6.out.r sec f q HM.out).mono ?_); rintro e w8 ⟨rfl, hb8⟩; have T8 := Lib.hid (T6.out.below hb8); have cv5 := conv (c := c5) (R56.out.below hb8); have cv6 := conv (c := c6) (R6.out.below hb8); clear hb8 T6 R56 R6 y1 y2 y3 y4 y5)
              | fail)
            go_roundw
            case measure => simp [intOf]; omega
            case rel => exact ⟨k + 1, _, _, _, by omega, rfl, by go_num, Lib.hid T8.out.p, Lib.hid T8.out.r, HM, Lib.hid T8.out.bel⟩
    · as_aux_lemma =>
        have hkl : k = len := by omega
        subst hkl
        have HP' := HP.out
        have HR' := HR.out
        have HB2 := HBel.out
        clear HP HR HBel
        go_wp2
        go_loopw [23] (fun i w2' => ∃ j : Nat, j ≤ n + 2 ∧ i = .int .i64 ((j : Int) - 1) ∧ Hid (Is w2' w.heap.size gk bk n F s) ∧ Hid (RIs w2' w2.heap.size g' R n F s) ∧ Hid (Below w.heap.size w w2')) (fun i _ => n + 2 - (intOf i + 1).toNat)
        case atStart => exact ⟨0, by omega, rfl, Lib.hid HP', Lib.hid HR', Lib.hid HB2⟩
        case round =>
          clear HP' HR' HB2
          obtain ⟨j, hj, rfl, HP, HR, HBel⟩ := hrel
          obtain ⟨x0, x1⟩ := rcells2 HR.out
          obtain ⟨Ar, cr, x0⟩ := x0
          by_cases hjn : j ≤ n + 1
          · obtain ⟨z, hz⟩ : ∃ z, (j : Int) - 1 = z := ⟨_, rfl⟩
            have hz1 : -1 ≤ z := by omega
            have hz2 : z ≤ (n : Int) := by omega
            rw [hz]
            obtain ⟨SB, hSB⟩ : ∃ b, (decide (0 ≤ z) && decide (z < s)) = b := ⟨_, rfl⟩
            have HSB := Lib.hid hSB
            by_cases h0 : 0 ≤ z
            · by_cases hs1 : z < s
              · have e1 : SB = true := by rw [← hSB]; simp [h0, hs1]
                subst e1
                clear hSB
                go_wp2_with (first
                  | (go_at_call 35; (refine (read_any HP.out true z 0 128).mono ?_); rintro e w5 ⟨A5, m5, c5, rfl, hr5, hb5, _⟩; have P5 := Lib.hid (HP.out.below hb5); have R5 := Lib.hid (HR.out.below hb5); have Q5 := Lib.hid (bel_chain HBel.out hb5); have D5 := Lib.hid hr5; clear hr5 hb5)
                  | (go_at_call 36; (refine (rread_any R5.out true z 0 128 HM.out).mono ?_); rintro e w6 ⟨A6, m6, c6, rfl, hr6, hb6, _⟩; have P6 := Lib.hid (P5.out.below hb6); have R6 := Lib.hid (R5.out.below hb6); have Q6 := Lib.hid (bel_chain Q5.out hb6); have cv5 := conv (c := c5) (D5.out.below hb6); have cv6 := conv (c := c6) hr6; obtain ⟨_, y1⟩ := rcells2 R6.out; clear hr6 hb6 x0 x1)
                  | (go_at_call 39; (with_reducible refine (secure_i P6.out z _ HSB.out).mono ?_); rintro e w7 ⟨rfl, rfl⟩)
                  | fail)
                go_roundw
                case measure => simp [intOf]; omega
                case rel => exact ⟨j + 1, by omega, by (first | rfl | (rw [← hz]; go_num) | (congr 1; omega)), P6, R6, Q6⟩
              · have e1 : SB = false := by rw [← hSB]; simp [hs1]
                subst e1
                clear hSB
                go_wp2_with (first
                  | (go_at_call 35; (refine (read_any HP.out true z 0 128).mono ?_); rintro e w5 ⟨A5, m5, c5, rfl, hr5, hb5, _⟩; have P5 := Lib.hid (HP.out.below hb5); have R5 := Lib.hid (HR.out.below hb5); have Q5 := Lib.hid (bel_chain HBel.out hb5); have D5 := Lib.hid hr5; clear hr5 hb5)
                  | (go_at_call 36; (refine (rread_any R5.out true z 0 128 HM.out).mono ?_); rintro e w6 ⟨A6, m6, c6, rfl, hr6, hb6, _⟩; have P6 := Lib.hid (P5.out.below hb6); have R6 := Lib.hid (R5.out.below hb6); have Q6 := Lib.hid (bel_chain Q5.out hb6); have cv5 := conv (c := c5) (D5.out.below hb6); have cv6 := conv (c := c6) hr6; obtain ⟨_, y1⟩ := rcells2 R6.out; clear hr6 hb6 x0 x1)
                  | (go_at_call 39; (with_reducible refine (secure_i P6.out z _ HSB.out).mono ?_); rintro e w7 ⟨rfl, rfl⟩)
                  | fail)
                go_roundw
                case measure => simp [intOf]; omega
                case rel => exact ⟨j + 1, by omega, by (first | rfl | (rw [← hz]; go_num) | (congr 1; omega)), P6, R6, Q6⟩
            · have e1 : SB = false := by rw [← hSB]; simp [h0]
              subst e1
              clear hSB
              go_wp2_with (first
                | (go_at_call 35; (refine (read_any HP.out true z 0 128).mono ?_); rintro e w5 ⟨A5, m5, c5, rfl, hr5, hb5, _⟩; have P5 := Lib.hid (HP.out.below hb5); have R5 := Lib.hid (HR.out.below hb5); have Q5 := Lib.hid (bel_chain HBel.out hb5); have D5 := Lib.hid hr5; clear hr5 hb5)
                | (go_at_call 36; (refine (rread_any R5.out true z 0 128 HM.out).mono ?_); rintro e w6 ⟨A6, m6, c6, rfl, hr6, hb6, _⟩; have P6 := Lib.hid (P5.out.below hb6); have R6 := Lib.hid (R5.out.below hb6); have Q6 := Lib.hid (bel_chain Q5.out hb6); have cv5 := conv (c := c5) (D5.out.below hb6); have cv6 := conv (c := c6) hr6; obtain ⟨_, y1⟩ := rcells2 R6.out; clear hr6 hb6 x0 x1)
                | (go_at_call 39; (with_reducible refine (secure_i P6.out z _ HSB.out).mono ?_); rintro e w7 ⟨rfl, rfl⟩)
                | fail)
              go_roundw
              case measure => simp [intOf]; omega
              case rel => exact ⟨j + 1, by omega, by (first | rfl | (rw [← hz]; go_num) | (congr 1; omega)), P6, R6, Q6⟩
          · have hj2 : j = n + 2 := by omega
            subst hj2
            have hz : ((n + 2 : Nat) : Int) - 1 = (n : Int) + 1 := by omega
            rw [hz]
            clear hz
            go_wp2_with fail
            go_ret
            exact ⟨rfl, HBel.out⟩
end Go.Proofs.Ytbcdkhgfjdbjoaa.Ram
