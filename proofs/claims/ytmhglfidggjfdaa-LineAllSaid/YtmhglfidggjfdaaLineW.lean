/- The statement on what interrupts in any run, walked. -/
import Derived.Test.YtmhglfidggjfdaaLineV
import Derived.Deep.RegionHeld3
namespace Go.Proofs.Ytmhglfidggjfdaa.Line
open Go.RowKit Go.Proofs.Ytmhglfidggjfdaa.Mem Go.Proofs.Ytmhglfidggjfdaa.Kept
set_option linter.unusedVariables false
set_option linter.unusedSimpArgs false

theorem tmod8 (z : Int) : -7 ≤ z.tmod 8 ∧ z.tmod 8 ≤ 7 := by
  have h1 := Int.tmod_lt_of_pos z (show (0 : Int) < 8 by decide)
  have h2 := Int.lt_tmod_of_pos z (show (0 : Int) < 8 by decide)
  omega
/-- The lines, the reference's beside them, and a deed. -/
structure Bt (w0 w : World) (B1 B2 g b : Nat) (s1 : List C) (g' : Nat) (rs : List Nat) (s2 : List C) (d : Nat) (cs : Array Value) : Prop where
  p : Is w B1 g b s1
  r : RIs w B2 g' rs s2
  o : w.heap[d]? = some (.cells cs 29 (0, 0))
  bel : Below w0.heap.size w0 w
  l1 : w0.heap.size ≤ B1
  l2 : w0.heap.size ≤ B2
variable {w0 w w' : World} {B1 B2 g b g' d : Nat} {s1 s2 s : List C} {rs : List Nat} {cs : Array Value}
theorem Bt.prog (T : Bt w0 w B1 B2 g b s1 g' rs s2 d cs) (H : Is w' B1 g b s) (hk : Kept w w' (fun k => k = b)) : Bt w0 w' B1 B2 g b s g' rs s2 d cs := by
  refine ⟨H, T.r.other T.p hk, hk.blk T.o (fun e => ?_), bel_row T.bel T.p T.l1 hk, T.l1, T.l2⟩
  have h1 := T.o
  rw [e, T.p.bk] at h1
  injection h1 with h1
  injection h1 with _ h1
  exact absurd h1 (by decide)
theorem Bt.ref (T : Bt w0 w B1 B2 g b s1 g' rs s2 d cs) (H : RIs w' B2 g' rs s) (hk : Kept w w' (RSet w B2)) : Bt w0 w' B1 B2 g b s1 g' rs s d cs :=
  ⟨T.p.other hk, H, hk.blk T.o (RSet.no T.o (by decide) (by decide)), hk.below T.bel T.bel.size (fun k h => Nat.le_trans T.l2 h.1), T.l1, T.l2⟩
theorem Bt.drewN (T : Bt w0 w B1 B2 g b s1 g' rs s2 d cs) (n : Nat) : Bt w0 (w.drewN n) B1 B2 g b s1 g' rs s2 d cs := ⟨T.p.drewN n, T.r.drewN n, T.o, bel_drewN T.bel n, T.l1, T.l2⟩
theorem Bt.drew (T : Bt w0 w B1 B2 g b s1 g' rs s2 d cs) : Bt w0 w.drew B1 B2 g b s1 g' rs s2 d cs := ⟨T.p.drewN 1, T.r.drewN 1, T.o, bel_drew T.bel, T.l1, T.l2⟩
theorem cells4o {w : World} {d : Nat} {a0 a1 a2 a3 : Value} (h : w.heap[d]? = some (.cells #[a0, a1, a2, a3] 29 (0, 0))) : w.cell? ⟨d, 1, none⟩ = some a1 ∧ w.cell? ⟨d, 2, none⟩ = some a2 ∧ w.cell? ⟨d, 3, none⟩ = some a3 := (cells4 h).2
theorem waits_q {w : World} {B g b : Nat} {s : List C} (h : Is w B g b s) (hw : Wf s) (i : Int) :
    Calls Try.prog 21 #[.pointer (some ⟨g, 0, none⟩), .int .i64 i] w fun e w' => e = .returned (.int .i64 (waitsF s i : Int)) ∧ w' = w := (waits_any h hw i).mono fun e w' h => ⟨h.1, h.2.symm⟩
theorem rwaits_q {w : World} {B g : Nat} {rs : List Nat} {s : List C} (h : RIs w B g rs s) (hw : Wf s) (i : Int) :
    Calls Try.prog 22 #[.pointer (some ⟨g, 0, none⟩), .int .i64 i] w fun e w' => e = .returned (.int .i64 (waitsF s i : Int)) ∧ w' = w := (rwaits_any h hw i).mono fun e w' h => ⟨h.1, h.2.symm⟩

set_option maxRecDepth 100000 in
set_option maxHeartbeats 8000000 in
theorem all_run (w : World) (z : Int) (bl ol len cap : Nat) (a : Option Addr) (ha : 0 < len → a = some ⟨bl, ol, none⟩) (hlen : len ≤ 60)
    (hd : ∀ i, i < len → ∃ (kd ci nn : Int) (m : Nat), m < 256 ∧ w.cell? ⟨bl, ol + i * 4, none⟩ = some (.int .i64 kd) ∧ w.cell? ⟨bl, ol + i * 4 + 1, none⟩ = some (.int .i64 ci) ∧ w.cell? ⟨bl, ol + i * 4 + 2, none⟩ = some (.int .i64 nn) ∧ w.cell? ⟨bl, ol + i * 4 + 3, none⟩ = some (.int .u8 (m : Int))) :
    Calls Try.prog 3 #[.int .i64 z, .slice a len cap] w fun e w' => e = .returned (.bool true) ∧ Below w.heap.size w w' := by
  have HD := Lib.hid hd
  have hl1 : (len : Int) ≤ 60 := by omega
  clear hd
  go_enter Try.func3, Try.ntmps3
  go_wp2_with (first
    | (go_at_call 10; refine (begun _).mono ?_; rintro e w1 ⟨rfl, hb1⟩)
    | (go_at_call 11; refine (new_any _ _).mono ?_; rintro e w2 ⟨g, b, rfl, H2, hb2'⟩; have hb2 := bel_chain hb1 hb2'; have hB := hb1.size; clear hb2')
    | (go_at_call 12; refine (rnew_any _ _).mono ?_; rintro e w3 ⟨g', rs, rfl, R3, hb3'⟩; have H3 := H2.below hb3'; have hb3 := bel_chain hb2 hb3'; have hB2 := hb2.size; clear hb3' H2)
    | fail)
  have W3 := new_wf z
  go_loopw [7] (fun i wr => ∃ (k : Nat) (s : List C), k ≤ len ∧ i = .int .i64 k ∧ Hid (Is wr w1.heap.size g b s) ∧ Hid (RIs wr w2.heap.size g' rs s) ∧ Hid (Wf s) ∧ Hid (Below w.heap.size w wr)) (fun i _ => len - (intOf i).toNat)
  case atStart => exact ⟨0, _, by omega, rfl, Lib.hid H3, Lib.hid R3, Lib.hid W3, Lib.hid hb3⟩
  case round =>
    clear H3 R3 W3 hb3 hb2 hb1
    obtain ⟨k, s, hk, rfl, HP, HR, HW, HBel⟩ := hrel
    by_cases hlt : k < len
    · have ea := ha (by omega)
      subst ea
      obtain ⟨kd, ci, nn, m, hm, d0, d1, d2, d3⟩ := HD.out k hlt
      have x0 := cell_below d0 HBel.out
      have x1 := cell_below d1 HBel.out
      have x2 := cell_below d2 HBel.out
      have x3 := cell_below d3 HBel.out
      have HMm := Lib.hid hm
      have hm8 := tmod8 kd
      have T0 : Hid (Bt w (wr.alloc (.cells #[.int .i64 kd, .int .i64 ci, .int .i64 nn, .int .u8 (m : Int)] 29)) w1.heap.size w2.heap.size g b s g' rs s wr.heap.size #[.int .i64 kd, .int .i64 ci, .int .i64 nn, .int .u8 (m : Int)]) :=
        Lib.hid ⟨HP.out.below (bel_alloc (Below.refl _ _) _), HR.out.below (bel_alloc (Below.refl _ _) _), blk_new _ _, bel_alloc HBel.out _, hB, hB2⟩
      clear d0 d1 d2 d3 hm
      go_wp2_with (first
        | (go_at_call 19; (with_reducible refine (next_any T0.out.p HW.out ci).mono ?_); rintro e w4 ⟨rfl, H4, k4⟩; have T4 := Lib.hid (T0.out.prog H4 k4); obtain ⟨y1, y2, y3⟩ := cells4o T4.out.o; clear H4 k4)
        | (go_at_call 20; (with_reducible refine (rnext_any T4.out.r HW.out ci).mono ?_); rintro e w5 ⟨rfl, H5, k5⟩; have T5 := Lib.hid (T4.out.ref H5 k5); clear y1 y2 y3; obtain ⟨y1, y2, y3⟩ := cells4o T5.out.o; clear H5 k5)
        | fail)
      · have T4d := T0.out.drew
        obtain ⟨a1, a2, a3⟩ := cells4o T4d.o
        go_region_held3 (fun w' => w'.cell? ⟨wr.heap.size, 1, none⟩ = some (.int .i64 ci) ∧ w'.cell? ⟨wr.heap.size, 2, none⟩ = some (.int .i64 nn) ∧ w'.cell? ⟨wr.heap.size, 3, none⟩ = some (.int .u8 (m : Int))) (first | exact ⟨a1, a2, a3⟩ | exact ⟨b1, b2, b3⟩ | exact ⟨y1, y2, y3⟩) (first
          | (go_at_call 13; refine (raise_any T4d.p HW.out ci nn).mono ?_; rintro e w4 ⟨rfl, H4, k4⟩; have T4 := T4d.prog H4 k4; obtain ⟨b1, b2, b3⟩ := cells4o T4.o; clear H4 k4)
          | (go_at_call 14; refine (rraise_any T4.r HW.out ci nn).mono ?_; rintro e w5 ⟨rfl, H5, k5⟩; have T5' := T4.ref H5 k5; obtain ⟨y1, y2, y3⟩ := cells4o T5'.o; clear H5 k5))
        have T5 := Lib.hid T5'
        have WW := Lib.hid (raise_wf HW.out ci nn)
        clear T4d T4 T5' a1 a2 a3 b1 b2 b3
        go_wp2
        go_quiet ((first | (go_at_call 21; exact Calls.quiet_of_same (waits_q (T5.out.drewN _).p WW.out ci)) | (go_at_call 22; exact Calls.quiet_of_same (rwaits_q (T5.out.drewN _).r WW.out ci))))
        go_wp2
        go_roundw
        case rel => exact ⟨k + 1, _, by omega, by go_num, Lib.hid (T5.out.drewN _).p, Lib.hid (T5.out.drewN _).r, WW, Lib.hid (T5.out.drewN _).bel⟩
        case measure => simp [intOf]; omega
      · have T4d := T0.out.drew
        obtain ⟨a1, a2, a3⟩ := cells4o T4d.o
        go_region_held3 (fun w' => w'.cell? ⟨wr.heap.size, 1, none⟩ = some (.int .i64 ci) ∧ w'.cell? ⟨wr.heap.size, 2, none⟩ = some (.int .i64 nn) ∧ w'.cell? ⟨wr.heap.size, 3, none⟩ = some (.int .u8 (m : Int))) (first | exact ⟨a1, a2, a3⟩ | exact ⟨b1, b2, b3⟩ | exact ⟨y1, y2, y3⟩) (first
          | (go_at_call 13; refine (raise_any T4d.p HW.out ci nn).mono ?_; rintro e w4 ⟨rfl, H4, k4⟩; have T4 := T4d.prog H4 k4; obtain ⟨b1, b2, b3⟩ := cells4o T4.o; clear H4 k4)
          | (go_at_call 14; refine (rraise_any T4.r HW.out ci nn).mono ?_; rintro e w5 ⟨rfl, H5, k5⟩; have T5' := T4.ref H5 k5; obtain ⟨y1, y2, y3⟩ := cells4o T5'.o; clear H5 k5))
        have T5 := Lib.hid T5'
        have WW := Lib.hid (raise_wf HW.out ci nn)
        clear T4d T4 T5' a1 a2 a3 b1 b2 b3
        go_wp2
        go_quiet ((first | (go_at_call 21; exact Calls.quiet_of_same (waits_q (T5.out.drewN _).p WW.out ci)) | (go_at_call 22; exact Calls.quiet_of_same (rwaits_q (T5.out.drewN _).r WW.out ci))))
        go_wp2
        go_roundw
        case rel => exact ⟨k + 1, _, by omega, by go_num, Lib.hid (T5.out.drewN _).p, Lib.hid (T5.out.drewN _).r, WW, Lib.hid (T5.out.drewN _).bel⟩
        case measure => simp [intOf]; omega
      · have T4d := T0.out.drew
        obtain ⟨a1, a2, a3⟩ := cells4o T4d.o
        go_region_held3 (fun w' => w'.cell? ⟨wr.heap.size, 1, none⟩ = some (.int .i64 ci) ∧ w'.cell? ⟨wr.heap.size, 2, none⟩ = some (.int .i64 nn) ∧ w'.cell? ⟨wr.heap.size, 3, none⟩ = some (.int .u8 (m : Int))) (first | exact ⟨a1, a2, a3⟩ | exact ⟨b1, b2, b3⟩ | exact ⟨y1, y2, y3⟩) (first
          | (go_at_call 13; refine (raise_any T4d.p HW.out ci nn).mono ?_; rintro e w4 ⟨rfl, H4, k4⟩; have T4 := T4d.prog H4 k4; obtain ⟨b1, b2, b3⟩ := cells4o T4.o; clear H4 k4)
          | (go_at_call 14; refine (rraise_any T4.r HW.out ci nn).mono ?_; rintro e w5 ⟨rfl, H5, k5⟩; have T5' := T4.ref H5 k5; obtain ⟨y1, y2, y3⟩ := cells4o T5'.o; clear H5 k5))
        have T5 := Lib.hid T5'
        have WW := Lib.hid (raise_wf HW.out ci nn)
        clear T4d T4 T5' a1 a2 a3 b1 b2 b3
        go_wp2
        go_quiet ((first | (go_at_call 21; exact Calls.quiet_of_same (waits_q (T5.out.drewN _).p WW.out ci)) | (go_at_call 22; exact Calls.quiet_of_same (rwaits_q (T5.out.drewN _).r WW.out ci))))
        go_wp2
        go_roundw
        case rel => exact ⟨k + 1, _, by omega, by go_num, Lib.hid (T5.out.drewN _).p, Lib.hid (T5.out.drewN _).r, WW, Lib.hid (T5.out.drewN _).bel⟩
        case measure => simp [intOf]; omega
      · have T4d := T0.out.drew
        obtain ⟨a1, a2, a3⟩ := cells4o T4d.o
        go_region_held3 (fun w' => w'.cell? ⟨wr.heap.size, 1, none⟩ = some (.int .i64 ci) ∧ w'.cell? ⟨wr.heap.size, 2, none⟩ = some (.int .i64 nn) ∧ w'.cell? ⟨wr.heap.size, 3, none⟩ = some (.int .u8 (m : Int))) (first | exact ⟨a1, a2, a3⟩ | exact ⟨b1, b2, b3⟩ | exact ⟨y1, y2, y3⟩) (first
          | (go_at_call 15; refine (tick_any T4d.p HW.out ci).mono ?_; rintro e w4 ⟨rfl, H4, k4⟩; have T4 := T4d.prog H4 k4; obtain ⟨b1, b2, b3⟩ := cells4o T4.o; clear H4 k4)
          | (go_at_call 16; refine (rtick_any T4.r HW.out ci).mono ?_; rintro e w5 ⟨rfl, H5, k5⟩; have T5' := T4.ref H5 k5; obtain ⟨y1, y2, y3⟩ := cells4o T5'.o; clear H5 k5))
        have T5 := Lib.hid T5'
        have WW := Lib.hid (tick_wf HW.out ci)
        clear T4d T4 T5' a1 a2 a3 b1 b2 b3
        go_wp2
        go_quiet ((first | (go_at_call 21; exact Calls.quiet_of_same (waits_q (T5.out.drewN _).p WW.out ci)) | (go_at_call 22; exact Calls.quiet_of_same (rwaits_q (T5.out.drewN _).r WW.out ci))))
        go_wp2
        go_roundw
        case rel => exact ⟨k + 1, _, by omega, by go_num, Lib.hid (T5.out.drewN _).p, Lib.hid (T5.out.drewN _).r, WW, Lib.hid (T5.out.drewN _).bel⟩
        case measure => simp [intOf]; omega
      · have T4d := T0.out.drew
        obtain ⟨a1, a2, a3⟩ := cells4o T4d.o
        go_region_held3 (fun w' => w'.cell? ⟨wr.heap.size, 1, none⟩ = some (.int .i64 ci) ∧ w'.cell? ⟨wr.heap.size, 2, none⟩ = some (.int .i64 nn) ∧ w'.cell? ⟨wr.heap.size, 3, none⟩ = some (.int .u8 (m : Int))) (first | exact ⟨a1, a2, a3⟩ | exact ⟨b1, b2, b3⟩ | exact ⟨y1, y2, y3⟩) (first
          | (go_at_call 17; refine (enable_any T4d.p HW.out ci m).mono ?_; rintro e w4 ⟨rfl, H4, k4⟩; have T4 := T4d.prog H4 k4; obtain ⟨b1, b2, b3⟩ := cells4o T4.o; clear H4 k4)
          | (go_at_call 18; refine (renable_any T4.r HW.out ci m).mono ?_; rintro e w5 ⟨rfl, H5, k5⟩; have T5' := T4.ref H5 k5; obtain ⟨y1, y2, y3⟩ := cells4o T5'.o; clear H5 k5))
        have T5 := Lib.hid T5'
        have WW := Lib.hid (enable_wf HW.out ci m HMm.out)
        clear T4d T4 T5' a1 a2 a3 b1 b2 b3
        go_wp2
        go_quiet ((first | (go_at_call 21; exact Calls.quiet_of_same (waits_q (T5.out.drewN _).p WW.out ci)) | (go_at_call 22; exact Calls.quiet_of_same (rwaits_q (T5.out.drewN _).r WW.out ci))))
        go_wp2
        go_roundw
        case rel => exact ⟨k + 1, _, by omega, by go_num, Lib.hid (T5.out.drewN _).p, Lib.hid (T5.out.drewN _).r, WW, Lib.hid (T5.out.drewN _).bel⟩
        case measure => simp [intOf]; omega
      · have WW := Lib.hid (next_wf HW.out ci)
        go_quiet ((first | (go_at_call 21; exact Calls.quiet_of_same (waits_q (T5.out.drewN _).p WW.out ci)) | (go_at_call 22; exact Calls.quiet_of_same (rwaits_q (T5.out.drewN _).r WW.out ci))))
        go_wp2
        go_roundw
        case rel => exact ⟨k + 1, _, by omega, by go_num, Lib.hid (T5.out.drewN _).p, Lib.hid (T5.out.drewN _).r, WW, Lib.hid (T5.out.drewN _).bel⟩
        case measure => simp [intOf]; omega
    · obtain rfl : k = len := by omega
      have HB2 := HBel.out
      clear HP HR HW HBel HD
      go_wp2_with (first
        | (go_at_call 19; refine (next_nil _ _).mono ?_; rintro e w4 ⟨rfl, rfl⟩)
        | (go_at_call 13; refine (raise_nil _ _ _).mono ?_; rintro e w4 ⟨rfl, rfl⟩)
        | (go_at_call 15; refine (tick_nil _ _).mono ?_; rintro e w4 ⟨rfl, rfl⟩)
        | (go_at_call 17; refine (enable_nil _ _ _).mono ?_; rintro e w4 ⟨rfl, rfl⟩)
        | (go_at_call 21; refine (waits_nil _ _).mono ?_; rintro e w4 ⟨rfl, rfl⟩)
        | fail)
      go_ret
      exact ⟨rfl, HB2⟩
set_option maxHeartbeats 1000000 in
theorem all_out (w : World) (z : Int) (a : Option Addr) (len cap : Nat) (h : 60 < len) :
    Calls Try.prog 3 #[.int .i64 z, .slice a len cap] w fun e w' => e = .returned (.bool true) ∧ Below w.heap.size w w' := by
  have h1 : (60 : Int) < (len : Int) := by omega
  go_enter Try.func3, Try.ntmps3
  go_wp2_with (first
    | (go_at_call 10; refine (begun _).mono ?_; rintro e w1 ⟨rfl, hb1⟩)
    | fail)
  go_ret
  exact ⟨rfl, hb1⟩
theorem all_any (w : World) (z : Int) (a : Option Addr) (bl ol len cap : Nat) (ha : 0 < len → a = some ⟨bl, ol, none⟩)
    (hd : ∀ i, i < len → ∃ (kd ci nn : Int) (m : Nat), m < 256 ∧ w.cell? ⟨bl, ol + i * 4, none⟩ = some (.int .i64 kd) ∧ w.cell? ⟨bl, ol + i * 4 + 1, none⟩ = some (.int .i64 ci) ∧ w.cell? ⟨bl, ol + i * 4 + 2, none⟩ = some (.int .i64 nn) ∧ w.cell? ⟨bl, ol + i * 4 + 3, none⟩ = some (.int .u8 (m : Int))) :
    Calls Try.prog 3 #[.int .i64 z, .slice a len cap] w fun e w' => e = .returned (.bool true) ∧ Below w.heap.size w w' := by
  by_cases h : 60 < len
  · exact all_out w z a len cap h
  · exact all_run w z bl ol len cap a ha (by omega) hd
end Go.Proofs.Ytmhglfidggjfdaa.Line
