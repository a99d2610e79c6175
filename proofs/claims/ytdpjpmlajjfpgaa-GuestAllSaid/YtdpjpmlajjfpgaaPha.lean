/- Package phasor: numbers of two parts, walked. -/
import Derived.Test.YtdpjpmlajjfpgaaFlt
import Derived.Test.YtdpjpmlajjfpgaaMem
import Derived.Test.YtdpjpmlajjfpgaaCells
import Derived.Test.YtdpjpmlajjfpgaaKept
import Derived.Test.YtdpjpmlajjfpgaaProg
import Derived.Laws.Small
import Derived.WalkLawsBesides
import Derived.BigRegion
import Derived.StillTailTactics
namespace Go.Proofs.Ytdpjpmlajjfpgaa.Pha
open Go Go.RowKit Go.Proofs.Ytdpjpmlajjfpgaa.Mem Go.Proofs.Ytdpjpmlajjfpgaa.Kept Go.Proofs.Ytdpjpmlajjfpgaa.Flt
set_option linter.unusedVariables false
set_option linter.unusedSimpArgs false

/-- A word as a signed number; one that is not too great; a part, or 0, if it is too great. -/
def clipZ (n : Int) : Int := if n < -1048576 then -1048576 else if 1048576 < n then 1048576 else n
def clipF (v : Int) : Int := clipZ (IntKind.i64.wrap v)
def cutF (x : Int) : Int := if 1125899906842624 < x ∨ x < -1125899906842624 then 0 else x
theorem clipF_in (v : Int) : -1048576 ≤ clipF v ∧ clipF v ≤ 1048576 := by unfold clipF clipZ; split <;> (try split) <;> omega
theorem cutF_in (x : Int) : -1125899906842624 ≤ cutF x ∧ cutF x ≤ 1125899906842624 := by unfold cutF; split <;> omega

theorem clip_same (w : World) (v : Int) : Calls Try.prog 66 #[.int .u64 v] w fun e w' => e = .returned (.float .f64 (FloatKind.f64.nearest (clipF v))) ∧ w' = w := by
  obtain ⟨n, hn⟩ : ∃ n, IntKind.i64.wrap v = n := ⟨_, rfl⟩
  unfold clipF
  rw [hn]
  unfold clipZ
  go_enter Try.func66, Try.ntmps66
  go_wp2
  all_goals
    go_ret
    exact ⟨rfl, rfl⟩
theorem run_neg (b : Nat) (w : World) : (Op.unary .neg (.float .f64 b)).run Try.prog w = .ok (.float .f64 (Op.negFloat .f64 b)) w := rfl
theorem mirror_same (w : World) (a b : Nat) : Calls Try.prog 70 #[.complex .f64 a b] w fun e w' => e = .returned (.complex .f64 a (Op.negFloat .f64 b)) ∧ w' = w := by
  have hneg := run_neg
  go_enter Try.func70, Try.ntmps70
  go_wp2
  go_ret
  exact ⟨rfl, rfl⟩
theorem fl_mmost : Fl 14055734437023318016 (-1125899906842624) := ⟨true, 2, by decide +kernel, fun _ => by decide⟩
def cutW (n : Int) (x : Nat) : Nat := if 1125899906842624 < n ∨ n < -1125899906842624 then 0 else x
theorem fl_cut {x : Nat} {n : Int} (h : Fl x n) : Fl (cutW n x) (cutF n) := by
  unfold cutW cutF
  split
  · exact fl_zero
  · exact h
def CutPost (w : World) (y : Nat) (e : Ending) (w' : World) : Prop := e = .returned (.float .f64 y) ∧ w' = w
theorem ret_f {a b : Nat} (h : a = b) : Ending.returned (.float .f64 a) = .returned (.float .f64 b) := by rw [h]
theorem cut_any (w : World) {x : Nat} {n : Int} (hx : Fl x n) : Calls Try.prog 71 #[.float .f64 x] w (CutPost w (cutW n x)) := by
  have o1 := fl_order hx fl_most
  have o2 := fl_order hx fl_mmost
  have HX := Lib.hid hx
  clear hx
  by_cases h1 : 1125899906842624 < n
  · have e1 : compare n 1125899906842624 = .gt := Int.compare_eq_gt.2 h1
    rw [e1] at o1
    have e : cutW n x = 0 := by unfold cutW; rw [if_pos (Or.inl h1)]
    have HE := Lib.hid e
    clear o2 e1 h1 e
    go_enter Try.func71, Try.ntmps71
    go_wp2
    go_ret
    exact ⟨ret_f HE.out.symm, rfl⟩
  · have e1 : (some (compare n 1125899906842624) == some Ordering.gt) = false := by
      rcases Int.lt_trichotomy n 1125899906842624 with h | h | h
      · rw [Int.compare_eq_lt.2 h]; rfl
      · rw [Int.compare_eq_eq.2 h]; rfl
      · omega
    obtain ⟨c1, hc1⟩ : ∃ c, some (compare n 1125899906842624) = c := ⟨_, rfl⟩
    rw [hc1] at o1 e1
    clear hc1
    by_cases h2 : n < -1125899906842624
    · have e2 : compare n (-1125899906842624) = .lt := Int.compare_eq_lt.2 h2
      rw [e2] at o2
      have e : cutW n x = 0 := by unfold cutW; rw [if_pos (Or.inr h2)]
      have HE := Lib.hid e
      clear e2 h1 h2 e
      go_enter Try.func71, Try.ntmps71
      go_wp2
      go_ret
      exact ⟨ret_f HE.out.symm, rfl⟩
    · have e2 : (some (compare n (-1125899906842624)) == some Ordering.lt) = false := by
        rcases Int.lt_trichotomy n (-1125899906842624) with h | h | h
        · omega
        · rw [Int.compare_eq_eq.2 h]; rfl
        · rw [Int.compare_eq_gt.2 h]; rfl
      obtain ⟨c2, hc2⟩ : ∃ c, some (compare n (-1125899906842624)) = c := ⟨_, rfl⟩
      rw [hc2] at o2 e2
      have e : cutW n x = x := by unfold cutW; rw [if_neg (by omega)]
      have HE := Lib.hid e
      clear hc2 h1 h2 e
      go_enter Try.func71, Try.ntmps71
      go_wp2
      go_ret
      exact ⟨ret_f HE.out.symm, rfl⟩

/-- Six whole numbers: the parts of a, of b, of what was reckoned. -/
structure PS where
  a0 : Int
  a1 : Int
  b0 : Int
  b1 : Int
  r0 : Int
  r1 : Int
def PS.In (s : PS) : Prop := (-1048576 ≤ s.a0 ∧ s.a0 ≤ 1048576) ∧ (-1048576 ≤ s.a1 ∧ s.a1 ≤ 1048576) ∧ (-1048576 ≤ s.b0 ∧ s.b0 ≤ 1048576) ∧ (-1048576 ≤ s.b1 ∧ s.b1 ≤ 1048576) ∧ (-1125899906842624 ≤ s.r0 ∧ s.r0 ≤ 1125899906842624) ∧ (-1125899906842624 ≤ s.r1 ∧ s.r1 ≤ 1125899906842624)
/-- A device at block g. -/
def Is (w : World) (g : Nat) (s : PS) : Prop := ∃ x0 x1 y0 y1 z0 z1 : Nat, w.heap[g]? = some (.cells #[.complex .f64 x0 x1, .complex .f64 y0 y1, .complex .f64 z0 z1] 108 (0, 0)) ∧
  (Fl x0 s.a0 ∧ Fl x1 s.a1 ∧ Fl y0 s.b0 ∧ Fl y1 s.b1 ∧ Fl z0 s.r0 ∧ Fl z1 s.r1) ∧ s.In
theorem run_store_complex (w : World) (a : Addr) (x y : Nat) (m : Mode) : (store a (.complex .f64 x y) m).run Try.prog w = stored Try.prog w a (.complex .f64 x y) m := run_store Try.prog w a _ m rfl
attribute [local go_sem] run_store_complex
theorem ret_i {k : IntKind} {a b : Int} (h : a = b) : Ending.returned (.int k a) = .returned (.int k b) := by rw [h]
theorem new_any (w : World) : Calls Try.prog 40 #[] w fun e w' => e = .returned (.pointer (some ⟨w.heap.size, 0, none⟩)) ∧ Is w' w.heap.size ⟨0, 0, 0, 0, 0, 0⟩ ∧ Below w.heap.size w w' := by
  go_enter Try.func40, Try.ntmps40
  go_wp2
  go_ret
  exact ⟨rfl, ⟨0, 0, 0, 0, 0, 0, blk_new _ _, ⟨fl_zero, fl_zero, fl_zero, fl_zero, fl_zero, fl_zero⟩, by unfold PS.In; decide⟩, bel_alloc (Below.refl _ _) _⟩
def loadF (s : PS) (w : Int) : Int := if w = 0 then s.a0 else if w = 1 then s.a1 else if w = 2 then s.b0 else if w = 3 then s.b1 else if w = 5 then s.r0 else if w = 6 then s.r1 else 0
theorem load_nil (w : World) (k : Int) : Calls Try.prog 59 #[.pointer none, .int .i64 k] w fun e w' => e = .returned (.int .u64 0) ∧ w' = w := by
  go_enter Try.func59, Try.ntmps59
  go_wp2
  go_ret
  exact ⟨rfl, rfl⟩
theorem run_conv {x : Nat} {n : Int} (h : Fl x n) (h0 : -1125899906842624 ≤ n) (h1 : n ≤ 1125899906842624) (w : World) : (convert 116 2 (.float .f64 x)).run Try.prog w = .ok (.int .i64 n) w :=
  run_convert_float_int w 116 2 .f64 .i64 x n (by rw [Try.underlying116]; rfl) Try.underlying2 (fl_int h (by omega) (by omega))
theorem load_same {w : World} {g : Nat} {s : PS} (h : Is w g s) (k : Int) : Calls Try.prog 59 #[.pointer (some ⟨g, 0, none⟩), .int .i64 k] w fun e w' => e = .returned (.int .u64 (IntKind.u64.wrap (loadF s k))) ∧ w' = w := by
  obtain ⟨x0, x1, y0, y1, z0, z1, hb, ⟨f0, f1, f2, f3, f4, f5⟩, ⟨i0, i1, i2, i3, i4, i5⟩⟩ := h
  have hc := cells3 hb
  have q0 := run_conv f0 (by omega) (by omega)
  have q1 := run_conv f1 (by omega) (by omega)
  have q2 := run_conv f2 (by omega) (by omega)
  have q3 := run_conv f3 (by omega) (by omega)
  have q4 := run_conv f4 (by omega) (by omega)
  have q5 := run_conv f5 (by omega) (by omega)
  have q6 := run_conv fl_zero (by omega) (by omega)
  obtain ⟨V, hV⟩ : ∃ V, loadF s k = V := ⟨_, rfl⟩
  rw [hV]
  have HV := Lib.hid hV
  clear hV f0 f1 f2 f3 f4 f5 i0 i1 i2 i3 i4 i5 hb
  go_enter Try.func59, Try.ntmps59
  go_wp2
  all_goals
    go_ret
    exact ⟨ret_i (by rw [← HV.out]; unfold loadF; simp_all [show IntKind.u64.wrap 0 = 0 from rfl]), rfl⟩

/-- What a word does to the six numbers. -/
def preF (s : PS) (v : Int) : Int × Int :=
  if v = 1 then (s.a0 + s.b0, s.a1 + s.b1) else if v = 2 then (s.a0 - s.b0, s.a1 - s.b1) else if v = 3 then (s.a0 * s.b0 - s.a1 * s.b1, s.a0 * s.b1 + s.a1 * s.b0)
  else if v = 4 then (s.a0, -s.a1) else if v = 5 then (s.r0 + (s.a0 * s.b0 - s.a1 * s.b1), s.r1 + (s.a0 * s.b1 + s.a1 * s.b0)) else if v = 6 then (-s.a1, s.a0) else if v = 7 then (0, 0)
  else if v = 8 then (s.a0 * s.a0 - s.a1 * -s.a1, s.a0 * -s.a1 + s.a1 * s.a0) else (s.r0, s.r1)
def turnF (s : PS) (v : Int) : PS := { s with r0 := cutF (preF s v).1, r1 := cutF (preF s v).2 }
theorem mul_in {a b : Int} (ha : -1048576 ≤ a ∧ a ≤ 1048576) (hb : -1048576 ≤ b ∧ b ≤ 1048576) : -1099511627776 ≤ a * b ∧ a * b ≤ 1099511627776 := by
  have h1 : (a * b).natAbs ≤ 1048576 * 1048576 := by rw [Int.natAbs_mul]; exact Nat.mul_le_mul (by omega) (by omega)
  omega
theorem c_sum {x0 x1 y0 y1 : Nat} {a0 a1 b0 b1 : Int} (f0 : Fl x0 a0) (f1 : Fl x1 a1) (g0 : Fl y0 b0) (g1 : Fl y1 b1) (h0 : (a0 + b0).natAbs < 2 ^ 53) (h1 : (a1 + b1).natAbs < 2 ^ 53) :
    ∃ r s, cSumBits .add .f64 x0 x1 y0 y1 = some (r, s) ∧ Fl r (a0 + b0) ∧ Fl s (a1 + b1) := by
  obtain ⟨r, e, hr⟩ := fl_add f0 g0 h0
  obtain ⟨s, e', hs⟩ := fl_add f1 g1 h1
  exact ⟨r, s, by unfold cSumBits; rw [e, e']; rfl, hr, hs⟩
theorem c_dif {x0 x1 y0 y1 : Nat} {a0 a1 b0 b1 : Int} (f0 : Fl x0 a0) (f1 : Fl x1 a1) (g0 : Fl y0 b0) (g1 : Fl y1 b1) (h0 : (a0 - b0).natAbs < 2 ^ 53) (h1 : (a1 - b1).natAbs < 2 ^ 53) :
    ∃ r s, cSumBits .sub .f64 x0 x1 y0 y1 = some (r, s) ∧ Fl r (a0 - b0) ∧ Fl s (a1 - b1) := by
  obtain ⟨r, e, hr⟩ := fl_sub f0 g0 h0
  obtain ⟨s, e', hs⟩ := fl_sub f1 g1 h1
  exact ⟨r, s, by unfold cSumBits; rw [e, e']; rfl, hr, hs⟩
theorem c_mul {x0 x1 y0 y1 : Nat} {a0 a1 b0 b1 : Int} (f0 : Fl x0 a0) (f1 : Fl x1 a1) (g0 : Fl y0 b0) (g1 : Fl y1 b1) (ha0 : -1048576 ≤ a0 ∧ a0 ≤ 1048576) (ha1 : -1048576 ≤ a1 ∧ a1 ≤ 1048576) (hb0 : -1048576 ≤ b0 ∧ b0 ≤ 1048576) (hb1 : -1048576 ≤ b1 ∧ b1 ≤ 1048576) :
    ∃ r s, cMulBits x0 x1 y0 y1 = some (r, s) ∧ Fl r (a0 * b0 - a1 * b1) ∧ Fl s (a0 * b1 + a1 * b0) := by
  have m1 := mul_in ha0 hb0
  have m2 := mul_in ha1 hb1
  have m3 := mul_in ha0 hb1
  have m4 := mul_in ha1 hb0
  obtain ⟨p1, e1, q1⟩ := fl_mul f0 g0 (by omega)
  obtain ⟨p2, e2, q2⟩ := fl_mul f1 g1 (by omega)
  obtain ⟨p3, e3, q3⟩ := fl_mul f0 g1 (by omega)
  obtain ⟨p4, e4, q4⟩ := fl_mul f1 g0 (by omega)
  obtain ⟨r, e5, q5⟩ := fl_sub q1 q2 (by omega)
  obtain ⟨s, e6, q6⟩ := fl_add q3 q4 (by omega)
  exact ⟨r, s, by unfold cMulBits; rw [e1, e2, e3, e4]; simp only [Option.bind_some]; rw [e5, e6]; rfl, q5, q6⟩
theorem is_end {w W : World} {g : Nat} {s : PS} {x0 x1 y0 y1 r t : Nat} {p : Int × Int} {v : Int} (HB : W.heap[g]? = some (.cells #[.complex .f64 x0 x1, .complex .f64 y0 y1, .complex .f64 r t] 108 (0, 0))) (HK : Kept w W (fun j => j = g))
    (hf : Fl x0 s.a0 ∧ Fl x1 s.a1 ∧ Fl y0 s.b0 ∧ Fl y1 s.b1) (hi : s.In) (k0 : Fl r p.1) (k1 : Fl t p.2) (hp : preF s v = p) :
    Is (W.setCell ⟨g, 2, none⟩ (.complex .f64 (cutW p.1 r) (cutW p.2 t))) g (turnF s v) ∧ Kept w (W.setCell ⟨g, 2, none⟩ (.complex .f64 (cutW p.1 r) (cutW p.2 t))) (fun j => j = g) := by
  subst hp
  refine ⟨⟨x0, x1, y0, y1, _, _, blk_set HB 2 _, ⟨hf.1, hf.2.1, hf.2.2.1, hf.2.2.2, fl_cut k0, fl_cut k1⟩, ?_⟩, kept_set HK rfl 2 _⟩
  have h0 := cutF_in (preF s v).1
  have h1 := cutF_in (preF s v).2
  unfold PS.In at hi ⊢
  unfold turnF
  exact ⟨hi.1, hi.2.1, hi.2.2.1, hi.2.2.2.1, h0, h1⟩
theorem neg_in {a : Int} (h : -1048576 ≤ a ∧ a ≤ 1048576) : -1048576 ≤ -a ∧ -a ≤ 1048576 := by omega
set_option maxRecDepth 100000 in
set_option maxHeartbeats 4000000 in
theorem turn_1 {w : World} {g : Nat} {s : PS} (h : Is w g s) : Calls Try.prog 67 #[.pointer (some ⟨g, 0, none⟩), .int .u64 1] w fun e w' => e = .returned (.tuple #[]) ∧ Is w' g (turnF s 1) ∧ Kept w w' (fun j => j = g) := by
  obtain ⟨x0, x1, y0, y1, z0, z1, hb, ⟨f0, f1, f2, f3, f4, f5⟩, hi⟩ := h
  have hc := cells3 hb
  have hfz := blk_free hb 2
  obtain ⟨r, t, e1, k0, k1⟩ := c_sum f0 f1 f2 f3 (by have := hi; unfold PS.In at this; omega) (by have := hi; unfold PS.In at this; omega)
  have hop := fun t w => run_complex_sum (P := Try.prog) w .add (Or.inl rfl) t .f64 x0 x1 y0 y1 _ _ e1
  have HK0 := Lib.hid k0
  have HK1 := Lib.hid k1
  have HP := Lib.hid (show preF s 1 = (s.a0 + s.b0, s.a1 + s.b1) from rfl)
  have HF := Lib.hid (And.intro f0 (And.intro f1 (And.intro f2 f3)))
  have HI := Lib.hid hi
  have HB := Lib.hid hb
  clear hi hb f0 f1 f2 f3 f4 f5
  go_enter Try.func67, Try.ntmps67
  go_wp2
  go_region
  obtain ⟨W, hW⟩ : ∃ W, (w.setCell ⟨g, 2, none⟩ (.complex .f64 (r) (t))).drew = W := ⟨_, rfl⟩
  rw [hW]
  have BW : W.heap[g]? = some (.cells #[.complex .f64 x0 x1, .complex .f64 y0 y1, .complex .f64 (r) (t)] 108 (0, 0)) := by rw [← hW]; exact blk_set HB.out 2 (.complex .f64 (r) (t))
  have KW : Kept w W (fun j => j = g) := by rw [← hW]; exact kept_drewN (kept_set (S := fun j => j = g) (kept_refl w _) rfl 2 _) 1
  have HKW := Lib.hid KW
  have HBW := Lib.hid BW
  clear hW KW BW hc hfz
  have hc := cells3 HBW.out
  have hfz := blk_free HBW.out 2
  go_wp2
  refine wp_region_still_tail 16 (by kernel_rfl) (by kernel_rfl) ?_
  simp only [List.take_succ_cons, List.take_zero, List.drop_succ_cons, List.drop_zero]
  repeat still_step
  still_call (cut_any _ HK0.out)
  repeat still_step
  still_call (cut_any _ HK1.out)
  repeat still_step
  refine wpStill_nil ?_
  go_wp2
  go_end0
  have hE := is_end HBW.out HKW.out HF.out HI.out HK0.out HK1.out HP.out
  exact ⟨rfl, hE.1, kept_drewN hE.2 1⟩
set_option maxRecDepth 100000 in
set_option maxHeartbeats 4000000 in
theorem turn_2 {w : World} {g : Nat} {s : PS} (h : Is w g s) : Calls Try.prog 67 #[.pointer (some ⟨g, 0, none⟩), .int .u64 2] w fun e w' => e = .returned (.tuple #[]) ∧ Is w' g (turnF s 2) ∧ Kept w w' (fun j => j = g) := by
  obtain ⟨x0, x1, y0, y1, z0, z1, hb, ⟨f0, f1, f2, f3, f4, f5⟩, hi⟩ := h
  have hc := cells3 hb
  have hfz := blk_free hb 2
  obtain ⟨r, t, e1, k0, k1⟩ := c_dif f0 f1 f2 f3 (by have := hi; unfold PS.In at this; omega) (by have := hi; unfold PS.In at this; omega)
  have hop := fun t w => run_complex_sum (P := Try.prog) w .sub (Or.inr rfl) t .f64 x0 x1 y0 y1 _ _ e1
  have HK0 := Lib.hid k0
  have HK1 := Lib.hid k1
  have HP := Lib.hid (show preF s 2 = (s.a0 - s.b0, s.a1 - s.b1) from rfl)
  have HF := Lib.hid (And.intro f0 (And.intro f1 (And.intro f2 f3)))
  have HI := Lib.hid hi
  have HB := Lib.hid hb
  clear hi hb f0 f1 f2 f3 f4 f5
  go_enter Try.func67, Try.ntmps67
  go_wp2
  go_region
  obtain ⟨W, hW⟩ : ∃ W, (w.setCell ⟨g, 2, none⟩ (.complex .f64 (r) (t))).drew = W := ⟨_, rfl⟩
  rw [hW]
  have BW : W.heap[g]? = some (.cells #[.complex .f64 x0 x1, .complex .f64 y0 y1, .complex .f64 (r) (t)] 108 (0, 0)) := by rw [← hW]; exact blk_set HB.out 2 (.complex .f64 (r) (t))
  have KW : Kept w W (fun j => j = g) := by rw [← hW]; exact kept_drewN (kept_set (S := fun j => j = g) (kept_refl w _) rfl 2 _) 1
  have HKW := Lib.hid KW
  have HBW := Lib.hid BW
  clear hW KW BW hc hfz
  have hc := cells3 HBW.out
  have hfz := blk_free HBW.out 2
  go_wp2
  refine wp_region_still_tail 16 (by kernel_rfl) (by kernel_rfl) ?_
  simp only [List.take_succ_cons, List.take_zero, List.drop_succ_cons, List.drop_zero]
  repeat still_step
  still_call (cut_any _ HK0.out)
  repeat still_step
  still_call (cut_any _ HK1.out)
  repeat still_step
  refine wpStill_nil ?_
  go_wp2
  go_end0
  have hE := is_end HBW.out HKW.out HF.out HI.out HK0.out HK1.out HP.out
  exact ⟨rfl, hE.1, kept_drewN hE.2 1⟩
set_option maxRecDepth 100000 in
set_option maxHeartbeats 4000000 in
theorem turn_3 {w : World} {g : Nat} {s : PS} (h : Is w g s) : Calls Try.prog 67 #[.pointer (some ⟨g, 0, none⟩), .int .u64 3] w fun e w' => e = .returned (.tuple #[]) ∧ Is w' g (turnF s 3) ∧ Kept w w' (fun j => j = g) := by
  obtain ⟨x0, x1, y0, y1, z0, z1, hb, ⟨f0, f1, f2, f3, f4, f5⟩, hi⟩ := h
  have hc := cells3 hb
  have hfz := blk_free hb 2
  obtain ⟨r, t, e1, k0, k1⟩ := c_mul f0 f1 f2 f3 (by have := hi; unfold PS.In at this; exact this.1) (by have := hi; unfold PS.In at this; exact this.2.1) (by have := hi; unfold PS.In at this; exact this.2.2.1) (by have := hi; unfold PS.In at this; exact this.2.2.2.1)
  have hop := fun t w => run_complex_mul (P := Try.prog) w t x0 x1 y0 y1 _ _ e1
  have HK0 := Lib.hid k0
  have HK1 := Lib.hid k1
  have HP := Lib.hid (show preF s 3 = (s.a0 * s.b0 - s.a1 * s.b1, s.a0 * s.b1 + s.a1 * s.b0) from rfl)
  have HF := Lib.hid (And.intro f0 (And.intro f1 (And.intro f2 f3)))
  have HI := Lib.hid hi
  have HB := Lib.hid hb
  clear hi hb f0 f1 f2 f3 f4 f5
  go_enter Try.func67, Try.ntmps67
  go_wp2
  go_region
  obtain ⟨W, hW⟩ : ∃ W, (w.setCell ⟨g, 2, none⟩ (.complex .f64 (r) (t))).drew = W := ⟨_, rfl⟩
  rw [hW]
  have BW : W.heap[g]? = some (.cells #[.complex .f64 x0 x1, .complex .f64 y0 y1, .complex .f64 (r) (t)] 108 (0, 0)) := by rw [← hW]; exact blk_set HB.out 2 (.complex .f64 (r) (t))
  have KW : Kept w W (fun j => j = g) := by rw [← hW]; exact kept_drewN (kept_set (S := fun j => j = g) (kept_refl w _) rfl 2 _) 1
  have HKW := Lib.hid KW
  have HBW := Lib.hid BW
  clear hW KW BW hc hfz
  have hc := cells3 HBW.out
  have hfz := blk_free HBW.out 2
  go_wp2
  refine wp_region_still_tail 16 (by kernel_rfl) (by kernel_rfl) ?_
  simp only [List.take_succ_cons, List.take_zero, List.drop_succ_cons, List.drop_zero]
  repeat still_step
  still_call (cut_any _ HK0.out)
  repeat still_step
  still_call (cut_any _ HK1.out)
  repeat still_step
  refine wpStill_nil ?_
  go_wp2
  go_end0
  have hE := is_end HBW.out HKW.out HF.out HI.out HK0.out HK1.out HP.out
  exact ⟨rfl, hE.1, kept_drewN hE.2 1⟩
set_option maxRecDepth 100000 in
set_option maxHeartbeats 4000000 in
theorem turn_4 {w : World} {g : Nat} {s : PS} (h : Is w g s) : Calls Try.prog 67 #[.pointer (some ⟨g, 0, none⟩), .int .u64 4] w fun e w' => e = .returned (.tuple #[]) ∧ Is w' g (turnF s 4) ∧ Kept w w' (fun j => j = g) := by
  obtain ⟨x0, x1, y0, y1, z0, z1, hb, ⟨f0, f1, f2, f3, f4, f5⟩, hi⟩ := h
  have hc := cells3 hb
  have hfz := blk_free hb 2
  have HK0 := Lib.hid f0
  have HK1 := Lib.hid (fl_neg f1)
  have HP := Lib.hid (show preF s 4 = (s.a0, -s.a1) from rfl)
  have HF := Lib.hid (And.intro f0 (And.intro f1 (And.intro f2 f3)))
  have HI := Lib.hid hi
  have HB := Lib.hid hb
  clear hi hb f0 f1 f2 f3 f4 f5
  go_enter Try.func67, Try.ntmps67
  go_wp2_with (go_at_call 70; refine (mirror_same _ _ _).mono ?_; rintro e w2 ⟨rfl, hw2⟩; rw [hw2]; clear hw2)
  obtain ⟨W, hW⟩ : ∃ W, (w.setCell ⟨g, 2, none⟩ (.complex .f64 (x0) (Op.negFloat .f64 x1))) = W := ⟨_, rfl⟩
  rw [hW]
  have BW : W.heap[g]? = some (.cells #[.complex .f64 x0 x1, .complex .f64 y0 y1, .complex .f64 (x0) (Op.negFloat .f64 x1)] 108 (0, 0)) := by rw [← hW]; exact blk_set HB.out 2 (.complex .f64 (x0) (Op.negFloat .f64 x1))
  have KW : Kept w W (fun j => j = g) := by rw [← hW]; exact kept_set (S := fun j => j = g) (kept_refl w _) rfl 2 _
  have HKW := Lib.hid KW
  have HBW := Lib.hid BW
  clear hW KW BW hc hfz
  have hc := cells3 HBW.out
  have hfz := blk_free HBW.out 2
  go_wp2
  refine wp_region_still_tail 16 (by kernel_rfl) (by kernel_rfl) ?_
  simp only [List.take_succ_cons, List.take_zero, List.drop_succ_cons, List.drop_zero]
  repeat still_step
  still_call (cut_any _ HK0.out)
  repeat still_step
  still_call (cut_any _ HK1.out)
  repeat still_step
  refine wpStill_nil ?_
  go_wp2
  go_end0
  have hE := is_end HBW.out HKW.out HF.out HI.out HK0.out HK1.out HP.out
  exact ⟨rfl, hE.1, kept_drewN hE.2 1⟩
set_option maxRecDepth 100000 in
set_option maxHeartbeats 4000000 in
theorem turn_5 {w : World} {g : Nat} {s : PS} (h : Is w g s) : Calls Try.prog 67 #[.pointer (some ⟨g, 0, none⟩), .int .u64 5] w fun e w' => e = .returned (.tuple #[]) ∧ Is w' g (turnF s 5) ∧ Kept w w' (fun j => j = g) := by
  obtain ⟨x0, x1, y0, y1, z0, z1, hb, ⟨f0, f1, f2, f3, f4, f5⟩, hi⟩ := h
  have hc := cells3 hb
  have hfz := blk_free hb 2
  obtain ⟨r1, t1, e1, j0, j1⟩ := c_mul f0 f1 f2 f3 (by have := hi; unfold PS.In at this; exact this.1) (by have := hi; unfold PS.In at this; exact this.2.1) (by have := hi; unfold PS.In at this; exact this.2.2.1) (by have := hi; unfold PS.In at this; exact this.2.2.2.1)
  have m1 := mul_in hi.1 hi.2.2.1
  have m2 := mul_in hi.2.1 hi.2.2.2.1
  have m3 := mul_in hi.1 hi.2.2.2.1
  have m4 := mul_in hi.2.1 hi.2.2.1
  have m5 := hi.2.2.2.2
  obtain ⟨r, t, e2, k0, k1⟩ := c_sum f4 f5 j0 j1 (by omega) (by omega)
  have hop := fun t w => run_complex_mul (P := Try.prog) w t x0 x1 y0 y1 _ _ e1
  have hop2 := fun t w => run_complex_sum (P := Try.prog) w .add (Or.inl rfl) t .f64 z0 z1 r1 t1 _ _ e2
  clear m1 m2 m3 m4 m5
  have HK0 := Lib.hid k0
  have HK1 := Lib.hid k1
  have HP := Lib.hid (show preF s 5 = (s.r0 + (s.a0 * s.b0 - s.a1 * s.b1), s.r1 + (s.a0 * s.b1 + s.a1 * s.b0)) from rfl)
  have HF := Lib.hid (And.intro f0 (And.intro f1 (And.intro f2 f3)))
  have HI := Lib.hid hi
  have HB := Lib.hid hb
  clear hi hb f0 f1 f2 f3 f4 f5
  go_enter Try.func67, Try.ntmps67
  go_wp2
  go_region
  obtain ⟨W, hW⟩ : ∃ W, (w.setCell ⟨g, 2, none⟩ (.complex .f64 (r) (t))).drew = W := ⟨_, rfl⟩
  rw [hW]
  have BW : W.heap[g]? = some (.cells #[.complex .f64 x0 x1, .complex .f64 y0 y1, .complex .f64 (r) (t)] 108 (0, 0)) := by rw [← hW]; exact blk_set HB.out 2 (.complex .f64 (r) (t))
  have KW : Kept w W (fun j => j = g) := by rw [← hW]; exact kept_drewN (kept_set (S := fun j => j = g) (kept_refl w _) rfl 2 _) 1
  have HKW := Lib.hid KW
  have HBW := Lib.hid BW
  clear hW KW BW hc hfz
  have hc := cells3 HBW.out
  have hfz := blk_free HBW.out 2
  go_wp2
  refine wp_region_still_tail 16 (by kernel_rfl) (by kernel_rfl) ?_
  simp only [List.take_succ_cons, List.take_zero, List.drop_succ_cons, List.drop_zero]
  repeat still_step
  still_call (cut_any _ HK0.out)
  repeat still_step
  still_call (cut_any _ HK1.out)
  repeat still_step
  refine wpStill_nil ?_
  go_wp2
  go_end0
  have hE := is_end HBW.out HKW.out HF.out HI.out HK0.out HK1.out HP.out
  exact ⟨rfl, hE.1, kept_drewN hE.2 1⟩
set_option maxRecDepth 100000 in
set_option maxHeartbeats 4000000 in
theorem turn_6 {w : World} {g : Nat} {s : PS} (h : Is w g s) : Calls Try.prog 67 #[.pointer (some ⟨g, 0, none⟩), .int .u64 6] w fun e w' => e = .returned (.tuple #[]) ∧ Is w' g (turnF s 6) ∧ Kept w w' (fun j => j = g) := by
  obtain ⟨x0, x1, y0, y1, z0, z1, hb, ⟨f0, f1, f2, f3, f4, f5⟩, hi⟩ := h
  have hc := cells3 hb
  have hfz := blk_free hb 2
  have hneg := run_neg
  have HK0 := Lib.hid (fl_neg f1)
  have HK1 := Lib.hid f0
  have HP := Lib.hid (show preF s 6 = (-s.a1, s.a0) from rfl)
  have HF := Lib.hid (And.intro f0 (And.intro f1 (And.intro f2 f3)))
  have HI := Lib.hid hi
  have HB := Lib.hid hb
  clear hi hb f0 f1 f2 f3 f4 f5
  go_enter Try.func67, Try.ntmps67
  go_wp2
  go_region
  obtain ⟨W, hW⟩ : ∃ W, (w.setCell ⟨g, 2, none⟩ (.complex .f64 (Op.negFloat .f64 x1) (x0))).drew = W := ⟨_, rfl⟩
  rw [hW]
  have BW : W.heap[g]? = some (.cells #[.complex .f64 x0 x1, .complex .f64 y0 y1, .complex .f64 (Op.negFloat .f64 x1) (x0)] 108 (0, 0)) := by rw [← hW]; exact blk_set HB.out 2 (.complex .f64 (Op.negFloat .f64 x1) (x0))
  have KW : Kept w W (fun j => j = g) := by rw [← hW]; exact kept_drewN (kept_set (S := fun j => j = g) (kept_refl w _) rfl 2 _) 1
  have HKW := Lib.hid KW
  have HBW := Lib.hid BW
  clear hW KW BW hc hfz
  have hc := cells3 HBW.out
  have hfz := blk_free HBW.out 2
  go_wp2
  refine wp_region_still_tail 16 (by kernel_rfl) (by kernel_rfl) ?_
  simp only [List.take_succ_cons, List.take_zero, List.drop_succ_cons, List.drop_zero]
  repeat still_step
  still_call (cut_any _ HK0.out)
  repeat still_step
  still_call (cut_any _ HK1.out)
  repeat still_step
  refine wpStill_nil ?_
  go_wp2
  go_end0
  have hE := is_end HBW.out HKW.out HF.out HI.out HK0.out HK1.out HP.out
  exact ⟨rfl, hE.1, kept_drewN hE.2 1⟩
set_option maxRecDepth 100000 in
set_option maxHeartbeats 4000000 in
theorem turn_7 {w : World} {g : Nat} {s : PS} (h : Is w g s) : Calls Try.prog 67 #[.pointer (some ⟨g, 0, none⟩), .int .u64 7] w fun e w' => e = .returned (.tuple #[]) ∧ Is w' g (turnF s 7) ∧ Kept w w' (fun j => j = g) := by
  obtain ⟨x0, x1, y0, y1, z0, z1, hb, ⟨f0, f1, f2, f3, f4, f5⟩, hi⟩ := h
  have hc := cells3 hb
  have hfz := blk_free hb 2
  have HK0 := Lib.hid fl_zero
  have HK1 := Lib.hid fl_zero
  have HP := Lib.hid (show preF s 7 = (0, 0) from rfl)
  have HF := Lib.hid (And.intro f0 (And.intro f1 (And.intro f2 f3)))
  have HI := Lib.hid hi
  have HB := Lib.hid hb
  clear hi hb f0 f1 f2 f3 f4 f5
  go_enter Try.func67, Try.ntmps67
  go_wp2
  obtain ⟨W, hW⟩ : ∃ W, (w.setCell ⟨g, 2, none⟩ (.complex .f64 (0) (0))) = W := ⟨_, rfl⟩
  rw [hW]
  have BW : W.heap[g]? = some (.cells #[.complex .f64 x0 x1, .complex .f64 y0 y1, .complex .f64 (0) (0)] 108 (0, 0)) := by rw [← hW]; exact blk_set HB.out 2 (.complex .f64 (0) (0))
  have KW : Kept w W (fun j => j = g) := by rw [← hW]; exact kept_set (S := fun j => j = g) (kept_refl w _) rfl 2 _
  have HKW := Lib.hid KW
  have HBW := Lib.hid BW
  clear hW KW BW hc hfz
  have hc := cells3 HBW.out
  have hfz := blk_free HBW.out 2
  go_wp2
  refine wp_region_still_tail 16 (by kernel_rfl) (by kernel_rfl) ?_
  simp only [List.take_succ_cons, List.take_zero, List.drop_succ_cons, List.drop_zero]
  repeat still_step
  still_call (cut_any _ HK0.out)
  repeat still_step
  still_call (cut_any _ HK1.out)
  repeat still_step
  refine wpStill_nil ?_
  go_wp2
  go_end0
  have hE := is_end HBW.out HKW.out HF.out HI.out HK0.out HK1.out HP.out
  exact ⟨rfl, hE.1, kept_drewN hE.2 1⟩
set_option maxRecDepth 100000 in
set_option maxHeartbeats 4000000 in
theorem turn_8 {w : World} {g : Nat} {s : PS} (h : Is w g s) : Calls Try.prog 67 #[.pointer (some ⟨g, 0, none⟩), .int .u64 8] w fun e w' => e = .returned (.tuple #[]) ∧ Is w' g (turnF s 8) ∧ Kept w w' (fun j => j = g) := by
  obtain ⟨x0, x1, y0, y1, z0, z1, hb, ⟨f0, f1, f2, f3, f4, f5⟩, hi⟩ := h
  have hc := cells3 hb
  have hfz := blk_free hb 2
  obtain ⟨r, t, e1, k0, k1⟩ := c_mul f0 f1 f0 (fl_neg f1) (by have := hi; unfold PS.In at this; exact this.1) (by have := hi; unfold PS.In at this; exact this.2.1) (by have := hi; unfold PS.In at this; exact this.1) (by have := hi; unfold PS.In at this; exact neg_in this.2.1)
  have hop := fun t w => run_complex_mul (P := Try.prog) w t x0 x1 x0 (Op.negFloat .f64 x1) _ _ e1
  have HK0 := Lib.hid k0
  have HK1 := Lib.hid k1
  have HP := Lib.hid (show preF s 8 = (s.a0 * s.a0 - s.a1 * -s.a1, s.a0 * -s.a1 + s.a1 * s.a0) from rfl)
  have HF := Lib.hid (And.intro f0 (And.intro f1 (And.intro f2 f3)))
  have HI := Lib.hid hi
  have HB := Lib.hid hb
  clear hi hb f0 f1 f2 f3 f4 f5
  go_enter Try.func67, Try.ntmps67
  go_wp2
  refine wp_region_still_tail 13 (by kernel_rfl) (by kernel_rfl) ?_
  simp only [List.take_succ_cons, List.take_zero, List.drop_succ_cons, List.drop_zero]
  repeat still_step
  still_call (mirror_same _ _ _)
  repeat still_step
  refine wpStill_nil ?_
  go_wp2
  obtain ⟨W, hW⟩ : ∃ W, (w.setCell ⟨g, 2, none⟩ (.complex .f64 (r) (t))).drew = W := ⟨_, rfl⟩
  rw [hW]
  have BW : W.heap[g]? = some (.cells #[.complex .f64 x0 x1, .complex .f64 y0 y1, .complex .f64 (r) (t)] 108 (0, 0)) := by rw [← hW]; exact blk_set HB.out 2 (.complex .f64 (r) (t))
  have KW : Kept w W (fun j => j = g) := by rw [← hW]; exact kept_drewN (kept_set (S := fun j => j = g) (kept_refl w _) rfl 2 _) 1
  have HKW := Lib.hid KW
  have HBW := Lib.hid BW
  clear hW KW BW hc hfz
  have hc := cells3 HBW.out
  have hfz := blk_free HBW.out 2
  go_wp2
  refine wp_region_still_tail 16 (by kernel_rfl) (by kernel_rfl) ?_
  simp only [List.take_succ_cons, List.take_zero, List.drop_succ_cons, List.drop_zero]
  repeat still_step
  still_call (cut_any _ HK0.out)
  repeat still_step
  still_call (cut_any _ HK1.out)
  repeat still_step
  refine wpStill_nil ?_
  go_wp2
  go_end0
  have hE := is_end HBW.out HKW.out HF.out HI.out HK0.out HK1.out HP.out
  exact ⟨rfl, hE.1, kept_drewN hE.2 1⟩
end Go.Proofs.Ytdpjpmlajjfpgaa.Pha
