/- Contracts of package piece: Add, in all states, and of the reference's. -/
import Derived.Test.YtlohonlcoedfhaaPiece
namespace Go.Proofs.Ytlohonlcoedfhaa.Piece
open Go.RowKit Go.Proofs.Ytlohonlcoedfhaa.Mem
open Go.Proofs.YtlohonlcoedfhaaW.PrintWords (nums ReadsInt own_reads own_reads' own_lit own_nil own_le print_append_row own_alloc)
set_option linter.unusedVariables false

theorem add_nil (w : World) (A : Option Addr) (n c : Nat) : Calls Try.prog 37 #[.pointer none, .slice A n c] w fun e w' => e = .returned (.tuple #[.bool false, .int .i64 (-2)]) ∧ w = w' := by
  go_enter Try.func37, Try.ntmps37
  go_wp2
  all_goals go_ret2
  all_goals exact ⟨rfl, rfl⟩
set_option maxHeartbeats 800000 in
theorem add_no {w : World} {B g : Nat} {R : Option Nat} {L : List Int} {all : Int} (A : Option Addr) (n c : Nat) (h : At w B g R L all) (h0 : 0 ≤ all) (h1 : all ≤ 400) (hl : (L.length : Int) ≤ all) (hn : n = 0 ∨ all - L.length < n) :
    Calls Try.prog 37 #[.pointer (some ⟨g, 0, none⟩), .slice A n c] w fun e w' => e = .returned (.tuple #[.bool false, .int .i64 (-2)]) ∧ ∃ m, w' = w.drewN m := by
  by_cases hz : n = 0
  · subst hz
    clear hn
    go_enter Try.func37, Try.ntmps37
    go_wp2
    all_goals go_ret2
    all_goals exact ⟨rfl, 0, rfl⟩
  · have hz1 : ((n : Int) == 0) = false := by rw [beq_eq_false_iff_ne]; omega
    have hlt : all - L.length < (n : Int) := by omega
    have hH := Lib.hid h
    clear hn h hz
    go_enter Try.func37, Try.ntmps37
    go_wp2_with (first
      | (go_at_call 39; refine (left_any hH.out h0 h1 hl).mono ?_; rintro e w1 ⟨rfl, m, rfl⟩)
      | fail)
    all_goals go_ret2
    all_goals exact ⟨rfl, _, rfl⟩
/-- What Add turns. -/
def Sof (g : Nat) (R : Option Nat) (k : Nat) : Prop := k = g ∨ R = some k
theorem ret_b {x y : Bool} (h : x = y) : Ending.returned (.tuple #[.bool x, .int .i64 0]) = .returned (.tuple #[.bool y, .int .i64 0]) := by rw [h]
/-- Behind the append. -/
def After (w w1 : World) (B g : Nat) (R : Option Nat) (M : List Int) (all : Int) (A1 : Option Addr) (c1 : Nat) : Prop :=
  (∃ v, w1.heap[g]? = some (.cells #[v, .int .i64 all] 77 (0, 0))) ∧ w1.ownsRow B 5 1 (.slice A1 M.length c1) M.length (nums .u8 M) ∧ Kept w w1 (Sof g R) ∧ ((Value.slice A1 M.length c1).ownBlock = R ∨ ∃ k, (Value.slice A1 M.length c1).ownBlock = some k ∧ w.heap.size ≤ k) ∧ B ≤ g ∧ g < w.heap.size
theorem after_append {w w1 : World} {m B g c0 c1 : Nat} {R : Option Nat} {L M : List Int} {all : Int} {A0 A1 : Option Addr} (hg : w.heap[g]? = some (.cells #[.slice A0 L.length c0, .int .i64 all] 77 (0, 0)))
    (ho : w.ownsRow B 5 1 (.slice A0 L.length c0) L.length (nums .u8 L)) (hR : (Value.slice A0 L.length c0).ownBlock = R) (hB : B ≤ g) (ho1 : w1.ownsRow B 5 1 (.slice A1 M.length c1) M.length (nums .u8 M))
    (hg1 : (w.drewN m).grownBy w1 (Value.slice A0 L.length c0).ownBlock) (hat : (Value.slice A1 M.length c1).ownBlock = (Value.slice A0 L.length c0).ownBlock ∨ ∃ b, (Value.slice A1 M.length c1).ownBlock = some b ∧ (w.drewN m).heap.size ≤ b) : After w w1 B g R M all A1 c1 := by
  have hne : ∀ k, R = some k → k ≠ g := fun k e => (At.row (k := k) (L := L) (all := all) ⟨A0, c0, hg, ho, hR, hB⟩ e).2.2
  rw [hR] at hg1 hat
  have hg2 : w.grownBy w1 R := ⟨hg1.os, hg1.tape, hg1.output, hg1.size, hg1.block⟩
  exact ⟨⟨_, (kept_grown (S := fun k => R = some k) hg2 (fun k hk => hk)).blk hg (fun e => hne g e rfl)⟩, ho1, kept_grown hg2 (fun k hk => Or.inr hk), hat, hB, blk_lt hg⟩
theorem slot_facts {w w1 : World} {B g : Nat} {R : Option Nat} {M : List Int} {all : Int} {A1 : Option Addr} {c1 : Nat} (h : After w w1 B g R M all A1 c1) : (∃ v, w1.cell? ⟨g, 0, none⟩ = some v) ∧ w1.frozen? ⟨g, 0, none⟩ = false := by
  obtain ⟨⟨v, hg⟩, _⟩ := h
  exact ⟨⟨v, (cells2 hg).1⟩, blk_free hg 0⟩
theorem at_after {w w1 : World} {B g : Nat} {R : Option Nat} {M : List Int} {all : Int} {A1 : Option Addr} {c1 nM : Nat} (h : After w w1 B g R M all A1 c1) (hM : M.length = nM) :
    At (w1.setCell ⟨g, 0, none⟩ (.slice A1 nM c1)) B g (Value.slice A1 nM c1).ownBlock M all ∧ Kept w (w1.setCell ⟨g, 0, none⟩ (.slice A1 nM c1)) (Sof g R) := by
  subst hM
  obtain ⟨⟨v, hg⟩, ho, hk, hat, hB, hlt⟩ := h
  refine ⟨⟨A1, c1, ?_, ?_, rfl, hB⟩, kept_set hk (Or.inl rfl) _ _⟩
  · have := blk_set hg 0 (.slice A1 M.length c1)
    simpa using this
  · have hk' : Kept w1 (w1.setCell ⟨g, 0, none⟩ (.slice A1 M.length c1)) (fun k => k = g) := kept_set (S := fun k => k = g) (kept_refl _ _) rfl _ _
    refine hk'.own ho (fun k hk e => ?_)
    obtain ⟨_, _, cs, h3⟩ := own_lt ho hk
    rw [e, hg] at h3
    injection h3 with h3
    injection h3 with _ h3 _
    exact absurd h3 (by decide)
theorem after_row {w w1 : World} {B g : Nat} {R : Option Nat} {M : List Int} {all : Int} {A1 : Option Addr} {c1 nM : Nat} (h : After w w1 B g R M all A1 c1) (hM : M.length = nM) :
    ((Value.slice A1 nM c1).ownBlock = R ∨ ∃ k, (Value.slice A1 nM c1).ownBlock = some k ∧ w.heap.size ≤ k) := by
  subst hM
  exact h.2.2.2.1
theorem len_after {L l : List Int} {n : Nat} {all : Int} (hl : (L.length : Int) + n ≤ all) (h : l.length = n) : ((L ++ l).length : Int) ≤ all := by
  rw [List.length_append, h]; omega
set_option maxHeartbeats 1600000 in
theorem add_ok {w : World} {B g : Nat} {R : Option Nat} {L l : List Int} {all : Int} (A : Option Addr) (n c : Nat) (h : At w B g R L all) (hB : B ≤ w.heap.size) (h0 : 0 ≤ all) (h1 : all ≤ 400) (hn : 0 < n) (hl : (L.length : Int) + n ≤ all) (hr : ReadsInt w .u8 A n l)
    (b : Bool) (hb : decide (all - (L.length : Int) - n = 0) = b) :
    Calls Try.prog 37 #[.pointer (some ⟨g, 0, none⟩), .slice A n c] w fun e w' => e = .returned (.tuple #[.bool b, .int .i64 0]) ∧
      (∃ R', At w' B g R' (L ++ l) all ∧ (R' = R ∨ ∃ k, R' = some k ∧ w.heap.size ≤ k)) ∧ Kept w w' (Sof g R) := by
  have hz1 : ((n : Int) == 0) = false := by rw [beq_eq_false_iff_ne]; omega
  have hlt : ¬ (all - L.length < (n : Int)) := by omega
  have hH := Lib.hid h
  have hll : l.length = n := hr.1
  obtain ⟨A0, c0, hg, ho, hR, hBg⟩ := h
  obtain ⟨x0, x1⟩ := cells2 hg
  have HG := Lib.hid hg
  have HO := Lib.hid ho
  have HR := Lib.hid hr
  have HRR := Lib.hid hR
  have HBB := Lib.hid hb
  have HL := Lib.hid hll
  clear hg ho hr hR hb hll
  obtain ⟨nM, hnM⟩ : ∃ n, (L ++ l).length = n := ⟨_, rfl⟩
  have HNM := Lib.hid hnM
  clear hnM
  have hlt2 : (L.length : Int) ≤ all := by omega
  have hbd : (L.length + n) * 1 ≤ 140737488355328 := by omega
  go_enter Try.func37, Try.ntmps37
  go_wp2_with (first
    | (go_at_call 39; (with_reducible refine (left_any hH.out h0 h1 hlt2).mono ?_); rintro e w1 ⟨rfl, m1, rfl⟩; have y0 : (w.drewN m1).cell? ⟨g, 0, none⟩ = some (.slice A0 L.length c0) := x0)
    | (at_builtin; refine print_append_row (w0 := w.drewN m1) B rfl (.tmp 24) (.tmp 25) 25 5 .u8 1 rfl Loan.underlyingB Loan.info5 (by decide) (.slice A0 L.length c0) L l A n c rfl rfl HO.out HR.out (Below.refl _ _) hB hbd ?_; intro v1 w1 ho1 hb1 hg1 hat1; obtain ⟨A1, c1, rfl, rd1⟩ := own_reads ho1; have HS1 := Lib.hid (after_append HG.out HO.out HRR.out hBg ho1 hg1 hat1); obtain ⟨⟨sv, s0⟩, s1⟩ := slot_facts HS1.out; clear hb1 hg1 hat1 ho1 rd1; rw [HNM.out])
    | (go_at_call 39; (with_reducible refine (left_any (at_after HS1.out HNM.out).1 h0 h1 (len_after hl HL.out)).mono ?_); rintro e w2 ⟨rfl, m2, rfl⟩)
    | fail)
  go_ret2
  refine ⟨?_, ⟨_, (at_after HS1.out HNM.out).1, after_row HS1.out HNM.out⟩, kept_drewN (at_after HS1.out HNM.out).2 _⟩
  refine ret_b ?_
  rw [← HBB.out, Bool.eq_iff_iff]
  have h1_ := HL.out
  simp only [beq_iff_eq, decide_eq_true_eq]
  omega

set_option maxHeartbeats 1600000 in
theorem radd_no {w : World} {B g : Nat} {R : Option Nat} {L : List Int} {all : Int} (A : Option Addr) (n c : Nat) (h : RAt w B g R L all) (h0 : 0 ≤ all) (h1 : all ≤ 400) (hl : (L.length : Int) ≤ all) (hn : n = 0 ∨ all - L.length < n) :
    Calls Try.prog 40 #[.pointer (some ⟨g, 0, none⟩), .slice A n c] w fun e w' => e = .returned (.tuple #[.bool false, .int .i64 (-2)]) ∧ ∃ m, w' = w.drewN m := by
  obtain ⟨A0, c0, hg, _, _, _⟩ := h
  obtain ⟨x0, x1⟩ := cells2 hg
  have hw : IntKind.i64.wrap (all - L.length) = all - L.length := IntWalk.i64_in _ (by omega)
  clear hg
  by_cases hz : n = 0
  · subst hz
    clear hn
    go_enter Try.func40, Try.ntmps40
    go_wp2
    go_quiet (fail)
    go_wp2
    all_goals go_ret2
    all_goals exact ⟨rfl, _, rfl⟩
  · have hz1 : ((n : Int) == 0) = false := by rw [beq_eq_false_iff_ne]; omega
    have hlt : decide (all - L.length < (n : Int)) = true := decide_eq_true (by omega)
    clear hn hz
    go_enter Try.func40, Try.ntmps40
    go_wp2
    go_quiet (fail)
    go_wp2
    all_goals go_ret2
    all_goals exact ⟨rfl, _, rfl⟩

theorem bel_of_drew {B n : Nat} {w w1 : World} (h : Below B (w.drewN n) w1) : Below B w w1 := ⟨h.os, h.tape, h.output, h.size, h.block⟩
theorem reads_drew {w w1 : World} {m n : Nat} {A : Option Addr} {l : List Int} (h : ReadsInt w .u8 A n l) (hb : Below w.heap.size (w.drewN m) w1) : ReadsInt w1 .u8 A n l := h.below (bel_of_drew hb)
theorem after_radd {w w1 : World} {B g c0 nM c1 : Nat} {L M : List Int} {all : Int} {A0 A1 : Option Addr} (hg : w.heap[g]? = some (.cells #[.int .i64 all, .slice A0 L.length c0] 69 (0, 0)))
    (hB : B ≤ g) (hBw : B ≤ w.heap.size) (ho1 : w1.ownsRow w.heap.size 5 1 (.slice A1 nM c1) nM (nums .u8 M)) (hb : Below w.heap.size w w1) (hM : M.length = nM) :
    RAt (w1.setCell ⟨g, 1, none⟩ (.slice A1 nM c1)) B g (Value.slice A1 nM c1).ownBlock M all ∧ (∀ k, (Value.slice A1 nM c1).ownBlock = some k → w.heap.size ≤ k) ∧ Kept w (w1.setCell ⟨g, 1, none⟩ (.slice A1 nM c1)) (fun k => k = g) := by
  subst hM
  refine ⟨⟨A1, c1, ?_, ?_, rfl, hB⟩, fun k hk => (own_lt ho1 hk).1, kept_set (S := fun k => k = g) (kept_below hb) rfl _ _⟩
  · have := blk_set (blk_below hg hb) 1 (.slice A1 M.length c1)
    simpa using this
  · have hk' : Kept w1 (w1.setCell ⟨g, 1, none⟩ (.slice A1 M.length c1)) (fun k => k = g) := kept_set (S := fun k => k = g) (kept_refl _ _) rfl _ _
    refine hk'.own (Go.Proofs.YtlohonlcoedfhaaW.PrintWords.own_less ho1 hBw) (fun k hk e => ?_)
    have := (own_lt ho1 hk).1
    have := blk_lt hg
    omega
set_option maxHeartbeats 1600000 in
theorem radd_ok {w : World} {B g : Nat} {R : Option Nat} {L l : List Int} {all : Int} (A : Option Addr) (n c : Nat) (h : RAt w B g R L all) (hB : B ≤ w.heap.size) (h0 : 0 ≤ all) (h1 : all ≤ 400) (hn : 0 < n) (hl : (L.length : Int) + n ≤ all) (hr : ReadsInt w .u8 A n l)
    (b : Bool) (hb : decide (all - (L.length : Int) - n = 0) = b) :
    Calls Try.prog 40 #[.pointer (some ⟨g, 0, none⟩), .slice A n c] w fun e w' => e = .returned (.tuple #[.bool b, .int .i64 0]) ∧
      (∃ R', RAt w' B g R' (L ++ l) all ∧ (∀ k, R' = some k → w.heap.size ≤ k)) ∧ Kept w w' (fun k => k = g) := by
  have hz1 : ((n : Int) == 0) = false := by rw [beq_eq_false_iff_ne]; omega
  have hw : IntKind.i64.wrap (all - L.length) = all - L.length := IntWalk.i64_in _ (by omega)
  have hlt : decide (all - L.length < (n : Int)) = false := decide_eq_false (by omega)
  have HL := Lib.hid (show l.length = n from hr.1)
  obtain ⟨A0, c0, hg, ho, hR, hBg⟩ := h
  obtain ⟨x0, x1⟩ := cells2 hg
  have y0 : ∀ m o, ((w.drewN m).alloc o).cell? ⟨g, 0, none⟩ = some (.int .i64 all) := fun m o => blk_cell (blk_alloc (w := w.drewN m) hg o) 0
  have y1 : ∀ m o, ((w.drewN m).alloc o).cell? ⟨g, 1, none⟩ = some (.slice A0 L.length c0) := fun m o => blk_cell (blk_alloc (w := w.drewN m) hg o) 1
  have HG := Lib.hid hg
  have HO := Lib.hid (own_reads' ho)
  have HR := Lib.hid hr
  have HBB := Lib.hid hb
  obtain ⟨nM, hnM⟩ : ∃ n, (L ++ l).length = n := ⟨_, rfl⟩
  have HNM := Lib.hid hnM
  have hbd : (([] ++ L).length + n) * 1 ≤ 140737488355328 := by simp; omega
  have hbd0 : (([] : List Int).length + L.length) * 1 ≤ 140737488355328 := by simp; omega
  clear hg ho hr hR hb hnM
  go_enter Try.func40, Try.ntmps40
  go_wp2
  go_quiet (fail)
  go_wp2_with (first
    | (at_builtin; refine print_append_row (w0 := w.drewN nq) w.heap.size rfl (.tmp 25) (.tmp 29) 25 5 .u8 1 rfl Loan.underlyingB Loan.info5 (by decide) _ [] L A0 L.length c0 rfl rfl (own_lit (w.drewN nq) w.heap.size 5 .u8 [] (Nat.le_refl _) (by simp)) (ReadsInt.below (w := w.drewN nq) HO.out (bel_alloc (w := w.drewN nq) (Below.refl _ _) _)) (bel_alloc (w := w.drewN nq) (Below.refl _ _) _) (bel_alloc (w := w.drewN nq) (Below.refl _ _) (.cells #[] 5)).size hbd0 ?_; intro v1 w1 ho1 hb1 hg1 hat1; have HO1 := Lib.hid ho1; have HB1 := Lib.hid hb1; have HR1 := Lib.hid (reads_drew (l := l) (A := A) HR.out hb1); clear ho1 hg1 hat1 hb1)
    | (at_builtin; refine print_append_row (w0 := w.drewN nq) w.heap.size rfl (.tmp 30) (.tmp 31) 25 5 .u8 1 rfl Loan.underlyingB Loan.info5 (by decide) v1 ([] ++ L) l A n c rfl rfl HO1.out HR1.out HB1.out HB1.out.size hbd ?_; intro v2 w2 ho2 hb2 hg2 hat2; rw [List.nil_append, HNM.out] at ho2; obtain ⟨A2, c2, rfl, rd2⟩ := own_reads ho2; have HS := Lib.hid (after_radd HG.out hBg hB ho2 (bel_of_drew hb2) HNM.out); obtain ⟨z0, z1⟩ := cells2 (blk_below HG.out (bel_of_drew hb2)); have z2 := blk_free (blk_below HG.out (bel_of_drew hb2)) 1; clear ho2 hg2 hat2 hb2 rd2 HO1 HB1)
    | fail)
  go_quiet (fail)
  go_wp2
  go_ret2
  refine ⟨?_, ⟨_, HS.out.1, HS.out.2.1⟩, kept_drewN HS.out.2.2 _⟩
  refine ret_b ?_
  rw [← HBB.out, Bool.eq_iff_iff]
  have h1_ := HL.out
  have h2_ := HNM.out
  rw [List.length_append] at h2_
  simp only [beq_iff_eq, decide_eq_true_eq]
  omega
end Go.Proofs.Ytlohonlcoedfhaa.Piece
