/- Contracts of package piece: New, Left, Bytes and Add of pieces at block g, in all their states, and of none. -/
import Derived.Test.YtlohonlcoedfhaaLoan
import Derived.OwnWalk
namespace Go.Proofs.Ytlohonlcoedfhaa.Piece
open Go.RowKit Go.Proofs.Ytlohonlcoedfhaa.Mem
open Go.Proofs.YtlohonlcoedfhaaW.PrintWords (nums ReadsInt own_reads own_reads' own_lit own_nil own_le print_append_row own_alloc)
set_option linter.unusedVariables false

/-- All blocks but those of S stay as they were. -/
structure Kept (w w' : World) (S : Nat → Prop) : Prop where
  os : w'.os = w.os
  tape : w'.tape = w.tape
  output : w'.output = w.output
  size : w.heap.size ≤ w'.heap.size
  block : ∀ k, k < w.heap.size → ¬ S k → w'.heap[k]? = w.heap[k]?
theorem Kept.below {w0 w w' : World} {S : Nat → Prop} {B : Nat} (h : Kept w w' S) (hb : Below B w0 w) (hB : B ≤ w.heap.size) (hS : ∀ k, S k → B ≤ k) : Below B w0 w' :=
  ⟨h.os.trans hb.os, h.tape.trans hb.tape, h.output.trans hb.output, Nat.le_trans hb.size h.size, fun k hk => (h.block k (by omega) (fun hs => by have := hS k hs; omega)).trans (hb.block k hk)⟩
theorem Kept.blk {w w' : World} {S : Nat → Prop} {g : Nat} {o : Obj} (h : Kept w w' S) (hg : w.heap[g]? = some o) (hS : ¬ S g) : w'.heap[g]? = some o :=
  (h.block g (blk_lt hg) hS).trans hg
theorem kept_grown {w w' : World} {S : Nat → Prop} {row : Option Nat} (h : w.grownBy w' row) (hS : ∀ k, row = some k → S k) : Kept w w' S :=
  ⟨h.os, h.tape, h.output, h.size, fun k hk hs => h.block k hk (fun e => hs (hS k e.symm))⟩
theorem kept_set {w w' : World} {S : Nat → Prop} (h : Kept w w' S) {g : Nat} (hg : S g) (j : Nat) (u : Value) : Kept w (w'.setCell ⟨g, j, none⟩ u) S := by
  refine ⟨h.os, h.tape, h.output, by simpa [World.setCell] using h.size, fun k hk hs => ?_⟩
  rw [← h.block k hk hs]
  simp only [World.setCell, Array.getElem?_modify]
  rw [if_neg (fun e => hs (by rw [← e]; exact hg))]
theorem kept_below {w w' : World} {S : Nat → Prop} (h : Below w.heap.size w w') : Kept w w' S := ⟨h.os, h.tape, h.output, h.size, fun k hk _ => h.block k hk⟩
theorem kept_trans {w w1 w2 : World} {S : Nat → Prop} (h : Kept w w1 S) (k : Kept w1 w2 S) : Kept w w2 S :=
  ⟨k.os.trans h.os, k.tape.trans h.tape, k.output.trans h.output, Nat.le_trans h.size k.size, fun b hb hs => (k.block b (Nat.lt_of_lt_of_le hb h.size) hs).trans (h.block b hb hs)⟩
theorem kept_drewN {w w' : World} {S : Nat → Prop} (h : Kept w w' S) (n : Nat) : Kept w (w'.drewN n) S := ⟨h.os, h.tape, h.output, h.size, h.block⟩
theorem kept_from {w w' : World} {S : Nat → Prop} {n : Nat} (h : Kept (w.drewN n) w' S) : Kept w w' S := ⟨h.os, h.tape, h.output, h.size, h.block⟩
theorem kept_refl (w : World) (S : Nat → Prop) : Kept w w S := ⟨rfl, rfl, rfl, Nat.le_refl _, fun _ _ _ => rfl⟩

/-- A row lies where none of S lies: it stays. -/
theorem Kept.own {w w' : World} {S : Nat → Prop} {B n c : Nat} {A : Option Addr} {xs : List Value} (h : Kept w w' S) (ho : w.ownsRow B 5 1 (.slice A n c) n xs) (hS : ∀ k, (Value.slice A n c).ownBlock = some k → ¬ S k) : w'.ownsRow B 5 1 (.slice A n c) n xs := by
  refine ⟨ho.1, ho.2.imp id ?_⟩
  rintro ⟨g, cap, cur, he, hb, hg, h1, h2, h3, h4⟩
  refine ⟨g, cap, cur, he, hb, ?_, h1, h2, h3, h4⟩
  exact h.blk hg (hS g (by rw [he]; simp [Value.ownBlock]))

/-- Pieces at block g, their bytes in row R: L, of all. -/
def At (w : World) (B g : Nat) (R : Option Nat) (L : List Int) (all : Int) : Prop :=
  ∃ A c, w.heap[g]? = some (.cells #[.slice A L.length c, .int .i64 all] 77 (0, 0)) ∧ w.ownsRow B 5 1 (.slice A L.length c) L.length (nums .u8 L) ∧ (Value.slice A L.length c).ownBlock = R ∧ B ≤ g
/-- The reference's. -/
def RAt (w : World) (B g : Nat) (R : Option Nat) (L : List Int) (all : Int) : Prop :=
  ∃ A c, w.heap[g]? = some (.cells #[.int .i64 all, .slice A L.length c] 69 (0, 0)) ∧ w.ownsRow B 5 1 (.slice A L.length c) L.length (nums .u8 L) ∧ (Value.slice A L.length c).ownBlock = R ∧ B ≤ g

theorem own_lt {w : World} {B n c k : Nat} {A : Option Addr} {xs : List Value} (ho : w.ownsRow B 5 1 (.slice A n c) n xs) (hk : (Value.slice A n c).ownBlock = some k) : B ≤ k ∧ k < w.heap.size ∧ ∃ cs, w.heap[k]? = some (.cells cs 5 (0, 0)) := by
  rcases ho.2 with ⟨h, _⟩ | ⟨g, cap, cur, he, hb, hg, _⟩
  · rw [h] at hk; simp [Value.ownBlock] at hk
  · rw [he] at hk
    have : g = k := by simpa [Value.ownBlock] using hk
    subst this
    exact ⟨hb, blk_lt hg, cur, hg⟩
theorem At.row {w : World} {B g k : Nat} {R : Option Nat} {L : List Int} {all : Int} (h : At w B g R L all) (hk : R = some k) : B ≤ k ∧ k < w.heap.size ∧ k ≠ g := by
  obtain ⟨A, c, hg, ho, rfl, hB⟩ := h
  obtain ⟨h1, h2, cs, h3⟩ := own_lt ho hk
  refine ⟨h1, h2, fun e => ?_⟩
  subst e
  rw [hg] at h3
  injection h3 with h3
  injection h3 with _ h3 _
  exact absurd h3 (by decide)
theorem RAt.row {w : World} {B g k : Nat} {R : Option Nat} {L : List Int} {all : Int} (h : RAt w B g R L all) (hk : R = some k) : B ≤ k ∧ k < w.heap.size ∧ k ≠ g := by
  obtain ⟨A, c, hg, ho, rfl, hB⟩ := h
  obtain ⟨h1, h2, cs, h3⟩ := own_lt ho hk
  refine ⟨h1, h2, fun e => ?_⟩
  subst e
  rw [hg] at h3
  injection h3 with h3
  injection h3 with _ h3 _
  exact absurd h3 (by decide)
theorem At.lt {w : World} {B g : Nat} {R : Option Nat} {L : List Int} {all : Int} (h : At w B g R L all) : B ≤ g ∧ g < w.heap.size := by
  obtain ⟨A, c, hg, ho, rfl, hB⟩ := h
  exact ⟨hB, blk_lt hg⟩
theorem RAt.lt {w : World} {B g : Nat} {R : Option Nat} {L : List Int} {all : Int} (h : RAt w B g R L all) : B ≤ g ∧ g < w.heap.size := by
  obtain ⟨A, c, hg, ho, rfl, hB⟩ := h
  exact ⟨hB, blk_lt hg⟩
theorem At.kept {w w' : World} {S : Nat → Prop} {B g : Nat} {R : Option Nat} {L : List Int} {all : Int} (h : At w B g R L all) (hk : Kept w w' S) (hg : ¬ S g) (hR : ∀ k, R = some k → ¬ S k) : At w' B g R L all := by
  obtain ⟨A, c, h1, ho, rfl, hB⟩ := h
  exact ⟨A, c, hk.blk h1 hg, hk.own ho hR, rfl, hB⟩
theorem RAt.kept {w w' : World} {S : Nat → Prop} {B g : Nat} {R : Option Nat} {L : List Int} {all : Int} (h : RAt w B g R L all) (hk : Kept w w' S) (hg : ¬ S g) (hR : ∀ k, R = some k → ¬ S k) : RAt w' B g R L all := by
  obtain ⟨A, c, h1, ho, rfl, hB⟩ := h
  exact ⟨A, c, hk.blk h1 hg, hk.own ho hR, rfl, hB⟩
theorem At.below {w w' : World} {B g : Nat} {R : Option Nat} {L : List Int} {all : Int} (h : At w B g R L all) (hb : Below w.heap.size w w') : At w' B g R L all :=
  h.kept (S := fun _ => False) (kept_below hb) (fun h => h) (fun _ _ h => h)
theorem RAt.below {w w' : World} {B g : Nat} {R : Option Nat} {L : List Int} {all : Int} (h : RAt w B g R L all) (hb : Below w.heap.size w w') : RAt w' B g R L all :=
  h.kept (S := fun _ => False) (kept_below hb) (fun h => h) (fun _ _ h => h)

set_option maxHeartbeats 400000 in
theorem new_no (w : World) (all : Int) (h : all < 1 ∨ 400 < all) : Calls Try.prog 35 #[.int .i64 all] w fun e w' => e = .returned (.tuple #[.pointer none, .bool false]) ∧ w = w' := by
  by_cases h1 : all < 1
  · clear h
    go_enter Try.func35, Try.ntmps35
    go_wp2
    all_goals go_ret2
    all_goals exact ⟨rfl, rfl⟩
  · have h2 : 400 < all := by omega
    clear h
    go_enter Try.func35, Try.ntmps35
    go_wp2
    all_goals go_ret2
    all_goals exact ⟨rfl, rfl⟩
set_option maxHeartbeats 400000 in
theorem new_ok (w : World) (B : Nat) (hB : B ≤ w.heap.size) (all : Int) (h1 : 1 ≤ all) (h2 : all ≤ 400) : Calls Try.prog 35 #[.int .i64 all] w fun e w' => e = .returned (.tuple #[.pointer (some ⟨w.heap.size, 0, none⟩), .bool true]) ∧ At w' B w.heap.size none [] all ∧ Below w.heap.size w w' := by
  have HB := Lib.hid hB
  clear hB
  go_enter Try.func35, Try.ntmps35
  go_wp2
  all_goals go_ret2
  all_goals exact ⟨rfl, ⟨none, 0, blk_new _ _, own_nil _ _ _ _, rfl, HB.out⟩, bel_alloc (Below.refl _ _) _⟩
set_option maxHeartbeats 400000 in
theorem rnew_no (w : World) (all : Int) (h : all < 1 ∨ 400 < all) : Calls Try.prog 36 #[.int .i64 all] w fun e w' => e = .returned (.tuple #[.pointer none, .bool false]) ∧ w = w' := by
  by_cases h1 : all < 1
  · clear h
    go_enter Try.func36, Try.ntmps36
    go_wp2
    all_goals go_ret2
    all_goals exact ⟨rfl, rfl⟩
  · have h2 : 400 < all := by omega
    clear h
    go_enter Try.func36, Try.ntmps36
    go_wp2
    all_goals go_ret2
    all_goals exact ⟨rfl, rfl⟩
set_option maxHeartbeats 400000 in
theorem rnew_ok (w : World) (B : Nat) (hB : B ≤ w.heap.size) (all : Int) (h1 : 1 ≤ all) (h2 : all ≤ 400) : Calls Try.prog 36 #[.int .i64 all] w fun e w' => e = .returned (.tuple #[.pointer (some ⟨w.heap.size, 0, none⟩), .bool true]) ∧ RAt w' B w.heap.size none [] all ∧ Below w.heap.size w w' := by
  have HB := Lib.hid hB
  clear hB
  go_enter Try.func36, Try.ntmps36
  go_wp2
  all_goals go_ret2
  all_goals exact ⟨rfl, ⟨none, 0, blk_new _ _, own_nil _ _ _ _, rfl, HB.out⟩, bel_alloc (Below.refl _ _) _⟩

set_option maxHeartbeats 400000 in
theorem left_nil (w : World) : Calls Try.prog 39 #[.pointer none] w fun e w' => e = .returned (.int .i64 0) ∧ w = w' := by
  go_enter Try.func39, Try.ntmps39
  go_wp2
  go_ret
  exact ⟨rfl, rfl⟩
set_option maxHeartbeats 800000 in
theorem left_any {w : World} {B g : Nat} {R : Option Nat} {L : List Int} {all : Int} (h : At w B g R L all) (h0 : 0 ≤ all) (h1 : all ≤ 400) (hl : (L.length : Int) ≤ all) :
    Calls Try.prog 39 #[.pointer (some ⟨g, 0, none⟩)] w fun e w' => e = .returned (.int .i64 (all - L.length)) ∧ ∃ n, w' = w.drewN n := by
  obtain ⟨A, c, hg, _, _, _⟩ := h
  obtain ⟨x0, x1⟩ := cells2 hg
  have hw : IntKind.i64.wrap (all - L.length) = all - L.length := IntWalk.i64_in _ (by omega)
  clear hg
  go_enter Try.func39, Try.ntmps39
  go_wp2
  go_quiet (fail)
  go_wp2
  go_ret
  exact ⟨rfl, _, rfl⟩
set_option maxHeartbeats 400000 in
theorem bytes_nil (w : World) : Calls Try.prog 38 #[.pointer none] w fun e w' => e = .returned (.slice none 0 0) ∧ w = w' := by
  go_enter Try.func38, Try.ntmps38
  go_wp2
  go_ret
  exact ⟨rfl, rfl⟩
set_option maxHeartbeats 800000 in
theorem bytes_any {w : World} {B g : Nat} {R : Option Nat} {L : List Int} {all : Int} (h : At w B g R L all) (hl : L.length ≤ 400) :
    Calls Try.prog 38 #[.pointer (some ⟨g, 0, none⟩)] w fun e w' => ∃ A c, e = .returned (.slice A L.length c) ∧ L.length ≤ c ∧ ReadsInt w' .u8 A L.length L ∧ Below w.heap.size w w' := by
  obtain ⟨A, c, hg, ho, _, _⟩ := h
  obtain ⟨x0, x1⟩ := cells2a hg
  have HR := Lib.hid (own_reads' ho)
  have HO := Lib.hid (own_lit w w.heap.size 5 .u8 [] (Nat.le_refl _) (by simp))
  clear hg ho
  go_enter Try.func38, Try.ntmps38
  go_wp2_with (first
    | (at_builtin; refine print_append_row (w0 := w) w.heap.size rfl (.tmp 5) (.tmp 9) 25 5 .u8 1 rfl Loan.underlyingB Loan.info5 (by decide) _ [] L A L.length c rfl rfl HO.out (HR.out.below (bel_alloc (Below.refl _ _) _)) (bel_alloc (Below.refl _ _) _) (bel_alloc (Below.refl _ _) _).size (by simp; omega) ?_; intro v1 w1 ho1 hb1 hg1 hat1; have ho2 : w1.ownsRow w.heap.size 5 1 v1 L.length (nums .u8 L) := ho1; obtain ⟨A1, c1, rfl, hr1⟩ := own_reads ho2; have hc1 := own_le ho2; clear hg1 hat1 ho1 ho2)
    | fail)
  go_ret
  exact ⟨_, _, rfl, hc1, hr1, hb1⟩
end Go.Proofs.Ytlohonlcoedfhaa.Piece
