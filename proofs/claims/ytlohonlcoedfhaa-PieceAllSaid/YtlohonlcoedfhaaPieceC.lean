/- Contracts of package piece by lengths laid ahead; what its statements begin with; which pieces are refused. -/
import Derived.Test.YtlohonlcoedfhaaPieceB
import Derived.Lib.SlBytesConst
import Derived.Laws.OwnMore
namespace Go.Proofs.Ytlohonlcoedfhaa.Piece
open Go.RowKit Go.Proofs.Ytlohonlcoedfhaa.Mem
open Go.Proofs.YtlohonlcoedfhaaW.PrintWords (nums ReadsInt own_reads own_reads' own_lit own_nil own_le print_append_row own_alloc)
set_option linter.unusedVariables false

theorem left_n {w : World} {B g : Nat} {R : Option Nat} {L : List Int} {all r : Int} (h : At w B g R L all) (h0 : 0 ≤ all) (h1 : all ≤ 400) (hl : (L.length : Int) ≤ all) (hr : all - L.length = r) :
    Calls Try.prog 39 #[.pointer (some ⟨g, 0, none⟩)] w fun e w' => e = .returned (.int .i64 r) ∧ ∃ n, w' = w.drewN n := by
  subst hr; exact left_any h h0 h1 hl
theorem bytes_n {w : World} {B g n : Nat} {R : Option Nat} {L : List Int} {all : Int} (h : At w B g R L all) (hl : L.length ≤ 400) (hn : L.length = n) :
    Calls Try.prog 38 #[.pointer (some ⟨g, 0, none⟩)] w fun e w' => ∃ A c, e = .returned (.slice A n c) ∧ n ≤ c ∧ ReadsInt w' .u8 A n L ∧ Below w.heap.size w w' := by
  subst hn; exact bytes_any h hl
theorem reads1m (w : World) (x : Int) : ReadsInt (w.alloc (.cells #[.int .u8 x] 5 (1, 2))) .u8 (some ⟨w.heap.size, 0, none⟩) 1 [x] := by
  refine ⟨rfl, by omega, fun _ => ⟨_, rfl, fun j hj => ?_⟩⟩
  rw [Loan.add_at, cell_of_row _ _ _ _ _ _ (blk_new _ _)]
  have : j = 0 := by omega
  subst this
  rfl
theorem reads1 (w : World) (x : Int) : ReadsInt (w.alloc (.cells #[.int .u8 x] 5)) .u8 (some ⟨w.heap.size, 0, none⟩) 1 [x] := by
  refine ⟨rfl, by omega, fun _ => ⟨_, rfl, fun j hj => ?_⟩⟩
  rw [Loan.add_at, blk_cell (blk_new _ _)]
  have : j = 0 := by omega
  subst this
  rfl
theorem reads_nil (w : World) : ReadsInt w .u8 none 0 [] := ⟨rfl, by omega, fun h => absurd h (by omega)⟩
/-- A row of noughts, made. -/
theorem make_b {ops : Array Oper} {rest : List Oper} {o : Oper} {a : Act} {Q : Exit → Act → World → Prop} (W : World) (hgd : o.guard = none) (x y : Operand)
    (ho : o.op = .makeSlice 25 x y) (z : Int) (n : Nat) (hx : a.eval x = .int .i64 z) (hy : a.eval y = .int .i64 z) (hz : z = (n : Int)) (hn : n ≤ 1000)
    (h : ∀ w1, ReadsInt w1 .u8 (some ⟨W.heap.size, 0, none⟩) n (List.replicate n 0) → Below W.heap.size W w1 → wpList Try.prog ops Q rest (a.put o.dst (.slice (some ⟨W.heap.size, 0, none⟩) n n)) w1) :
    wpList Try.prog ops Q (o :: rest) a W := by
  obtain ⟨i0, hi, hz0, hz1, hz2⟩ := info_parts Loan.info5
  refine wpList_make_full W hgd x y 25 ho W.heap.size 5 i0 (.int .u8 0) 1 Loan.underlyingB hi hz0 hz1 .i64 .i64 z z n hx hy hz hz (by rw [hz2]; omega) (by unfold maxLen; omega) (Nat.le_refl _) ?_
  intro w1 hown hg
  have e : (madeCells (Value.int .u8 0).cells (n * 1)).toList = nums .u8 (List.replicate n 0) := by
    rw [Nat.mul_one, show (Value.int .u8 0).cells = #[.int .u8 0] from rfl, toList_madeCells_one]; simp [nums]
  rw [e] at hown
  exact h w1 (own_reads' hown) ((Below.refl _ _).grown hg (Nat.le_refl _) (fun k hk => by cases hk))

theorem str2 : strOfNums ([] ++ [120] ++ [121]) = ⟨#[120, 121]⟩ := rfl
/-- Below behind Kept of what the call made. -/
theorem bel_kept {w w1 w2 : World} {B g : Nat} {R : Option Nat} {L : List Int} {all : Int} (hb : Below w.heap.size w w1) (H : At w1 B g R L all) (hB : w.heap.size ≤ B) (hk : Kept w1 w2 (Sof g R)) : Below w.heap.size w w2 :=
  hk.below hb hb.size (fun k h => by rcases h with rfl | h; · have := H.lt; omega
                                     · have := H.row h; omega)
theorem bel_kept_r {w w1 w2 : World} {B g : Nat} {R : Option Nat} {L : List Int} {all : Int} (hb : Below w.heap.size w w1) (H : RAt w1 B g R L all) (hB : w.heap.size ≤ B) (hk : Kept w1 w2 (fun k => k = g)) : Below w.heap.size w w2 :=
  hk.below hb hb.size (fun k h => by have := H.lt; omega)

set_option maxRecDepth 100000 in
set_option maxHeartbeats 4000000 in
theorem begun (w : World) : Calls Try.prog 34 #[] w fun e w' => e = .returned (.bool true) ∧ Below w.heap.size w w' := by
  have hb := Below.refl w.heap.size w
  have kc := fun (w : World) (C : Array Value) (n c : Nat) => Lib.run_convert_bytes_const (P := Try.prog) w 25 5 C n c Try.underlying25 Loan.underlyingU
  have q0 : (0 : Int) ≤ 2 := by omega
  have q1 : (2 : Int) ≤ 400 := by omega
  have q2 : 0 < 1 := by omega
  have Q3 : Hid (((([] : List Int).length : Nat) : Int) + ((1 : Nat) : Int) ≤ 2) := Lib.hid (by decide)
  have Q4 : Hid (((([] ++ [120] : List Int).length : Nat) : Int) + ((1 : Nat) : Int) ≤ 2) := Lib.hid (by decide)
  have D1 : Hid (decide ((2 : Int) - ((([] : List Int).length : Nat) : Int) - ((1 : Nat) : Int) = 0) = false) := Lib.hid (by decide)
  have D2 : Hid (decide ((2 : Int) - ((([] ++ [120] : List Int).length : Nat) : Int) - ((1 : Nat) : Int) = 0) = true) := Lib.hid (by decide)
  have E1 : Hid (((([] ++ [120] ++ [121] : List Int).length : Nat) : Int) ≤ 2) := Lib.hid (by decide)
  have E2 : Hid ((2 : Int) - ((([] ++ [120] ++ [121] : List Int).length : Nat) : Int) = 0) := Lib.hid (by decide)
  have E3 : Hid ((([] ++ [120] ++ [121] : List Int).length) ≤ 400) := Lib.hid (by decide)
  have E4 : Hid ((([] ++ [120] ++ [121] : List Int).length) = 2) := Lib.hid (by decide)
  have q5 : (0 : Int) < 1 ∨ (400 : Int) < 0 := by omega
  go_enter Try.func34, Try.ntmps34
  go_wp2_with (first
    | (go_at_call 35; (with_reducible refine (new_ok w w.heap.size (Nat.le_refl _) 2 (by decide) q1).mono ?_); rintro e w1 ⟨rfl, H, hb1⟩; have H1 := Lib.hid (H.below (bel_alloc (Below.refl _ _) (.cells #[.int .u8 120] 5 (1, 2)))); replace hb := bel_alloc (bel_chain hb hb1) (.cells #[.int .u8 120] 5 (1, 2)); clear H hb1)
    | (go_at_call 37; (with_reducible refine (add_ok (some ⟨w1.heap.size, 0, none⟩) 1 1 H1.out hb.size q0 q1 q2 Q3.out (reads1m _ 120) _ D1.out).mono ?_); rintro e w2 ⟨rfl, ⟨R2, H, _⟩, hk⟩; replace hb := bel_kept hb H1.out (Nat.le_refl _) hk; have H2 := Lib.hid (H.below (bel_alloc (Below.refl _ _) (.cells #[.int .u8 121] 5 (1, 2)))); replace hb := bel_alloc hb (.cells #[.int .u8 121] 5 (1, 2)); clear H hk H1)
    | (go_at_call 37; (with_reducible refine (add_ok (some ⟨w2.heap.size, 0, none⟩) 1 1 H2.out hb.size q0 q1 q2 Q4.out (reads1m _ 121) _ D2.out).mono ?_); rintro e w3 ⟨rfl, ⟨R3, H, _⟩, hk⟩; replace hb := bel_kept hb H2.out (Nat.le_refl _) hk; have H3 := Lib.hid H; clear H hk H2)
    | (go_at_call 35; (with_reducible refine (new_no _ 0 (Or.inl (by decide))).mono ?_); rintro e w4 ⟨rfl, rfl⟩)
    | (go_at_call 38; (with_reducible refine (bytes_n H3.out E3.out E4.out).mono ?_); rintro e w5 ⟨A5, c5, rfl, _, hr5, hb5⟩; have H5 := Lib.hid (H3.out.below hb5); have cv := Loan.conv (c := c5) hr5; rw [str2] at cv; replace hb := bel_chain hb hb5; clear hr5 hb5 H3)
    | (go_at_call 39; (with_reducible refine (left_n H5.out q0 q1 E1.out E2.out).mono ?_); rintro e w6 ⟨rfl, m6, rfl⟩)
    | fail)
  all_goals go_ret
  all_goals exact ⟨rfl, bel_drewN hb _⟩
end Go.Proofs.Ytlohonlcoedfhaa.Piece
