/- Which bytes are letters: the closed statement's walk. -/
import Derived.Test.YtlohonlcoedfhaaLett
import Derived.Test.YtlohonlcoedfhaaWZeros
namespace Go.Proofs.Ytlohonlcoedfhaa.Lett
open Go.RowKit Go.Proofs.Ytlohonlcoedfhaa.Mem
open Go.Proofs.YtlohonlcoedfhaaW.PrintWords (nums ReadsInt own_reads own_lit print_append_str bytesOf Kd)
set_option linter.unusedVariables false

/-- A row of noughts, made. -/
theorem make_b {ops : Array Oper} {rest : List Oper} {o : Oper} {a : Act} {Q : Exit → Act → World → Prop} (W : World) (hgd : o.guard = none) (x y : Operand)
    (ho : o.op = .makeSlice 25 x y) (n : Nat) (hx : a.eval x = .int .i64 n) (hy : a.eval y = .int .i64 n) (hn : n ≤ 1000)
    (h : ∀ w1, w1.ownsRow W.heap.size 5 1 (.slice (some ⟨W.heap.size, 0, none⟩) n n) n (nums .u8 (List.replicate n 0)) → W.grownBy w1 none → wpList Try.prog ops Q rest (a.put o.dst (.slice (some ⟨W.heap.size, 0, none⟩) n n)) w1) :
    wpList Try.prog ops Q (o :: rest) a W := by
  obtain ⟨i0, hi, hz0, hz1, hz2⟩ := info_parts Loan.info5
  refine wpList_make_full W hgd x y 25 ho W.heap.size 5 i0 (.int .u8 0) 1 Loan.underlyingB hi hz0 hz1 .i64 .i64 n n n hx hy rfl rfl (by rw [hz2]; omega) (by unfold maxLen; omega) (Nat.le_refl _) ?_
  intro w1 hown hg
  refine h w1 ?_ hg
  have e : (madeCells (Value.int .u8 0).cells (n * 1)).toList = nums .u8 (List.replicate n 0) := by
    rw [Nat.mul_one, show (Value.int .u8 0).cells = #[.int .u8 0] from rfl, toList_madeCells_one]; simp [nums]
  rw [e] at hown
  exact hown

/-- The bad ones. -/
def badL : Nat → List Int
  | 0 => []
  | 1 => [1, 0, 2, 0, 0]
  | 2 => [1, 0, 2, 0, 1, 0]
  | 3 => [1, 0, 2, 0, 0, 1]
  | _ => [1, 0, 2, 0, 123, 0] ++ List.replicate 123 0
theorem take_bad : ∀ k, k < 5 → PLetterBack.letter_Take.f (badL k) = some (0, 0, [], -2) := by
  intro k hk
  have : k = 0 ∨ k = 1 ∨ k = 2 ∨ k = 3 ∨ k = 4 := by omega
  rcases this with rfl | rfl | rfl | rfl | rfl <;> decide +kernel
theorem put_neg : PLetterBack.letter_Put.f 20 (-1) 0 [] = some ([], -2) := by decide +kernel
theorem put_big : PLetterBack.letter_Put.f 20 0 65536 [] = some ([], -2) := by decide +kernel
theorem put_long : PLetterBack.letter_Put.f 20 0 0 (List.replicate 123 0) = some ([], -2) := by decide +kernel
def most : List Int := [255, 255, 2, 1, 122, 0] ++ List.replicate 122 0
theorem put_most : PLetterBack.letter_Put.f 20 65535 258 (List.replicate 122 0) = some (most, 0) := by decide +kernel

/-- One round: the bytes y are none. -/
def badsAt (w : World) (B : Nat) : Prop := w.heap[B]? = some (.cells #[.string ⟨#[]⟩, .string ⟨#[1, 0, 2, 0, 0]⟩, .string ⟨#[1, 0, 2, 0, 1, 0]⟩, .string ⟨#[1, 0, 2, 0, 0, 1]⟩, .string ⟨#[1, 0, 2, 0, 123, 0]⟩] 9 (0, 0))

theorem own_reads_le {w : World} {base n : Nat} {v : Value} {L : List Int} (h : w.ownsRow base 5 1 v n (nums .u8 L)) : ∃ A c, v = .slice A n c ∧ ReadsInt w .u8 A n L ∧ n ≤ c := by
  obtain ⟨A, c, rfl, hr⟩ := own_reads h
  exact ⟨A, c, rfl, hr, Go.Proofs.YtlohonlcoedfhaaW.PrintWords.own_le h⟩

set_option maxRecDepth 100000 in
set_option maxHeartbeats 4000000 in
theorem forms (w : World) : Calls Try.prog 8 #[] w fun e w' => e = .returned (.bool true) ∧ Below w.heap.size w w' := by
  have hb := Below.refl w.heap.size w
  have hu := Try.underlying39
  go_enter Try.func8, Try.ntmps8
  go_wp2_with (first
    | (go_at_call 22; refine (begun _).mono ?_; rintro e w1 ⟨rfl, hb1⟩; replace hb := bel_chain hb hb1; clear hb1)
    | fail)
  have HB0 : badsAt (w1.alloc (.cells #[.string ⟨#[]⟩, .string ⟨#[1, 0, 2, 0, 0]⟩, .string ⟨#[1, 0, 2, 0, 1, 0]⟩, .string ⟨#[1, 0, 2, 0, 0, 1]⟩, .string ⟨#[1, 0, 2, 0, 123, 0]⟩] 9)) w1.heap.size := blk_new _ _
  replace hb := bel_alloc hb (.cells #[.string ⟨#[]⟩, .string ⟨#[1, 0, 2, 0, 0]⟩, .string ⟨#[1, 0, 2, 0, 1, 0]⟩, .string ⟨#[1, 0, 2, 0, 0, 1]⟩, .string ⟨#[1, 0, 2, 0, 123, 0]⟩] 9)
  generalize hW : w1.alloc (.cells #[.string ⟨#[]⟩, .string ⟨#[1, 0, 2, 0, 0]⟩, .string ⟨#[1, 0, 2, 0, 1, 0]⟩, .string ⟨#[1, 0, 2, 0, 0, 1]⟩, .string ⟨#[1, 0, 2, 0, 123, 0]⟩] 9) = W at HB0 hb ⊢
  clear hW
  obtain ⟨B, hB⟩ : ∃ B, w1.heap.size = B := ⟨_, rfl⟩
  rw [hB] at HB0 ⊢
  clear hB
  go_loopw [2] (fun i wr => ∃ k : Nat, k ≤ 5 ∧ i = .int .i64 k ∧ badsAt wr B ∧ Below w.heap.size w wr) (fun i _ => 5 - (intOf i).toNat)
  case atStart => exact ⟨0, by omega, rfl, HB0, hb⟩
  case round =>
    clear HB0 hb
    obtain ⟨k, hk, rfl, HBs, hb⟩ := hrel
    by_cases h5 : k = 5
    · subst h5
      clear HBs
      have H0 : Hid (([] : List Int).length = 0) := Lib.hid rfl
      have H123 : Hid ((List.replicate 123 (0 : Int)).length = 123) := Lib.hid rfl
      have H122 : Hid ((List.replicate 122 (0 : Int)).length = 122) := Lib.hid rfl
      go_wp2_with (first
        | (go_at_call 23; (with_reducible refine (lput_call _ put_neg H0.out (Nat.le_refl 0) (reads_nil _)).mono ?_); rintro e w2 ⟨v, rfl, ho, hb2⟩; obtain ⟨A2, c2, rfl, _⟩ := own_reads ho; replace hb := bel_chain hb hb2; clear hb2 ho)
        | (go_at_call 23; (with_reducible refine (lput_call _ put_big H0.out (Nat.le_refl 0) (reads_nil _)).mono ?_); rintro e w3 ⟨v, rfl, ho, hb3⟩; obtain ⟨A3, c3, rfl, _⟩ := own_reads ho; replace hb := bel_chain hb hb3; clear hb3 ho)
        | (at_make; refine make_b _ rfl (.const (.int .i64 123)) (.const (.int .i64 123)) rfl 123 rfl rfl (by decide) ?_; intro w4 ho4 hg4; have R4 := Lib.hid (reads_own ho4); replace hb := bel_none hb hb.size hg4; clear hg4 ho4)
        | (go_at_call 23; (with_reducible refine (lput_call _ put_long (n := 123) H123.out (Nat.le_refl _) R4.out).mono ?_); rintro e w5 ⟨v, rfl, ho, hb5⟩; obtain ⟨A5, c5, rfl, _⟩ := own_reads ho; replace hb := bel_chain hb hb5; clear hb5 ho)
        | (at_make; refine make_b _ rfl (.const (.int .i64 122)) (.const (.int .i64 122)) rfl 122 rfl rfl (by decide) ?_; intro w6 ho6 hg6; have R6 := Lib.hid (reads_own ho6); replace hb := bel_none hb hb.size hg6; clear hg6 ho6)
        | (go_at_call 23; (with_reducible refine (lput_call _ put_most (n := 122) H122.out (Nat.le_refl _) R6.out).mono ?_); rintro e w7 ⟨v, rfl, ho, hb7⟩; obtain ⟨g7, c7, rfl, hc7, _⟩ := own_some (n := 128) ho (by decide); have cv := Loan.conv (c := c7) (reads_front (reads_own (n := 128) ho) (show 6 ≤ 128 by decide)); rw [show strOfNums (most.take 6) = ⟨#[255, 255, 2, 1, 122, 0]⟩ from rfl] at cv; have hc6 : (6 : Int) ≤ (c7 : Int) := (by omega); replace hb := bel_chain hb hb7; clear hb7 ho)
        | fail)
      all_goals go_ret
      all_goals exact ⟨rfl, hb⟩
    · have hk : k = 0 ∨ k = 1 ∨ k = 2 ∨ k = 3 ∨ k = 4 := by omega
      rcases hk with rfl | rfl | rfl | rfl | rfl
      all_goals
        obtain ⟨x0, x1, x2, x3, x4⟩ := cells5a HBs
        have HBh := Lib.hid HBs
        clear HBs
      · have HT := Lib.hid (take_bad 0 (by decide))
        have HN : Hid ((badL 0).length = 0) := Lib.hid (by decide)
        have H0 : Hid (([] : List Int).length = 0) := Lib.hid rfl
        go_wp2_with (first
          | (at_builtin; refine print_append_str (w0 := wr) wr.heap.size rfl (.tmp 23) (.tmp 27) 25 9 5 rfl Loan.underlyingB Loan.underlyingS Loan.info5 _ [] ⟨#[]⟩ rfl rfl (own_lit wr wr.heap.size 5 .u8 [] (Nat.le_refl _) (by simp)) (bel_alloc (Below.refl _ _) _) (bel_alloc (Below.refl _ _) _).size (by decide) ?_; intro v2 w2 ho2 hb2 hg2; have ho3 : w2.ownsRow wr.heap.size 5 1 v2 0 (nums .u8 (badL 0)) := ho2; obtain ⟨A2, c2, rfl, hr2, hc2⟩ := own_reads_le ho3; have HC := Lib.hid hc2; have R2 := Lib.hid hr2; replace HBh := Lib.hid (blk_below HBh.out hb2); replace hb := bel_chain hb hb2; clear hr2 hc2 ho2 ho3 hg2 hb2)
          | (go_at_call 25; (with_reducible refine (ltake_call _ HT.out (n := 0) HN.out H0.out HC.out R2.out).mono ?_); rintro e w3 ⟨A3, c3, rfl, hc3, hr3, hb3⟩; replace HBh := Lib.hid (blk_alloc (blk_below HBh.out hb3) (.cells #[.int .i64 0, .int .i64 0, .slice A3 0 c3] 39)); replace hb := bel_alloc (bel_chain hb hb3) (.cells #[.int .i64 0, .int .i64 0, .slice A3 0 c3] 39); clear hr3 hb3 R2)
          | fail)
        all_goals go_roundw
        all_goals first
          | (case rel => exact ⟨1, by omega, by go_num, HBh.out, hb⟩)
          | (case measure => simp [intOf])
          | skip
      · have HT := Lib.hid (take_bad 1 (by decide))
        have HN : Hid ((badL 1).length = 5) := Lib.hid (by decide)
        have H0 : Hid (([] : List Int).length = 0) := Lib.hid rfl
        go_wp2_with (first
          | (at_builtin; refine print_append_str (w0 := wr) wr.heap.size rfl (.tmp 23) (.tmp 27) 25 9 5 rfl Loan.underlyingB Loan.underlyingS Loan.info5 _ [] ⟨#[1, 0, 2, 0, 0]⟩ rfl rfl (own_lit wr wr.heap.size 5 .u8 [] (Nat.le_refl _) (by simp)) (bel_alloc (Below.refl _ _) _) (bel_alloc (Below.refl _ _) _).size (by decide) ?_; intro v2 w2 ho2 hb2 hg2; have ho3 : w2.ownsRow wr.heap.size 5 1 v2 5 (nums .u8 (badL 1)) := ho2; obtain ⟨A2, c2, rfl, hr2, hc2⟩ := own_reads_le ho3; have HC := Lib.hid hc2; have R2 := Lib.hid hr2; replace HBh := Lib.hid (blk_below HBh.out hb2); replace hb := bel_chain hb hb2; clear hr2 hc2 ho2 ho3 hg2 hb2)
          | (go_at_call 25; (with_reducible refine (ltake_call _ HT.out (n := 5) HN.out H0.out HC.out R2.out).mono ?_); rintro e w3 ⟨A3, c3, rfl, hc3, hr3, hb3⟩; replace HBh := Lib.hid (blk_alloc (blk_below HBh.out hb3) (.cells #[.int .i64 0, .int .i64 0, .slice A3 0 c3] 39)); replace hb := bel_alloc (bel_chain hb hb3) (.cells #[.int .i64 0, .int .i64 0, .slice A3 0 c3] 39); clear hr3 hb3 R2)
          | fail)
        all_goals go_roundw
        all_goals first
          | (case rel => exact ⟨2, by omega, by go_num, HBh.out, hb⟩)
          | (case measure => simp [intOf])
          | skip
      · have HT := Lib.hid (take_bad 2 (by decide))
        have HN : Hid ((badL 2).length = 6) := Lib.hid (by decide)
        have H0 : Hid (([] : List Int).length = 0) := Lib.hid rfl
        go_wp2_with (first
          | (at_builtin; refine print_append_str (w0 := wr) wr.heap.size rfl (.tmp 23) (.tmp 27) 25 9 5 rfl Loan.underlyingB Loan.underlyingS Loan.info5 _ [] ⟨#[1, 0, 2, 0, 1, 0]⟩ rfl rfl (own_lit wr wr.heap.size 5 .u8 [] (Nat.le_refl _) (by simp)) (bel_alloc (Below.refl _ _) _) (bel_alloc (Below.refl _ _) _).size (by decide) ?_; intro v2 w2 ho2 hb2 hg2; have ho3 : w2.ownsRow wr.heap.size 5 1 v2 6 (nums .u8 (badL 2)) := ho2; obtain ⟨A2, c2, rfl, hr2, hc2⟩ := own_reads_le ho3; have HC := Lib.hid hc2; have R2 := Lib.hid hr2; replace HBh := Lib.hid (blk_below HBh.out hb2); replace hb := bel_chain hb hb2; clear hr2 hc2 ho2 ho3 hg2 hb2)
          | (go_at_call 25; (with_reducible refine (ltake_call _ HT.out (n := 6) HN.out H0.out HC.out R2.out).mono ?_); rintro e w3 ⟨A3, c3, rfl, hc3, hr3, hb3⟩; replace HBh := Lib.hid (blk_alloc (blk_below HBh.out hb3) (.cells #[.int .i64 0, .int .i64 0, .slice A3 0 c3] 39)); replace hb := bel_alloc (bel_chain hb hb3) (.cells #[.int .i64 0, .int .i64 0, .slice A3 0 c3] 39); clear hr3 hb3 R2)
          | fail)
        all_goals go_roundw
        all_goals first
          | (case rel => exact ⟨3, by omega, by go_num, HBh.out, hb⟩)
          | (case measure => simp [intOf])
          | skip
      · have HT := Lib.hid (take_bad 3 (by decide))
        have HN : Hid ((badL 3).length = 6) := Lib.hid (by decide)
        have H0 : Hid (([] : List Int).length = 0) := Lib.hid rfl
        go_wp2_with (first
          | (at_builtin; refine print_append_str (w0 := wr) wr.heap.size rfl (.tmp 23) (.tmp 27) 25 9 5 rfl Loan.underlyingB Loan.underlyingS Loan.info5 _ [] ⟨#[1, 0, 2, 0, 0, 1]⟩ rfl rfl (own_lit wr wr.heap.size 5 .u8 [] (Nat.le_refl _) (by simp)) (bel_alloc (Below.refl _ _) _) (bel_alloc (Below.refl _ _) _).size (by decide) ?_; intro v2 w2 ho2 hb2 hg2; have ho3 : w2.ownsRow wr.heap.size 5 1 v2 6 (nums .u8 (badL 3)) := ho2; obtain ⟨A2, c2, rfl, hr2, hc2⟩ := own_reads_le ho3; have HC := Lib.hid hc2; have R2 := Lib.hid hr2; replace HBh := Lib.hid (blk_below HBh.out hb2); replace hb := bel_chain hb hb2; clear hr2 hc2 ho2 ho3 hg2 hb2)
          | (go_at_call 25; (with_reducible refine (ltake_call _ HT.out (n := 6) HN.out H0.out HC.out R2.out).mono ?_); rintro e w3 ⟨A3, c3, rfl, hc3, hr3, hb3⟩; replace HBh := Lib.hid (blk_alloc (blk_below HBh.out hb3) (.cells #[.int .i64 0, .int .i64 0, .slice A3 0 c3] 39)); replace hb := bel_alloc (bel_chain hb hb3) (.cells #[.int .i64 0, .int .i64 0, .slice A3 0 c3] 39); clear hr3 hb3 R2)
          | fail)
        all_goals go_roundw
        all_goals first
          | (case rel => exact ⟨4, by omega, by go_num, HBh.out, hb⟩)
          | (case measure => simp [intOf])
          | skip
      · have HT := Lib.hid (take_bad 4 (by decide))
        have HN : Hid ((badL 4).length = 129) := Lib.hid (by decide)
        have H0 : Hid (([] : List Int).length = 0) := Lib.hid rfl
        go_wp2_with (first
          | (at_builtin; refine print_append_str (w0 := wr) wr.heap.size rfl (.tmp 23) (.tmp 27) 25 9 5 rfl Loan.underlyingB Loan.underlyingS Loan.info5 _ [] ⟨#[1, 0, 2, 0, 123, 0]⟩ rfl rfl (own_lit wr wr.heap.size 5 .u8 [] (Nat.le_refl _) (by simp)) (bel_alloc (Below.refl _ _) _) (bel_alloc (Below.refl _ _) _).size (by decide) ?_; intro v1 w1' ho1 hb1 hg1; have HO1 := Lib.hid (Kd.R_of_own (h1 := fun _ => rfl) (ok := fun _ => True) ho1 (fun _ _ => trivial)); have HB1 := Lib.hid hb1; clear ho1 hg1 hb1)
          | (at_builtin; refine Kd.R_append_zeros (Kd.int .u8) (w0 := wr) wr.heap.size rfl (.tmp 31) (.const (.int .i64 123)) 25 3 5 (.int .u8 0) 1 rfl Try.underlying25 Try.underlying3 Loan.info5 rfl (by decide) (by omega) v1 _ 0 (123 : Int) (fun _ => True) rfl rfl rfl (fun _ _ => trivial) HO1.out (by omega) HB1.out HB1.out.size (by decide) ?_; intro v2 w2 ho2 hb2 hg2 hat2; have ho3 : w2.ownsRow wr.heap.size 5 1 v2 129 (nums .u8 (badL 4)) := Kd.own_of_R ho2; obtain ⟨A2, c2, rfl, hr2, hc2⟩ := own_reads_le ho3; have HC := Lib.hid hc2; have R2 := Lib.hid hr2; replace HBh := Lib.hid (blk_below HBh.out hb2); replace hb := bel_chain hb hb2; clear hr2 hc2 ho2 ho3 hg2 hb2 hat2 HO1 HB1)
          | (go_at_call 25; (with_reducible refine (ltake_call _ HT.out (n := 129) HN.out H0.out HC.out R2.out).mono ?_); rintro e w3 ⟨A3, c3, rfl, hc3, hr3, hb3⟩; replace HBh := Lib.hid (blk_alloc (blk_below HBh.out hb3) (.cells #[.int .i64 0, .int .i64 0, .slice A3 0 c3] 39)); replace hb := bel_alloc (bel_chain hb hb3) (.cells #[.int .i64 0, .int .i64 0, .slice A3 0 c3] 39); clear hr3 hb3 R2)
          | fail)
        all_goals go_roundw
        all_goals first
          | (case rel => exact ⟨5, by omega, by go_num, HBh.out, hb⟩)
          | (case measure => simp [intOf])
          | skip
end Go.Proofs.Ytlohonlcoedfhaa.Lett
