/- Contracts of package letter, out of its printed functions; what its statements begin with. -/
import Derived.Test.YtlohonlcoedfhaaPLetterBackx1
import Derived.Test.YtlohonlcoedfhaaPLetterBackx2
import Derived.Test.YtlohonlcoedfhaaLoan
import Derived.ArgAppend
import Derived.OwnWalk
import Derived.Lib.SlBytesConst
namespace Go.Proofs.Ytlohonlcoedfhaa.Lett
section
open Go.RowKit Go.Proofs.YtlohonlcoedfhaaW.PrintWords
theorem lput_call {f t e : Int} {l L : List Int} {n c : Nat} {A : Option Addr} (w : World) (h : PLetterBack.letter_Put.f 20 f t l = some (L, e)) (hn : l.length = n) (hc : n ≤ c) (hr : ReadsInt w .u8 A n l) :
    Calls Try.prog 23 #[.agg #[.int .i64 f, .int .i64 t, .slice A n c]] w fun r w' => ∃ v, r = .returned (.tuple #[v, .int .i64 e]) ∧ w'.ownsRow w.heap.size 5 1 v L.length (nums .u8 L) ∧ Below w.heap.size w w' := by
  subst hn
  refine (PLetterBack.letter_Put.calls 20 f t A c l L e w (Kd.C_of_reads (enc := Value.int .u8) (d := (0 : Int)) (h1 := fun _ => rfl) hr) hc h).mono fun r w' ⟨v, he, hR, hb⟩ => ?_
  exact ⟨v, he, Kd.own_of_R (enc := Value.int .u8) (h1 := fun _ => rfl) hR, hb⟩
theorem ltake_call {f t e : Int} {l X : List Int} {n nx c : Nat} {A : Option Addr} (w : World) (h : PLetterBack.letter_Take.f l = some (f, t, X, e)) (hn : l.length = n) (hx : X.length = nx) (hc : n ≤ c) (hr : ReadsInt w .u8 A n l) :
    Calls Try.prog 25 #[.slice A n c] w fun r w' => ∃ A' c', r = .returned (.tuple #[.agg #[.int .i64 f, .int .i64 t, .slice A' nx c'], .int .i64 e]) ∧ nx ≤ c' ∧ ReadsInt w' .u8 A' nx X ∧ Below w.heap.size w w' := by
  subst hn hx
  refine (PLetterBack.letter_Take.calls A c l f t X e w (Kd.C_of_reads (enc := Value.int .u8) (d := (0 : Int)) (h1 := fun _ => rfl) hr) hc h).mono fun r w' ⟨v, he, hR, hb⟩ => ?_
  obtain ⟨A', c', rfl⟩ := Kd.R_slice hR
  obtain ⟨_, h2, h3⟩ := Kd.R_reads' hR
  exact ⟨A', c', he, h2, Kd.reads_of_C (enc := Value.int .u8) (d := (0 : Int)) (h1 := fun _ => rfl) h3, hb⟩
end
open Go.RowKit Go.Proofs.Ytlohonlcoedfhaa.Mem
open Go.Proofs.YtlohonlcoedfhaaW.PrintWords (nums ReadsInt own_reads)
set_option linter.unusedVariables false

theorem own_some {w : World} {base n : Nat} {v : Value} {L : List Int} (ho : w.ownsRow base 5 1 v n (nums .u8 L)) (h : 0 < n) : ∃ g c, v = .slice (some ⟨g, 0, none⟩) n c ∧ n ≤ c ∧ base ≤ g := by
  rcases ho.2 with ⟨_, hn⟩ | ⟨g, cap, cur, rfl, hb, hg, hnc, hx, hcs, hcur⟩
  · omega
  · exact ⟨g, cap, rfl, hnc, hb⟩
theorem reads_own {w : World} {base n c : Nat} {A : Option Addr} {L : List Int} (ho : w.ownsRow base 5 1 (.slice A n c) n (nums .u8 L)) : ReadsInt w .u8 A n L := by
  obtain ⟨A', c', he, hr⟩ := own_reads ho
  injection he with h1 h2 h3
  subst h1
  exact hr
/-- The front of what reads. -/
theorem reads_front {w : World} {A : Option Addr} {n m : Nat} {L : List Int} (h : ReadsInt w .u8 A n L) (hm : m ≤ n) : ReadsInt w .u8 A m (L.take m) := by
  refine ⟨by rw [List.length_take]; have := h.1; omega, by have := h.2.1; omega, fun h0 => ?_⟩
  obtain ⟨ad, e, hc⟩ := h.2.2 (by omega)
  refine ⟨ad, e, fun j hj => ?_⟩
  rw [hc j (by omega), List.getD_eq_getElem?_getD, List.getD_eq_getElem?_getD, List.getElem?_take, if_pos hj]
theorem reads1 (w : World) (x : Int) : ReadsInt (w.alloc (.cells #[.int .u8 x] 5)) .u8 (some ⟨w.heap.size, 0, none⟩) 1 [x] := by
  refine ⟨rfl, by omega, fun _ => ⟨_, rfl, fun j hj => ?_⟩⟩
  rw [Loan.add_at, blk_cell (blk_new _ _)]
  have : j = 0 := by omega
  subst this
  rfl
theorem bel_none {B : Nat} {w0 w w' : World} (h : Below B w0 w) (hB : B ≤ w.heap.size) (hg : w.grownBy w' none) : Below B w0 w' :=
  h.grown hg hB (fun k hk => by cases hk)

/-- One number put behind a row of the call's own: the new slice reads so, and the elder one as before. -/
theorem append9 {ops : Array Oper} {rest : List Oper} {o : Oper} {a : Act} {Q : Exit → Act → World → Prop} (W : World) (hgd : o.guard = none) (s x : Operand)
    (ho : o.op = .call { callee := .builtin .append, args := #[s, x], argTypes := #[25, 25] }) (base g n c : Nat) (L : List Int) (y : Int) (hs : a.eval s = .slice (some ⟨g, 0, none⟩) n c) (hx : a.eval x = .slice (some ⟨W.heap.size, 0, none⟩) 1 1) (hn : L.length = n)
    (HO : W.ownsRow base 5 1 (.slice (some ⟨g, 0, none⟩) n c) n (nums .u8 L)) (hl : n ≤ 1000)
    (h : ∀ A1 c1 w1, n + 1 ≤ c1 → ReadsInt w1 .u8 A1 (n + 1) (L ++ [y]) → ReadsInt w1 .u8 (some ⟨g, 0, none⟩) n L → (∀ B w0, Below B w0 W → B ≤ W.heap.size → B ≤ g → Below B w0 w1) → wpList Try.prog ops Q rest (a.put o.dst (.slice A1 (n + 1) c1)) w1) :
    wpList Try.prog ops Q (o :: rest) a (W.alloc (.cells #[.int .u8 y] 5)) := by
  obtain ⟨i0, hi, hz0, hz1, hz2⟩ := info_parts Loan.info5
  have hnew : ∀ (j : Nat) (u : Value), (nums .u8 [y])[j]? = some u → (W.alloc (.cells #[.int .u8 y] 5)).cell? ((⟨W.heap.size, 0, none⟩ : Addr).add j) = some u := by
    intro j u hj
    have hj0 : j = 0 := by
      rcases Nat.eq_zero_or_pos j with h0 | h0
      · exact h0
      · rw [List.getElem?_eq_none (by simp [nums]; omega)] at hj; cases hj
    subst hj0
    rw [Loan.add_at, blk_cell (blk_new _ _)]
    simpa [nums] using hj
  have h1 : ∀ u ∈ nums .u8 [y], u.oneCell' = true := by intro u hu; simp [nums] at hu; subst hu; rfl
  have hap : nums .u8 L ++ nums .u8 [y] = nums .u8 (L ++ [y]) := by simp [nums]
  have HA := HO.alloc (.cells #[.int .u8 y] 5)
  have hbW : ∀ B w0, Below B w0 W → B ≤ W.heap.size → Below B w0 (W.alloc (.cells #[.int .u8 y] 5)) := fun B w0 hb hB => hb.alloc hB _
  have hle : W.heap.size ≤ (W.alloc (.cells #[.int .u8 y] 5)).heap.size := (bel_alloc (Below.refl _ _) _).size
  rcases Nat.lt_or_ge c (n + 1) with hlt | hge
  · refine wpList_append_grows _ hgd s x 25 ho 5 i0 (.int .u8 0) 1 1 Loan.underlyingB hi hz0 hz1 hz2 rfl (by decide) (some ⟨g, 0, none⟩) n c (nums .u8 L) hs (fun h => by cases h) (by simp [nums, hn]) ?_ ⟨W.heap.size, 0, none⟩ 1 1 (nums .u8 [y]) hx (by simp [nums]) hnew h1 hlt (by unfold maxLen; omega) (by omega) ?_
    · rintro b ⟨⟩ j u hj
      exact HA.cells (g := g) rfl j u hj
    · intro v' w' hown hg
      rw [hap] at hown
      obtain ⟨g', c', rfl, hc', _⟩ := own_some hown (by omega)
      refine h _ c' w' hc' (reads_own hown) ((reads_own HA).below (bel_none (Below.refl _ _) (Nat.le_refl _) hg)) (fun B w0 hb hB hBg => bel_none (hbW B w0 hb hB) (Nat.le_trans hB hle) hg)
  · refine wpList_append_fits _ hgd s x 25 ho base 5 i0 1 Loan.underlyingB hi hz1 g n c (nums .u8 L) hs HA ⟨W.heap.size, 0, none⟩ 1 1 (nums .u8 [y]) hx (by simp [nums]) hnew h1 hge ?_
    intro w' hown hg
    rw [hap] at hown
    have hr := reads_own hown
    have hf := reads_front hr (show n ≤ n + 1 by omega)
    rw [List.take_append_of_le_length (by omega), List.take_of_length_le (by omega)] at hf
    exact h _ c w' hge hr hf (fun B w0 hb hB hBg => (hbW B w0 hb hB).grown hg (Nat.le_trans hB hle) (fun k hk => by cases hk; exact hBg))

theorem reads1m (w : World) (x : Int) : ReadsInt (w.alloc (.cells #[.int .u8 x] 5 (1, 2))) .u8 (some ⟨w.heap.size, 0, none⟩) 1 [x] := by
  refine ⟨rfl, by omega, fun _ => ⟨_, rfl, fun j hj => ?_⟩⟩
  rw [Loan.add_at, cell_of_row _ _ _ _ _ _ (blk_new _ _)]
  have : j = 0 := by omega
  subst this
  rfl
theorem str7 : strOfNums [1, 0, 2, 0, 1, 0, 120] = ⟨#[1, 0, 2, 0, 1, 0, 120]⟩ := rfl
theorem str1 : strOfNums [120] = ⟨#[120]⟩ := rfl
theorem reads_nil (w : World) : ReadsInt w .u8 none 0 [] := ⟨rfl, by omega, fun h => absurd h (by omega)⟩

set_option maxRecDepth 100000 in
set_option maxHeartbeats 4000000 in
theorem begun (w : World) : Calls Try.prog 22 #[] w fun e w' => e = .returned (.bool true) ∧ Below w.heap.size w w' := by
  have hb := Below.refl w.heap.size w
  have hu := Try.underlying39
  have HP : Hid (PLetterBack.letter_Put.f 20 1 2 [120] = some ([1, 0, 2, 0, 1, 0, 120], 0)) := Lib.hid (by decide +kernel)
  have HT1 : Hid (PLetterBack.letter_Take.f [1, 0, 2, 0, 1, 0, 120, 9] = some (1, 2, [120], 0)) := Lib.hid (by decide +kernel)
  have HT2 : Hid (PLetterBack.letter_Take.f [] = some (0, 0, [], -2)) := Lib.hid (by decide +kernel)
  have H0 : Hid (([] : List Int).length = 0) := Lib.hid rfl
  have H8 : Hid (([1, 0, 2, 0, 1, 0, 120, 9] : List Int).length = 8) := Lib.hid rfl
  have H1 : Hid (([120] : List Int).length = 1) := Lib.hid rfl
  have kc := fun (w : World) (C : Array Value) (n c : Nat) => Lib.run_convert_bytes_const (P := Try.prog) w 25 5 C n c Try.underlying25 Loan.underlyingU
  go_enter Try.func22, Try.ntmps22
  go_wp2_with (first
    | (go_at_call 23; refine (lput_call _ HP.out rfl (Nat.le_refl 1) (reads1m _ 120)).mono ?_; rintro e w2 ⟨v, rfl, ho, hb2⟩; obtain ⟨g, c, rfl, hc7, hgb⟩ := own_some (n := 7) ho (by decide); have hbA := bel_chain (bel_alloc hb _) hb2; have hgb0 : w.heap.size ≤ g := (Nat.le_trans (bel_alloc hb _).size hgb); have HO := Lib.hid (show w2.ownsRow _ 5 1 (.slice (some ⟨g, 0, none⟩) 7 c) 7 (nums .u8 [1, 0, 2, 0, 1, 0, 120]) from ho); clear ho hb2)
    | (at_builtin; refine append9 _ rfl (.tmp 15) (.tmp 16) rfl _ g 7 c [1, 0, 2, 0, 1, 0, 120] 9 rfl rfl rfl HO.out (by decide) ?_; intro A1 c1 w3 hc1 hr1 hold hb3; have hbB := hb3 _ _ hbA hbA.size hgb0; have R1 := Lib.hid hr1; have RO := Lib.hid hold; clear hr1 hold hb3 HO)
    | (go_at_call 25; (with_reducible refine (ltake_call _ HT1.out H8.out H1.out hc1 R1.out).mono ?_); rintro e w4 ⟨A2, c2, rfl, hc2, hr2, hb4⟩; have b4_ := blk_new w4 (.cells #[.int .i64 1, .int .i64 2, .slice A2 1 c2] 39); have R2 := Lib.hid (hr2.below (bel_alloc (Below.refl _ _) (.cells #[.int .i64 1, .int .i64 2, .slice A2 1 c2] 39))); have RO2 := Lib.hid ((RO.out.below hb4).below (bel_alloc (Below.refl _ _) (.cells #[.int .i64 1, .int .i64 2, .slice A2 1 c2] 39))); have hbC := bel_alloc (bel_chain hbB hb4) (.cells #[.int .i64 1, .int .i64 2, .slice A2 1 c2] 39); clear hr2 hb4 R1 RO)
    | (go_at_call 25; (with_reducible refine (ltake_call _ HT2.out H0.out H0.out (Nat.le_refl 0) (reads_nil _)).mono ?_); rintro e w5 ⟨A3, c3, rfl, hc3, hr3, hb5⟩; have b5_ := blk_alloc (blk_below b4_ hb5) (.cells #[.int .i64 0, .int .i64 0, .slice A3 0 c3] 39); obtain ⟨x0, x1, x2⟩ := cells3 b5_; have cv1 := Loan.conv (c := c) ((RO2.out.below hb5).below (bel_alloc (Below.refl _ _) (.cells #[.int .i64 0, .int .i64 0, .slice A3 0 c3] 39))); have cv2 := Loan.conv (c := c2) ((R2.out.below hb5).below (bel_alloc (Below.refl _ _) (.cells #[.int .i64 0, .int .i64 0, .slice A3 0 c3] 39))); have hbD := bel_alloc (bel_chain hbC hb5) (.cells #[.int .i64 0, .int .i64 0, .slice A3 0 c3] 39); rw [str7] at cv1; rw [str1] at cv2; clear hr3 hb5 R2 RO2 b4_)
    | fail)
  go_ret
  exact ⟨rfl, hbD⟩
end Go.Proofs.Ytlohonlcoedfhaa.Lett
