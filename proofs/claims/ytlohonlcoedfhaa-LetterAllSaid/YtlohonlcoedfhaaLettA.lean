/- Which bytes letters are, and which letters bytes: the program and the reference agree, and what was lent is as it was. -/
import Derived.Test.YtlohonlcoedfhaaLett
import Derived.Test.YtlohonlcoedfhaaLettR
namespace Go.Proofs.Ytlohonlcoedfhaa.Lett
section
open Go.RowKit Go.Proofs.YtlohonlcoedfhaaW.PrintWords
theorem rput_call {f t e : Int} {l L : List Int} {n c : Nat} {A : Option Addr} (w : World) (h : PLetterAll.presidioref6_PutLetter.f 20 f t l = some (L, e)) (hn : l.length = n) (hc : n ≤ c) (hr : ReadsInt w .u8 A n l) :
    Calls Try.prog 24 #[.agg #[.int .i64 f, .int .i64 t, .slice A n c]] w fun r w' => ∃ v, r = .returned (.tuple #[v, .int .i64 e]) ∧ w'.ownsRow w.heap.size 5 1 v L.length (nums .u8 L) ∧ Below w.heap.size w w' := by
  subst hn
  refine (PLetterAll.presidioref6_PutLetter.calls 20 f t A c l L e w (Kd.C_of_reads (enc := Value.int .u8) (d := (0 : Int)) (h1 := fun _ => rfl) hr) hc h).mono fun r w' ⟨v, he, hR, hb⟩ => ?_
  exact ⟨v, he, Kd.own_of_R (enc := Value.int .u8) (h1 := fun _ => rfl) hR, hb⟩
theorem rtake_call {f t e : Int} {l X : List Int} {n nx c : Nat} {A : Option Addr} (w : World) (h : PLetterAll.presidioref6_TakeLetter.f 20 l = some (f, t, X, e)) (hn : l.length = n) (hx : X.length = nx) (hc : n ≤ c) (hr : ReadsInt w .u8 A n l) :
    Calls Try.prog 26 #[.slice A n c] w fun r w' => ∃ A' c', r = .returned (.tuple #[.agg #[.int .i64 f, .int .i64 t, .slice A' nx c'], .int .i64 e]) ∧ nx ≤ c' ∧ ReadsInt w' .u8 A' nx X ∧ Below w.heap.size w w' := by
  subst hn hx
  refine (PLetterAll.presidioref6_TakeLetter.calls 20 A c l f t X e w (Kd.C_of_reads (enc := Value.int .u8) (d := (0 : Int)) (h1 := fun _ => rfl) hr) hc h).mono fun r w' ⟨v, he, hR, hb⟩ => ?_
  obtain ⟨A', c', rfl⟩ := Kd.R_slice hR
  obtain ⟨_, h2, h3⟩ := Kd.R_reads' hR
  exact ⟨A', c', he, h2, Kd.reads_of_C (enc := Value.int .u8) (d := (0 : Int)) (h1 := fun _ => rfl) h3, hb⟩
end
open Go.RowKit Go.Proofs.Ytlohonlcoedfhaa.Mem
open Go.Proofs.YtlohonlcoedfhaaW.PrintWords (nums ReadsInt own_reads)
set_option linter.unusedVariables false

set_option maxRecDepth 100000 in
set_option maxHeartbeats 8000000 in
theorem all_letter (w : World) (f t : Int) (a : Option Addr) (cap : Nat) (l : List Int) (a2 : Option Addr) (cap2 : Nat) (l2 : List Int)
    (hl : l.length ≤ 1152921504606846976) (hcap : l.length ≤ cap) (hr : ReadsInt w .u8 a l.length l) (hl2 : l2.length ≤ 1152921504606846976) (hcap2 : l2.length ≤ cap2) (hr2 : ReadsInt w .u8 a2 l2.length l2) (hw2 : ∀ x ∈ l2, 0 ≤ x ∧ x ≤ 255) :
    Calls Try.prog 6 #[.int .i64 f, .int .i64 t, .slice a l.length cap, .slice a2 l2.length cap2] w fun e w' => e = .returned (.bool true) ∧ Below w.heap.size w w' := by
  have hu := Try.underlying39
  have hb := Below.refl w.heap.size w
  have R := Lib.hid hr
  have R2 := Lib.hid hr2
  clear hr hr2
  by_cases h1 : 150 < (l.length : Int)
  · go_enter Try.func6, Try.ntmps6
    go_wp2_with (first
      | (go_at_call 22; refine (begun _).mono ?_; rintro e w1 ⟨rfl, hb1⟩; replace hb := bel_chain hb hb1; clear hb1)
      | fail)
    go_ret
    exact ⟨rfl, hb⟩
  by_cases h2 : 150 < (l2.length : Int)
  · go_enter Try.func6, Try.ntmps6
    go_wp2_with (first
      | (go_at_call 22; refine (begun _).mono ?_; rintro e w1 ⟨rfl, hb1⟩; replace hb := bel_chain hb hb1; clear hb1)
      | fail)
    go_ret
    exact ⟨rfl, hb⟩
  obtain ⟨L, eL, hp1, hp2⟩ := put_both f t l
  have hl3 : l2.length ≤ 1000 := by omega
  obtain ⟨f2, t2, X, eX, ht1, ht2⟩ := take_both l2 hl3 hw2
  obtain ⟨nL, hnL⟩ : ∃ n, L.length = n := ⟨_, rfl⟩
  obtain ⟨nX, hnX⟩ : ∃ n, X.length = n := ⟨_, rfl⟩
  have HP1 := Lib.hid hp1
  have HP2 := Lib.hid hp2
  have HT1 := Lib.hid ht1
  have HT2 := Lib.hid ht2
  have HNL := Lib.hid hnL
  have HNX := Lib.hid hnX
  clear hp1 hp2 ht1 ht2 hnL hnX hw2
  go_enter Try.func6, Try.ntmps6
  go_wp2_with (first
    | (go_at_call 22; refine (begun _).mono ?_; rintro e w1 ⟨rfl, hb1⟩; replace R := Lib.hid (R.out.below hb1); replace R2 := Lib.hid (R2.out.below hb1); replace hb := bel_chain hb hb1; clear hb1)
    | (go_at_call 23; refine (lput_call (w1.alloc (.cells #[.int .i64 f, .int .i64 t, .slice a l.length cap] 39)) HP1.out rfl hcap (R.out.below (bel_alloc (Below.refl _ _) _))).mono ?_; rintro e w2 ⟨v, rfl, ho, hb2⟩; rw [HNL.out] at ho; obtain ⟨A2, c2, rfl, rd2⟩ := own_reads ho; have RL := Lib.hid rd2; obtain ⟨x0, x1, x2⟩ := cells3 (blk_below (blk_new w1 (.cells #[.int .i64 f, .int .i64 t, .slice a l.length cap] 39)) hb2); replace R := Lib.hid ((R.out.below (bel_alloc (Below.refl _ _) (.cells #[.int .i64 f, .int .i64 t, .slice a l.length cap] 39))).below hb2); replace R2 := Lib.hid ((R2.out.below (bel_alloc (Below.refl _ _) (.cells #[.int .i64 f, .int .i64 t, .slice a l.length cap] 39))).below hb2); replace hb := bel_chain (bel_alloc hb (.cells #[.int .i64 f, .int .i64 t, .slice a l.length cap] 39)) hb2; clear hb2 ho rd2)
    | (go_at_call 24; refine (rput_call _ HP2.out rfl hcap R.out).mono ?_; rintro e w3 ⟨v, rfl, ho, hb3⟩; rw [HNL.out] at ho; obtain ⟨A3, c3, rfl, rd3⟩ := own_reads ho; have RM := Lib.hid rd3; replace RL := Lib.hid (RL.out.below hb3); replace R2 := Lib.hid (R2.out.below hb3); replace hb := bel_chain hb hb3; clear hb3 ho rd3 x0 x1 x2 R)
    | (go_at_call 16; refine (Loan.loan_any _ _ _ l2 hl3 R2.out).mono ?_; rintro e w4 ⟨gg, c4, rfl, hc5, hcM, hL, hb4, hge⟩; have HLl := Lib.hid ((Loan.Lent.reads hL hl3).1); have HLe := Lib.hid hL; replace RL := Lib.hid (RL.out.below hb4); replace RM := Lib.hid (RM.out.below hb4); replace R2 := Lib.hid (R2.out.below hb4); replace hb := bel_chain hb hb4; clear hb4 hL hge)
    | (go_at_call 25; refine (ltake_call w4 HT1.out rfl HNX.out (by omega) HLl.out).mono ?_; rintro e w5 ⟨A5, c5, rfl, hc5', hr5, hb5⟩; obtain ⟨W5, hW5⟩ : ∃ W, w5.alloc (.cells #[.int .i64 f2, .int .i64 t2, .slice A5 nX c5] 39) = W := ⟨_, rfl⟩; have hbn : Below w5.heap.size w5 W5 := (by rw [← hW5]; exact bel_alloc (Below.refl _ _) _); have bX : W5.heap[w5.heap.size]? = some (.cells #[.int .i64 f2, .int .i64 t2, .slice A5 nX c5] 39 (0, 0)) := (by rw [← hW5]; exact blk_new _ _); have RX := Lib.hid (hr5.below hbn); replace HLe := Lib.hid ((HLe.out.below hb5).below hbn); replace RL := Lib.hid ((RL.out.below hb5).below hbn); replace RM := Lib.hid ((RM.out.below hb5).below hbn); replace R2 := Lib.hid ((R2.out.below hb5).below hbn); replace hb := bel_chain (bel_chain hb hb5) hbn; clear hb5 hr5 hbn HLl)
    | (go_at_call 26; refine (rtake_call W5 HT2.out rfl HNX.out hcap2 R2.out).mono ?_; rintro e w6 ⟨A6, c6, rfl, hc6, hr6, hb6⟩; obtain ⟨W6, hW6⟩ : ∃ W, w6.alloc (.cells #[.int .i64 f2, .int .i64 t2, .slice A6 nX c6] 39) = W := ⟨_, rfl⟩; have hbn : Below w6.heap.size w6 W6 := (by rw [← hW6]; exact bel_alloc (Below.refl _ _) _); have bY : W6.heap[w6.heap.size]? = some (.cells #[.int .i64 f2, .int .i64 t2, .slice A6 nX c6] 39 (0, 0)) := (by rw [← hW6]; exact blk_new _ _); replace bX := blk_below (blk_below bX hb6) hbn; have RY := hr6.below hbn; replace RX := (RX.out.below hb6).below hbn; replace HLe := (HLe.out.below hb6).below hbn; replace RL := (RL.out.below hb6).below hbn; replace RM := (RM.out.below hb6).below hbn; replace R2 := (R2.out.below hb6).below hbn; replace hb := bel_chain (bel_chain hb hb6) hbn; obtain ⟨y0, y1, y2⟩ := cells3 bX; obtain ⟨z0, z1, z2⟩ := cells3 bY; have cv1 := Loan.conv (c := c2) RL; have cv2 := Loan.conv (c := c3) RM; have cv3 := Loan.conv (c := c5) RX; have cv4 := Loan.conv (c := c6) RY; have R2h := Lib.hid R2; have HLh := Lib.hid HLe; clear hb6 hr6 hbn hW5 bX bY RL RM RX RY R2 HLe)
    | (go_at_call 21; refine (Loan.same_any W6 gg c4 a2 cap2 l2 hl3 hc5 hcM HLh.out R2h.out).mono ?_; rintro e w7 ⟨rfl, nq, rfl⟩)
    | fail)
  all_goals go_ret
  all_goals exact ⟨rfl, bel_drewN hb _⟩
theorem reads_plainA {w : World} {a : Option Addr} {b off : Nat} {l : List Int} (hl : l.length ≤ 1152921504606846976) (ha : 0 < l.length → a = some ⟨b, off, none⟩) (hc : ∀ i, i < l.length → w.cell? ⟨b, off + i, none⟩ = some (.int .u8 (l.getD i 0))) : ReadsInt w .u8 a l.length l :=
  ⟨rfl, by omega, fun h => ⟨_, ha h, fun j hj => by rw [Loan.add_at]; exact hc j hj⟩⟩
end Go.Proofs.Ytlohonlcoedfhaa.Lett
