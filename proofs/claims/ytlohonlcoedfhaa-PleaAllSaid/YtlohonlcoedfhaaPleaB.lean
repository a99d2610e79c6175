/- A plea comes back, and eleven bytes are one plea's. -/
import Derived.Test.YtlohonlcoedfhaaPleaP
import Derived.Test.YtlohonlcoedfhaaCells
import Derived.WalkKit
import Derived.WalkSpells
import Derived.WalkLawsBesides
import Derived.Deep.RegionHeld3
import Derived.Outline
namespace Go.Proofs.Ytlohonlcoedfhaa.Plea
section
open Go.RowKit Go.Proofs.Ytlohonlcoedfhaa.PPleaForms Go.Proofs.YtlohonlcoedfhaaW.PrintWords Go.Proofs.YtlohonlcoedfhaaW.PrintLast Go.Proofs.YtlohonlcoedfhaaW.PrintMore
set_option linter.unusedVariables false
set_option linter.unusedSimpArgs false

theorem put_call {m p g : Int} {l : List Int} {n : Nat} (w : World) (h : plea_Put.f 20 m p g = some l) (hn : l.length = n) :
    Calls Try.prog 19 #[.agg #[.int .u64 m, .int .i64 p, .int .i64 g]] w fun e w' => ∃ A c, e = .returned (.slice A n c) ∧ n ≤ c ∧ ReadsInt w' .u8 A n l ∧ Below w.heap.size w w' := by
  subst hn
  refine (plea_Put.calls 20 m p g l w h).mono fun e w' ⟨v, he, hR, hb⟩ => ?_
  obtain ⟨A, c, rfl⟩ := Kd.R_slice hR
  obtain ⟨_, h2, h3⟩ := Kd.R_reads' hR
  exact ⟨A, c, he, h2, Kd.reads_of_C (enc := Value.int .u8) (d := (0 : Int)) (h1 := fun _ => rfl) h3, hb⟩
theorem take_call {m p g e : Int} {l : List Int} {n : Nat} {A : Option Addr} {c : Nat} {w : World} (h : plea_Take.f 20 l = some (m, p, g, e)) (hn : l.length = n) (hc : n ≤ c) (hr : ReadsInt w .u8 A n l) :
    Calls Try.prog 17 #[.slice A n c] w fun r w' => r = .returned (.tuple #[.agg #[.int .u64 m, .int .i64 p, .int .i64 g], .int .i64 e]) ∧ Below w.heap.size w w' := by
  subst hn
  exact plea_Take.calls 20 A c l m p g e w (Kd.C_of_reads (enc := Value.int .u8) (d := (0 : Int)) (h1 := fun _ => rfl) hr) hc h
theorem begun_true (w : World) : Calls Try.prog 15 #[] w fun e w' => e = .returned (.bool true) ∧ Below w.heap.size w w' :=
  presidiolaw19_begun.calls 40 true w (by decide +kernel)
theorem conv {w : World} {A : Option Addr} {n c : Nat} {l : List Int} (h : ReadsInt w .u8 A n l) : (convert 25 9 (.slice A n c)).run Try.prog w = .ok (.string (strOfNums l)) w :=
  string_of_reads Try.underlying25 Try.underlying5 Try.underlying9 h
theorem eq_same (w : World) (m p g : Int) : (Op.equalIn 10000 24 (.agg #[.int .u64 m, .int .i64 p, .int .i64 g]) (.agg #[.int .u64 m, .int .i64 p, .int .i64 g])).run Try.prog w = .ok true w := by
  have h := eqA24 9998 w m m p p g g
  simpa using h
end
end Go.Proofs.Ytlohonlcoedfhaa.Plea
namespace Go.Proofs.Ytlohonlcoedfhaa.Plea
open Go.RowKit Go.Proofs.Ytlohonlcoedfhaa.Mem
open Go.Proofs.YtlohonlcoedfhaaW.PrintWords (ReadsInt)
open Go.Proofs.YtlohonlcoedfhaaW.PrintLast (start_ take_ one_ done_ goes_ value_)

theorem reads_blk {w : World} {g : Nat} {t : TypeId} {l : List Int} (h : w.heap[g]? = some (.cells (l.map (Value.int .u8)).toArray t (0, 0))) (hl : l.length ≤ 1000) : ReadsInt w .u8 (some ⟨g, 0, none⟩) l.length l := by
  refine ⟨rfl, by omega, fun _ => ⟨⟨g, 0, none⟩, rfl, fun j hj => ?_⟩⟩
  have hadd : (⟨g, 0, none⟩ : Addr).add j = ⟨g, j, none⟩ := by unfold Addr.add; split <;> simp_all
  rw [hadd, blk_cell h]
  simp [List.getElem?_map, List.getElem?_eq_getElem hj, List.getD_eq_getElem?_getD]

set_option maxRecDepth 100000 in
set_option maxHeartbeats 8000000 in
theorem back (w : World) (m p g b0 b1 b2 b3 b4 b5 b6 b7 b8 b9 b10 : Int) (hm : 0 ≤ m ∧ m ≤ 18446744073709551615) (hp : 0 ≤ p ∧ p ≤ 255) (hg : 0 ≤ g ∧ g ≤ 65535) (q0 : 0 ≤ b0 ∧ b0 ≤ 255) (q1 : 0 ≤ b1 ∧ b1 ≤ 255) (q2 : 0 ≤ b2 ∧ b2 ≤ 255) (q3 : 0 ≤ b3 ∧ b3 ≤ 255) (q4 : 0 ≤ b4 ∧ b4 ≤ 255) (q5 : 0 ≤ b5 ∧ b5 ≤ 255) (q6 : 0 ≤ b6 ∧ b6 ≤ 255) (q7 : 0 ≤ b7 ∧ b7 ≤ 255) (q8 : 0 ≤ b8 ∧ b8 ≤ 255) (q9 : 0 ≤ b9 ∧ b9 ≤ 255) (q10 : 0 ≤ b10 ∧ b10 ≤ 255) :
    Calls Try.prog 4 #[.int .u64 m, .int .u8 p, .int .u16 g, .agg #[.int .u8 b0, .int .u8 b1, .int .u8 b2, .int .u8 b3, .int .u8 b4, .int .u8 b5, .int .u8 b6, .int .u8 b7, .int .u8 b8, .int .u8 b9, .int .u8 b10]] w fun e w' => e = .returned (.bool true) ∧ Below w.heap.size w w' := by
  have hu := Try.underlying24
  have HP1 := Lib.hid (put_ok m p g hp hg)
  have HT1 := Lib.hid (take_put m p g hm hp hg)
  have HT2 := Lib.hid (take_ok b0 b1 b2 b3 b4 b5 b6 b7 b8 b9 b10 q0 q1 q2 q3 q4 q5 q6 q7 q8 q9 q10)
  have HP2' := put_ok (takeM b0 b1 b2 b3 b4 b5 b6 b7) b8 (b9 + 256 * b10) q8 (by omega)
  rw [putL_take b0 b1 b2 b3 b4 b5 b6 b7 b8 b9 b10 q0 q1 q2 q3 q4 q5 q6 q7 q8 q9 q10] at HP2'
  have HP2 := Lib.hid HP2'
  have bB : (w.alloc (.cells #[.int .u8 b0, .int .u8 b1, .int .u8 b2, .int .u8 b3, .int .u8 b4, .int .u8 b5, .int .u8 b6, .int .u8 b7, .int .u8 b8, .int .u8 b9, .int .u8 b10] 35)).heap[w.heap.size]? = some (.cells ([b0, b1, b2, b3, b4, b5, b6, b7, b8, b9, b10].map (Value.int .u8)).toArray 35 (0, 0)) := blk_new _ _
  have hb : Below w.heap.size w (w.alloc (.cells #[.int .u8 b0, .int .u8 b1, .int .u8 b2, .int .u8 b3, .int .u8 b4, .int .u8 b5, .int .u8 b6, .int .u8 b7, .int .u8 b8, .int .u8 b9, .int .u8 b10] 35)) := bel_alloc (Below.refl _ _) _
  have w1_ : IntKind.i64.wrap p = p := IntWalk.i64_in _ (by omega)
  have w2_ : IntKind.i64.wrap g = g := IntWalk.i64_in _ (by omega)
  have H11 : Hid ((putL m p g).length = 11) := Lib.hid rfl
  have H11b : Hid ([b0, b1, b2, b3, b4, b5, b6, b7, b8, b9, b10].length = 11) := Lib.hid rfl
  obtain ⟨m2, hm2⟩ : ∃ z, z = takeM b0 b1 b2 b3 b4 b5 b6 b7 := ⟨_, rfl⟩
  obtain ⟨g2, hg2⟩ : ∃ z, z = b9 + 256 * b10 := ⟨_, rfl⟩
  obtain ⟨bl, hbl⟩ : ∃ z, z = [b0, b1, b2, b3, b4, b5, b6, b7, b8, b9, b10] := ⟨_, rfl⟩
  rw [← hm2, ← hg2, ← hbl] at HT2 HP2
  rw [← hbl] at H11b bB
  clear HP2' hm2 hg2 hbl q0 q1 q2 q3 q4 q5 q6 q7 q8 q9 q10
  go_enter Try.func4, Try.ntmps4
  go_wp2_with (first
    | (go_at_call 15; refine (begun_true _).mono ?_; rintro e w1 ⟨rfl, hb1⟩; have bB1 := blk_below bB hb1; replace hb := bel_chain hb hb1; have b9_ := blk_new w1 (.cells #[.int .u64 m, .int .i64 p, .int .i64 g] 24); obtain ⟨x0, x1, x2⟩ := cells3 b9_; have bB2 := blk_alloc bB1 (.cells #[.int .u64 m, .int .i64 p, .int .i64 g] 24); have hbA := bel_alloc hb (.cells #[.int .u64 m, .int .i64 p, .int .i64 g] 24); clear hb1 bB hb bB1)
    | (go_at_call 19; (with_reducible refine (put_call _ HP1.out H11.out).mono ?_); rintro e w2 ⟨A, c, rfl, hc, hr, hb2⟩; have R2 := Lib.hid hr; have b92 := blk_below b9_ hb2; have bB3 := blk_below bB2 hb2; have hbB := bel_chain hbA hb2; clear hb2 hr b9_ bB2 hbA x0 x1 x2)
    | (go_at_call 17; (with_reducible refine (take_call HT1.out H11.out hc R2.out).mono ?_); rintro e w3 ⟨rfl, hb3⟩; have b93 := blk_alloc (blk_below b92 hb3) (.cells #[.int .u64 m, .int .i64 p, .int .i64 g] 24); have bB4 := blk_alloc (blk_below bB3 hb3) (.cells #[.int .u64 m, .int .i64 p, .int .i64 g] 24); have b10_ := blk_new w3 (.cells #[.int .u64 m, .int .i64 p, .int .i64 g] 24); have hbC := bel_alloc (bel_chain hbB hb3) (.cells #[.int .u64 m, .int .i64 p, .int .i64 g] 24); have RB := Lib.hid (reads_blk bB4 (by rw [H11b.out]; omega)); rw [H11b.out] at RB; clear hb3 b92 bB3 hbB R2)
    | (go_at_call 17; (with_reducible refine (take_call HT2.out H11b.out (Nat.le_refl 11) RB.out).mono ?_); rintro e w5 ⟨rfl, hb5⟩; have b95 := blk_alloc (blk_below b93 hb5) (.cells #[.int .u64 m2, .int .i64 b8, .int .i64 g2] 24); have b105 := blk_alloc (blk_below b10_ hb5) (.cells #[.int .u64 m2, .int .i64 b8, .int .i64 g2] 24); have bB5 := blk_alloc (blk_below bB4 hb5) (.cells #[.int .u64 m2, .int .i64 b8, .int .i64 g2] 24); have b12_ := blk_new w5 (.cells #[.int .u64 m2, .int .i64 b8, .int .i64 g2] 24); have hbD := bel_alloc (bel_chain hbC hb5) (.cells #[.int .u64 m2, .int .i64 b8, .int .i64 g2] 24); clear hb5 b93 b10_ bB4 hbC RB)
    | fail)
  obtain ⟨x0, x1, x2⟩ := cells3 b95
  obtain ⟨y0, y1, y2⟩ := cells3 b105
  obtain ⟨z0, z1, z2⟩ := cells3 b12_
  have RB := reads_blk bB5 (by rw [H11b.out]; omega)
  rw [H11b.out] at RB
  have hcv := conv (c := 11) RB
  have heq := fun w' => eq_same w' m p g
  generalize hG : w5.alloc (.cells #[.int .u64 m2, .int .i64 b8, .int .i64 g2] 24) = G at x0 x1 x2 y0 y1 y2 z0 z1 z2 RB hcv hbD b95 b105 b12_ bB5 ⊢
  clear hG
  have b95d : G.drew.heap[w1.heap.size]? = _ := b95
  have b105d : G.drew.heap[w3.heap.size]? = _ := b105
  have b12d : G.drew.heap[w5.heap.size]? = _ := b12_
  have RBd : ReadsInt G.drew .u8 (some ⟨w.heap.size, 0, none⟩) 11 bl := RB
  have hbDd := bel_drew hbD
  refine wp_region_noPanic ?_
  refine start_ (n := 20) (S := fun w' => w'.cell? ⟨w1.heap.size, 0, none⟩ = some (.int .u64 m) ∧ w'.cell? ⟨w1.heap.size, 1, none⟩ = some (.int .i64 p) ∧ w'.cell? ⟨w1.heap.size, 2, none⟩ = some (.int .i64 g) ∧ w'.cell? ⟨w3.heap.size, 0, none⟩ = some (.int .u64 m) ∧ w'.cell? ⟨w3.heap.size, 1, none⟩ = some (.int .i64 p) ∧ w'.cell? ⟨w3.heap.size, 2, none⟩ = some (.int .i64 g) ∧ w'.cell? ⟨w5.heap.size, 0, none⟩ = some (.int .u64 m2) ∧ w'.cell? ⟨w5.heap.size, 1, none⟩ = some (.int .i64 b8) ∧ w'.cell? ⟨w5.heap.size, 2, none⟩ = some (.int .i64 g2) ∧ (convert 25 9 (.slice (some ⟨w.heap.size, 0, none⟩) 11 11)).run Try.prog w' = .ok (.string (strOfNums bl)) w') (ds := []) #[false, false, false, false, false, false, false, false, false, false, false, false, false, false, false, false, false, false, false, false] (by kernel_rfl) rfl rfl ⟨x0, x1, x2, y0, y1, y2, z0, z1, z2, conv (show ReadsInt G.drew _ _ _ _ from RB)⟩ (fun hHeld => ?_)
  refine take_ (i := 0) (N := some 33) (v := ?_) (a' := ?_) #[true, false, false, false, false, false, false, false, false, false, false, false, false, false, false, false, false, false, false, false] rfl rfl (by kernel_rfl) (fun _ _ _ h => h) (Or.inl ⟨by rfl, ?_⟩) hHeld ?_ ?_
  rotate_left
  · rintro w' ⟨s0, s1, s2, s3, s4, s5, s6, s7, s8, s9⟩
    go_simp
    with_reducible rfl
  rotate_left
  · simp only [Act.put, List.setIfInBounds_toArray, List.set_cons_zero, List.set_cons_succ]
    rfl
  refine take_ (i := 1) (N := some 34) (v := ?_) (a' := ?_) #[true, true, false, false, false, false, false, false, false, false, false, false, false, false, false, false, false, false, false, false] rfl rfl (by kernel_rfl) (fun _ _ _ h => h) (Or.inl ⟨by rfl, ?_⟩) hHeld ?_ ?_
  rotate_left
  · rintro w' ⟨s0, s1, s2, s3, s4, s5, s6, s7, s8, s9⟩
    go_simp
    with_reducible rfl
  rotate_left
  · simp only [Act.put, List.setIfInBounds_toArray, List.set_cons_zero, List.set_cons_succ]
    rfl
  refine take_ (i := 2) (N := some 35) (v := ?_) (a' := ?_) #[true, true, true, false, false, false, false, false, false, false, false, false, false, false, false, false, false, false, false, false] rfl rfl (by kernel_rfl) (fun _ _ _ h => h) (Or.inl ⟨by rfl, ?_⟩) hHeld ?_ ?_
  rotate_left
  · rintro w' ⟨s0, s1, s2, s3, s4, s5, s6, s7, s8, s9⟩
    go_simp
    with_reducible rfl
  rotate_left
  · simp only [Act.put, List.setIfInBounds_toArray, List.set_cons_zero, List.set_cons_succ]
    rfl
  refine take_ (i := 3) (N := some 36) (v := ?_) (a' := ?_) #[true, true, true, true, false, false, false, false, false, false, false, false, false, false, false, false, false, false, false, false] rfl rfl (by kernel_rfl) (fun _ _ _ h => h) (Or.inl ⟨by rfl, ?_⟩) hHeld ?_ ?_
  rotate_left
  · rintro w' ⟨s0, s1, s2, s3, s4, s5, s6, s7, s8, s9⟩
    go_simp
    with_reducible rfl
  rotate_left
  · simp only [Act.put, List.setIfInBounds_toArray, List.set_cons_zero, List.set_cons_succ]
    rfl
  refine take_ (i := 4) (N := some 37) (v := ?_) (a' := ?_) #[true, true, true, true, true, false, false, false, false, false, false, false, false, false, false, false, false, false, false, false] rfl rfl (by kernel_rfl) (fun _ _ _ h => h) (Or.inl ⟨by rfl, ?_⟩) hHeld ?_ ?_
  rotate_left
  · rintro w' ⟨s0, s1, s2, s3, s4, s5, s6, s7, s8, s9⟩
    go_simp
    with_reducible rfl
  rotate_left
  · simp only [Act.put, List.setIfInBounds_toArray, List.set_cons_zero, List.set_cons_succ]
    rfl
  refine take_ (i := 5) (N := some 38) (v := ?_) (a' := ?_) #[true, true, true, true, true, true, false, false, false, false, false, false, false, false, false, false, false, false, false, false] rfl rfl (by kernel_rfl) (fun _ _ _ h => h) (Or.inl ⟨by rfl, ?_⟩) hHeld ?_ ?_
  rotate_left
  · rintro w' ⟨s0, s1, s2, s3, s4, s5, s6, s7, s8, s9⟩
    go_simp
    with_reducible rfl
  rotate_left
  · simp only [Act.put, List.setIfInBounds_toArray, List.set_cons_zero, List.set_cons_succ]
    rfl
  refine take_ (i := 6) (N := some 39) (v := ?_) (a' := ?_) #[true, true, true, true, true, true, true, false, false, false, false, false, false, false, false, false, false, false, false, false] rfl rfl (by kernel_rfl) (fun _ _ _ h => h) (Or.inl ⟨by rfl, ?_⟩) hHeld ?_ ?_
  rotate_left
  · rintro w' ⟨s0, s1, s2, s3, s4, s5, s6, s7, s8, s9⟩
    go_simp
    with_reducible rfl
  rotate_left
  · simp only [Act.put, List.setIfInBounds_toArray, List.set_cons_zero, List.set_cons_succ]
    rfl
  refine take_ (i := 7) (N := some 40) (v := ?_) (a' := ?_) #[true, true, true, true, true, true, true, true, false, false, false, false, false, false, false, false, false, false, false, false] rfl rfl (by kernel_rfl) (fun _ _ _ h => h) (Or.inl ⟨by rfl, ?_⟩) hHeld ?_ ?_
  rotate_left
  · rintro w' ⟨s0, s1, s2, s3, s4, s5, s6, s7, s8, s9⟩
    go_simp
    with_reducible rfl
  rotate_left
  · simp only [Act.put, List.setIfInBounds_toArray, List.set_cons_zero, List.set_cons_succ]
    rfl
  refine take_ (i := 8) (N := some 41) (v := ?_) (a' := ?_) #[true, true, true, true, true, true, true, true, true, false, false, false, false, false, false, false, false, false, false, false] rfl rfl (by kernel_rfl) (fun _ _ _ h => h) (Or.inl ⟨by rfl, ?_⟩) hHeld ?_ ?_
  rotate_left
  · rintro w' ⟨s0, s1, s2, s3, s4, s5, s6, s7, s8, s9⟩
    go_simp
    with_reducible rfl
  rotate_left
  · simp only [Act.put, List.setIfInBounds_toArray, List.set_cons_zero, List.set_cons_succ]
    rfl
  refine take_ (i := 9) (N := some 42) (v := ?_) (a' := ?_) #[true, true, true, true, true, true, true, true, true, true, false, false, false, false, false, false, false, false, false, false] rfl rfl (by kernel_rfl) (fun _ _ _ h => h) (Or.inl ⟨by rfl, ?_⟩) hHeld ?_ ?_
  rotate_left
  · rintro w' ⟨s0, s1, s2, s3, s4, s5, s6, s7, s8, s9⟩
    go_simp
    with_reducible rfl
  rotate_left
  · simp only [Act.put, List.setIfInBounds_toArray, List.set_cons_zero, List.set_cons_succ]
    rfl
  refine take_ (i := 10) (N := some 43) (v := ?_) (a' := ?_) #[true, true, true, true, true, true, true, true, true, true, true, false, false, false, false, false, false, false, false, false] rfl rfl (by kernel_rfl) (fun _ _ _ h => h) (Or.inl ⟨by rfl, ?_⟩) hHeld ?_ ?_
  rotate_left
  · rintro w' ⟨s0, s1, s2, s3, s4, s5, s6, s7, s8, s9⟩
    go_simp
    with_reducible rfl
  rotate_left
  · simp only [Act.put, List.setIfInBounds_toArray, List.set_cons_zero, List.set_cons_succ]
    rfl
  refine take_ (i := 11) (N := some 44) (v := ?_) (a' := ?_) #[true, true, true, true, true, true, true, true, true, true, true, true, false, false, false, false, false, false, false, false] rfl rfl (by kernel_rfl) (fun _ _ _ h => h) (Or.inl ⟨by rfl, ?_⟩) hHeld ?_ ?_
  rotate_left
  · rintro w' ⟨s0, s1, s2, s3, s4, s5, s6, s7, s8, s9⟩
    go_simp
    with_reducible rfl
  rotate_left
  · simp only [Act.put, List.setIfInBounds_toArray, List.set_cons_zero, List.set_cons_succ]
    rfl
  refine take_ (i := 12) (N := some 45) (v := ?_) (a' := ?_) #[true, true, true, true, true, true, true, true, true, true, true, true, true, false, false, false, false, false, false, false] rfl rfl (by kernel_rfl) (fun _ _ _ h => h) (Or.inl ⟨by rfl, ?_⟩) hHeld ?_ ?_
  rotate_left
  · rintro w' ⟨s0, s1, s2, s3, s4, s5, s6, s7, s8, s9⟩
    go_simp
    with_reducible rfl
  rotate_left
  · simp only [Act.put, List.setIfInBounds_toArray, List.set_cons_zero, List.set_cons_succ]
    rfl
  refine take_ (i := 15) (N := some 48) (v := ?_) (a' := ?_) #[true, true, true, true, true, true, true, true, true, true, true, true, true, false, false, true, false, false, false, false] rfl rfl (by kernel_rfl) (fun _ _ _ h => h) (Or.inl ⟨by rfl, ?_⟩) hHeld ?_ ?_
  rotate_left
  · rintro w' ⟨s0, s1, s2, s3, s4, s5, s6, s7, s8, s9⟩
    go_simp
    with_reducible rfl
  rotate_left
  · simp only [Act.put, List.setIfInBounds_toArray, List.set_cons_zero, List.set_cons_succ]
    rfl
  refine take_ (i := 16) (N := some 49) (v := ?_) (a' := ?_) #[true, true, true, true, true, true, true, true, true, true, true, true, true, false, false, true, true, false, false, false] rfl rfl (by kernel_rfl) (fun _ _ _ h => h) (Or.inl ⟨by rfl, ?_⟩) hHeld ?_ ?_
  rotate_left
  · rintro w' ⟨s0, s1, s2, s3, s4, s5, s6, s7, s8, s9⟩
    go_simp
    with_reducible rfl
  rotate_left
  · simp only [Act.put, List.setIfInBounds_toArray, List.set_cons_zero, List.set_cons_succ]
    rfl
  refine one_ (i := 13) (N := some 46) #[true, true, true, true, true, true, true, true, true, true, true, true, true, true, false, true, true, false, false, false] rfl rfl (by kernel_rfl) (by decide) (fun K hK => ?_)
  refine goes_ Try.func19 (by kernel_rfl) rfl #[.agg #[.int .u64 m2, .int .i64 b8, .int .i64 g2]] (by rfl) rfl rfl (by (try simp only [List.map_toArray, List.map_cons, List.map_nil]); first | done | rfl) ?_
  refine (put_call _ HP2.out H11b.out).mono ?_
  rintro e w8 ⟨A8, c8, rfl, hc8, hr8, hb8⟩
  refine ⟨_, rfl, ?_⟩
  obtain ⟨X0, X1, X2⟩ := cells3 (blk_below b95d hb8)
  obtain ⟨Y0, Y1, Y2⟩ := cells3 (blk_below b105d hb8)
  obtain ⟨Z0, Z1, Z2⟩ := cells3 (blk_below b12d hb8)
  have RB8 := RBd.below hb8
  have hcv8 := conv (c := c8) hr8
  have hbE := bel_then hbDd hbDd.size hb8
  refine hK.out _ _ ⟨X0, X1, X2, Y0, Y1, Y2, Z0, Z1, Z2, conv RB8⟩ (fun hHeld2 => ?_)
  clear hK K
  simp only [Act.put, List.setIfInBounds_toArray, List.set_cons_zero, List.set_cons_succ]
  refine one_ (i := 14) (N := some 47) #[true, true, true, true, true, true, true, true, true, true, true, true, true, true, true, true, true, false, false, false] rfl rfl (by kernel_rfl) (by decide) (fun K hK => ?_)
  refine value_ (w1 := w8) (v := .string (strOfNums bl)) (by rfl) rfl ?_ ?_
  · go_simp
  refine hK.out _ _ hHeld2 (fun _ => ?_)
  clear hK K
  simp only [Act.put, List.setIfInBounds_toArray, List.set_cons_zero, List.set_cons_succ]
  refine take_ (i := 17) (N := some 50) (v := ?_) (a' := ?_) #[true, true, true, true, true, true, true, true, true, true, true, true, true, true, true, true, true, true, false, false] rfl rfl (by kernel_rfl) (fun _ _ _ h => h) (Or.inl ⟨by rfl, ?_⟩) hHeld2 ?_ ?_
  rotate_left
  · rintro w' ⟨s0, s1, s2, s3, s4, s5, s6, s7, s8, s9⟩
    go_simp
    with_reducible rfl
  rotate_left
  · simp only [Act.put, List.setIfInBounds_toArray, List.set_cons_zero, List.set_cons_succ]
    rfl
  refine take_ (i := 18) (N := some 51) (v := ?_) (a' := ?_) #[true, true, true, true, true, true, true, true, true, true, true, true, true, true, true, true, true, true, true, false] rfl rfl (by kernel_rfl) (fun _ _ _ h => h) (Or.inl ⟨by rfl, ?_⟩) hHeld2 ?_ ?_
  rotate_left
  · rintro w' ⟨s0, s1, s2, s3, s4, s5, s6, s7, s8, s9⟩
    go_simp
    with_reducible rfl
  rotate_left
  · simp only [Act.put, List.setIfInBounds_toArray, List.set_cons_zero, List.set_cons_succ]
    rfl
  refine take_ (i := 19) (N := some 8) (v := ?_) (a' := ?_) #[true, true, true, true, true, true, true, true, true, true, true, true, true, true, true, true, true, true, true, true] rfl rfl (by kernel_rfl) (fun _ _ _ h => h) (Or.inl ⟨by rfl, ?_⟩) hHeld2 ?_ ?_
  rotate_left
  · rintro w' ⟨s0, s1, s2, s3, s4, s5, s6, s7, s8, s9⟩
    go_simp
    with_reducible rfl
  rotate_left
  · simp only [Act.put, List.setIfInBounds_toArray, List.set_cons_zero, List.set_cons_succ]
    rfl
  refine done_ (by kernel_rfl) ?_
  refine NoPanic.normal ?_
  go_wp2
  go_ret
  exact ⟨rfl, hbE⟩
end Go.Proofs.Ytlohonlcoedfhaa.Plea
