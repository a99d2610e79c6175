/- Contracts of package phase: the table as a map, Next by it. -/
import Derived.Test.YtoimmobljpegmaaRows
import Derived.Test.YtoimmobljpegmaaMem
import Derived.Test.YtoimmobljpegmaaCells
import Derived.Test.YtoimmobljpegmaaFrame
import Derived.Test.YtoimmobljpegmaaWInvWords
import Derived.Test.YtoimmobljpegmaaWWords
import Derived.WalkKit
import Derived.WalkSpells
import Derived.WalkLawsBesides
import Derived.Below
import Derived.OneCell
import Derived.DeepKeys4
import Derived.Maps.OwnSet
namespace Go.Proofs.Ytoimmobljpegmaa.Phase
open Go.RowKit Go.Proofs.YtoimmobljpegmaaW.PrintLast Go.Proofs.Ytoimmobljpegmaa.Mem Go.Maps
set_option linter.unusedVariables false

theorem laidOut : laidOutB Try.prog = true := by kernel_rfl
theorem law : Keyed Try.prog 63 := Keyed.of_law (deep_law_laid laidOut (m := 2) (by omega) (of_decide_eq_true (by kernel_rfl)) (by kernel_rfl) (by kernel_rfl))
theorem underlying61 : Try.prog.underlying 61 = some (.map 63 3) := by kernel_rfl
theorem underlying63 : Try.prog.underlying 63 = some (.array 2 3) := by kernel_rfl
theorem underlying3 : Try.prog.underlying 3 = some (.int .i64) := by kernel_rfl
theorem cells3_ : Try.prog.cellsOf 3 = 1 := by kernel_rfl
theorem cells63 : Try.prog.cellsOf 63 = 2 := by kernel_rfl
theorem keyType63 : Try.prog.keyType 63 = true := by kernel_rfl
theorem tsize : ∃ n, Try.prog.types.size + 1 = n + 2 := by
  have h : decide (1 ≤ Try.prog.types.size) = true := by kernel_rfl
  have h2 := of_decide_eq_true h
  exact ⟨Try.prog.types.size - 1, by omega⟩
def kl (x y : Int) : Lit := .string (keyBytes [.int .i64 x, .int .i64 y])
theorem wf_in {x : Int} (h : -9223372036854775808 ≤ x ∧ x ≤ 9223372036854775807) : (Lit.int .i64 x).wf = true := WalkArith.wf_i64 (by omega)
theorem key {x y : Int} (hx : (Lit.int .i64 x).wf = true) (hy : (Lit.int .i64 y).wf = true) : keyOf Try.prog 63 (.agg #[.int .i64 x, .int .i64 y]) = some (kl x y) := by
  unfold keyOf
  rw [underlying63]
  simp only [keyType63, Value.formed, underlying63, cells63, Value.cells]
  obtain ⟨n, hn⟩ := tsize
  rw [hn]
  simp [Program.keyLits, cells63, cells3_, hx, hy, kl, List.range_succ]
theorem kl_inj {x y x' y' : Int} (hx : (Lit.int .i64 x).wf = true) (hy : (Lit.int .i64 y).wf = true) (hx' : (Lit.int .i64 x').wf = true) (hy' : (Lit.int .i64 y').wf = true) (h : kl x y = kl x' y') : x = x' ∧ y = y' := by
  have := law.inj (key hx hy) (by rw [h]; exact key hx' hy')
  simpa using this
theorem zeroE (w : World) : (zeroValue 3).run Try.prog w = .ok (.int .i64 0) w := by kernel_rfl
def tab : List (Nat × Int × Int × Int) := [(2, 1, 1, 2), (4, 1, 3, 2), (6, 2, 2, 3), (8, 2, 4, 1), (10, 2, 7, 1), (12, 2, 6, 5), (14, 2, 8, 4), (16, 3, 5, 2), (18, 3, 8, 3), (20, 4, 1, 2), (22, 5, 1, 2)]
/-- The table's row at (x, y) is among the listed ones. -/
def seen (b : Nat → Bool) (x y : Int) : Bool := tab.any fun r => b r.1 && (r.2.1 == x && r.2.2.1 == y)
/-- The phase behind x and y; 0: there is none. -/
def nx (x y : Int) : Int := match tab.find? (fun r => r.2.1 == x && r.2.2.1 == y) with | some r => r.2.2.2 | none => 0
def Sees (D : DataW Unit) (b : Nat → Bool) : Prop := IsMap D ∧ ∀ x y, (Lit.int .i64 x).wf = true → (Lit.int .i64 y).wf = true →
  Maps.has D (kl x y) = seen b x y ∧ D.atKey (kl x y) (.lit (.int .i64 0)) = .lit (.int .i64 (if seen b x y then nx x y else 0))
theorem Sees.same {D : DataW Unit} {b b' : Nat → Bool} (h : Sees D b) (hs : ∀ x y, seen b' x y = seen b x y) : Sees D b' := ⟨h.1, fun x y hx hy => by rw [hs]; exact h.2 x y hx hy⟩
theorem sees_none (b : Nat → Bool) (hs : ∀ x y, seen b x y = false) : Sees (.map []) b := ⟨isMap_empty, fun x y hx hy => by rw [hs]; exact ⟨rfl, rfl⟩⟩
theorem seen_put {b : Nat → Bool} {i : Nat} {x y v : Int} (hm : (i, x, y, v) ∈ tab) (x' y' : Int) : seen (up b i) x' y' = (seen b x' y' || (x == x' && y == y')) := by
  simp only [tab, List.mem_cons, Prod.mk.injEq, List.not_mem_nil, or_false] at hm
  cases hb : b i <;> rcases hm with h | h | h | h | h | h | h | h | h | h | h <;> obtain ⟨rfl, rfl, rfl, rfl⟩ := h <;> simp [seen, tab, up, hb] <;> first | ac_rfl | (intros; simp_all; done) | grind
theorem nx_put {i : Nat} {x y v : Int} (hm : (i, x, y, v) ∈ tab) : nx x y = v := by
  simp only [tab, List.mem_cons, Prod.mk.injEq, List.not_mem_nil, or_false] at hm
  rcases hm with h | h | h | h | h | h | h | h | h | h | h <;> obtain ⟨rfl, rfl, rfl, rfl⟩ := h <;> rfl
theorem Sees.put {D : DataW Unit} {b : Nat → Bool} {i : Nat} {x y v : Int} (h : Sees D b) (hm : (i, x, y, v) ∈ tab) (hx : (Lit.int .i64 x).wf = true) (hy : (Lit.int .i64 y).wf = true) :
    Sees (D.put (kl x y) (.lit (.int .i64 v))) (up b i) := by
  refine ⟨h.1.put _ _, fun x' y' hx' hy' => ?_⟩
  rw [seen_put hm]
  by_cases he : x = x' ∧ y = y'
  · obtain ⟨rfl, rfl⟩ := he
    have hk := law.key (key hx hy)
    rw [has_put_same h.1 hk, atKey_put_same h.1 hk, nx_put hm]
    simp
  · have hne : kl x' y' ≠ kl x y := fun e => he (by have := kl_inj hx' hy' hx hy e; exact ⟨this.1.symm, this.2.symm⟩)
    have hf : (x == x' && y == y') = false := by
      simp only [Bool.and_eq_false_iff, beq_eq_false_iff_ne]
      by_cases h1 : x = x'
      · exact .inr (fun h2 => he ⟨h1, h2⟩)
      · exact .inl h1
    rw [has_put_other hne, atKey_put_other hne, hf, Bool.or_false]
    exact h.2 x' y' hx' hy'
set_option maxRecDepth 100000 in
set_option maxHeartbeats 4000000 in
theorem steps (w : World) : Calls Try.prog 47 #[] w fun e w' => ∃ D n, e = .returned (.map (some w.heap.size)) ∧ w'.ownsMap (H := Unit) Try.prog 63 (plainElem Try.prog 3) w.heap.size n D ∧ Sees D (fun _ => true) ∧ Below w.heap.size w w' := by
  go_enter Try.func47, Try.ntmps47
  go_wp2
  refine start_ (n := 25) (S := fun w' => True) (ds := []) #[false, false, false, false, false, false, false, false, false, false, false, false, false, false, false, false, false, false, false, false, false, false, false, false, false] (by kernel_rfl) rfl rfl trivial (fun hHeld => ?_)
  clear hHeld
  refine inv_at (T := _) (B := [0, 0, 3, 0, 9, 0, 33, 0, 129, 0, 513, 0, 2049, 0, 8193, 0, 32769, 0, 131073, 0, 524289, 0, 2097153, 1, 8388609]) [0, 1, 2, 3, 4, 5, 6, 7, 8, 9, 10, 11, 12, 13, 14, 15, 16, 17, 18, 19, 20, 21, 22, 23, 24] (fun a0 b a w' => a = putSel a0 b [(0, 1, .map (some w.heap.size)), (1, 2, .agg #[.int .i64 1, .int .i64 1]), (3, 3, .agg #[.int .i64 1, .int .i64 3]), (5, 4, .agg #[.int .i64 2, .int .i64 2]), (7, 5, .agg #[.int .i64 2, .int .i64 4]), (9, 6, .agg #[.int .i64 2, .int .i64 7]), (11, 7, .agg #[.int .i64 2, .int .i64 6]), (13, 8, .agg #[.int .i64 2, .int .i64 8]), (15, 9, .agg #[.int .i64 3, .int .i64 5]), (17, 10, .agg #[.int .i64 3, .int .i64 8]), (19, 11, .agg #[.int .i64 4, .int .i64 1]), (21, 12, .agg #[.int .i64 5, .int .i64 1]), (23, 13, .map (some w.heap.size)), (24, 0, .map (some w.heap.size))] ∧ (b 0 = false → w' = w.drew) ∧ (b 0 = true → ∃ (D : DataW Unit) (n : Nat), n + ([0, 1, 2, 3, 4, 5, 6, 7, 8, 9, 10, 11, 12, 13, 14, 15, 16, 17, 18, 19, 20, 21, 22, 23, 24].filter fun j => !b j).length ≤ 25 ∧ w'.ownsMap Try.prog 63 (plainElem Try.prog 3) w.heap.size n D ∧ Sees D b) ∧ Below w.heap.size w w') rfl (by kernel_rfl) (by kernel_rfl) (by kernel_rfl) ?_ ?_ ?_
  · exact ⟨by simp only [putSel, Bool.false_eq_true, if_false], fun _ => rfl, (by intro h; cases h), bel_drew (Below.refl _ _)⟩
  · skip
    refine steps_cons ?_ ?_
    · rintro b a w' ⟨ha, h0, h1, hb⟩ hb_ hon hoff
      refine ⟨_, rfl, fun K hK => ?_⟩
      have hcnt := up_count (O := [0, 1, 2, 3, 4, 5, 6, 7, 8, 9, 10, 11, 12, 13, 14, 15, 16, 17, 18, 19, 20, 21, 22, 23, 24]) (by decide) (by decide : 0 ∈ _) hb_
      obtain rfl := h0 hb_
      replace ha := Lib.hid ha
      refine value_ (w1 := w.drew.alloc (.map #[] 0)) (v := .map (some w.heap.size)) (by rfl) rfl ?_ ?_
      · rfl
      refine hK.out _ _ ⟨(by rw [ha.out]; exact putSel_upk 0 hb_ rfl rfl rfl), (fun h => absurd ((up_self b 0).symm.trans h) (by decide)), (fun _ => ⟨_, 0, ?_, World.ownsMap_made _ _ _ _, ?_⟩), bel_alloc hb _⟩
      · have hl := List.length_filter_le (fun j => !up b 0 j) [0, 1, 2, 3, 4, 5, 6, 7, 8, 9, 10, 11, 12, 13, 14, 15, 16, 17, 18, 19, 20, 21, 22, 23, 24]
        simp only [List.length_cons, List.length_nil] at hl
        omega
      · exact sees_none _ (by intro x y; simp [seen, tab, up, hoff 2 (by kernel_rfl), hoff 4 (by kernel_rfl), hoff 6 (by kernel_rfl), hoff 8 (by kernel_rfl), hoff 10 (by kernel_rfl), hoff 12 (by kernel_rfl), hoff 14 (by kernel_rfl), hoff 16 (by kernel_rfl), hoff 18 (by kernel_rfl), hoff 20 (by kernel_rfl), hoff 22 (by kernel_rfl)])
    refine steps_cons ?_ ?_
    · rintro b a w' ⟨ha, h0, h1, hb⟩ hb_ hon hoff
      refine ⟨_, rfl, fun K hK => ?_⟩
      have hcnt := up_count (O := [0, 1, 2, 3, 4, 5, 6, 7, 8, 9, 10, 11, 12, 13, 14, 15, 16, 17, 18, 19, 20, 21, 22, 23, 24]) (by decide) (by decide : 1 ∈ _) hb_
      replace ha := Lib.hid ha
      refine value_ (w1 := w') (v := .agg #[.int .i64 1, .int .i64 1]) (by rfl) rfl ?_ ?_
      · go_simp
        try rfl
      refine hK.out _ _ ⟨(by rw [ha.out]; exact putSel_upk 1 hb_ rfl rfl rfl), (fun h => h0 (by simpa [up] using h)), (fun h => ?_), hb⟩
      obtain ⟨D, n, hn, hD, hS⟩ := h1 (by simpa [up] using h)
      exact ⟨D, n, by omega, hD, hS.same (by intro x y; simp [seen, tab, up])⟩
    refine steps_cons ?_ ?_
    · rintro b a w' ⟨ha, h0, h1, hb⟩ hb_ hon hoff
      refine ⟨_, rfl, fun K hK => ?_⟩
      have hcnt := up_count (O := [0, 1, 2, 3, 4, 5, 6, 7, 8, 9, 10, 11, 12, 13, 14, 15, 16, 17, 18, 19, 20, 21, 22, 23, 24]) (by decide) (by decide : 2 ∈ _) hb_
      have e1 : a.tmps[1]? = some (.map (some w.heap.size)) := by rw [ha]; exact putSel_on (e := (0, 1, .map (some w.heap.size))) 0 rfl rfl (hon 0 (by kernel_rfl)) rfl
      have e2 : a.tmps[2]? = some (.agg #[.int .i64 1, .int .i64 1]) := by rw [ha]; exact putSel_on (e := (1, 2, .agg #[.int .i64 1, .int .i64 1])) 1 rfl rfl (hon 1 (by kernel_rfl)) rfl
      replace ha := Lib.hid ha
      obtain ⟨D, n, hn, hD, hS⟩ := h1 (hon 0 (by kernel_rfl))
      obtain ⟨w2, hrun, hD2, hg⟩ := hD.update law underlying61 (show n < maxLen by unfold maxLen; omega) (key (x := 1) (y := 1) (by decide) (by decide)) (plainElem_int underlying3 (a := 2) (by decide))
      rw [if_pos (by rfl)]
      unfold Oper.wp
      simp [execOp, Act.eval, e1, e2, hrun, Result.andThen, -List.getElem?_toArray]
      refine hK.out _ _ ⟨(by rw [ha.out]; exact putSel_none (v := undef) rfl), (fun h => absurd ((hon 0 (by kernel_rfl)).symm.trans (by simpa [up] using h)) (by decide)), (fun h => ?_), hb.grown hg hb.size (fun k hk => by cases hk; exact Nat.le_refl _)⟩
      exact ⟨_, n + 1, by omega, hD2, hS.put (i := 2) (x := 1) (y := 1) (v := 2) (by decide) (by decide) (by decide)⟩
    refine steps_cons ?_ ?_
    · rintro b a w' ⟨ha, h0, h1, hb⟩ hb_ hon hoff
      refine ⟨_, rfl, fun K hK => ?_⟩
      have hcnt := up_count (O := [0, 1, 2, 3, 4, 5, 6, 7, 8, 9, 10, 11, 12, 13, 14, 15, 16, 17, 18, 19, 20, 21, 22, 23, 24]) (by decide) (by decide : 3 ∈ _) hb_
      replace ha := Lib.hid ha
      refine value_ (w1 := w') (v := .agg #[.int .i64 1, .int .i64 3]) (by rfl) rfl ?_ ?_
      · go_simp
        try rfl
      refine hK.out _ _ ⟨(by rw [ha.out]; exact putSel_upk 2 hb_ rfl rfl rfl), (fun h => h0 (by simpa [up] using h)), (fun h => ?_), hb⟩
      obtain ⟨D, n, hn, hD, hS⟩ := h1 (by simpa [up] using h)
      exact ⟨D, n, by omega, hD, hS.same (by intro x y; simp [seen, tab, up])⟩
    refine steps_cons ?_ ?_
    · rintro b a w' ⟨ha, h0, h1, hb⟩ hb_ hon hoff
      refine ⟨_, rfl, fun K hK => ?_⟩
      have hcnt := up_count (O := [0, 1, 2, 3, 4, 5, 6, 7, 8, 9, 10, 11, 12, 13, 14, 15, 16, 17, 18, 19, 20, 21, 22, 23, 24]) (by decide) (by decide : 4 ∈ _) hb_
      have e1 : a.tmps[1]? = some (.map (some w.heap.size)) := by rw [ha]; exact putSel_on (e := (0, 1, .map (some w.heap.size))) 0 rfl rfl (hon 0 (by kernel_rfl)) rfl
      have e3 : a.tmps[3]? = some (.agg #[.int .i64 1, .int .i64 3]) := by rw [ha]; exact putSel_on (e := (3, 3, .agg #[.int .i64 1, .int .i64 3])) 2 rfl rfl (hon 3 (by kernel_rfl)) rfl
      replace ha := Lib.hid ha
      obtain ⟨D, n, hn, hD, hS⟩ := h1 (hon 0 (by kernel_rfl))
      obtain ⟨w2, hrun, hD2, hg⟩ := hD.update law underlying61 (show n < maxLen by unfold maxLen; omega) (key (x := 1) (y := 3) (by decide) (by decide)) (plainElem_int underlying3 (a := 2) (by decide))
      rw [if_pos (by rfl)]
      unfold Oper.wp
      simp [execOp, Act.eval, e1, e3, hrun, Result.andThen, -List.getElem?_toArray]
      refine hK.out _ _ ⟨(by rw [ha.out]; exact putSel_none (v := undef) rfl), (fun h => absurd ((hon 0 (by kernel_rfl)).symm.trans (by simpa [up] using h)) (by decide)), (fun h => ?_), hb.grown hg hb.size (fun k hk => by cases hk; exact Nat.le_refl _)⟩
      exact ⟨_, n + 1, by omega, hD2, hS.put (i := 4) (x := 1) (y := 3) (v := 2) (by decide) (by decide) (by decide)⟩
    refine steps_cons ?_ ?_
    · rintro b a w' ⟨ha, h0, h1, hb⟩ hb_ hon hoff
      refine ⟨_, rfl, fun K hK => ?_⟩
      have hcnt := up_count (O := [0, 1, 2, 3, 4, 5, 6, 7, 8, 9, 10, 11, 12, 13, 14, 15, 16, 17, 18, 19, 20, 21, 22, 23, 24]) (by decide) (by decide : 5 ∈ _) hb_
      replace ha := Lib.hid ha
      refine value_ (w1 := w') (v := .agg #[.int .i64 2, .int .i64 2]) (by rfl) rfl ?_ ?_
      · go_simp
        try rfl
      refine hK.out _ _ ⟨(by rw [ha.out]; exact putSel_upk 3 hb_ rfl rfl rfl), (fun h => h0 (by simpa [up] using h)), (fun h => ?_), hb⟩
      obtain ⟨D, n, hn, hD, hS⟩ := h1 (by simpa [up] using h)
      exact ⟨D, n, by omega, hD, hS.same (by intro x y; simp [seen, tab, up])⟩
    refine steps_cons ?_ ?_
    · rintro b a w' ⟨ha, h0, h1, hb⟩ hb_ hon hoff
      refine ⟨_, rfl, fun K hK => ?_⟩
      have hcnt := up_count (O := [0, 1, 2, 3, 4, 5, 6, 7, 8, 9, 10, 11, 12, 13, 14, 15, 16, 17, 18, 19, 20, 21, 22, 23, 24]) (by decide) (by decide : 6 ∈ _) hb_
      have e1 : a.tmps[1]? = some (.map (some w.heap.size)) := by rw [ha]; exact putSel_on (e := (0, 1, .map (some w.heap.size))) 0 rfl rfl (hon 0 (by kernel_rfl)) rfl
      have e4 : a.tmps[4]? = some (.agg #[.int .i64 2, .int .i64 2]) := by rw [ha]; exact putSel_on (e := (5, 4, .agg #[.int .i64 2, .int .i64 2])) 3 rfl rfl (hon 5 (by kernel_rfl)) rfl
      replace ha := Lib.hid ha
      obtain ⟨D, n, hn, hD, hS⟩ := h1 (hon 0 (by kernel_rfl))
      obtain ⟨w2, hrun, hD2, hg⟩ := hD.update law underlying61 (show n < maxLen by unfold maxLen; omega) (key (x := 2) (y := 2) (by decide) (by decide)) (plainElem_int underlying3 (a := 3) (by decide))
      rw [if_pos (by rfl)]
      unfold Oper.wp
      simp [execOp, Act.eval, e1, e4, hrun, Result.andThen, -List.getElem?_toArray]
      refine hK.out _ _ ⟨(by rw [ha.out]; exact putSel_none (v := undef) rfl), (fun h => absurd ((hon 0 (by kernel_rfl)).symm.trans (by simpa [up] using h)) (by decide)), (fun h => ?_), hb.grown hg hb.size (fun k hk => by cases hk; exact Nat.le_refl _)⟩
      exact ⟨_, n + 1, by omega, hD2, hS.put (i := 6) (x := 2) (y := 2) (v := 3) (by decide) (by decide) (by decide)⟩
    refine steps_cons ?_ ?_
    · rintro b a w' ⟨ha, h0, h1, hb⟩ hb_ hon hoff
      refine ⟨_, rfl, fun K hK => ?_⟩
      have hcnt := up_count (O := [0, 1, 2, 3, 4, 5, 6, 7, 8, 9, 10, 11, 12, 13, 14, 15, 16, 17, 18, 19, 20, 21, 22, 23, 24]) (by decide) (by decide : 7 ∈ _) hb_
      replace ha := Lib.hid ha
      refine value_ (w1 := w') (v := .agg #[.int .i64 2, .int .i64 4]) (by rfl) rfl ?_ ?_
      · go_simp
        try rfl
      refine hK.out _ _ ⟨(by rw [ha.out]; exact putSel_upk 4 hb_ rfl rfl rfl), (fun h => h0 (by simpa [up] using h)), (fun h => ?_), hb⟩
      obtain ⟨D, n, hn, hD, hS⟩ := h1 (by simpa [up] using h)
      exact ⟨D, n, by omega, hD, hS.same (by intro x y; simp [seen, tab, up])⟩
    refine steps_cons ?_ ?_
    · rintro b a w' ⟨ha, h0, h1, hb⟩ hb_ hon hoff
      refine ⟨_, rfl, fun K hK => ?_⟩
      have hcnt := up_count (O := [0, 1, 2, 3, 4, 5, 6, 7, 8, 9, 10, 11, 12, 13, 14, 15, 16, 17, 18, 19, 20, 21, 22, 23, 24]) (by decide) (by decide : 8 ∈ _) hb_
      have e1 : a.tmps[1]? = some (.map (some w.heap.size)) := by rw [ha]; exact putSel_on (e := (0, 1, .map (some w.heap.size))) 0 rfl rfl (hon 0 (by kernel_rfl)) rfl
      have e5 : a.tmps[5]? = some (.agg #[.int .i64 2, .int .i64 4]) := by rw [ha]; exact putSel_on (e := (7, 5, .agg #[.int .i64 2, .int .i64 4])) 4 rfl rfl (hon 7 (by kernel_rfl)) rfl
      replace ha := Lib.hid ha
      obtain ⟨D, n, hn, hD, hS⟩ := h1 (hon 0 (by kernel_rfl))
      obtain ⟨w2, hrun, hD2, hg⟩ := hD.update law underlying61 (show n < maxLen by unfold maxLen; omega) (key (x := 2) (y := 4) (by decide) (by decide)) (plainElem_int underlying3 (a := 1) (by decide))
      rw [if_pos (by rfl)]
      unfold Oper.wp
      simp [execOp, Act.eval, e1, e5, hrun, Result.andThen, -List.getElem?_toArray]
      refine hK.out _ _ ⟨(by rw [ha.out]; exact putSel_none (v := undef) rfl), (fun h => absurd ((hon 0 (by kernel_rfl)).symm.trans (by simpa [up] using h)) (by decide)), (fun h => ?_), hb.grown hg hb.size (fun k hk => by cases hk; exact Nat.le_refl _)⟩
      exact ⟨_, n + 1, by omega, hD2, hS.put (i := 8) (x := 2) (y := 4) (v := 1) (by decide) (by decide) (by decide)⟩
    refine steps_cons ?_ ?_
    · rintro b a w' ⟨ha, h0, h1, hb⟩ hb_ hon hoff
      refine ⟨_, rfl, fun K hK => ?_⟩
      have hcnt := up_count (O := [0, 1, 2, 3, 4, 5, 6, 7, 8, 9, 10, 11, 12, 13, 14, 15, 16, 17, 18, 19, 20, 21, 22, 23, 24]) (by decide) (by decide : 9 ∈ _) hb_
      replace ha := Lib.hid ha
      refine value_ (w1 := w') (v := .agg #[.int .i64 2, .int .i64 7]) (by rfl) rfl ?_ ?_
      · go_simp
        try rfl
      refine hK.out _ _ ⟨(by rw [ha.out]; exact putSel_upk 5 hb_ rfl rfl rfl), (fun h => h0 (by simpa [up] using h)), (fun h => ?_), hb⟩
      obtain ⟨D, n, hn, hD, hS⟩ := h1 (by simpa [up] using h)
      exact ⟨D, n, by omega, hD, hS.same (by intro x y; simp [seen, tab, up])⟩
    refine steps_cons ?_ ?_
    · rintro b a w' ⟨ha, h0, h1, hb⟩ hb_ hon hoff
      refine ⟨_, rfl, fun K hK => ?_⟩
      have hcnt := up_count (O := [0, 1, 2, 3, 4, 5, 6, 7, 8, 9, 10, 11, 12, 13, 14, 15, 16, 17, 18, 19, 20, 21, 22, 23, 24]) (by decide) (by decide : 10 ∈ _) hb_
      have e1 : a.tmps[1]? = some (.map (some w.heap.size)) := by rw [ha]; exact putSel_on (e := (0, 1, .map (some w.heap.size))) 0 rfl rfl (hon 0 (by kernel_rfl)) rfl
      have e6 : a.tmps[6]? = some (.agg #[.int .i64 2, .int .i64 7]) := by rw [ha]; exact putSel_on (e := (9, 6, .agg #[.int .i64 2, .int .i64 7])) 5 rfl rfl (hon 9 (by kernel_rfl)) rfl
      replace ha := Lib.hid ha
      obtain ⟨D, n, hn, hD, hS⟩ := h1 (hon 0 (by kernel_rfl))
      obtain ⟨w2, hrun, hD2, hg⟩ := hD.update law underlying61 (show n < maxLen by unfold maxLen; omega) (key (x := 2) (y := 7) (by decide) (by decide)) (plainElem_int underlying3 (a := 1) (by decide))
      rw [if_pos (by rfl)]
      unfold Oper.wp
      simp [execOp, Act.eval, e1, e6, hrun, Result.andThen, -List.getElem?_toArray]
      refine hK.out _ _ ⟨(by rw [ha.out]; exact putSel_none (v := undef) rfl), (fun h => absurd ((hon 0 (by kernel_rfl)).symm.trans (by simpa [up] using h)) (by decide)), (fun h => ?_), hb.grown hg hb.size (fun k hk => by cases hk; exact Nat.le_refl _)⟩
      exact ⟨_, n + 1, by omega, hD2, hS.put (i := 10) (x := 2) (y := 7) (v := 1) (by decide) (by decide) (by decide)⟩
    refine steps_cons ?_ ?_
    · rintro b a w' ⟨ha, h0, h1, hb⟩ hb_ hon hoff
      refine ⟨_, rfl, fun K hK => ?_⟩
      have hcnt := up_count (O := [0, 1, 2, 3, 4, 5, 6, 7, 8, 9, 10, 11, 12, 13, 14, 15, 16, 17, 18, 19, 20, 21, 22, 23, 24]) (by decide) (by decide : 11 ∈ _) hb_
      replace ha := Lib.hid ha
      refine value_ (w1 := w') (v := .agg #[.int .i64 2, .int .i64 6]) (by rfl) rfl ?_ ?_
      · go_simp
        try rfl
      refine hK.out _ _ ⟨(by rw [ha.out]; exact putSel_upk 6 hb_ rfl rfl rfl), (fun h => h0 (by simpa [up] using h)), (fun h => ?_), hb⟩
      obtain ⟨D, n, hn, hD, hS⟩ := h1 (by simpa [up] using h)
      exact ⟨D, n, by omega, hD, hS.same (by intro x y; simp [seen, tab, up])⟩
    refine steps_cons ?_ ?_
    · rintro b a w' ⟨ha, h0, h1, hb⟩ hb_ hon hoff
      refine ⟨_, rfl, fun K hK => ?_⟩
      have hcnt := up_count (O := [0, 1, 2, 3, 4, 5, 6, 7, 8, 9, 10, 11, 12, 13, 14, 15, 16, 17, 18, 19, 20, 21, 22, 23, 24]) (by decide) (by decide : 12 ∈ _) hb_
      have e1 : a.tmps[1]? = some (.map (some w.heap.size)) := by rw [ha]; exact putSel_on (e := (0, 1, .map (some w.heap.size))) 0 rfl rfl (hon 0 (by kernel_rfl)) rfl
      have e7 : a.tmps[7]? = some (.agg #[.int .i64 2, .int .i64 6]) := by rw [ha]; exact putSel_on (e := (11, 7, .agg #[.int .i64 2, .int .i64 6])) 6 rfl rfl (hon 11 (by kernel_rfl)) rfl
      replace ha := Lib.hid ha
      obtain ⟨D, n, hn, hD, hS⟩ := h1 (hon 0 (by kernel_rfl))
      obtain ⟨w2, hrun, hD2, hg⟩ := hD.update law underlying61 (show n < maxLen by unfold maxLen; omega) (key (x := 2) (y := 6) (by decide) (by decide)) (plainElem_int underlying3 (a := 5) (by decide))
      rw [if_pos (by rfl)]
      unfold Oper.wp
      simp [execOp, Act.eval, e1, e7, hrun, Result.andThen, -List.getElem?_toArray]
      refine hK.out _ _ ⟨(by rw [ha.out]; exact putSel_none (v := undef) rfl), (fun h => absurd ((hon 0 (by kernel_rfl)).symm.trans (by simpa [up] using h)) (by decide)), (fun h => ?_), hb.grown hg hb.size (fun k hk => by cases hk; exact Nat.le_refl _)⟩
      exact ⟨_, n + 1, by omega, hD2, hS.put (i := 12) (x := 2) (y := 6) (v := 5) (by decide) (by decide) (by decide)⟩
    refine steps_cons ?_ ?_
    · rintro b a w' ⟨ha, h0, h1, hb⟩ hb_ hon hoff
      refine ⟨_, rfl, fun K hK => ?_⟩
      have hcnt := up_count (O := [0, 1, 2, 3, 4, 5, 6, 7, 8, 9, 10, 11, 12, 13, 14, 15, 16, 17, 18, 19, 20, 21, 22, 23, 24]) (by decide) (by decide : 13 ∈ _) hb_
      replace ha := Lib.hid ha
      refine value_ (w1 := w') (v := .agg #[.int .i64 2, .int .i64 8]) (by rfl) rfl ?_ ?_
      · go_simp
        try rfl
      refine hK.out _ _ ⟨(by rw [ha.out]; exact putSel_upk 7 hb_ rfl rfl rfl), (fun h => h0 (by simpa [up] using h)), (fun h => ?_), hb⟩
      obtain ⟨D, n, hn, hD, hS⟩ := h1 (by simpa [up] using h)
      exact ⟨D, n, by omega, hD, hS.same (by intro x y; simp [seen, tab, up])⟩
    refine steps_cons ?_ ?_
    · rintro b a w' ⟨ha, h0, h1, hb⟩ hb_ hon hoff
      refine ⟨_, rfl, fun K hK => ?_⟩
      have hcnt := up_count (O := [0, 1, 2, 3, 4, 5, 6, 7, 8, 9, 10, 11, 12, 13, 14, 15, 16, 17, 18, 19, 20, 21, 22, 23, 24]) (by decide) (by decide : 14 ∈ _) hb_
      have e1 : a.tmps[1]? = some (.map (some w.heap.size)) := by rw [ha]; exact putSel_on (e := (0, 1, .map (some w.heap.size))) 0 rfl rfl (hon 0 (by kernel_rfl)) rfl
      have e8 : a.tmps[8]? = some (.agg #[.int .i64 2, .int .i64 8]) := by rw [ha]; exact putSel_on (e := (13, 8, .agg #[.int .i64 2, .int .i64 8])) 7 rfl rfl (hon 13 (by kernel_rfl)) rfl
      replace ha := Lib.hid ha
      obtain ⟨D, n, hn, hD, hS⟩ := h1 (hon 0 (by kernel_rfl))
      obtain ⟨w2, hrun, hD2, hg⟩ := hD.update law underlying61 (show n < maxLen by unfold maxLen; omega) (key (x := 2) (y := 8) (by decide) (by decide)) (plainElem_int underlying3 (a := 4) (by decide))
      rw [if_pos (by rfl)]
      unfold Oper.wp
      simp [execOp, Act.eval, e1, e8, hrun, Result.andThen, -List.getElem?_toArray]
      refine hK.out _ _ ⟨(by rw [ha.out]; exact putSel_none (v := undef) rfl), (fun h => absurd ((hon 0 (by kernel_rfl)).symm.trans (by simpa [up] using h)) (by decide)), (fun h => ?_), hb.grown hg hb.size (fun k hk => by cases hk; exact Nat.le_refl _)⟩
      exact ⟨_, n + 1, by omega, hD2, hS.put (i := 14) (x := 2) (y := 8) (v := 4) (by decide) (by decide) (by decide)⟩
    refine steps_cons ?_ ?_
    · rintro b a w' ⟨ha, h0, h1, hb⟩ hb_ hon hoff
      refine ⟨_, rfl, fun K hK => ?_⟩
      have hcnt := up_count (O := [0, 1, 2, 3, 4, 5, 6, 7, 8, 9, 10, 11, 12, 13, 14, 15, 16, 17, 18, 19, 20, 21, 22, 23, 24]) (by decide) (by decide : 15 ∈ _) hb_
      replace ha := Lib.hid ha
      refine value_ (w1 := w') (v := .agg #[.int .i64 3, .int .i64 5]) (by rfl) rfl ?_ ?_
      · go_simp
        try rfl
      refine hK.out _ _ ⟨(by rw [ha.out]; exact putSel_upk 8 hb_ rfl rfl rfl), (fun h => h0 (by simpa [up] using h)), (fun h => ?_), hb⟩
      obtain ⟨D, n, hn, hD, hS⟩ := h1 (by simpa [up] using h)
      exact ⟨D, n, by omega, hD, hS.same (by intro x y; simp [seen, tab, up])⟩
    refine steps_cons ?_ ?_
    · rintro b a w' ⟨ha, h0, h1, hb⟩ hb_ hon hoff
      refine ⟨_, rfl, fun K hK => ?_⟩
      have hcnt := up_count (O := [0, 1, 2, 3, 4, 5, 6, 7, 8, 9, 10, 11, 12, 13, 14, 15, 16, 17, 18, 19, 20, 21, 22, 23, 24]) (by decide) (by decide : 16 ∈ _) hb_
      have e1 : a.tmps[1]? = some (.map (some w.heap.size)) := by rw [ha]; exact putSel_on (e := (0, 1, .map (some w.heap.size))) 0 rfl rfl (hon 0 (by kernel_rfl)) rfl
      have e9 : a.tmps[9]? = some (.agg #[.int .i64 3, .int .i64 5]) := by rw [ha]; exact putSel_on (e := (15, 9, .agg #[.int .i64 3, .int .i64 5])) 8 rfl rfl (hon 15 (by kernel_rfl)) rfl
      replace ha := Lib.hid ha
      obtain ⟨D, n, hn, hD, hS⟩ := h1 (hon 0 (by kernel_rfl))
      obtain ⟨w2, hrun, hD2, hg⟩ := hD.update law underlying61 (show n < maxLen by unfold maxLen; omega) (key (x := 3) (y := 5) (by decide) (by decide)) (plainElem_int underlying3 (a := 2) (by decide))
      rw [if_pos (by rfl)]
      unfold Oper.wp
      simp [execOp, Act.eval, e1, e9, hrun, Result.andThen, -List.getElem?_toArray]
      refine hK.out _ _ ⟨(by rw [ha.out]; exact putSel_none (v := undef) rfl), (fun h => absurd ((hon 0 (by kernel_rfl)).symm.trans (by simpa [up] using h)) (by decide)), (fun h => ?_), hb.grown hg hb.size (fun k hk => by cases hk; exact Nat.le_refl _)⟩
      exact ⟨_, n + 1, by omega, hD2, hS.put (i := 16) (x := 3) (y := 5) (v := 2) (by decide) (by decide) (by decide)⟩
    refine steps_cons ?_ ?_
    · rintro b a w' ⟨ha, h0, h1, hb⟩ hb_ hon hoff
      refine ⟨_, rfl, fun K hK => ?_⟩
      have hcnt := up_count (O := [0, 1, 2, 3, 4, 5, 6, 7, 8, 9, 10, 11, 12, 13, 14, 15, 16, 17, 18, 19, 20, 21, 22, 23, 24]) (by decide) (by decide : 17 ∈ _) hb_
      replace ha := Lib.hid ha
      refine value_ (w1 := w') (v := .agg #[.int .i64 3, .int .i64 8]) (by rfl) rfl ?_ ?_
      · go_simp
        try rfl
      refine hK.out _ _ ⟨(by rw [ha.out]; exact putSel_upk 9 hb_ rfl rfl rfl), (fun h => h0 (by simpa [up] using h)), (fun h => ?_), hb⟩
      obtain ⟨D, n, hn, hD, hS⟩ := h1 (by simpa [up] using h)
      exact ⟨D, n, by omega, hD, hS.same (by intro x y; simp [seen, tab, up])⟩
    refine steps_cons ?_ ?_
    · rintro b a w' ⟨ha, h0, h1, hb⟩ hb_ hon hoff
      refine ⟨_, rfl, fun K hK => ?_⟩
      have hcnt := up_count (O := [0, 1, 2, 3, 4, 5, 6, 7, 8, 9, 10, 11, 12, 13, 14, 15, 16, 17, 18, 19, 20, 21, 22, 23, 24]) (by decide) (by decide : 18 ∈ _) hb_
      have e1 : a.tmps[1]? = some (.map (some w.heap.size)) := by rw [ha]; exact putSel_on (e := (0, 1, .map (some w.heap.size))) 0 rfl rfl (hon 0 (by kernel_rfl)) rfl
      have e10 : a.tmps[10]? = some (.agg #[.int .i64 3, .int .i64 8]) := by rw [ha]; exact putSel_on (e := (17, 10, .agg #[.int .i64 3, .int .i64 8])) 9 rfl rfl (hon 17 (by kernel_rfl)) rfl
      replace ha := Lib.hid ha
      obtain ⟨D, n, hn, hD, hS⟩ := h1 (hon 0 (by kernel_rfl))
      obtain ⟨w2, hrun, hD2, hg⟩ := hD.update law underlying61 (show n < maxLen by unfold maxLen; omega) (key (x := 3) (y := 8) (by decide) (by decide)) (plainElem_int underlying3 (a := 3) (by decide))
      rw [if_pos (by rfl)]
      unfold Oper.wp
      simp [execOp, Act.eval, e1, e10, hrun, Result.andThen, -List.getElem?_toArray]
      refine hK.out _ _ ⟨(by rw [ha.out]; exact putSel_none (v := undef) rfl), (fun h => absurd ((hon 0 (by kernel_rfl)).symm.trans (by simpa [up] using h)) (by decide)), (fun h => ?_), hb.grown hg hb.size (fun k hk => by cases hk; exact Nat.le_refl _)⟩
      exact ⟨_, n + 1, by omega, hD2, hS.put (i := 18) (x := 3) (y := 8) (v := 3) (by decide) (by decide) (by decide)⟩
    refine steps_cons ?_ ?_
    · rintro b a w' ⟨ha, h0, h1, hb⟩ hb_ hon hoff
      refine ⟨_, rfl, fun K hK => ?_⟩
      have hcnt := up_count (O := [0, 1, 2, 3, 4, 5, 6, 7, 8, 9, 10, 11, 12, 13, 14, 15, 16, 17, 18, 19, 20, 21, 22, 23, 24]) (by decide) (by decide : 19 ∈ _) hb_
      replace ha := Lib.hid ha
      refine value_ (w1 := w') (v := .agg #[.int .i64 4, .int .i64 1]) (by rfl) rfl ?_ ?_
      · go_simp
        try rfl
      refine hK.out _ _ ⟨(by rw [ha.out]; exact putSel_upk 10 hb_ rfl rfl rfl), (fun h => h0 (by simpa [up] using h)), (fun h => ?_), hb⟩
      obtain ⟨D, n, hn, hD, hS⟩ := h1 (by simpa [up] using h)
      exact ⟨D, n, by omega, hD, hS.same (by intro x y; simp [seen, tab, up])⟩
    refine steps_cons ?_ ?_
    · rintro b a w' ⟨ha, h0, h1, hb⟩ hb_ hon hoff
      refine ⟨_, rfl, fun K hK => ?_⟩
      have hcnt := up_count (O := [0, 1, 2, 3, 4, 5, 6, 7, 8, 9, 10, 11, 12, 13, 14, 15, 16, 17, 18, 19, 20, 21, 22, 23, 24]) (by decide) (by decide : 20 ∈ _) hb_
      have e1 : a.tmps[1]? = some (.map (some w.heap.size)) := by rw [ha]; exact putSel_on (e := (0, 1, .map (some w.heap.size))) 0 rfl rfl (hon 0 (by kernel_rfl)) rfl
      have e11 : a.tmps[11]? = some (.agg #[.int .i64 4, .int .i64 1]) := by rw [ha]; exact putSel_on (e := (19, 11, .agg #[.int .i64 4, .int .i64 1])) 10 rfl rfl (hon 19 (by kernel_rfl)) rfl
      replace ha := Lib.hid ha
      obtain ⟨D, n, hn, hD, hS⟩ := h1 (hon 0 (by kernel_rfl))
      obtain ⟨w2, hrun, hD2, hg⟩ := hD.update law underlying61 (show n < maxLen by unfold maxLen; omega) (key (x := 4) (y := 1) (by decide) (by decide)) (plainElem_int underlying3 (a := 2) (by decide))
      rw [if_pos (by rfl)]
      unfold Oper.wp
      simp [execOp, Act.eval, e1, e11, hrun, Result.andThen, -List.getElem?_toArray]
      refine hK.out _ _ ⟨(by rw [ha.out]; exact putSel_none (v := undef) rfl), (fun h => absurd ((hon 0 (by kernel_rfl)).symm.trans (by simpa [up] using h)) (by decide)), (fun h => ?_), hb.grown hg hb.size (fun k hk => by cases hk; exact Nat.le_refl _)⟩
      exact ⟨_, n + 1, by omega, hD2, hS.put (i := 20) (x := 4) (y := 1) (v := 2) (by decide) (by decide) (by decide)⟩
    refine steps_cons ?_ ?_
    · rintro b a w' ⟨ha, h0, h1, hb⟩ hb_ hon hoff
      refine ⟨_, rfl, fun K hK => ?_⟩
      have hcnt := up_count (O := [0, 1, 2, 3, 4, 5, 6, 7, 8, 9, 10, 11, 12, 13, 14, 15, 16, 17, 18, 19, 20, 21, 22, 23, 24]) (by decide) (by decide : 21 ∈ _) hb_
      replace ha := Lib.hid ha
      refine value_ (w1 := w') (v := .agg #[.int .i64 5, .int .i64 1]) (by rfl) rfl ?_ ?_
      · go_simp
        try rfl
      refine hK.out _ _ ⟨(by rw [ha.out]; exact putSel_upk 11 hb_ rfl rfl rfl), (fun h => h0 (by simpa [up] using h)), (fun h => ?_), hb⟩
      obtain ⟨D, n, hn, hD, hS⟩ := h1 (by simpa [up] using h)
      exact ⟨D, n, by omega, hD, hS.same (by intro x y; simp [seen, tab, up])⟩
    refine steps_cons ?_ ?_
    · rintro b a w' ⟨ha, h0, h1, hb⟩ hb_ hon hoff
      refine ⟨_, rfl, fun K hK => ?_⟩
      have hcnt := up_count (O := [0, 1, 2, 3, 4, 5, 6, 7, 8, 9, 10, 11, 12, 13, 14, 15, 16, 17, 18, 19, 20, 21, 22, 23, 24]) (by decide) (by decide : 22 ∈ _) hb_
      have e1 : a.tmps[1]? = some (.map (some w.heap.size)) := by rw [ha]; exact putSel_on (e := (0, 1, .map (some w.heap.size))) 0 rfl rfl (hon 0 (by kernel_rfl)) rfl
      have e12 : a.tmps[12]? = some (.agg #[.int .i64 5, .int .i64 1]) := by rw [ha]; exact putSel_on (e := (21, 12, .agg #[.int .i64 5, .int .i64 1])) 11 rfl rfl (hon 21 (by kernel_rfl)) rfl
      replace ha := Lib.hid ha
      obtain ⟨D, n, hn, hD, hS⟩ := h1 (hon 0 (by kernel_rfl))
      obtain ⟨w2, hrun, hD2, hg⟩ := hD.update law underlying61 (show n < maxLen by unfold maxLen; omega) (key (x := 5) (y := 1) (by decide) (by decide)) (plainElem_int underlying3 (a := 2) (by decide))
      rw [if_pos (by rfl)]
      unfold Oper.wp
      simp [execOp, Act.eval, e1, e12, hrun, Result.andThen, -List.getElem?_toArray]
      refine hK.out _ _ ⟨(by rw [ha.out]; exact putSel_none (v := undef) rfl), (fun h => absurd ((hon 0 (by kernel_rfl)).symm.trans (by simpa [up] using h)) (by decide)), (fun h => ?_), hb.grown hg hb.size (fun k hk => by cases hk; exact Nat.le_refl _)⟩
      exact ⟨_, n + 1, by omega, hD2, hS.put (i := 22) (x := 5) (y := 1) (v := 2) (by decide) (by decide) (by decide)⟩
    refine steps_cons ?_ ?_
    · rintro b a w' ⟨ha, h0, h1, hb⟩ hb_ hon hoff
      refine ⟨_, rfl, fun K hK => ?_⟩
      have hcnt := up_count (O := [0, 1, 2, 3, 4, 5, 6, 7, 8, 9, 10, 11, 12, 13, 14, 15, 16, 17, 18, 19, 20, 21, 22, 23, 24]) (by decide) (by decide : 23 ∈ _) hb_
      have e1 : a.tmps[1]? = some (.map (some w.heap.size)) := by rw [ha]; exact putSel_on (e := (0, 1, .map (some w.heap.size))) 0 rfl rfl (hon 0 (by kernel_rfl)) rfl
      replace ha := Lib.hid ha
      refine value_ (w1 := w') (v := .map (some w.heap.size)) (by rfl) rfl ?_ ?_
      · simp [execOp, Act.eval, e1]
      refine hK.out _ _ ⟨(by rw [ha.out]; exact putSel_upk 12 hb_ rfl rfl rfl), (fun h => h0 (by simpa [up] using h)), (fun h => ?_), hb⟩
      obtain ⟨D, n, hn, hD, hS⟩ := h1 (by simpa [up] using h)
      exact ⟨D, n, by omega, hD, hS.same (by intro x y; simp [seen, tab, up])⟩
    refine steps_cons ?_ ?_
    · rintro b a w' ⟨ha, h0, h1, hb⟩ hb_ hon hoff
      refine ⟨_, rfl, fun K hK => ?_⟩
      have hcnt := up_count (O := [0, 1, 2, 3, 4, 5, 6, 7, 8, 9, 10, 11, 12, 13, 14, 15, 16, 17, 18, 19, 20, 21, 22, 23, 24]) (by decide) (by decide : 24 ∈ _) hb_
      have e13 : a.tmps[13]? = some (.map (some w.heap.size)) := by rw [ha]; exact putSel_on (e := (23, 13, .map (some w.heap.size))) 12 rfl rfl (hon 23 (by kernel_rfl)) rfl
      replace ha := Lib.hid ha
      refine value_ (w1 := w') (v := .map (some w.heap.size)) (by rfl) rfl ?_ ?_
      · simp [execOp, Act.eval, e13]
      refine hK.out _ _ ⟨(by rw [ha.out]; exact putSel_upk 13 hb_ rfl rfl rfl), (fun h => h0 (by simpa [up] using h)), (fun h => ?_), hb⟩
      obtain ⟨D, n, hn, hD, hS⟩ := h1 (by simpa [up] using h)
      exact ⟨D, n, by omega, hD, hS.same (by intro x y; simp [seen, tab, up])⟩
    exact steps_nil
  · rintro b a w' hall ⟨ha, h0, h1, hb⟩
    have hb0 := hall 0 (by kernel_rfl)
    have hb1 := hall 1 (by kernel_rfl)
    have hb2 := hall 2 (by kernel_rfl)
    have hb3 := hall 3 (by kernel_rfl)
    have hb4 := hall 4 (by kernel_rfl)
    have hb5 := hall 5 (by kernel_rfl)
    have hb6 := hall 6 (by kernel_rfl)
    have hb7 := hall 7 (by kernel_rfl)
    have hb8 := hall 8 (by kernel_rfl)
    have hb9 := hall 9 (by kernel_rfl)
    have hb10 := hall 10 (by kernel_rfl)
    have hb11 := hall 11 (by kernel_rfl)
    have hb12 := hall 12 (by kernel_rfl)
    have hb13 := hall 13 (by kernel_rfl)
    have hb14 := hall 14 (by kernel_rfl)
    have hb15 := hall 15 (by kernel_rfl)
    have hb16 := hall 16 (by kernel_rfl)
    have hb17 := hall 17 (by kernel_rfl)
    have hb18 := hall 18 (by kernel_rfl)
    have hb19 := hall 19 (by kernel_rfl)
    have hb20 := hall 20 (by kernel_rfl)
    have hb21 := hall 21 (by kernel_rfl)
    have hb22 := hall 22 (by kernel_rfl)
    have hb23 := hall 23 (by kernel_rfl)
    have hb24 := hall 24 (by kernel_rfl)
    subst ha
    obtain ⟨D, n, hn, hD, hS⟩ := h1 hb0
    replace hS : Sees D (fun _ => true) := hS.same (by intro x y; simp [seen, tab, hb2, hb4, hb6, hb8, hb10, hb12, hb14, hb16, hb18, hb20, hb22])
    simp only [putSel, hb0, hb1, hb3, hb5, hb7, hb9, hb11, hb13, hb15, hb17, hb19, hb21, hb23, hb24, if_true, Act.put, List.setIfInBounds_toArray, List.set_cons_zero, List.set_cons_succ]
    clear hall hb0 hb1 hb2 hb3 hb4 hb5 hb6 hb7 hb8 hb9 hb10 hb11 hb12 hb13 hb14 hb15 hb16 hb17 hb18 hb19 hb20 hb21 hb22 hb23 hb24
    go_wp2
    go_ret
    exact ⟨D, n, rfl, hD, hS, hb⟩
theorem sees_all {D : DataW Unit} (h : Sees D (fun _ => true)) {x y : Int} (hx : (Lit.int .i64 x).wf = true) (hy : (Lit.int .i64 y).wf = true) :
    Maps.has D (kl x y) = decide (0 < nx x y) ∧ D.atKey (kl x y) (.lit (.int .i64 0)) = .lit (.int .i64 (nx x y)) := by
  obtain ⟨h1, h2⟩ := h.2 x y hx hy
  have hn : (seen (fun _ => true) x y = true ∧ 0 < nx x y) ∨ (seen (fun _ => true) x y = false ∧ nx x y = 0) := by
    unfold nx seen
    cases hf : tab.find? (fun r => r.2.1 == x && r.2.2.1 == y) with
    | none =>
      refine .inr ⟨?_, rfl⟩
      rw [List.find?_eq_none] at hf
      rw [List.any_eq_false]
      intro r hr
      simpa using hf r hr
    | some r =>
      have hm := List.mem_of_find?_eq_some hf
      have hp := List.find?_some hf
      refine .inl ⟨?_, ?_⟩
      · rw [List.any_eq_true]
        exact ⟨r, hm, by simpa using hp⟩
      · have : ∀ r ∈ tab, 0 < r.2.2.2 := by decide
        exact this r hm
  rcases hn with ⟨h3, h4⟩ | ⟨h3, h4⟩
  · rw [h1, h2, h3]; simp [h4]
  · rw [h1, h2, h3]; simp [h4]

set_option maxHeartbeats 1000000 in
theorem next_any (w : World) (x y : Int) (hx : (Lit.int .i64 x).wf = true) (hy : (Lit.int .i64 y).wf = true) :
    Calls Try.prog 16 #[.int .i64 x, .int .i64 y] w fun e w' => e = .returned (.tuple #[.int .i64 (nx x y), .bool (decide (0 < nx x y))]) ∧ Below w.heap.size w w' := by
  go_enter Try.func16, Try.ntmps16
  go_wp2_with (first
    | (go_at_call 47; refine (steps _).mono ?_; rintro e w1 ⟨D, n, rfl, hD, hS, hb⟩)
    | (at_lookup; refine wpList_lookup_own_ok_int _ rfl _ _ 61 rfl 63 3 .i64 law underlying61 underlying3 (zeroE _) w.heap.size n D rfl hD _ (kl x y) rfl (key hx hy) ?_; intro c hat hwc; rw [(sees_all hS hx hy).1]; rw [(sees_all hS hx hy).2] at hat; injection hat with hat; injection hat with _ hat; subst hat)
    | fail)
  go_ret2
  exact ⟨rfl, hb⟩
end Go.Proofs.Ytoimmobljpegmaa.Phase
