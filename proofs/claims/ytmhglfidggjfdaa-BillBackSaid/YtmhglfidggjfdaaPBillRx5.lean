/- What the functions come to, printed by stub.py out of the translation; contracts of this session's own stand for what the print does not take. -/
import Derived.Test.YtmhglfidggjfdaaPBillRx0
import Derived.Test.YtmhglfidggjfdaaPBillRx4
namespace Go.Proofs.Ytmhglfidggjfdaa.PBillR
open Go.RowKit Go.Proofs.YtmhglfidggjfdaaW.PrintWords Go.Proofs.YtmhglfidggjfdaaW.PrintLast Go.Proofs.YtmhglfidggjfdaaW.PrintMore Go.Proofs.Ytmhglfidggjfdaa.PBillBack
attribute [local go_sem] max2_int min2_int max_two min_two max_three min_three max_four min_four   -- for this text's walks alone
set_option linter.unusedVariables false
set_option linter.unusedSimpArgs false

/-! ### presidioref6_PutBill: function 28 -/
mutual
def presidioref6_PutBill.j0 : Nat → Bool → Int → Int → Int → Int → List (S60) → Option (List Int)
  | 0, _, _, _, _, _, _ => none
  | k + 1, x34, x152000, x152001, x152002, x152003, x152004 => if x34 = true then (some ([] : List Int)) else (presidioref6_PutBill.l0 k (([80, 77, (x152000) % 256, (x152001) % 256, (x152002) % 256, (x152003) % 256, ((x152004.length : Int)) % 256] : List Int)) 0 x152000 x152001 x152002 x152003 x152004)
def presidioref6_PutBill.l0 : Nat → List Int → Int → Int → Int → Int → Int → List (S60) → Option (List Int)
  | 0, _, _, _, _, _, _, _ => none
  | k + 1, x3, x4, x152000, x152001, x152002, x152003, x152004 => if x4 < (x152004.length : Int) then (if 0 ≤ x4 then ((presidioref6_byteOf.f ((rd_T60 x152004 x4).f6)).bind fun t162 => (if t162 = true then ((presidioref6_byteOf.f ((rd_T60 x152004 x4).f7)).bind fun t163 => (if t163 = true then ((presidioref6_byteOf.f ((rd_T60 x152004 x4).f8)).bind fun t164 => (if t164 = true then ((presidioref6_Bits.f k ((rd_T60 x152004 x4).f0) ((rd_T60 x152004 x4).f1) ((rd_T60 x152004 x4).f2) ((rd_T60 x152004 x4).f3) ((rd_T60 x152004 x4).f4) ((rd_T60 x152004 x4).f5) ((rd_T60 x152004 x4).f6) ((rd_T60 x152004 x4).f7) ((rd_T60 x152004 x4).f8)).bind fun t165 => ((some (([(t165) % 256, (((rd_T60 x152004 x4).f5) / 16777216) % 256, (((rd_T60 x152004 x4).f5) / 65536) % 256, (((rd_T60 x152004 x4).f5) / 256) % 256, ((rd_T60 x152004 x4).f5) % 256, ((rd_T60 x152004 x4).f6) % 256, ((rd_T60 x152004 x4).f7) % 256, ((rd_T60 x152004 x4).f8) % 256] : List Int) : List Int)).bind fun y166 => (if x3.length + y166.length < 140737488355328 then (presidioref6_PutBill.l0 k (x3 ++ y166) (wrap64 (x4 + 1)) x152000 x152001 x152002 x152003 x152004) else (none)))) else (some ([] : List Int)))) else (some ([] : List Int)))) else (some ([] : List Int)))) else (none)) else (some x3)
end
def presidioref6_PutBill.f (k : Nat) (a0_0 : Int) (a0_1 : Int) (a0_2 : Int) (a0_3 : Int) (l0_4 : List (S60)) : Option (List Int) := (presidioref6_byteOf.f a0_0).bind fun t152 => (if t152 = true then ((presidioref6_byteOf.f a0_1).bind fun t153 => (if t153 = true then ((presidioref6_byteOf.f a0_2).bind fun t154 => (if t154 = true then ((presidioref6_byteOf.f a0_3).bind fun t155 => (if t155 = true then ((presidioref6_byteOf.f (l0_4.length : Int)).bind fun t156 => (presidioref6_PutBill.j0 k (!t156) a0_0 a0_1 a0_2 a0_3 l0_4)) else (presidioref6_PutBill.j0 k true a0_0 a0_1 a0_2 a0_3 l0_4))) else (presidioref6_PutBill.j0 k true a0_0 a0_1 a0_2 a0_3 l0_4))) else (presidioref6_PutBill.j0 k true a0_0 a0_1 a0_2 a0_3 l0_4))) else (presidioref6_PutBill.j0 k true a0_0 a0_1 a0_2 a0_3 l0_4))
theorem presidioref6_PutBill.mono_l : ∀ k, (∀ y0 y1 y2 y3 y4 y5, LeO (presidioref6_PutBill.j0 k y0 y1 y2 y3 y4 y5) (presidioref6_PutBill.j0 (k + 1) y0 y1 y2 y3 y4 y5)) ∧ (∀ y0 y1 y2 y3 y4 y5 y6, LeO (presidioref6_PutBill.l0 k y0 y1 y2 y3 y4 y5 y6) (presidioref6_PutBill.l0 (k + 1) y0 y1 y2 y3 y4 y5 y6))
  | 0 => ⟨fun _ _ _ _ _ _ r h => by simp [presidioref6_PutBill.j0] at h, fun _ _ _ _ _ _ _ r h => by simp [presidioref6_PutBill.l0] at h⟩
  | k + 1 => by
    obtain ⟨ih0, ih1⟩ := presidioref6_PutBill.mono_l k
    refine ⟨?_, ?_⟩
    · intro y0 y1 y2 y3 y4 y5
      unfold presidioref6_PutBill.j0
      repeat' first
      | (with_reducible exact ih0 _ _ _ _ _ _)
      | (with_reducible exact ih1 _ _ _ _ _ _ _)
      | (with_reducible exact presidioref6_Bits.mono _ _ _ _ _ _ _ _ _ _)
      | (with_reducible exact LeO.refl _)
      | (with_reducible exact LeO.none _)
      | (with_reducible refine LeO.ite ?_ ?_)
      | (with_reducible refine LeO.bind ?_ (fun _ => ?_))
      | exact ih0 _ _ _ _ _ _
      | exact ih1 _ _ _ _ _ _ _
      | exact presidioref6_Bits.mono _ _ _ _ _ _ _ _ _ _
      | exact LeO.none _
      | refine LeO.ite ?_ ?_
      | refine LeO.bind ?_ (fun _ => ?_)
    · intro y0 y1 y2 y3 y4 y5 y6
      unfold presidioref6_PutBill.l0
      repeat' first
      | (with_reducible exact ih0 _ _ _ _ _ _)
      | (with_reducible exact ih1 _ _ _ _ _ _ _)
      | (with_reducible exact presidioref6_Bits.mono _ _ _ _ _ _ _ _ _ _)
      | (with_reducible exact LeO.refl _)
      | (with_reducible exact LeO.none _)
      | (with_reducible refine LeO.ite ?_ ?_)
      | (with_reducible refine LeO.bind ?_ (fun _ => ?_))
      | exact ih0 _ _ _ _ _ _
      | exact ih1 _ _ _ _ _ _ _
      | exact presidioref6_Bits.mono _ _ _ _ _ _ _ _ _ _
      | exact LeO.none _
      | refine LeO.ite ?_ ?_
      | refine LeO.bind ?_ (fun _ => ?_)
theorem presidioref6_PutBill.mono : ∀ a0 a1 a2 a3 a4 k, LeO (presidioref6_PutBill.f k a0 a1 a2 a3 a4) (presidioref6_PutBill.f (k + 1) a0 a1 a2 a3 a4) := by
  intro a0 a1 a2 a3 a4 k
  obtain ⟨ih0, ih1⟩ := presidioref6_PutBill.mono_l k
  unfold presidioref6_PutBill.f
  repeat' first
      | (with_reducible exact ih0 _ _ _ _ _ _)
      | (with_reducible exact ih1 _ _ _ _ _ _ _)
      | (with_reducible exact presidioref6_Bits.mono _ _ _ _ _ _ _ _ _ _)
      | (with_reducible exact LeO.refl _)
      | (with_reducible exact LeO.none _)
      | (with_reducible refine LeO.ite ?_ ?_)
      | (with_reducible refine LeO.bind ?_ (fun _ => ?_))
      | exact ih0 _ _ _ _ _ _
      | exact ih1 _ _ _ _ _ _ _
      | exact presidioref6_Bits.mono _ _ _ _ _ _ _ _ _ _
      | exact LeO.none _
      | refine LeO.ite ?_ ?_
      | refine LeO.bind ?_ (fun _ => ?_)
def presidioref6_PutBill.T10 : Bool × List (List Nat × List Nat) := (true, [([], []), ([], []), ([1], [1]), ([2], [2]), ([], []), ([4], [4]), ([5], [5]), ([6], [6]), ([], []), ([8], [8]), ([9], [9]), ([10], [10]), ([], []), ([12], [12]), ([13], [13]), ([14], [14]), ([], []), ([16], [16]), ([17], [17]), ([], []), ([19], [19]), ([20], [20]), ([], []), ([22], [22]), ([23], [23]), ([], []), ([25], [25]), ([26], [26]), ([3, 7, 11, 15, 18, 21, 24, 27], [3, 7, 11, 15, 18, 21, 24, 27]), ([0, 28, 2], [0, 28]), ([29, 29, 0, 1, 2, 3, 4, 5, 6, 7, 8, 9, 10, 11, 12, 13, 14, 15, 16, 17, 18, 19, 20, 21, 22, 23, 24, 25, 26, 27, 28, 29], [0, 29])])
def presidioref6_PutBill.B10 : List Nat := [0, 0, 2, 6, 0, 16, 48, 112, 0, 256, 768, 1792, 0, 4096, 12288, 28672, 0, 65536, 196608, 0, 524288, 1572864, 0, 4194304, 12582912, 0, 33554432, 100663296, 268435454, 536870911, 1073741823]
theorem presidioref6_PutBill.tab10 : rtab .any (opsOf Try.f28 10) = presidioref6_PutBill.T10 := by kernel_rfl
theorem presidioref6_PutBill.bits10 : waitsOk presidioref6_PutBill.T10.2 presidioref6_PutBill.B10 = true := by kernel_rfl
set_option maxHeartbeats 8000000 in
set_option maxRecDepth 100000 in
theorem presidioref6_PutBill.calls (k : Nat) (a0_0 : Int) (a0_1 : Int) (a0_2 : Int) (a0_3 : Int) (A0_4 : Option Addr) (c0_4 : Nat) (l0_4 : List (S60)) (r : List Int) (w : World) (hr0_4 : Kd.C k60 w A0_4 l0_4.length l0_4) (hc0_4 : l0_4.length ≤ c0_4) (h : presidioref6_PutBill.f k a0_0 a0_1 a0_2 a0_3 l0_4 = some r) :
    Calls Try.prog 28 #[.agg #[.int .i64 a0_0, .int .i64 a0_1, .int .i64 a0_2, .int .i64 a0_3, .slice A0_4 l0_4.length c0_4]] w fun e w' => ∃ v0_ : Value, e = .returned (v0_) ∧ Kd.R (Kd.int .u8) 5 w' w.heap.size (fun _ => True) v0_ r ∧ Below w.heap.size w w' := by
  have hu44 := Try.underlying44
  have hu60 := Try.underlying60
  have HR0_4 := Aside0.mk hr0_4
  have HC0_4 := Aside0.mk hc0_4
  clear hr0_4 hc0_4
  have HB := Aside0.mk (Below.refl w.heap.size w)
  have H : ((presidioref6_byteOf.f a0_0).bind fun t152 => (if t152 = true then ((presidioref6_byteOf.f a0_1).bind fun t153 => (if t153 = true then ((presidioref6_byteOf.f a0_2).bind fun t154 => (if t154 = true then ((presidioref6_byteOf.f a0_3).bind fun t155 => (if t155 = true then ((presidioref6_byteOf.f (l0_4.length : Int)).bind fun t156 => (presidioref6_PutBill.j0 k (!t156) a0_0 a0_1 a0_2 a0_3 l0_4)) else (presidioref6_PutBill.j0 k true a0_0 a0_1 a0_2 a0_3 l0_4))) else (presidioref6_PutBill.j0 k true a0_0 a0_1 a0_2 a0_3 l0_4))) else (presidioref6_PutBill.j0 k true a0_0 a0_1 a0_2 a0_3 l0_4))) else (presidioref6_PutBill.j0 k true a0_0 a0_1 a0_2 a0_3 l0_4))) = some r := h
  clear h
  have HC2 := Aside0.mk H
  clear H
  go_enter Try.func28, Try.ntmps28
  go_upto_region 1 with (first | ((with_reducible refine gate_dst (N := 1) rfl ?_); (try (refine gate_guard (by rfl) ?_; dsimp only)); refine box_event ?hg (N := 1) ?hd (cs := #[.int .i64 a0_0, .int .i64 a0_1, .int .i64 a0_2, .int .i64 a0_3, .slice A0_4 l0_4.length c0_4]) (t := 44) ?hr ?_; (case hd => rfl); (case hg => rfl); (case hr => first | (go_simp; done) | (go_simp; rfl)); intro gb151 hg w3 hbox hb; have n0_ := Aside0.mk (below_step (by repeat (first | (with_reducible first | exact HB.out | apply below_alloc | apply pw_below_drewN | apply below_drew1) | exact HB.out)) hb); have n1_ := Aside0.mk (hbox); have n2_ := Aside0.mk ((by rw [hg]; exact (below_size (by repeat (first | (with_reducible first | exact HB.out | apply below_alloc | apply pw_below_drewN | apply below_drew1) | exact HB.out))) : w.heap.size ≤ gb151)); have n3_ := Aside0.mk ((by rw [hg]; exact (below_size (by repeat (first | (with_reducible first | exact HB.out | apply below_alloc | apply pw_below_drewN | apply below_drew1) | exact HB.out))) : w.heap.size ≤ gb151)); clear HB; have HB := n0_; have BK151 := n1_; have GW151 := n2_; have GE151 := n3_; clear n0_ n1_ n2_ n3_; clear hb hbox hg))
  (try simp only [Act.put, List.setIfInBounds_toArray, List.set_cons_zero, List.set_cons_succ])
  go_cut [34] (fun v34 wc => ∃ (kq : Nat) (x34_1 : Bool), v34 = .bool x34_1 ∧ Aside0 (presidioref6_PutBill.j0 kq x34_1 a0_0 a0_1 a0_2 a0_3 l0_4 = some r) ∧ Aside0 (kq ≤ k) ∧ Aside0 (wc.heap[gb151]? = some (.cells #[.int .i64 a0_0, .int .i64 a0_1, .int .i64 a0_2, .int .i64 a0_3, (.slice A0_4 l0_4.length c0_4)] 44 (0, 0))) ∧ Aside0 (Below w.heap.size w wc))
  case first =>
    have H := HC2.out
    clear HC2
    replace H := Option.bind_eq_some_iff.mp H
    obtain ⟨t152, A40, H⟩ := H
    replace H : (if t152 = true then ((presidioref6_byteOf.f a0_1).bind fun t153 => (if t153 = true then ((presidioref6_byteOf.f a0_2).bind fun t154 => (if t154 = true then ((presidioref6_byteOf.f a0_3).bind fun t155 => (if t155 = true then ((presidioref6_byteOf.f (l0_4.length : Int)).bind fun t156 => (presidioref6_PutBill.j0 k (!t156) a0_0 a0_1 a0_2 a0_3 l0_4)) else (presidioref6_PutBill.j0 k true a0_0 a0_1 a0_2 a0_3 l0_4))) else (presidioref6_PutBill.j0 k true a0_0 a0_1 a0_2 a0_3 l0_4))) else (presidioref6_PutBill.j0 k true a0_0 a0_1 a0_2 a0_3 l0_4))) else (presidioref6_PutBill.j0 k true a0_0 a0_1 a0_2 a0_3 l0_4)) = some r := H
    have A4 := Aside0.mk A40
    clear A40
    by_cases c5 : t152 = true
    · subst c5
      have H1 : ((presidioref6_byteOf.f a0_1).bind fun t153 => (if t153 = true then ((presidioref6_byteOf.f a0_2).bind fun t154 => (if t154 = true then ((presidioref6_byteOf.f a0_3).bind fun t155 => (if t155 = true then ((presidioref6_byteOf.f (l0_4.length : Int)).bind fun t156 => (presidioref6_PutBill.j0 k (!t156) a0_0 a0_1 a0_2 a0_3 l0_4)) else (presidioref6_PutBill.j0 k true a0_0 a0_1 a0_2 a0_3 l0_4))) else (presidioref6_PutBill.j0 k true a0_0 a0_1 a0_2 a0_3 l0_4))) else (presidioref6_PutBill.j0 k true a0_0 a0_1 a0_2 a0_3 l0_4))) = some r := by rw [if_pos rfl] at H; exact H
      clear H
      have H := H1
      clear H1
      replace H := Option.bind_eq_some_iff.mp H
      obtain ⟨t153, A60, H⟩ := H
      replace H : (if t153 = true then ((presidioref6_byteOf.f a0_2).bind fun t154 => (if t154 = true then ((presidioref6_byteOf.f a0_3).bind fun t155 => (if t155 = true then ((presidioref6_byteOf.f (l0_4.length : Int)).bind fun t156 => (presidioref6_PutBill.j0 k (!t156) a0_0 a0_1 a0_2 a0_3 l0_4)) else (presidioref6_PutBill.j0 k true a0_0 a0_1 a0_2 a0_3 l0_4))) else (presidioref6_PutBill.j0 k true a0_0 a0_1 a0_2 a0_3 l0_4))) else (presidioref6_PutBill.j0 k true a0_0 a0_1 a0_2 a0_3 l0_4)) = some r := H
      have A6 := Aside0.mk A60
      clear A60
      by_cases c7 : t153 = true
      · subst c7
        have H1 : ((presidioref6_byteOf.f a0_2).bind fun t154 => (if t154 = true then ((presidioref6_byteOf.f a0_3).bind fun t155 => (if t155 = true then ((presidioref6_byteOf.f (l0_4.length : Int)).bind fun t156 => (presidioref6_PutBill.j0 k (!t156) a0_0 a0_1 a0_2 a0_3 l0_4)) else (presidioref6_PutBill.j0 k true a0_0 a0_1 a0_2 a0_3 l0_4))) else (presidioref6_PutBill.j0 k true a0_0 a0_1 a0_2 a0_3 l0_4))) = some r := by rw [if_pos rfl] at H; exact H
        clear H
        have H := H1
        clear H1
        replace H := Option.bind_eq_some_iff.mp H
        obtain ⟨t154, A80, H⟩ := H
        replace H : (if t154 = true then ((presidioref6_byteOf.f a0_3).bind fun t155 => (if t155 = true then ((presidioref6_byteOf.f (l0_4.length : Int)).bind fun t156 => (presidioref6_PutBill.j0 k (!t156) a0_0 a0_1 a0_2 a0_3 l0_4)) else (presidioref6_PutBill.j0 k true a0_0 a0_1 a0_2 a0_3 l0_4))) else (presidioref6_PutBill.j0 k true a0_0 a0_1 a0_2 a0_3 l0_4)) = some r := H
        have A8 := Aside0.mk A80
        clear A80
        by_cases c9 : t154 = true
        · subst c9
          have H1 : ((presidioref6_byteOf.f a0_3).bind fun t155 => (if t155 = true then ((presidioref6_byteOf.f (l0_4.length : Int)).bind fun t156 => (presidioref6_PutBill.j0 k (!t156) a0_0 a0_1 a0_2 a0_3 l0_4)) else (presidioref6_PutBill.j0 k true a0_0 a0_1 a0_2 a0_3 l0_4))) = some r := by rw [if_pos rfl] at H; exact H
          clear H
          have H := H1
          clear H1
          replace H := Option.bind_eq_some_iff.mp H
          obtain ⟨t155, A100, H⟩ := H
          replace H : (if t155 = true then ((presidioref6_byteOf.f (l0_4.length : Int)).bind fun t156 => (presidioref6_PutBill.j0 k (!t156) a0_0 a0_1 a0_2 a0_3 l0_4)) else (presidioref6_PutBill.j0 k true a0_0 a0_1 a0_2 a0_3 l0_4)) = some r := H
          have A10 := Aside0.mk A100
          clear A100
          by_cases c11 : t155 = true
          · subst c11
            have H1 : ((presidioref6_byteOf.f (l0_4.length : Int)).bind fun t156 => (presidioref6_PutBill.j0 k (!t156) a0_0 a0_1 a0_2 a0_3 l0_4)) = some r := by rw [if_pos rfl] at H; exact H
            clear H
            have H := H1
            clear H1
            replace H := Option.bind_eq_some_iff.mp H
            obtain ⟨t156, A120, H⟩ := H
            replace H : (presidioref6_PutBill.j0 k (!t156) a0_0 a0_1 a0_2 a0_3 l0_4) = some r := H
            have A12 := Aside0.mk A120
            clear A120
            have H' := Aside0.mk H
            clear H
            have hcz13_0 : w3.cell? ⟨gb151, 0, none⟩ = some (.int .i64 a0_0) := (blk_cell BK151.out 0).trans rfl
            have hcz13_1 : w3.cell? ⟨gb151, 1, none⟩ = some (.int .i64 a0_1) := (blk_cell BK151.out 1).trans rfl
            have hcz13_2 : w3.cell? ⟨gb151, 2, none⟩ = some (.int .i64 a0_2) := (blk_cell BK151.out 2).trans rfl
            have hcz13_3 : w3.cell? ⟨gb151, 3, none⟩ = some (.int .i64 a0_3) := (blk_cell BK151.out 3).trans rfl
            have hcz13_4 : w3.cell? ⟨gb151, 4, none⟩ = some (.slice A0_4 l0_4.length c0_4) := (blk_cell BK151.out 4).trans rfl
            have hfz13_0 := blk_frozen BK151.out 0
            have hfz13_1 := blk_frozen BK151.out 1
            have hfz13_2 := blk_frozen BK151.out 2
            have hfz13_3 := blk_frozen BK151.out 3
            have hfz13_4 := blk_frozen BK151.out 4
            go_wp2_with (first | ((with_reducible refine gate_callee (f := 42) rfl ?_); refine goesL_ (some 8) rfl rfl Try.func42 (by kernel_rfl) rfl #[.int .i64 a0_0] rfl (by (try simp only [List.map_toArray, List.map_cons, List.map_nil]); first | done | rfl | (simp only [List.length_drop, List.length_take]; rfl)) ?_; (with_reducible refine (presidioref6_byteOf.calls a0_0 true _ A4.out).mono ?_); rintro e w' ⟨rfl, ⟨nd, rfl⟩⟩; refine ⟨_, rfl, ?_⟩) | (go_at_call 42; (with_reducible refine (presidioref6_byteOf.calls a0_1 true _ A6.out).mono ?_); rintro e w' ⟨rfl, ⟨nd, rfl⟩⟩) | (go_at_call 42; (with_reducible refine (presidioref6_byteOf.calls a0_2 true _ A8.out).mono ?_); rintro e w' ⟨rfl, ⟨nd, rfl⟩⟩) | (go_at_call 42; (with_reducible refine (presidioref6_byteOf.calls a0_3 true _ A10.out).mono ?_); rintro e w' ⟨rfl, ⟨nd, rfl⟩⟩) | (go_at_call 42; (with_reducible refine (presidioref6_byteOf.calls (l0_4.length : Int) t156 _ A12.out).mono ?_); rintro e w' ⟨rfl, ⟨nd, rfl⟩⟩))
            go_meet
            case rel => exact ⟨_, (!t156), (by first | rfl | (simp; done) | (simp [*]; done)), H', ⟨by first | omega | exact Nat.le_refl _⟩, ⟨by (with_reducible repeat (first | refine blk_drewN ?_ _ | refine blk_drew ?_ | refine blk_alloc ?_ _)); exact BK151.out⟩, ⟨by repeat (first | (with_reducible first | exact HB.out | apply below_alloc | apply pw_below_drewN | apply below_drew1 | refine below_set ?_ GE151.out) | exact HB.out)⟩⟩
          · replace c11 := Bool.eq_false_iff.mpr c11
            subst c11
            have H1 : (presidioref6_PutBill.j0 k true a0_0 a0_1 a0_2 a0_3 l0_4) = some r := by rw [if_neg (show ¬ (false = true) by decide)] at H; exact H
            clear H
            have H := H1
            clear H1
            have H' := Aside0.mk H
            clear H
            have hcz14_0 : w3.cell? ⟨gb151, 0, none⟩ = some (.int .i64 a0_0) := (blk_cell BK151.out 0).trans rfl
            have hcz14_1 : w3.cell? ⟨gb151, 1, none⟩ = some (.int .i64 a0_1) := (blk_cell BK151.out 1).trans rfl
            have hcz14_2 : w3.cell? ⟨gb151, 2, none⟩ = some (.int .i64 a0_2) := (blk_cell BK151.out 2).trans rfl
            have hcz14_3 : w3.cell? ⟨gb151, 3, none⟩ = some (.int .i64 a0_3) := (blk_cell BK151.out 3).trans rfl
            have hcz14_4 : w3.cell? ⟨gb151, 4, none⟩ = some (.slice A0_4 l0_4.length c0_4) := (blk_cell BK151.out 4).trans rfl
            have hfz14_0 := blk_frozen BK151.out 0
            have hfz14_1 := blk_frozen BK151.out 1
            have hfz14_2 := blk_frozen BK151.out 2
            have hfz14_3 := blk_frozen BK151.out 3
            have hfz14_4 := blk_frozen BK151.out 4
            go_wp2_with (first | ((with_reducible refine gate_callee (f := 42) rfl ?_); refine goesL_ (some 8) rfl rfl Try.func42 (by kernel_rfl) rfl #[.int .i64 a0_0] rfl (by (try simp only [List.map_toArray, List.map_cons, List.map_nil]); first | done | rfl | (simp only [List.length_drop, List.length_take]; rfl)) ?_; (with_reducible refine (presidioref6_byteOf.calls a0_0 true _ A4.out).mono ?_); rintro e w' ⟨rfl, ⟨nd, rfl⟩⟩; refine ⟨_, rfl, ?_⟩) | (go_at_call 42; (with_reducible refine (presidioref6_byteOf.calls a0_1 true _ A6.out).mono ?_); rintro e w' ⟨rfl, ⟨nd, rfl⟩⟩) | (go_at_call 42; (with_reducible refine (presidioref6_byteOf.calls a0_2 true _ A8.out).mono ?_); rintro e w' ⟨rfl, ⟨nd, rfl⟩⟩) | (go_at_call 42; (with_reducible refine (presidioref6_byteOf.calls a0_3 false _ A10.out).mono ?_); rintro e w' ⟨rfl, ⟨nd, rfl⟩⟩))
            go_meet
            case rel => exact ⟨_, (true), (by first | rfl | (simp; done) | (simp [*]; done)), H', ⟨by first | omega | exact Nat.le_refl _⟩, ⟨by (with_reducible repeat (first | refine blk_drewN ?_ _ | refine blk_drew ?_ | refine blk_alloc ?_ _)); exact BK151.out⟩, ⟨by repeat (first | (with_reducible first | exact HB.out | apply below_alloc | apply pw_below_drewN | apply below_drew1 | refine below_set ?_ GE151.out) | exact HB.out)⟩⟩
        · replace c9 := Bool.eq_false_iff.mpr c9
          subst c9
          have H1 : (presidioref6_PutBill.j0 k true a0_0 a0_1 a0_2 a0_3 l0_4) = some r := by rw [if_neg (show ¬ (false = true) by decide)] at H; exact H
          clear H
          have H := H1
          clear H1
          have H' := Aside0.mk H
          clear H
          have hcz15_0 : w3.cell? ⟨gb151, 0, none⟩ = some (.int .i64 a0_0) := (blk_cell BK151.out 0).trans rfl
          have hcz15_1 : w3.cell? ⟨gb151, 1, none⟩ = some (.int .i64 a0_1) := (blk_cell BK151.out 1).trans rfl
          have hcz15_2 : w3.cell? ⟨gb151, 2, none⟩ = some (.int .i64 a0_2) := (blk_cell BK151.out 2).trans rfl
          have hcz15_3 : w3.cell? ⟨gb151, 3, none⟩ = some (.int .i64 a0_3) := (blk_cell BK151.out 3).trans rfl
          have hcz15_4 : w3.cell? ⟨gb151, 4, none⟩ = some (.slice A0_4 l0_4.length c0_4) := (blk_cell BK151.out 4).trans rfl
          have hfz15_0 := blk_frozen BK151.out 0
          have hfz15_1 := blk_frozen BK151.out 1
          have hfz15_2 := blk_frozen BK151.out 2
          have hfz15_3 := blk_frozen BK151.out 3
          have hfz15_4 := blk_frozen BK151.out 4
          go_wp2_with (first | ((with_reducible refine gate_callee (f := 42) rfl ?_); refine goesL_ (some 8) rfl rfl Try.func42 (by kernel_rfl) rfl #[.int .i64 a0_0] rfl (by (try simp only [List.map_toArray, List.map_cons, List.map_nil]); first | done | rfl | (simp only [List.length_drop, List.length_take]; rfl)) ?_; (with_reducible refine (presidioref6_byteOf.calls a0_0 true _ A4.out).mono ?_); rintro e w' ⟨rfl, ⟨nd, rfl⟩⟩; refine ⟨_, rfl, ?_⟩) | (go_at_call 42; (with_reducible refine (presidioref6_byteOf.calls a0_1 true _ A6.out).mono ?_); rintro e w' ⟨rfl, ⟨nd, rfl⟩⟩) | (go_at_call 42; (with_reducible refine (presidioref6_byteOf.calls a0_2 false _ A8.out).mono ?_); rintro e w' ⟨rfl, ⟨nd, rfl⟩⟩))
          go_meet
          case rel => exact ⟨_, (true), (by first | rfl | (simp; done) | (simp [*]; done)), H', ⟨by first | omega | exact Nat.le_refl _⟩, ⟨by (with_reducible repeat (first | refine blk_drewN ?_ _ | refine blk_drew ?_ | refine blk_alloc ?_ _)); exact BK151.out⟩, ⟨by repeat (first | (with_reducible first | exact HB.out | apply below_alloc | apply pw_below_drewN | apply below_drew1 | refine below_set ?_ GE151.out) | exact HB.out)⟩⟩
      · replace c7 := Bool.eq_false_iff.mpr c7
        subst c7
        have H1 : (presidioref6_PutBill.j0 k true a0_0 a0_1 a0_2 a0_3 l0_4) = some r := by rw [if_neg (show ¬ (false = true) by decide)] at H; exact H
        clear H
        have H := H1
        clear H1
        have H' := Aside0.mk H
        clear H
        have hcz16_0 : w3.cell? ⟨gb151, 0, none⟩ = some (.int .i64 a0_0) := (blk_cell BK151.out 0).trans rfl
        have hcz16_1 : w3.cell? ⟨gb151, 1, none⟩ = some (.int .i64 a0_1) := (blk_cell BK151.out 1).trans rfl
        have hcz16_2 : w3.cell? ⟨gb151, 2, none⟩ = some (.int .i64 a0_2) := (blk_cell BK151.out 2).trans rfl
        have hcz16_3 : w3.cell? ⟨gb151, 3, none⟩ = some (.int .i64 a0_3) := (blk_cell BK151.out 3).trans rfl
        have hcz16_4 : w3.cell? ⟨gb151, 4, none⟩ = some (.slice A0_4 l0_4.length c0_4) := (blk_cell BK151.out 4).trans rfl
        have hfz16_0 := blk_frozen BK151.out 0
        have hfz16_1 := blk_frozen BK151.out 1
        have hfz16_2 := blk_frozen BK151.out 2
        have hfz16_3 := blk_frozen BK151.out 3
        have hfz16_4 := blk_frozen BK151.out 4
        go_wp2_with (first | ((with_reducible refine gate_callee (f := 42) rfl ?_); refine goesL_ (some 8) rfl rfl Try.func42 (by kernel_rfl) rfl #[.int .i64 a0_0] rfl (by (try simp only [List.map_toArray, List.map_cons, List.map_nil]); first | done | rfl | (simp only [List.length_drop, List.length_take]; rfl)) ?_; (with_reducible refine (presidioref6_byteOf.calls a0_0 true _ A4.out).mono ?_); rintro e w' ⟨rfl, ⟨nd, rfl⟩⟩; refine ⟨_, rfl, ?_⟩) | (go_at_call 42; (with_reducible refine (presidioref6_byteOf.calls a0_1 false _ A6.out).mono ?_); rintro e w' ⟨rfl, ⟨nd, rfl⟩⟩))
        go_meet
        case rel => exact ⟨_, (true), (by first | rfl | (simp; done) | (simp [*]; done)), H', ⟨by first | omega | exact Nat.le_refl _⟩, ⟨by (with_reducible repeat (first | refine blk_drewN ?_ _ | refine blk_drew ?_ | refine blk_alloc ?_ _)); exact BK151.out⟩, ⟨by repeat (first | (with_reducible first | exact HB.out | apply below_alloc | apply pw_below_drewN | apply below_drew1 | refine below_set ?_ GE151.out) | exact HB.out)⟩⟩
    · replace c5 := Bool.eq_false_iff.mpr c5
      subst c5
      have H1 : (presidioref6_PutBill.j0 k true a0_0 a0_1 a0_2 a0_3 l0_4) = some r := by rw [if_neg (show ¬ (false = true) by decide)] at H; exact H
      clear H
      have H := H1
      clear H1
      have H' := Aside0.mk H
      clear H
      have hcz17_0 : w3.cell? ⟨gb151, 0, none⟩ = some (.int .i64 a0_0) := (blk_cell BK151.out 0).trans rfl
      have hcz17_1 : w3.cell? ⟨gb151, 1, none⟩ = some (.int .i64 a0_1) := (blk_cell BK151.out 1).trans rfl
      have hcz17_2 : w3.cell? ⟨gb151, 2, none⟩ = some (.int .i64 a0_2) := (blk_cell BK151.out 2).trans rfl
      have hcz17_3 : w3.cell? ⟨gb151, 3, none⟩ = some (.int .i64 a0_3) := (blk_cell BK151.out 3).trans rfl
      have hcz17_4 : w3.cell? ⟨gb151, 4, none⟩ = some (.slice A0_4 l0_4.length c0_4) := (blk_cell BK151.out 4).trans rfl
      have hfz17_0 := blk_frozen BK151.out 0
      have hfz17_1 := blk_frozen BK151.out 1
      have hfz17_2 := blk_frozen BK151.out 2
      have hfz17_3 := blk_frozen BK151.out 3
      have hfz17_4 := blk_frozen BK151.out 4
      go_wp2_with (first | ((with_reducible refine gate_callee (f := 42) rfl ?_); refine goesL_ (some 8) rfl rfl Try.func42 (by kernel_rfl) rfl #[.int .i64 a0_0] rfl (by (try simp only [List.map_toArray, List.map_cons, List.map_nil]); first | done | rfl | (simp only [List.length_drop, List.length_take]; rfl)) ?_; (with_reducible refine (presidioref6_byteOf.calls a0_0 false _ A4.out).mono ?_); rintro e w' ⟨rfl, ⟨nd, rfl⟩⟩; refine ⟨_, rfl, ?_⟩))
      go_meet
      case rel => exact ⟨_, (true), (by first | rfl | (simp; done) | (simp [*]; done)), H', ⟨by first | omega | exact Nat.le_refl _⟩, ⟨by (with_reducible repeat (first | refine blk_drewN ?_ _ | refine blk_drew ?_ | refine blk_alloc ?_ _)); exact BK151.out⟩, ⟨by repeat (first | (with_reducible first | exact HB.out | apply below_alloc | apply pw_below_drewN | apply below_drew1 | refine below_set ?_ GE151.out) | exact HB.out)⟩⟩
  case rest =>
    clear HC2
    try clear c1
    try clear c2
    try clear p2
    try clear c4
    try clear c5
    try clear c7
    try clear c9
    try clear c11
    try clear hcz13_0
    try clear hcz13_1
    try clear hcz13_2
    try clear hcz13_3
    try clear hcz13_4
    try clear hcz14_0
    try clear hcz14_1
    try clear hcz14_2
    try clear hcz14_3
    try clear hcz14_4
    try clear hcz15_0
    try clear hcz15_1
    try clear hcz15_2
    try clear hcz15_3
    try clear hcz15_4
    try clear hcz16_0
    try clear hcz16_1
    try clear hcz16_2
    try clear hcz16_3
    try clear hcz16_4
    try clear hcz17_0
    try clear hcz17_1
    try clear hcz17_2
    try clear hcz17_3
    try clear hcz17_4
    try clear hfz13_0
    try clear hfz13_1
    try clear hfz13_2
    try clear hfz13_3
    try clear hfz13_4
    try clear hfz14_0
    try clear hfz14_1
    try clear hfz14_2
    try clear hfz14_3
    try clear hfz14_4
    try clear hfz15_0
    try clear hfz15_1
    try clear hfz15_2
    try clear hfz15_3
    try clear hfz15_4
    try clear hfz16_0
    try clear hfz16_1
    try clear hfz16_2
    try clear hfz16_3
    try clear hfz16_4
    try clear hfz17_0
    try clear hfz17_1
    try clear hfz17_2
    try clear hfz17_3
    try clear hfz17_4
    obtain ⟨kq, x34_1, rfl, HA, HJ1, BK151, HB⟩ := hcut
    cases kq with
    | zero => exact absurd HA.out (by simp [presidioref6_PutBill.j0])
    | succ kj1 =>
      have H := HA.out
      clear HA
      simp only [presidioref6_PutBill.j0] at H
      by_cases c18 : x34_1 = true
      · subst c18
        have H1 : (some ([] : List Int)) = some r := by rw [if_pos rfl] at H; exact H
        clear H
        have H := H1
        clear H1
        obtain rfl := Option.some.inj H
        go_wp2
        go_ret
        exact ⟨_, by first | rfl | (simp [errW_none, errW_some] <;> rfl) | (simp [*, errW_none, errW_some] <;> rfl), by first | exact Kd.R_nil _ _ _ _ _ | exact Kd.N_nil _ _ _ _ _ | exact Kd.V_nil _ _ _ _ _ | exact Kd.Q_nil _ _ _ _ _ | exact Kd.S_nil _ _ _ _ _, by repeat (first | (with_reducible first | exact HB.out | apply below_alloc | apply pw_below_drewN | apply below_drew1 | refine below_set ?_ GE151.out) | exact HB.out)⟩
      · replace c18 := Bool.eq_false_iff.mpr c18
        subst c18
        have H1 : (presidioref6_PutBill.l0 kj1 (([80, 77, (a0_0) % 256, (a0_1) % 256, (a0_2) % 256, (a0_3) % 256, ((l0_4.length : Int)) % 256] : List Int)) 0 a0_0 a0_1 a0_2 a0_3 l0_4) = some r := by rw [if_neg (show ¬ (false = true) by decide)] at H; exact H
        clear H
        have H := H1
        clear H1
        obtain ⟨y157, hy157⟩ : ∃ y_ : List Int, y_ = (([80, 77, (a0_0) % 256, (a0_1) % 256, (a0_2) % 256, (a0_3) % 256, ((l0_4.length : Int)) % 256] : List Int)) := ⟨_, rfl⟩
        replace H : (presidioref6_PutBill.l0 kj1 y157 0 a0_0 a0_1 a0_2 a0_3 l0_4) = some r := by first | (rw [hy157]; with_reducible exact H) | (have H2_ := (Option.bind_some _ _).symm.trans H; rw [hy157]; with_reducible exact H2_) | (have H2_ := (Option.bind_some _ _).symm.trans H; with_reducible exact H2_) | with_reducible exact H | (rw [hy157]; exact H) | exact H
        have Ny157 := Aside0.mk hy157
        clear hy157
        have H' := Aside0.mk H
        clear H
        have hcz19_0 : wc.cell? ⟨gb151, 0, none⟩ = some (.int .i64 a0_0) := (blk_cell BK151.out 0).trans rfl
        have hcz19_1 : wc.cell? ⟨gb151, 1, none⟩ = some (.int .i64 a0_1) := (blk_cell BK151.out 1).trans rfl
        have hcz19_2 : wc.cell? ⟨gb151, 2, none⟩ = some (.int .i64 a0_2) := (blk_cell BK151.out 2).trans rfl
        have hcz19_3 : wc.cell? ⟨gb151, 3, none⟩ = some (.int .i64 a0_3) := (blk_cell BK151.out 3).trans rfl
        have hcz19_4 : wc.cell? ⟨gb151, 4, none⟩ = some (.slice A0_4 l0_4.length c0_4) := (blk_cell BK151.out 4).trans rfl
        have hfz19_0 := blk_frozen BK151.out 0
        have hfz19_1 := blk_frozen BK151.out 1
        have hfz19_2 := blk_frozen BK151.out 2
        have hfz19_3 := blk_frozen BK151.out 3
        have hfz19_4 := blk_frozen BK151.out 4
        go_wp2_with (first | ((with_reducible refine gate_dst (N := 51) rfl ?_); (try (refine gate_guard (by rfl) ?_; dsimp only)); refine Kd.R_lit (Kd.int .u8) _ 5 ?hg (N := 51) ?hd (xs := ([80, 77, (a0_0) % 256, (a0_1) % 256, (a0_2) % 256, (a0_3) % 256, ((l0_4.length : Int)) % 256] : List Int)) (inner := [.int .u8 80, .int .u8 77, .int .u8 ((a0_0) % 256), .int .u8 ((a0_1) % 256), .int .u8 ((a0_2) % 256), .int .u8 ((a0_3) % 256), .int .u8 (((l0_4.length : Int)) % 256)]) (ok := fun _ => True) (okp := fun _ => True) ?hr ?hp (fun _ hk => hk) trivial (Below.refl _ _) (Nat.le_refl _) (by simp) ?_; (case hd => rfl); (case hg => rfl); (case hr => first | (go_simp; done) | (go_simp; rfl)); (case hp => exact (Reps.one (show Kd.M (Kd.int .u8) _ _ _ 80 [.int .u8 80] from rfl) (Reps.one (show Kd.M (Kd.int .u8) _ _ _ 77 [.int .u8 77] from rfl) (Reps.one (show Kd.M (Kd.int .u8) _ _ _ ((a0_0) % 256) [.int .u8 ((a0_0) % 256)] from rfl) (Reps.one (show Kd.M (Kd.int .u8) _ _ _ ((a0_1) % 256) [.int .u8 ((a0_1) % 256)] from rfl) (Reps.one (show Kd.M (Kd.int .u8) _ _ _ ((a0_2) % 256) [.int .u8 ((a0_2) % 256)] from rfl) (Reps.one (show Kd.M (Kd.int .u8) _ _ _ ((a0_3) % 256) [.int .u8 ((a0_3) % 256)] from rfl) (Reps.one (show Kd.M (Kd.int .u8) _ _ _ (((l0_4.length : Int)) % 256) [.int .u8 (((l0_4.length : Int)) % 256)] from rfl) (Reps.none _ _))))))))); intro v158 w20 ho21 hb hg_ hnew_; clear hg_ hnew_; (first | rw [← Ny157.out] at ho21 | (simp only [Int.reduceToNat] at ho21; rw [← Ny157.out] at ho21)); have n0_ := Aside0.mk (Kd.R_lower ho21 (below_size (by repeat (first | (with_reducible first | exact HB.out | apply below_alloc | apply pw_below_drewN | apply below_drew1 | refine below_set ?_ GE151.out) | exact HB.out)))); have n1_ := Aside0.mk (blk_below (g := gb151) (o := .cells #[.int .i64 a0_0, .int .i64 a0_1, .int .i64 a0_2, .int .i64 a0_3, .slice A0_4 l0_4.length c0_4] 44 (0, 0)) (by (with_reducible repeat (first | refine blk_drewN ?_ _ | refine blk_drew ?_ | refine blk_alloc ?_ _)); exact BK151.out) hb); have n2_ := Aside0.mk (below_step (by repeat (first | (with_reducible first | exact HB.out | apply below_alloc | apply pw_below_drewN | apply below_drew1 | refine below_set ?_ GE151.out) | exact HB.out)) hb); clear BK151; clear HB; have HO159 := n0_; have BK151 := n1_; have HB := n2_; clear n0_ n1_ n2_; clear hb ho21))
        go_loopg [3, 4] kj1 (fun kq v3 v4 w' => ∃ (x3_2 : List Int) (x4_2 : Int), v4 = .int .i64 x4_2 ∧ Aside0 (presidioref6_PutBill.l0 kq x3_2 x4_2 a0_0 a0_1 a0_2 a0_3 l0_4 = some r) ∧ Aside0 (kq ≤ kj1) ∧ Aside0 (Kd.R (Kd.int .u8) 5 w' w.heap.size (fun _ => True) v3 x3_2) ∧ Aside0 (w'.heap[gb151]? = some (.cells #[.int .i64 a0_0, .int .i64 a0_1, .int .i64 a0_2, .int .i64 a0_3, (.slice A0_4 l0_4.length c0_4)] 44 (0, 0))) ∧ Aside0 (Below w.heap.size w w'))
        case atStart => exact ⟨(y157), (0), (by first | rfl | (simp; done) | (simp [*]; done)), H', ⟨Nat.le_refl _⟩, ⟨by (with_reducible repeat (first | apply Kd.R_alloc | apply Kd.R_drewN | apply Kd.R_drew)); exact HO159.out⟩, ⟨by (with_reducible repeat (first | refine blk_drewN ?_ _ | refine blk_drew ?_ | refine blk_alloc ?_ _)); exact BK151.out⟩, ⟨by repeat (first | (with_reducible first | exact HB.out | apply below_alloc | apply pw_below_drewN | apply below_drew1 | refine below_set ?_ GE151.out) | exact HB.out)⟩⟩
        case round =>
          clear H'
          try clear c1
          try clear c2
          try clear p2
          try clear c4
          try clear c5
          try clear c7
          try clear c9
          try clear c11
          try clear c18
          try clear hcz13_0
          try clear hcz13_1
          try clear hcz13_2
          try clear hcz13_3
          try clear hcz13_4
          try clear hcz14_0
          try clear hcz14_1
          try clear hcz14_2
          try clear hcz14_3
          try clear hcz14_4
          try clear hcz15_0
          try clear hcz15_1
          try clear hcz15_2
          try clear hcz15_3
          try clear hcz15_4
          try clear hcz16_0
          try clear hcz16_1
          try clear hcz16_2
          try clear hcz16_3
          try clear hcz16_4
          try clear hcz17_0
          try clear hcz17_1
          try clear hcz17_2
          try clear hcz17_3
          try clear hcz17_4
          try clear hcz19_0
          try clear hcz19_1
          try clear hcz19_2
          try clear hcz19_3
          try clear hcz19_4
          try clear hfz13_0
          try clear hfz13_1
          try clear hfz13_2
          try clear hfz13_3
          try clear hfz13_4
          try clear hfz14_0
          try clear hfz14_1
          try clear hfz14_2
          try clear hfz14_3
          try clear hfz14_4
          try clear hfz15_0
          try clear hfz15_1
          try clear hfz15_2
          try clear hfz15_3
          try clear hfz15_4
          try clear hfz16_0
          try clear hfz16_1
          try clear hfz16_2
          try clear hfz16_3
          try clear hfz16_4
          try clear hfz17_0
          try clear hfz17_1
          try clear hfz17_2
          try clear hfz17_3
          try clear hfz17_4
          try clear hfz19_0
          try clear hfz19_1
          try clear hfz19_2
          try clear hfz19_3
          try clear hfz19_4
          try clear p2
          obtain ⟨x3_2, x4_2, rfl, HA, HK2, HO_3, BK151, HB⟩ := hrel
          cases gk with
          | zero => exact absurd HA.out (by simp [presidioref6_PutBill.l0])
          | succ k2 =>
            have H := HA.out
            clear HA
            simp only [presidioref6_PutBill.l0] at H
            by_cases c22 : x4_2 < (l0_4.length : Int)
            · rw [if_pos c22] at H
              have c22b0 : decide (x4_2 < (l0_4.length : Int)) = true := decide_eq_true c22
              clear c22
              by_cases c23 : 0 ≤ x4_2
              · rw [if_pos c23] at H
                have c23b0 : decide (0 ≤ x4_2) = true := decide_eq_true c23
                clear c23
                replace H := Option.bind_eq_some_iff.mp H
                obtain ⟨t162, A240, H⟩ := H
                replace H : (if t162 = true then ((presidioref6_byteOf.f ((rd_T60 l0_4 x4_2).f7)).bind fun t163 => (if t163 = true then ((presidioref6_byteOf.f ((rd_T60 l0_4 x4_2).f8)).bind fun t164 => (if t164 = true then ((presidioref6_Bits.f k2 ((rd_T60 l0_4 x4_2).f0) ((rd_T60 l0_4 x4_2).f1) ((rd_T60 l0_4 x4_2).f2) ((rd_T60 l0_4 x4_2).f3) ((rd_T60 l0_4 x4_2).f4) ((rd_T60 l0_4 x4_2).f5) ((rd_T60 l0_4 x4_2).f6) ((rd_T60 l0_4 x4_2).f7) ((rd_T60 l0_4 x4_2).f8)).bind fun t165 => ((some (([(t165) % 256, (((rd_T60 l0_4 x4_2).f5) / 16777216) % 256, (((rd_T60 l0_4 x4_2).f5) / 65536) % 256, (((rd_T60 l0_4 x4_2).f5) / 256) % 256, ((rd_T60 l0_4 x4_2).f5) % 256, ((rd_T60 l0_4 x4_2).f6) % 256, ((rd_T60 l0_4 x4_2).f7) % 256, ((rd_T60 l0_4 x4_2).f8) % 256] : List Int) : List Int)).bind fun y166 => (if x3_2.length + y166.length < 140737488355328 then (presidioref6_PutBill.l0 k2 (x3_2 ++ y166) (wrap64 (x4_2 + 1)) a0_0 a0_1 a0_2 a0_3 l0_4) else (none)))) else (some ([] : List Int)))) else (some ([] : List Int)))) else (some ([] : List Int))) = some r := H
                have A24 := Aside0.mk A240
                clear A240
                by_cases c25 : t162 = true
                · subst c25
                  have H1 : ((presidioref6_byteOf.f ((rd_T60 l0_4 x4_2).f7)).bind fun t163 => (if t163 = true then ((presidioref6_byteOf.f ((rd_T60 l0_4 x4_2).f8)).bind fun t164 => (if t164 = true then ((presidioref6_Bits.f k2 ((rd_T60 l0_4 x4_2).f0) ((rd_T60 l0_4 x4_2).f1) ((rd_T60 l0_4 x4_2).f2) ((rd_T60 l0_4 x4_2).f3) ((rd_T60 l0_4 x4_2).f4) ((rd_T60 l0_4 x4_2).f5) ((rd_T60 l0_4 x4_2).f6) ((rd_T60 l0_4 x4_2).f7) ((rd_T60 l0_4 x4_2).f8)).bind fun t165 => ((some (([(t165) % 256, (((rd_T60 l0_4 x4_2).f5) / 16777216) % 256, (((rd_T60 l0_4 x4_2).f5) / 65536) % 256, (((rd_T60 l0_4 x4_2).f5) / 256) % 256, ((rd_T60 l0_4 x4_2).f5) % 256, ((rd_T60 l0_4 x4_2).f6) % 256, ((rd_T60 l0_4 x4_2).f7) % 256, ((rd_T60 l0_4 x4_2).f8) % 256] : List Int) : List Int)).bind fun y166 => (if x3_2.length + y166.length < 140737488355328 then (presidioref6_PutBill.l0 k2 (x3_2 ++ y166) (wrap64 (x4_2 + 1)) a0_0 a0_1 a0_2 a0_3 l0_4) else (none)))) else (some ([] : List Int)))) else (some ([] : List Int)))) = some r := by rw [if_pos rfl] at H; exact H
                  clear H
                  have H := H1
                  clear H1
                  replace H := Option.bind_eq_some_iff.mp H
                  obtain ⟨t163, A260, H⟩ := H
                  replace H : (if t163 = true then ((presidioref6_byteOf.f ((rd_T60 l0_4 x4_2).f8)).bind fun t164 => (if t164 = true then ((presidioref6_Bits.f k2 ((rd_T60 l0_4 x4_2).f0) ((rd_T60 l0_4 x4_2).f1) ((rd_T60 l0_4 x4_2).f2) ((rd_T60 l0_4 x4_2).f3) ((rd_T60 l0_4 x4_2).f4) ((rd_T60 l0_4 x4_2).f5) ((rd_T60 l0_4 x4_2).f6) ((rd_T60 l0_4 x4_2).f7) ((rd_T60 l0_4 x4_2).f8)).bind fun t165 => ((some (([(t165) % 256, (((rd_T60 l0_4 x4_2).f5) / 16777216) % 256, (((rd_T60 l0_4 x4_2).f5) / 65536) % 256, (((rd_T60 l0_4 x4_2).f5) / 256) % 256, ((rd_T60 l0_4 x4_2).f5) % 256, ((rd_T60 l0_4 x4_2).f6) % 256, ((rd_T60 l0_4 x4_2).f7) % 256, ((rd_T60 l0_4 x4_2).f8) % 256] : List Int) : List Int)).bind fun y166 => (if x3_2.length + y166.length < 140737488355328 then (presidioref6_PutBill.l0 k2 (x3_2 ++ y166) (wrap64 (x4_2 + 1)) a0_0 a0_1 a0_2 a0_3 l0_4) else (none)))) else (some ([] : List Int)))) else (some ([] : List Int))) = some r := H
                  have A26 := Aside0.mk A260
                  clear A260
                  by_cases c27 : t163 = true
                  · subst c27
                    have H1 : ((presidioref6_byteOf.f ((rd_T60 l0_4 x4_2).f8)).bind fun t164 => (if t164 = true then ((presidioref6_Bits.f k2 ((rd_T60 l0_4 x4_2).f0) ((rd_T60 l0_4 x4_2).f1) ((rd_T60 l0_4 x4_2).f2) ((rd_T60 l0_4 x4_2).f3) ((rd_T60 l0_4 x4_2).f4) ((rd_T60 l0_4 x4_2).f5) ((rd_T60 l0_4 x4_2).f6) ((rd_T60 l0_4 x4_2).f7) ((rd_T60 l0_4 x4_2).f8)).bind fun t165 => ((some (([(t165) % 256, (((rd_T60 l0_4 x4_2).f5) / 16777216) % 256, (((rd_T60 l0_4 x4_2).f5) / 65536) % 256, (((rd_T60 l0_4 x4_2).f5) / 256) % 256, ((rd_T60 l0_4 x4_2).f5) % 256, ((rd_T60 l0_4 x4_2).f6) % 256, ((rd_T60 l0_4 x4_2).f7) % 256, ((rd_T60 l0_4 x4_2).f8) % 256] : List Int) : List Int)).bind fun y166 => (if x3_2.length + y166.length < 140737488355328 then (presidioref6_PutBill.l0 k2 (x3_2 ++ y166) (wrap64 (x4_2 + 1)) a0_0 a0_1 a0_2 a0_3 l0_4) else (none)))) else (some ([] : List Int)))) = some r := by rw [if_pos rfl] at H; exact H
                    clear H
                    have H := H1
                    clear H1
                    replace H := Option.bind_eq_some_iff.mp H
                    obtain ⟨t164, A280, H⟩ := H
                    replace H : (if t164 = true then ((presidioref6_Bits.f k2 ((rd_T60 l0_4 x4_2).f0) ((rd_T60 l0_4 x4_2).f1) ((rd_T60 l0_4 x4_2).f2) ((rd_T60 l0_4 x4_2).f3) ((rd_T60 l0_4 x4_2).f4) ((rd_T60 l0_4 x4_2).f5) ((rd_T60 l0_4 x4_2).f6) ((rd_T60 l0_4 x4_2).f7) ((rd_T60 l0_4 x4_2).f8)).bind fun t165 => ((some (([(t165) % 256, (((rd_T60 l0_4 x4_2).f5) / 16777216) % 256, (((rd_T60 l0_4 x4_2).f5) / 65536) % 256, (((rd_T60 l0_4 x4_2).f5) / 256) % 256, ((rd_T60 l0_4 x4_2).f5) % 256, ((rd_T60 l0_4 x4_2).f6) % 256, ((rd_T60 l0_4 x4_2).f7) % 256, ((rd_T60 l0_4 x4_2).f8) % 256] : List Int) : List Int)).bind fun y166 => (if x3_2.length + y166.length < 140737488355328 then (presidioref6_PutBill.l0 k2 (x3_2 ++ y166) (wrap64 (x4_2 + 1)) a0_0 a0_1 a0_2 a0_3 l0_4) else (none)))) else (some ([] : List Int))) = some r := H
                    have A28 := Aside0.mk A280
                    clear A280
                    by_cases c29 : t164 = true
                    · subst c29
                      have H1 : ((presidioref6_Bits.f k2 ((rd_T60 l0_4 x4_2).f0) ((rd_T60 l0_4 x4_2).f1) ((rd_T60 l0_4 x4_2).f2) ((rd_T60 l0_4 x4_2).f3) ((rd_T60 l0_4 x4_2).f4) ((rd_T60 l0_4 x4_2).f5) ((rd_T60 l0_4 x4_2).f6) ((rd_T60 l0_4 x4_2).f7) ((rd_T60 l0_4 x4_2).f8)).bind fun t165 => ((some (([(t165) % 256, (((rd_T60 l0_4 x4_2).f5) / 16777216) % 256, (((rd_T60 l0_4 x4_2).f5) / 65536) % 256, (((rd_T60 l0_4 x4_2).f5) / 256) % 256, ((rd_T60 l0_4 x4_2).f5) % 256, ((rd_T60 l0_4 x4_2).f6) % 256, ((rd_T60 l0_4 x4_2).f7) % 256, ((rd_T60 l0_4 x4_2).f8) % 256] : List Int) : List Int)).bind fun y166 => (if x3_2.length + y166.length < 140737488355328 then (presidioref6_PutBill.l0 k2 (x3_2 ++ y166) (wrap64 (x4_2 + 1)) a0_0 a0_1 a0_2 a0_3 l0_4) else (none)))) = some r := by rw [if_pos rfl] at H; exact H
                      clear H
                      have H := H1
                      clear H1
                      replace H := Option.bind_eq_some_iff.mp H
                      obtain ⟨t165, A300, H⟩ := H
                      replace H : ((some (([(t165) % 256, (((rd_T60 l0_4 x4_2).f5) / 16777216) % 256, (((rd_T60 l0_4 x4_2).f5) / 65536) % 256, (((rd_T60 l0_4 x4_2).f5) / 256) % 256, ((rd_T60 l0_4 x4_2).f5) % 256, ((rd_T60 l0_4 x4_2).f6) % 256, ((rd_T60 l0_4 x4_2).f7) % 256, ((rd_T60 l0_4 x4_2).f8) % 256] : List Int) : List Int)).bind fun y166 => (if x3_2.length + y166.length < 140737488355328 then (presidioref6_PutBill.l0 k2 (x3_2 ++ y166) (wrap64 (x4_2 + 1)) a0_0 a0_1 a0_2 a0_3 l0_4) else (none))) = some r := H
                      have A30 := Aside0.mk A300
                      clear A300
                      obtain ⟨y166, hy166⟩ : ∃ y_ : List Int, y_ = (([(t165) % 256, (((rd_T60 l0_4 x4_2).f5) / 16777216) % 256, (((rd_T60 l0_4 x4_2).f5) / 65536) % 256, (((rd_T60 l0_4 x4_2).f5) / 256) % 256, ((rd_T60 l0_4 x4_2).f5) % 256, ((rd_T60 l0_4 x4_2).f6) % 256, ((rd_T60 l0_4 x4_2).f7) % 256, ((rd_T60 l0_4 x4_2).f8) % 256] : List Int)) := ⟨_, rfl⟩
                      replace H : (if x3_2.length + y166.length < 140737488355328 then (presidioref6_PutBill.l0 k2 (x3_2 ++ y166) (wrap64 (x4_2 + 1)) a0_0 a0_1 a0_2 a0_3 l0_4) else (none)) = some r := by first | (rw [hy166]; with_reducible exact H) | (have H2_ := (Option.bind_some _ _).symm.trans H; rw [hy166]; with_reducible exact H2_) | (have H2_ := (Option.bind_some _ _).symm.trans H; with_reducible exact H2_) | with_reducible exact H | (rw [hy166]; exact H) | exact H
                      have Ny166 := Aside0.mk hy166
                      clear hy166
                      by_cases c31 : x3_2.length + y166.length < 140737488355328
                      · rw [if_pos c31] at H
                        have LMc31 := Aside0.mk c31
                        clear c31
                        obtain ⟨y169, hy169⟩ : ∃ y_ : List Int, y_ = (x3_2 ++ y166) := ⟨_, rfl⟩
                        replace H : (presidioref6_PutBill.l0 k2 y169 (wrap64 (x4_2 + 1)) a0_0 a0_1 a0_2 a0_3 l0_4) = some r := by first | (rw [hy169]; with_reducible exact H) | (have H2_ := (Option.bind_some _ _).symm.trans H; rw [hy169]; with_reducible exact H2_) | (have H2_ := (Option.bind_some _ _).symm.trans H; with_reducible exact H2_) | with_reducible exact H | (rw [hy169]; exact H) | exact H
                        have Ny169 := Aside0.mk hy169
                        clear hy169
                        have H' := Aside0.mk H
                        clear H
                        have hcz32_0 : wr.cell? ⟨gb151, 0, none⟩ = some (.int .i64 a0_0) := (blk_cell BK151.out 0).trans rfl
                        have hcz32_1 : wr.cell? ⟨gb151, 1, none⟩ = some (.int .i64 a0_1) := (blk_cell BK151.out 1).trans rfl
                        have hcz32_2 : wr.cell? ⟨gb151, 2, none⟩ = some (.int .i64 a0_2) := (blk_cell BK151.out 2).trans rfl
                        have hcz32_3 : wr.cell? ⟨gb151, 3, none⟩ = some (.int .i64 a0_3) := (blk_cell BK151.out 3).trans rfl
                        have hcz32_4 : wr.cell? ⟨gb151, 4, none⟩ = some (.slice A0_4 l0_4.length c0_4) := (blk_cell BK151.out 4).trans rfl
                        have hfz32_0 := blk_frozen BK151.out 0
                        have hfz32_1 := blk_frozen BK151.out 1
                        have hfz32_2 := blk_frozen BK151.out 2
                        have hfz32_3 := blk_frozen BK151.out 3
                        have hfz32_4 := blk_frozen BK151.out 4
                        have p160 : 0 ≤ (x4_2 : Int) := of_decide_eq_true (by first | (with_reducible assumption) | assumption)
                        have q160 : x4_2 < (l0_4.length : Int) := of_decide_eq_true (by first | (with_reducible assumption) | assumption)
                        obtain ⟨ad160, e160, hx160_0, hx160_1, hx160_2, hx160_3, hx160_4, hx160_5, hx160_6, hx160_7, hx160_8⟩ := at_T60 HR0_4.out x4_2 p160 q160
                        cases e160
                        replace hx160_0 := (HB.out.cell (World.block_lt_of_cell? w _ hx160_0)).trans hx160_0
                        replace hx160_1 := (HB.out.cell (World.block_lt_of_cell? w _ hx160_1)).trans hx160_1
                        replace hx160_2 := (HB.out.cell (World.block_lt_of_cell? w _ hx160_2)).trans hx160_2
                        replace hx160_3 := (HB.out.cell (World.block_lt_of_cell? w _ hx160_3)).trans hx160_3
                        replace hx160_4 := (HB.out.cell (World.block_lt_of_cell? w _ hx160_4)).trans hx160_4
                        replace hx160_5 := (HB.out.cell (World.block_lt_of_cell? w _ hx160_5)).trans hx160_5
                        replace hx160_6 := (HB.out.cell (World.block_lt_of_cell? w _ hx160_6)).trans hx160_6
                        replace hx160_7 := (HB.out.cell (World.block_lt_of_cell? w _ hx160_7)).trans hx160_7
                        replace hx160_8 := (HB.out.cell (World.block_lt_of_cell? w _ hx160_8)).trans hx160_8
                        replace p160 := eq_true p160
                        replace q160 := eq_true q160
                        try go_wp2_with (first | ((with_reducible refine gate_dst (N := 5) rfl ?_); (try (refine gate_guard (by rfl) ?_; dsimp only)); refine box_event ?hg (N := 5) ?hd (cs := #[.bool false, .bool false, .bool false, .bool false, .bool false, .int .u32 0, .int .i64 0, .int .i64 0, .int .i64 0]) (t := 60) ?hr ?_; (case hd => rfl); (case hg => rfl); (case hr => first | (go_simp; done) | (go_simp; rfl)); intro gb161 hg w33 hbox hb; have n0_ := Aside0.mk (Kd.R_below (by (with_reducible repeat (first | apply Kd.R_alloc | apply Kd.R_drewN | apply Kd.R_drew)); exact HO_3.out) hb); have n1_ := Aside0.mk (blk_below (g := gb151) (o := .cells #[.int .i64 a0_0, .int .i64 a0_1, .int .i64 a0_2, .int .i64 a0_3, .slice (some ad160) l0_4.length c0_4] 44 (0, 0)) (by (with_reducible repeat (first | refine blk_drewN ?_ _ | refine blk_drew ?_ | refine blk_alloc ?_ _)); exact BK151.out) hb); have n2_ := Aside0.mk (below_step (by repeat (first | (with_reducible first | exact HB.out | apply below_alloc | apply pw_below_drewN | apply below_drew1 | refine below_set ?_ GE151.out) | exact HB.out)) hb); have n3_ := Aside0.mk (hbox); have n4_ := Aside0.mk ((by rw [hg]; exact (below_size (by repeat (first | (with_reducible first | exact HB.out | apply below_alloc | apply pw_below_drewN | apply below_drew1 | refine below_set ?_ GE151.out) | exact HB.out))) : w.heap.size ≤ gb161)); have n5_ := Aside0.mk ((by rw [hg]; exact (below_size (by repeat (first | (with_reducible first | exact HB.out | apply below_alloc | apply pw_below_drewN | apply below_drew1 | refine below_set ?_ GE151.out) | exact HB.out))) : w.heap.size ≤ gb161)); have n6_ := Aside0.mk ((by rw [hg]; exact Nat.ne_of_lt (blk_lt (g := gb151) (o := .cells #[.int .i64 a0_0, .int .i64 a0_1, .int .i64 a0_2, .int .i64 a0_3, .slice (some ad160) l0_4.length c0_4] 44 (0, 0)) (by (with_reducible repeat (first | refine blk_drewN ?_ _ | refine blk_drew ?_ | refine blk_alloc ?_ _)); exact BK151.out)) : gb151 ≠ gb161)); have n7_ := Aside0.mk ((by rw [hg]; exact Nat.ne_of_gt (blk_lt (g := gb151) (o := .cells #[.int .i64 a0_0, .int .i64 a0_1, .int .i64 a0_2, .int .i64 a0_3, .slice (some ad160) l0_4.length c0_4] 44 (0, 0)) (by (with_reducible repeat (first | refine blk_drewN ?_ _ | refine blk_drew ?_ | refine blk_alloc ?_ _)); exact BK151.out)) : gb161 ≠ gb151)); clear HO_3; clear BK151; clear HB; have HO_3 := n0_; have BK151 := n1_; have HB := n2_; have BK161 := n3_; have GW161 := n4_; have GE161 := n5_; have NB151_161 := n6_; have NB161_151 := n7_; clear n0_ n1_ n2_ n3_ n4_ n5_ n6_ n7_; clear hb hbox hg; have hnb34 := NB161_151.out; have hnc34 := NB151_161.out; have hcz35_0 : w33.cell? ⟨gb161, 0, none⟩ = some (.bool false) := (blk_cell BK161.out 0).trans rfl; have hcz35_1 : w33.cell? ⟨gb161, 1, none⟩ = some (.bool false) := (blk_cell BK161.out 1).trans rfl; have hcz35_2 : w33.cell? ⟨gb161, 2, none⟩ = some (.bool false) := (blk_cell BK161.out 2).trans rfl; have hcz35_3 : w33.cell? ⟨gb161, 3, none⟩ = some (.bool false) := (blk_cell BK161.out 3).trans rfl; have hcz35_4 : w33.cell? ⟨gb161, 4, none⟩ = some (.bool false) := (blk_cell BK161.out 4).trans rfl; have hcz35_5 : w33.cell? ⟨gb161, 5, none⟩ = some (.int .u32 0) := (blk_cell BK161.out 5).trans rfl; have hcz35_6 : w33.cell? ⟨gb161, 6, none⟩ = some (.int .i64 0) := (blk_cell BK161.out 6).trans rfl; have hcz35_7 : w33.cell? ⟨gb161, 7, none⟩ = some (.int .i64 0) := (blk_cell BK161.out 7).trans rfl; have hcz35_8 : w33.cell? ⟨gb161, 8, none⟩ = some (.int .i64 0) := (blk_cell BK161.out 8).trans rfl; have hfz35_0 := blk_frozen BK161.out 0; have hfz35_1 := blk_frozen BK161.out 1; have hfz35_2 := blk_frozen BK161.out 2; have hfz35_3 := blk_frozen BK161.out 3; have hfz35_4 := blk_frozen BK161.out 4; have hfz35_5 := blk_frozen BK161.out 5; have hfz35_6 := blk_frozen BK161.out 6; have hfz35_7 := blk_frozen BK161.out 7; have hfz35_8 := blk_frozen BK161.out 8) | ((with_reducible refine gate_callee (f := 42) rfl ?_); refine goesL_ (some 66) rfl rfl Try.func42 (by kernel_rfl) rfl #[.int .i64 ((rd_T60 l0_4 x4_2).f6)] rfl (by (try simp only [List.map_toArray, List.map_cons, List.map_nil]); first | done | rfl | (simp only [List.length_drop, List.length_take]; rfl)) ?_; (with_reducible refine (presidioref6_byteOf.calls ((rd_T60 l0_4 x4_2).f6) true _ A24.out).mono ?_); rintro e w' ⟨rfl, ⟨nd, rfl⟩⟩; refine ⟨_, rfl, ?_⟩) | (go_at_call 42; (with_reducible refine (presidioref6_byteOf.calls ((rd_T60 l0_4 x4_2).f7) true _ A26.out).mono ?_); rintro e w' ⟨rfl, ⟨nd, rfl⟩⟩) | (go_at_call 42; (with_reducible refine (presidioref6_byteOf.calls ((rd_T60 l0_4 x4_2).f8) true _ A28.out).mono ?_); rintro e w' ⟨rfl, ⟨nd, rfl⟩⟩))
                        have n0_ : Aside0 (Kd.R (Kd.int .u8) 5 (((((((((w33.setCell ⟨gb161, 0, none⟩ (.bool ((rd_T60 l0_4 x4_2).f0))).setCell ⟨gb161, 1, none⟩ (.bool ((rd_T60 l0_4 x4_2).f1))).setCell ⟨gb161, 2, none⟩ (.bool ((rd_T60 l0_4 x4_2).f2))).setCell ⟨gb161, 3, none⟩ (.bool ((rd_T60 l0_4 x4_2).f3))).setCell ⟨gb161, 4, none⟩ (.bool ((rd_T60 l0_4 x4_2).f4))).setCell ⟨gb161, 5, none⟩ (.int .u32 ((rd_T60 l0_4 x4_2).f5))).setCell ⟨gb161, 6, none⟩ (.int .i64 ((rd_T60 l0_4 x4_2).f6))).setCell ⟨gb161, 7, none⟩ (.int .i64 ((rd_T60 l0_4 x4_2).f7))).setCell ⟨gb161, 8, none⟩ (.int .i64 ((rd_T60 l0_4 x4_2).f8))) w.heap.size (fun _ => True) u3 x3_2) := ⟨by (with_reducible repeat (first | apply Kd.R_alloc | apply Kd.R_drewN | apply Kd.R_drew)); exact Kd.R_mono (Kd.R_far (p := ⟨gb161, 8, none⟩) (Kd.R_far (p := ⟨gb161, 7, none⟩) (Kd.R_far (p := ⟨gb161, 6, none⟩) (Kd.R_far (p := ⟨gb161, 5, none⟩) (Kd.R_far (p := ⟨gb161, 4, none⟩) (Kd.R_far (p := ⟨gb161, 3, none⟩) (Kd.R_far (p := ⟨gb161, 2, none⟩) (Kd.R_far (p := ⟨gb161, 1, none⟩) (Kd.R_far (p := ⟨gb161, 0, none⟩) (Kd.R_types HO_3.out BK161.out (by decide)) (fun _ hk => hk.2) (.bool ((rd_T60 l0_4 x4_2).f0))) (fun _ hk => hk.2) (.bool ((rd_T60 l0_4 x4_2).f1))) (fun _ hk => hk.2) (.bool ((rd_T60 l0_4 x4_2).f2))) (fun _ hk => hk.2) (.bool ((rd_T60 l0_4 x4_2).f3))) (fun _ hk => hk.2) (.bool ((rd_T60 l0_4 x4_2).f4))) (fun _ hk => hk.2) (.int .u32 ((rd_T60 l0_4 x4_2).f5))) (fun _ hk => hk.2) (.int .i64 ((rd_T60 l0_4 x4_2).f6))) (fun _ hk => hk.2) (.int .i64 ((rd_T60 l0_4 x4_2).f7))) (fun _ hk => hk.2) (.int .i64 ((rd_T60 l0_4 x4_2).f8))) (fun _ hk => trivial)⟩
                        have n1_ : Aside0 ((((((((((w33.setCell ⟨gb161, 0, none⟩ (.bool ((rd_T60 l0_4 x4_2).f0))).setCell ⟨gb161, 1, none⟩ (.bool ((rd_T60 l0_4 x4_2).f1))).setCell ⟨gb161, 2, none⟩ (.bool ((rd_T60 l0_4 x4_2).f2))).setCell ⟨gb161, 3, none⟩ (.bool ((rd_T60 l0_4 x4_2).f3))).setCell ⟨gb161, 4, none⟩ (.bool ((rd_T60 l0_4 x4_2).f4))).setCell ⟨gb161, 5, none⟩ (.int .u32 ((rd_T60 l0_4 x4_2).f5))).setCell ⟨gb161, 6, none⟩ (.int .i64 ((rd_T60 l0_4 x4_2).f6))).setCell ⟨gb161, 7, none⟩ (.int .i64 ((rd_T60 l0_4 x4_2).f7))).setCell ⟨gb161, 8, none⟩ (.int .i64 ((rd_T60 l0_4 x4_2).f8))).heap[gb151]? = some (.cells #[.int .i64 a0_0, .int .i64 a0_1, .int .i64 a0_2, .int .i64 a0_3, .slice (some ad160) l0_4.length c0_4] 44 (0, 0))) := ⟨by (with_reducible repeat (first | refine blk_drewN ?_ _ | refine blk_drew ?_ | refine blk_alloc ?_ _)); refine blk_far ?_ NB151_161.out _; (with_reducible repeat (first | refine blk_drewN ?_ _ | refine blk_drew ?_ | refine blk_alloc ?_ _)); refine blk_far ?_ NB151_161.out _; (with_reducible repeat (first | refine blk_drewN ?_ _ | refine blk_drew ?_ | refine blk_alloc ?_ _)); refine blk_far ?_ NB151_161.out _; (with_reducible repeat (first | refine blk_drewN ?_ _ | refine blk_drew ?_ | refine blk_alloc ?_ _)); refine blk_far ?_ NB151_161.out _; (with_reducible repeat (first | refine blk_drewN ?_ _ | refine blk_drew ?_ | refine blk_alloc ?_ _)); refine blk_far ?_ NB151_161.out _; (with_reducible repeat (first | refine blk_drewN ?_ _ | refine blk_drew ?_ | refine blk_alloc ?_ _)); refine blk_far ?_ NB151_161.out _; (with_reducible repeat (first | refine blk_drewN ?_ _ | refine blk_drew ?_ | refine blk_alloc ?_ _)); refine blk_far ?_ NB151_161.out _; (with_reducible repeat (first | refine blk_drewN ?_ _ | refine blk_drew ?_ | refine blk_alloc ?_ _)); refine blk_far ?_ NB151_161.out _; (with_reducible repeat (first | refine blk_drewN ?_ _ | refine blk_drew ?_ | refine blk_alloc ?_ _)); refine blk_far ?_ NB151_161.out _; (with_reducible repeat (first | refine blk_drewN ?_ _ | refine blk_drew ?_ | refine blk_alloc ?_ _)); exact BK151.out⟩
                        have n2_ : Aside0 ((((((((((w33.setCell ⟨gb161, 0, none⟩ (.bool ((rd_T60 l0_4 x4_2).f0))).setCell ⟨gb161, 1, none⟩ (.bool ((rd_T60 l0_4 x4_2).f1))).setCell ⟨gb161, 2, none⟩ (.bool ((rd_T60 l0_4 x4_2).f2))).setCell ⟨gb161, 3, none⟩ (.bool ((rd_T60 l0_4 x4_2).f3))).setCell ⟨gb161, 4, none⟩ (.bool ((rd_T60 l0_4 x4_2).f4))).setCell ⟨gb161, 5, none⟩ (.int .u32 ((rd_T60 l0_4 x4_2).f5))).setCell ⟨gb161, 6, none⟩ (.int .i64 ((rd_T60 l0_4 x4_2).f6))).setCell ⟨gb161, 7, none⟩ (.int .i64 ((rd_T60 l0_4 x4_2).f7))).setCell ⟨gb161, 8, none⟩ (.int .i64 ((rd_T60 l0_4 x4_2).f8))).heap[gb161]? = some (.cells #[.bool ((rd_T60 l0_4 x4_2).f0), .bool ((rd_T60 l0_4 x4_2).f1), .bool ((rd_T60 l0_4 x4_2).f2), .bool ((rd_T60 l0_4 x4_2).f3), .bool ((rd_T60 l0_4 x4_2).f4), .int .u32 ((rd_T60 l0_4 x4_2).f5), .int .i64 ((rd_T60 l0_4 x4_2).f6), .int .i64 ((rd_T60 l0_4 x4_2).f7), .int .i64 ((rd_T60 l0_4 x4_2).f8)] 60 (0, 0))) := ⟨by (with_reducible repeat (first | refine blk_drewN ?_ _ | refine blk_drew ?_ | refine blk_alloc ?_ _)); refine blk_put (cs := #[.bool ((rd_T60 l0_4 x4_2).f0), .bool ((rd_T60 l0_4 x4_2).f1), .bool ((rd_T60 l0_4 x4_2).f2), .bool ((rd_T60 l0_4 x4_2).f3), .bool ((rd_T60 l0_4 x4_2).f4), .int .u32 ((rd_T60 l0_4 x4_2).f5), .int .i64 ((rd_T60 l0_4 x4_2).f6), .int .i64 ((rd_T60 l0_4 x4_2).f7), .int .i64 0]) ?_ 8 _ rfl; (with_reducible repeat (first | refine blk_drewN ?_ _ | refine blk_drew ?_ | refine blk_alloc ?_ _)); refine blk_put (cs := #[.bool ((rd_T60 l0_4 x4_2).f0), .bool ((rd_T60 l0_4 x4_2).f1), .bool ((rd_T60 l0_4 x4_2).f2), .bool ((rd_T60 l0_4 x4_2).f3), .bool ((rd_T60 l0_4 x4_2).f4), .int .u32 ((rd_T60 l0_4 x4_2).f5), .int .i64 ((rd_T60 l0_4 x4_2).f6), .int .i64 0, .int .i64 0]) ?_ 7 _ rfl; (with_reducible repeat (first | refine blk_drewN ?_ _ | refine blk_drew ?_ | refine blk_alloc ?_ _)); refine blk_put (cs := #[.bool ((rd_T60 l0_4 x4_2).f0), .bool ((rd_T60 l0_4 x4_2).f1), .bool ((rd_T60 l0_4 x4_2).f2), .bool ((rd_T60 l0_4 x4_2).f3), .bool ((rd_T60 l0_4 x4_2).f4), .int .u32 ((rd_T60 l0_4 x4_2).f5), .int .i64 0, .int .i64 0, .int .i64 0]) ?_ 6 _ rfl; (with_reducible repeat (first | refine blk_drewN ?_ _ | refine blk_drew ?_ | refine blk_alloc ?_ _)); refine blk_put (cs := #[.bool ((rd_T60 l0_4 x4_2).f0), .bool ((rd_T60 l0_4 x4_2).f1), .bool ((rd_T60 l0_4 x4_2).f2), .bool ((rd_T60 l0_4 x4_2).f3), .bool ((rd_T60 l0_4 x4_2).f4), .int .u32 0, .int .i64 0, .int .i64 0, .int .i64 0]) ?_ 5 _ rfl; (with_reducible repeat (first | refine blk_drewN ?_ _ | refine blk_drew ?_ | refine blk_alloc ?_ _)); refine blk_put (cs := #[.bool ((rd_T60 l0_4 x4_2).f0), .bool ((rd_T60 l0_4 x4_2).f1), .bool ((rd_T60 l0_4 x4_2).f2), .bool ((rd_T60 l0_4 x4_2).f3), .bool false, .int .u32 0, .int .i64 0, .int .i64 0, .int .i64 0]) ?_ 4 _ rfl; (with_reducible repeat (first | refine blk_drewN ?_ _ | refine blk_drew ?_ | refine blk_alloc ?_ _)); refine blk_put (cs := #[.bool ((rd_T60 l0_4 x4_2).f0), .bool ((rd_T60 l0_4 x4_2).f1), .bool ((rd_T60 l0_4 x4_2).f2), .bool false, .bool false, .int .u32 0, .int .i64 0, .int .i64 0, .int .i64 0]) ?_ 3 _ rfl; (with_reducible repeat (first | refine blk_drewN ?_ _ | refine blk_drew ?_ | refine blk_alloc ?_ _)); refine blk_put (cs := #[.bool ((rd_T60 l0_4 x4_2).f0), .bool ((rd_T60 l0_4 x4_2).f1), .bool false, .bool false, .bool false, .int .u32 0, .int .i64 0, .int .i64 0, .int .i64 0]) ?_ 2 _ rfl; (with_reducible repeat (first | refine blk_drewN ?_ _ | refine blk_drew ?_ | refine blk_alloc ?_ _)); refine blk_put (cs := #[.bool ((rd_T60 l0_4 x4_2).f0), .bool false, .bool false, .bool false, .bool false, .int .u32 0, .int .i64 0, .int .i64 0, .int .i64 0]) ?_ 1 _ rfl; (with_reducible repeat (first | refine blk_drewN ?_ _ | refine blk_drew ?_ | refine blk_alloc ?_ _)); refine blk_put (cs := #[.bool false, .bool false, .bool false, .bool false, .bool false, .int .u32 0, .int .i64 0, .int .i64 0, .int .i64 0]) ?_ 0 _ rfl; (with_reducible repeat (first | refine blk_drewN ?_ _ | refine blk_drew ?_ | refine blk_alloc ?_ _)); exact BK161.out⟩
                        have n3_ : Aside0 (Below w.heap.size w (((((((((w33.setCell ⟨gb161, 0, none⟩ (.bool ((rd_T60 l0_4 x4_2).f0))).setCell ⟨gb161, 1, none⟩ (.bool ((rd_T60 l0_4 x4_2).f1))).setCell ⟨gb161, 2, none⟩ (.bool ((rd_T60 l0_4 x4_2).f2))).setCell ⟨gb161, 3, none⟩ (.bool ((rd_T60 l0_4 x4_2).f3))).setCell ⟨gb161, 4, none⟩ (.bool ((rd_T60 l0_4 x4_2).f4))).setCell ⟨gb161, 5, none⟩ (.int .u32 ((rd_T60 l0_4 x4_2).f5))).setCell ⟨gb161, 6, none⟩ (.int .i64 ((rd_T60 l0_4 x4_2).f6))).setCell ⟨gb161, 7, none⟩ (.int .i64 ((rd_T60 l0_4 x4_2).f7))).setCell ⟨gb161, 8, none⟩ (.int .i64 ((rd_T60 l0_4 x4_2).f8)))) := ⟨by repeat (first | (with_reducible first | exact HB.out | apply below_alloc | apply pw_below_drewN | apply below_drew1 | refine below_set ?_ GE151.out | refine below_set ?_ GE161.out) | exact HB.out)⟩
                        (try clear HO_3)
                        (try clear BK151)
                        (try clear BK161)
                        (try clear HB)
                        generalize (((((((((w33.setCell ⟨gb161, 0, none⟩ (.bool ((rd_T60 l0_4 x4_2).f0))).setCell ⟨gb161, 1, none⟩ (.bool ((rd_T60 l0_4 x4_2).f1))).setCell ⟨gb161, 2, none⟩ (.bool ((rd_T60 l0_4 x4_2).f2))).setCell ⟨gb161, 3, none⟩ (.bool ((rd_T60 l0_4 x4_2).f3))).setCell ⟨gb161, 4, none⟩ (.bool ((rd_T60 l0_4 x4_2).f4))).setCell ⟨gb161, 5, none⟩ (.int .u32 ((rd_T60 l0_4 x4_2).f5))).setCell ⟨gb161, 6, none⟩ (.int .i64 ((rd_T60 l0_4 x4_2).f6))).setCell ⟨gb161, 7, none⟩ (.int .i64 ((rd_T60 l0_4 x4_2).f7))).setCell ⟨gb161, 8, none⟩ (.int .i64 ((rd_T60 l0_4 x4_2).f8))) = w36 at n0_ n1_ n2_ n3_ ⊢
                        have HO_3 := n0_
                        have BK151 := n1_
                        have BK161 := n2_
                        have HB := n3_
                        clear n0_ n1_ n2_ n3_
                        (try (rw [drewN_self w36]; generalize hq_ : World.drewN w36 _ = w36; have n0_ : Aside0 (Kd.R (Kd.int .u8) 5 w36 w.heap.size (fun _ => True) u3 x3_2) := ⟨by rw [← hq_]; exact (by (with_reducible repeat (first | apply Kd.R_alloc | apply Kd.R_drewN | apply Kd.R_drew)); exact HO_3.out)⟩; have n1_ : Aside0 (w36.heap[gb151]? = some (.cells #[.int .i64 a0_0, .int .i64 a0_1, .int .i64 a0_2, .int .i64 a0_3, .slice (some ad160) l0_4.length c0_4] 44 (0, 0))) := ⟨by rw [← hq_]; exact (by (with_reducible repeat (first | refine blk_drewN ?_ _ | refine blk_drew ?_ | refine blk_alloc ?_ _)); exact BK151.out)⟩; have n2_ : Aside0 (w36.heap[gb161]? = some (.cells #[.bool ((rd_T60 l0_4 x4_2).f0), .bool ((rd_T60 l0_4 x4_2).f1), .bool ((rd_T60 l0_4 x4_2).f2), .bool ((rd_T60 l0_4 x4_2).f3), .bool ((rd_T60 l0_4 x4_2).f4), .int .u32 ((rd_T60 l0_4 x4_2).f5), .int .i64 ((rd_T60 l0_4 x4_2).f6), .int .i64 ((rd_T60 l0_4 x4_2).f7), .int .i64 ((rd_T60 l0_4 x4_2).f8)] 60 (0, 0))) := ⟨by rw [← hq_]; exact (by (with_reducible repeat (first | refine blk_drewN ?_ _ | refine blk_drew ?_ | refine blk_alloc ?_ _)); exact BK161.out)⟩; have n3_ : Aside0 (Below w.heap.size w w36) := ⟨by rw [← hq_]; exact (by repeat (first | (with_reducible first | exact HB.out | apply below_alloc | apply pw_below_drewN | apply below_drew1 | refine below_set ?_ GE151.out | refine below_set ?_ GE161.out) | exact HB.out))⟩; clear HO_3 BK151 BK161 HB hq_; have HO_3 := n0_; have BK151 := n1_; have BK161 := n2_; have HB := n3_; clear n0_ n1_ n2_ n3_))
                        have n0_ := Aside0.mk (Kd.R_drew HO_3.out)
                        have n1_ := Aside0.mk (blk_drew BK151.out)
                        have n2_ := Aside0.mk (blk_drew BK161.out)
                        have n3_ := Aside0.mk (below_drew1 HB.out)
                        clear HO_3
                        clear BK151
                        clear BK161
                        clear HB
                        have HO_3 := n0_
                        have BK151 := n1_
                        have BK161 := n2_
                        have HB := n3_
                        clear n0_ n1_ n2_ n3_
                        refine start_ (n := 31) (S := fun w' => w'.cell? ⟨gb161, 0, none⟩ = some (.bool ((rd_T60 l0_4 x4_2).f0)) ∧ w'.cell? ⟨gb161, 1, none⟩ = some (.bool ((rd_T60 l0_4 x4_2).f1)) ∧ w'.cell? ⟨gb161, 2, none⟩ = some (.bool ((rd_T60 l0_4 x4_2).f2)) ∧ w'.cell? ⟨gb161, 3, none⟩ = some (.bool ((rd_T60 l0_4 x4_2).f3)) ∧ w'.cell? ⟨gb161, 4, none⟩ = some (.bool ((rd_T60 l0_4 x4_2).f4)) ∧ w'.cell? ⟨gb161, 5, none⟩ = some (.int .u32 ((rd_T60 l0_4 x4_2).f5)) ∧ w'.cell? ⟨gb161, 6, none⟩ = some (.int .i64 ((rd_T60 l0_4 x4_2).f6)) ∧ w'.cell? ⟨gb161, 7, none⟩ = some (.int .i64 ((rd_T60 l0_4 x4_2).f7)) ∧ w'.cell? ⟨gb161, 8, none⟩ = some (.int .i64 ((rd_T60 l0_4 x4_2).f8))) (ds := []) #[false, false, false, false, false, false, false, false, false, false, false, false, false, false, false, false, false, false, false, false, false, false, false, false, false, false, false, false, false, false, false] (by kernel_rfl) rfl rfl ⟨(blk_cell BK161.out 0).trans rfl, (blk_cell BK161.out 1).trans rfl, (blk_cell BK161.out 2).trans rfl, (blk_cell BK161.out 3).trans rfl, (blk_cell BK161.out 4).trans rfl, (blk_cell BK161.out 5).trans rfl, (blk_cell BK161.out 6).trans rfl, (blk_cell BK161.out 7).trans rfl, (blk_cell BK161.out 8).trans rfl⟩ (fun hHeld => ?_); refine with_tabW presidioref6_PutBill.tab10 presidioref6_PutBill.bits10 (fun HT_ HW_ => ?_)
                        generalize w36.drew = w37 at HO_3 BK151 BK161 HB hHeld ⊢
                        refine pure_ (i := 0) (N := some 80) (v := ?_) (a' := ?_) #[true, false, false, false, false, false, false, false, false, false, false, false, false, false, false, false, false, false, false, false, false, false, false, false, false, false, false, false, false, false, false] rfl rfl (any_of HT_.out (by kernel_rfl)) (fun _ _ _ h => h) (Or.inl ⟨by rfl, ?_⟩) ?_ ?_
                        rotate_left
                        · intro w'
                          go_simp
                          with_reducible rfl
                        rotate_left
                        · simp only [Act.put, List.setIfInBounds_toArray, List.set_cons_zero, List.set_cons_succ, i64_w, i32_w]
                          rfl
                        refine pure_ (i := 4) (N := some 84) (v := ?_) (a' := ?_) #[true, false, false, false, true, false, false, false, false, false, false, false, false, false, false, false, false, false, false, false, false, false, false, false, false, false, false, false, false, false, false] rfl rfl (any_of HT_.out (by kernel_rfl)) (fun _ _ _ h => h) (Or.inl ⟨by rfl, ?_⟩) ?_ ?_
                        rotate_left
                        · intro w'
                          go_simp
                          with_reducible rfl
                        rotate_left
                        · simp only [Act.put, List.setIfInBounds_toArray, List.set_cons_zero, List.set_cons_succ, i64_w, i32_w]
                          rfl
                        refine pure_ (i := 8) (N := some 88) (v := ?_) (a' := ?_) #[true, false, false, false, true, false, false, false, true, false, false, false, false, false, false, false, false, false, false, false, false, false, false, false, false, false, false, false, false, false, false] rfl rfl (any_of HT_.out (by kernel_rfl)) (fun _ _ _ h => h) (Or.inl ⟨by rfl, ?_⟩) ?_ ?_
                        rotate_left
                        · intro w'
                          go_simp
                          with_reducible rfl
                        rotate_left
                        · simp only [Act.put, List.setIfInBounds_toArray, List.set_cons_zero, List.set_cons_succ, i64_w, i32_w]
                          rfl
                        refine pure_ (i := 12) (N := some 92) (v := ?_) (a' := ?_) #[true, false, false, false, true, false, false, false, true, false, false, false, true, false, false, false, false, false, false, false, false, false, false, false, false, false, false, false, false, false, false] rfl rfl (any_of HT_.out (by kernel_rfl)) (fun _ _ _ h => h) (Or.inl ⟨by rfl, ?_⟩) ?_ ?_
                        rotate_left
                        · intro w'
                          go_simp
                          with_reducible rfl
                        rotate_left
                        · simp only [Act.put, List.setIfInBounds_toArray, List.set_cons_zero, List.set_cons_succ, i64_w, i32_w]
                          rfl
                        refine pure_ (i := 16) (N := some 96) (v := ?_) (a' := ?_) #[true, false, false, false, true, false, false, false, true, false, false, false, true, false, false, false, true, false, false, false, false, false, false, false, false, false, false, false, false, false, false] rfl rfl (any_of HT_.out (by kernel_rfl)) (fun _ _ _ h => h) (Or.inl ⟨by rfl, ?_⟩) ?_ ?_
                        rotate_left
                        · intro w'
                          go_simp
                          with_reducible rfl
                        rotate_left
                        · simp only [Act.put, List.setIfInBounds_toArray, List.set_cons_zero, List.set_cons_succ, i64_w, i32_w]
                          rfl
                        refine pure_ (i := 19) (N := some 99) (v := ?_) (a' := ?_) #[true, false, false, false, true, false, false, false, true, false, false, false, true, false, false, false, true, false, false, true, false, false, false, false, false, false, false, false, false, false, false] rfl rfl (any_of HT_.out (by kernel_rfl)) (fun _ _ _ h => h) (Or.inl ⟨by rfl, ?_⟩) ?_ ?_
                        rotate_left
                        · intro w'
                          go_simp
                          with_reducible rfl
                        rotate_left
                        · simp only [Act.put, List.setIfInBounds_toArray, List.set_cons_zero, List.set_cons_succ, i64_w, i32_w]
                          rfl
                        refine pure_ (i := 22) (N := some 102) (v := ?_) (a' := ?_) #[true, false, false, false, true, false, false, false, true, false, false, false, true, false, false, false, true, false, false, true, false, false, true, false, false, false, false, false, false, false, false] rfl rfl (any_of HT_.out (by kernel_rfl)) (fun _ _ _ h => h) (Or.inl ⟨by rfl, ?_⟩) ?_ ?_
                        rotate_left
                        · intro w'
                          go_simp
                          with_reducible rfl
                        rotate_left
                        · simp only [Act.put, List.setIfInBounds_toArray, List.set_cons_zero, List.set_cons_succ, i64_w, i32_w]
                          rfl
                        refine pure_ (i := 25) (N := some 105) (v := ?_) (a' := ?_) #[true, false, false, false, true, false, false, false, true, false, false, false, true, false, false, false, true, false, false, true, false, false, true, false, false, true, false, false, false, false, false] rfl rfl (any_of HT_.out (by kernel_rfl)) (fun _ _ _ h => h) (Or.inl ⟨by rfl, ?_⟩) ?_ ?_
                        rotate_left
                        · intro w'
                          go_simp
                          with_reducible rfl
                        rotate_left
                        · simp only [Act.put, List.setIfInBounds_toArray, List.set_cons_zero, List.set_cons_succ, i64_w, i32_w]
                          rfl
                        refine take_ (i := 1) (N := some 81) (v := ?_) (a' := ?_) #[true, true, false, false, true, false, false, false, true, false, false, false, true, false, false, false, true, false, false, true, false, false, true, false, false, true, false, false, false, false, false] rfl rfl (take_ofW HT_.out HW_.out (by kernel_rfl)) (fun _ _ _ h => h) (Or.inl ⟨by rfl, ?_⟩) hHeld ?_ ?_
                        rotate_left
                        · rintro w' ⟨s0, s1, s2, s3, s4, s5, s6, s7, s8⟩
                          go_simp
                          with_reducible rfl
                        rotate_left
                        · simp only [Act.put, List.setIfInBounds_toArray, List.set_cons_zero, List.set_cons_succ, i64_w, i32_w]
                          rfl
                        refine take_ (i := 5) (N := some 85) (v := ?_) (a' := ?_) #[true, true, false, false, true, true, false, false, true, false, false, false, true, false, false, false, true, false, false, true, false, false, true, false, false, true, false, false, false, false, false] rfl rfl (take_ofW HT_.out HW_.out (by kernel_rfl)) (fun _ _ _ h => h) (Or.inl ⟨by rfl, ?_⟩) hHeld ?_ ?_
                        rotate_left
                        · rintro w' ⟨s0, s1, s2, s3, s4, s5, s6, s7, s8⟩
                          go_simp
                          with_reducible rfl
                        rotate_left
                        · simp only [Act.put, List.setIfInBounds_toArray, List.set_cons_zero, List.set_cons_succ, i64_w, i32_w]
                          rfl
                        refine pure_ (i := 6) (N := some 86) (v := ?_) (a' := ?_) #[true, true, false, false, true, true, true, false, true, false, false, false, true, false, false, false, true, false, false, true, false, false, true, false, false, true, false, false, false, false, false] rfl rfl (any_of HT_.out (by kernel_rfl)) (fun _ _ _ h => h) (Or.inl ⟨by rfl, ?_⟩) ?_ ?_
                        rotate_left
                        · intro w'
                          go_simp
                          with_reducible rfl
                        rotate_left
                        · simp only [Act.put, List.setIfInBounds_toArray, List.set_cons_zero, List.set_cons_succ, i64_w, i32_w]
                          rfl
                        refine pure_ (i := 7) (N := some 87) (v := ?_) (a' := ?_) #[true, true, false, false, true, true, true, true, true, false, false, false, true, false, false, false, true, false, false, true, false, false, true, false, false, true, false, false, false, false, false] rfl rfl (any_of HT_.out (by kernel_rfl)) (fun _ _ _ h => h) (Or.inl ⟨by rfl, ?_⟩) ?_ ?_
                        rotate_left
                        · intro w'
                          go_simp
                          with_reducible rfl
                        rotate_left
                        · simp only [Act.put, List.setIfInBounds_toArray, List.set_cons_zero, List.set_cons_succ, i64_w, i32_w]
                          rfl
                        refine take_ (i := 9) (N := some 89) (v := ?_) (a' := ?_) #[true, true, false, false, true, true, true, true, true, true, false, false, true, false, false, false, true, false, false, true, false, false, true, false, false, true, false, false, false, false, false] rfl rfl (take_ofW HT_.out HW_.out (by kernel_rfl)) (fun _ _ _ h => h) (Or.inl ⟨by rfl, ?_⟩) hHeld ?_ ?_
                        rotate_left
                        · rintro w' ⟨s0, s1, s2, s3, s4, s5, s6, s7, s8⟩
                          go_simp
                          with_reducible rfl
                        rotate_left
                        · simp only [Act.put, List.setIfInBounds_toArray, List.set_cons_zero, List.set_cons_succ, i64_w, i32_w]
                          rfl
                        refine pure_ (i := 10) (N := some 90) (v := ?_) (a' := ?_) #[true, true, false, false, true, true, true, true, true, true, true, false, true, false, false, false, true, false, false, true, false, false, true, false, false, true, false, false, false, false, false] rfl rfl (any_of HT_.out (by kernel_rfl)) (fun _ _ _ h => h) (Or.inl ⟨by rfl, ?_⟩) ?_ ?_
                        rotate_left
                        · intro w'
                          go_simp
                          with_reducible rfl
                        rotate_left
                        · simp only [Act.put, List.setIfInBounds_toArray, List.set_cons_zero, List.set_cons_succ, i64_w, i32_w]
                          rfl
                        refine pure_ (i := 11) (N := some 91) (v := ?_) (a' := ?_) #[true, true, false, false, true, true, true, true, true, true, true, true, true, false, false, false, true, false, false, true, false, false, true, false, false, true, false, false, false, false, false] rfl rfl (any_of HT_.out (by kernel_rfl)) (fun _ _ _ h => h) (Or.inl ⟨by rfl, ?_⟩) ?_ ?_
                        rotate_left
                        · intro w'
                          go_simp
                          with_reducible rfl
                        rotate_left
                        · simp only [Act.put, List.setIfInBounds_toArray, List.set_cons_zero, List.set_cons_succ, i64_w, i32_w]
                          rfl
                        refine take_ (i := 13) (N := some 93) (v := ?_) (a' := ?_) #[true, true, false, false, true, true, true, true, true, true, true, true, true, true, false, false, true, false, false, true, false, false, true, false, false, true, false, false, false, false, false] rfl rfl (take_ofW HT_.out HW_.out (by kernel_rfl)) (fun _ _ _ h => h) (Or.inl ⟨by rfl, ?_⟩) hHeld ?_ ?_
                        rotate_left
                        · rintro w' ⟨s0, s1, s2, s3, s4, s5, s6, s7, s8⟩
                          go_simp
                          with_reducible rfl
                        rotate_left
                        · simp only [Act.put, List.setIfInBounds_toArray, List.set_cons_zero, List.set_cons_succ, i64_w, i32_w]
                          rfl
                        refine pure_ (i := 14) (N := some 94) (v := ?_) (a' := ?_) #[true, true, false, false, true, true, true, true, true, true, true, true, true, true, true, false, true, false, false, true, false, false, true, false, false, true, false, false, false, false, false] rfl rfl (any_of HT_.out (by kernel_rfl)) (fun _ _ _ h => h) (Or.inl ⟨by rfl, ?_⟩) ?_ ?_
                        rotate_left
                        · intro w'
                          go_simp
                          with_reducible rfl
                        rotate_left
                        · simp only [Act.put, List.setIfInBounds_toArray, List.set_cons_zero, List.set_cons_succ, i64_w, i32_w]
                          rfl
                        refine pure_ (i := 15) (N := some 95) (v := ?_) (a' := ?_) #[true, true, false, false, true, true, true, true, true, true, true, true, true, true, true, true, true, false, false, true, false, false, true, false, false, true, false, false, false, false, false] rfl rfl (any_of HT_.out (by kernel_rfl)) (fun _ _ _ h => h) (Or.inl ⟨by rfl, ?_⟩) ?_ ?_
                        rotate_left
                        · intro w'
                          go_simp
                          with_reducible rfl
                        rotate_left
                        · simp only [Act.put, List.setIfInBounds_toArray, List.set_cons_zero, List.set_cons_succ, i64_w, i32_w]
                          rfl
                        refine take_ (i := 17) (N := some 97) (v := ?_) (a' := ?_) #[true, true, false, false, true, true, true, true, true, true, true, true, true, true, true, true, true, true, false, true, false, false, true, false, false, true, false, false, false, false, false] rfl rfl (take_ofW HT_.out HW_.out (by kernel_rfl)) (fun _ _ _ h => h) (Or.inl ⟨by rfl, ?_⟩) hHeld ?_ ?_
                        rotate_left
                        · rintro w' ⟨s0, s1, s2, s3, s4, s5, s6, s7, s8⟩
                          go_simp
                          with_reducible rfl
                        rotate_left
                        · simp only [Act.put, List.setIfInBounds_toArray, List.set_cons_zero, List.set_cons_succ, i64_w, i32_w]
                          rfl
                        refine pure_ (i := 18) (N := some 98) (v := ?_) (a' := ?_) #[true, true, false, false, true, true, true, true, true, true, true, true, true, true, true, true, true, true, true, true, false, false, true, false, false, true, false, false, false, false, false] rfl rfl (any_of HT_.out (by kernel_rfl)) (fun _ _ _ h => h) (Or.inl ⟨by rfl, ?_⟩) ?_ ?_
                        rotate_left
                        · intro w'
                          go_simp
                          with_reducible rfl
                        rotate_left
                        · simp only [Act.put, List.setIfInBounds_toArray, List.set_cons_zero, List.set_cons_succ, i64_w, i32_w]
                          rfl
                        refine take_ (i := 20) (N := some 100) (v := ?_) (a' := ?_) #[true, true, false, false, true, true, true, true, true, true, true, true, true, true, true, true, true, true, true, true, true, false, true, false, false, true, false, false, false, false, false] rfl rfl (take_ofW HT_.out HW_.out (by kernel_rfl)) (fun _ _ _ h => h) (Or.inl ⟨by rfl, ?_⟩) hHeld ?_ ?_
                        rotate_left
                        · rintro w' ⟨s0, s1, s2, s3, s4, s5, s6, s7, s8⟩
                          go_simp
                          with_reducible rfl
                        rotate_left
                        · simp only [Act.put, List.setIfInBounds_toArray, List.set_cons_zero, List.set_cons_succ, i64_w, i32_w]
                          rfl
                        refine pure_ (i := 21) (N := some 101) (v := ?_) (a' := ?_) #[true, true, false, false, true, true, true, true, true, true, true, true, true, true, true, true, true, true, true, true, true, true, true, false, false, true, false, false, false, false, false] rfl rfl (any_of HT_.out (by kernel_rfl)) (fun _ _ _ h => h) (Or.inl ⟨by rfl, ?_⟩) ?_ ?_
                        rotate_left
                        · intro w'
                          go_simp
                          with_reducible rfl
                        rotate_left
                        · simp only [Act.put, List.setIfInBounds_toArray, List.set_cons_zero, List.set_cons_succ, i64_w, i32_w]
                          rfl
                        refine take_ (i := 23) (N := some 103) (v := ?_) (a' := ?_) #[true, true, false, false, true, true, true, true, true, true, true, true, true, true, true, true, true, true, true, true, true, true, true, true, false, true, false, false, false, false, false] rfl rfl (take_ofW HT_.out HW_.out (by kernel_rfl)) (fun _ _ _ h => h) (Or.inl ⟨by rfl, ?_⟩) hHeld ?_ ?_
                        rotate_left
                        · rintro w' ⟨s0, s1, s2, s3, s4, s5, s6, s7, s8⟩
                          go_simp
                          with_reducible rfl
                        rotate_left
                        · simp only [Act.put, List.setIfInBounds_toArray, List.set_cons_zero, List.set_cons_succ, i64_w, i32_w]
                          rfl
                        refine pure_ (i := 24) (N := some 104) (v := ?_) (a' := ?_) #[true, true, false, false, true, true, true, true, true, true, true, true, true, true, true, true, true, true, true, true, true, true, true, true, true, true, false, false, false, false, false] rfl rfl (any_of HT_.out (by kernel_rfl)) (fun _ _ _ h => h) (Or.inl ⟨by rfl, ?_⟩) ?_ ?_
                        rotate_left
                        · intro w'
                          go_simp
                          with_reducible rfl
                        rotate_left
                        · simp only [Act.put, List.setIfInBounds_toArray, List.set_cons_zero, List.set_cons_succ, i64_w, i32_w]
                          rfl
                        refine take_ (i := 26) (N := some 106) (v := ?_) (a' := ?_) #[true, true, false, false, true, true, true, true, true, true, true, true, true, true, true, true, true, true, true, true, true, true, true, true, true, true, true, false, false, false, false] rfl rfl (take_ofW HT_.out HW_.out (by kernel_rfl)) (fun _ _ _ h => h) (Or.inl ⟨by rfl, ?_⟩) hHeld ?_ ?_
                        rotate_left
                        · rintro w' ⟨s0, s1, s2, s3, s4, s5, s6, s7, s8⟩
                          go_simp
                          with_reducible rfl
                        rotate_left
                        · simp only [Act.put, List.setIfInBounds_toArray, List.set_cons_zero, List.set_cons_succ, i64_w, i32_w]
                          rfl
                        refine pure_ (i := 27) (N := some 107) (v := ?_) (a' := ?_) #[true, true, false, false, true, true, true, true, true, true, true, true, true, true, true, true, true, true, true, true, true, true, true, true, true, true, true, true, false, false, false] rfl rfl (any_of HT_.out (by kernel_rfl)) (fun _ _ _ h => h) (Or.inl ⟨by rfl, ?_⟩) ?_ ?_
                        rotate_left
                        · intro w'
                          go_simp
                          with_reducible rfl
                        rotate_left
                        · simp only [Act.put, List.setIfInBounds_toArray, List.set_cons_zero, List.set_cons_succ, i64_w, i32_w]
                          rfl
                        refine one_ (i := 2) (N := some 82) #[true, true, true, false, true, true, true, true, true, true, true, true, true, true, true, true, true, true, true, true, true, true, true, true, true, true, true, true, false, false, false] rfl rfl (one_of HT_.out (by kernel_rfl)) (by decide) (fun K hK => ?_)
                        refine goes_ Try.func43 (by kernel_rfl) rfl #[.agg #[.bool ((rd_T60 l0_4 x4_2).f0), .bool ((rd_T60 l0_4 x4_2).f1), .bool ((rd_T60 l0_4 x4_2).f2), .bool ((rd_T60 l0_4 x4_2).f3), .bool ((rd_T60 l0_4 x4_2).f4), .int .u32 ((rd_T60 l0_4 x4_2).f5), .int .i64 ((rd_T60 l0_4 x4_2).f6), .int .i64 ((rd_T60 l0_4 x4_2).f7), .int .i64 ((rd_T60 l0_4 x4_2).f8)]] (by rfl) rfl rfl (by (try simp only [List.map_toArray, List.map_cons, List.map_nil]); first | done | rfl | (simp only [List.length_drop, List.length_take]; rfl)) ?_
                        with_reducible refine (presidioref6_Bits.calls k2 ((rd_T60 l0_4 x4_2).f0) ((rd_T60 l0_4 x4_2).f1) ((rd_T60 l0_4 x4_2).f2) ((rd_T60 l0_4 x4_2).f3) ((rd_T60 l0_4 x4_2).f4) ((rd_T60 l0_4 x4_2).f5) ((rd_T60 l0_4 x4_2).f6) ((rd_T60 l0_4 x4_2).f7) ((rd_T60 l0_4 x4_2).f8) t165 _ A30.out).mono ?_
                        rintro e w38 ⟨rfl, hb⟩
                        refine ⟨_, rfl, ?_⟩
                        have n0_ := Aside0.mk (Kd.R_below (by (with_reducible repeat (first | apply Kd.R_alloc | apply Kd.R_drewN | apply Kd.R_drew)); exact HO_3.out) hb)
                        have n1_ := Aside0.mk (blk_below (g := gb151) (o := .cells #[.int .i64 a0_0, .int .i64 a0_1, .int .i64 a0_2, .int .i64 a0_3, .slice (some ad160) l0_4.length c0_4] 44 (0, 0)) (by (with_reducible repeat (first | refine blk_drewN ?_ _ | refine blk_drew ?_ | refine blk_alloc ?_ _)); exact BK151.out) hb)
                        have n2_ := Aside0.mk (blk_below (g := gb161) (o := .cells #[.bool ((rd_T60 l0_4 x4_2).f0), .bool ((rd_T60 l0_4 x4_2).f1), .bool ((rd_T60 l0_4 x4_2).f2), .bool ((rd_T60 l0_4 x4_2).f3), .bool ((rd_T60 l0_4 x4_2).f4), .int .u32 ((rd_T60 l0_4 x4_2).f5), .int .i64 ((rd_T60 l0_4 x4_2).f6), .int .i64 ((rd_T60 l0_4 x4_2).f7), .int .i64 ((rd_T60 l0_4 x4_2).f8)] 60 (0, 0)) (by (with_reducible repeat (first | refine blk_drewN ?_ _ | refine blk_drew ?_ | refine blk_alloc ?_ _)); exact BK161.out) hb)
                        have n3_ := Aside0.mk (below_step (by repeat (first | (with_reducible first | exact HB.out | apply below_alloc | apply pw_below_drewN | apply below_drew1 | refine below_set ?_ GE151.out | refine below_set ?_ GE161.out) | exact HB.out)) hb)
                        clear HO_3
                        clear BK151
                        clear BK161
                        clear HB
                        have HO_3 := n0_
                        have BK151 := n1_
                        have BK161 := n2_
                        have HB := n3_
                        clear n0_ n1_ n2_ n3_
                        (try clear hb)
                        (try clear hb2)
                        (try clear hk)
                        (try clear hi)
                        refine hK.out _ _ ⟨(blk_cell BK161.out 0).trans rfl, (blk_cell BK161.out 1).trans rfl, (blk_cell BK161.out 2).trans rfl, (blk_cell BK161.out 3).trans rfl, (blk_cell BK161.out 4).trans rfl, (blk_cell BK161.out 5).trans rfl, (blk_cell BK161.out 6).trans rfl, (blk_cell BK161.out 7).trans rfl, (blk_cell BK161.out 8).trans rfl⟩ (fun hHeld => ?_)
                        clear hK K
                        refine norm_ (a' := ?_) ?_ ?_
                        rotate_left
                        · show Act.put _ (some 82) _ = _
                          simp only [Act.put, List.setIfInBounds_toArray, List.set_cons_zero, List.set_cons_succ, i64_w, i32_w]
                          rfl
                        refine pure_ (i := 3) (N := some 83) (v := ?_) (a' := ?_) #[true, true, true, true, true, true, true, true, true, true, true, true, true, true, true, true, true, true, true, true, true, true, true, true, true, true, true, true, false, false, false] rfl rfl (any_of HT_.out (by kernel_rfl)) (fun _ _ _ h => h) (Or.inl ⟨by rfl, ?_⟩) ?_ ?_
                        rotate_left
                        · intro w'
                          go_simp
                          with_reducible rfl
                        rotate_left
                        · simp only [Act.put, List.setIfInBounds_toArray, List.set_cons_zero, List.set_cons_succ, i64_w, i32_w]
                          rfl
                        refine one_ (i := 28) (N := some 108) #[true, true, true, true, true, true, true, true, true, true, true, true, true, true, true, true, true, true, true, true, true, true, true, true, true, true, true, true, true, false, false] rfl rfl (one_of HT_.out (by kernel_rfl)) (by decide) (fun K hK => ?_)
                        refine Kd.R_lit_step (Kd.int .u8) _ 5 ?hg (N := 108) ?hd (xs := ([(t165) % 256, (((rd_T60 l0_4 x4_2).f5) / 16777216) % 256, (((rd_T60 l0_4 x4_2).f5) / 65536) % 256, (((rd_T60 l0_4 x4_2).f5) / 256) % 256, ((rd_T60 l0_4 x4_2).f5) % 256, ((rd_T60 l0_4 x4_2).f6) % 256, ((rd_T60 l0_4 x4_2).f7) % 256, ((rd_T60 l0_4 x4_2).f8) % 256] : List Int)) (inner := [.int .u8 ((t165) % 256), .int .u8 ((((rd_T60 l0_4 x4_2).f5) / 16777216) % 256), .int .u8 ((((rd_T60 l0_4 x4_2).f5) / 65536) % 256), .int .u8 ((((rd_T60 l0_4 x4_2).f5) / 256) % 256), .int .u8 (((rd_T60 l0_4 x4_2).f5) % 256), .int .u8 (((rd_T60 l0_4 x4_2).f6) % 256), .int .u8 (((rd_T60 l0_4 x4_2).f7) % 256), .int .u8 (((rd_T60 l0_4 x4_2).f8) % 256)]) (ok := fun _ => True) (okp := fun _ => True) ?hr ?hp (fun _ hk => hk) trivial (Below.refl _ _) (Nat.le_refl _) (by simp) ?_; (case hd => rfl); (case hg => rfl); (case hr => first | (go_simp; done) | (go_simp; rfl)); (case hp => exact (Reps.one (show Kd.M (Kd.int .u8) _ _ _ ((t165) % 256) [.int .u8 ((t165) % 256)] from rfl) (Reps.one (show Kd.M (Kd.int .u8) _ _ _ ((((rd_T60 l0_4 x4_2).f5) / 16777216) % 256) [.int .u8 ((((rd_T60 l0_4 x4_2).f5) / 16777216) % 256)] from rfl) (Reps.one (show Kd.M (Kd.int .u8) _ _ _ ((((rd_T60 l0_4 x4_2).f5) / 65536) % 256) [.int .u8 ((((rd_T60 l0_4 x4_2).f5) / 65536) % 256)] from rfl) (Reps.one (show Kd.M (Kd.int .u8) _ _ _ ((((rd_T60 l0_4 x4_2).f5) / 256) % 256) [.int .u8 ((((rd_T60 l0_4 x4_2).f5) / 256) % 256)] from rfl) (Reps.one (show Kd.M (Kd.int .u8) _ _ _ (((rd_T60 l0_4 x4_2).f5) % 256) [.int .u8 (((rd_T60 l0_4 x4_2).f5) % 256)] from rfl) (Reps.one (show Kd.M (Kd.int .u8) _ _ _ (((rd_T60 l0_4 x4_2).f6) % 256) [.int .u8 (((rd_T60 l0_4 x4_2).f6) % 256)] from rfl) (Reps.one (show Kd.M (Kd.int .u8) _ _ _ (((rd_T60 l0_4 x4_2).f7) % 256) [.int .u8 (((rd_T60 l0_4 x4_2).f7) % 256)] from rfl) (Reps.one (show Kd.M (Kd.int .u8) _ _ _ (((rd_T60 l0_4 x4_2).f8) % 256) [.int .u8 (((rd_T60 l0_4 x4_2).f8) % 256)] from rfl) (Reps.none _ _))))))))))
                        intro v167 w39 ho40 hb hg_ hnew_
                        clear hg_ hnew_
                        (first | rw [← Ny166.out] at ho40 | (simp only [Int.reduceToNat] at ho40; rw [← Ny166.out] at ho40))
                        have n0_ := Aside0.mk (Kd.R_elder' (by (with_reducible repeat (first | apply Kd.R_alloc | apply Kd.R_drewN | apply Kd.R_drew)); exact HO_3.out) (Kd.R_base ho40) hb)
                        have n1_ := Aside0.mk (Kd.R_lower (Kd.R_new' ho40 (Kd.R_lt (by (with_reducible repeat (first | apply Kd.R_alloc | apply Kd.R_drewN | apply Kd.R_drew)); exact HO_3.out))) (below_size (by repeat (first | (with_reducible first | exact HB.out | apply below_alloc | apply pw_below_drewN | apply below_drew1 | refine below_set ?_ GE151.out | refine below_set ?_ GE161.out) | exact HB.out))))
                        have n2_ := Aside0.mk (blk_below (g := gb151) (o := .cells #[.int .i64 a0_0, .int .i64 a0_1, .int .i64 a0_2, .int .i64 a0_3, .slice (some ad160) l0_4.length c0_4] 44 (0, 0)) (by (with_reducible repeat (first | refine blk_drewN ?_ _ | refine blk_drew ?_ | refine blk_alloc ?_ _)); exact BK151.out) hb)
                        have n3_ := Aside0.mk (blk_below (g := gb161) (o := .cells #[.bool ((rd_T60 l0_4 x4_2).f0), .bool ((rd_T60 l0_4 x4_2).f1), .bool ((rd_T60 l0_4 x4_2).f2), .bool ((rd_T60 l0_4 x4_2).f3), .bool ((rd_T60 l0_4 x4_2).f4), .int .u32 ((rd_T60 l0_4 x4_2).f5), .int .i64 ((rd_T60 l0_4 x4_2).f6), .int .i64 ((rd_T60 l0_4 x4_2).f7), .int .i64 ((rd_T60 l0_4 x4_2).f8)] 60 (0, 0)) (by (with_reducible repeat (first | refine blk_drewN ?_ _ | refine blk_drew ?_ | refine blk_alloc ?_ _)); exact BK161.out) hb)
                        have n4_ := Aside0.mk (below_step (by repeat (first | (with_reducible first | exact HB.out | apply below_alloc | apply pw_below_drewN | apply below_drew1 | refine below_set ?_ GE151.out | refine below_set ?_ GE161.out) | exact HB.out)) hb)
                        clear HO_3
                        clear BK151
                        clear BK161
                        clear HB
                        have HO_3 := n0_
                        have HO168 := n1_
                        have BK151 := n2_
                        have BK161 := n3_
                        have HB := n4_
                        clear n0_ n1_ n2_ n3_ n4_
                        clear hb ho40
                        obtain ⟨Ao42, co42, eo42⟩ := Kd.R_slice HO168.out
                        (first | subst eo42 | (injection eo42 with f1_ f2_ f3_; have f4_ := f1_.symm; have f5_ := f3_.symm; clear f1_ f2_ f3_; subst f4_; subst f5_))
                        refine hK.out _ _ ⟨(blk_cell BK161.out 0).trans rfl, (blk_cell BK161.out 1).trans rfl, (blk_cell BK161.out 2).trans rfl, (blk_cell BK161.out 3).trans rfl, (blk_cell BK161.out 4).trans rfl, (blk_cell BK161.out 5).trans rfl, (blk_cell BK161.out 6).trans rfl, (blk_cell BK161.out 7).trans rfl, (blk_cell BK161.out 8).trans rfl⟩ (fun hHeld => ?_)
                        clear hK K
                        refine norm_ (a' := ?_) ?_ ?_
                        rotate_left
                        · show Act.put _ (some 108) _ = _
                          simp only [Act.put, List.setIfInBounds_toArray, List.set_cons_zero, List.set_cons_succ, i64_w, i32_w]
                          rfl
                        refine one_ (i := 29) (N := some 109) #[true, true, true, true, true, true, true, true, true, true, true, true, true, true, true, true, true, true, true, true, true, true, true, true, true, true, true, true, true, true, false] rfl rfl (one_of HT_.out (by kernel_rfl)) (by decide) (fun K hK => ?_)
                        refine Kd.R_append_rows_step (Kd.int .u8) (w0 := w) w.heap.size (by rfl) (.tmp 80) (.tmp 108) 38 5 (.int .u8 0) 1 rfl Try.underlying38 info5 rfl (by decide) (by omega) u3 x3_2 y166 _ _ _ (fun k_ => some k_ ≠ (.slice Ao42 y166.length co42 : Value).ownBlock) (fun _ => False) rfl rfl ?aO ?aR (fun _ _ h => h) (fun _ h => h.elim) ?aF ?aB ?aS ?aL ?_
                        (case aR => repeat (first | exact (Kd.R_reads' HO168.out).2.2 | (with_reducible refine Kd.C_alloc ?_ _) | (with_reducible refine Kd.C_drewN ?_ _) | (with_reducible refine Kd.C_drew ?_)))
                        (case aB => exact (by repeat (first | (with_reducible first | exact HB.out | apply below_alloc | apply pw_below_drewN | apply below_drew1 | refine below_set ?_ GE151.out | refine below_set ?_ GE161.out) | exact HB.out)))
                        (case aF => exact (fun k_ hk => Kd.fresh' (Kd.R_lt (by (with_reducible repeat (first | apply Kd.R_alloc | apply Kd.R_drewN | apply Kd.R_drew)); exact HO168.out)) k_ hk))
                        (case aO => exact (by (with_reducible repeat (first | apply Kd.R_alloc | apply Kd.R_drewN | apply Kd.R_drew)); exact Kd.R_mono HO_3.out (fun _ hk => hk.2)))
                        (case aS => exact (below_size (by repeat (first | (with_reducible first | exact HB.out | apply below_alloc | apply pw_below_drewN | apply below_drew1 | refine below_set ?_ GE151.out | refine below_set ?_ GE161.out) | exact HB.out))))
                        (case aL => have := LMc31.out; omega)
                        intro v170 w41 ho hb hg hat
                        rw [← Ny169.out] at ho
                        have n0_ := Aside0.mk (blk_grown (g := gb151) (o := .cells #[.int .i64 a0_0, .int .i64 a0_1, .int .i64 a0_2, .int .i64 a0_3, .slice (some ad160) l0_4.length c0_4] 44 (0, 0)) (by (with_reducible repeat (first | refine blk_drewN ?_ _ | refine blk_drew ?_ | refine blk_alloc ?_ _)); exact BK151.out) hg (Kd.R_ne HO_3.out BK151.out (by decide)))
                        have n1_ := Aside0.mk (blk_grown (g := gb161) (o := .cells #[.bool ((rd_T60 l0_4 x4_2).f0), .bool ((rd_T60 l0_4 x4_2).f1), .bool ((rd_T60 l0_4 x4_2).f2), .bool ((rd_T60 l0_4 x4_2).f3), .bool ((rd_T60 l0_4 x4_2).f4), .int .u32 ((rd_T60 l0_4 x4_2).f5), .int .i64 ((rd_T60 l0_4 x4_2).f6), .int .i64 ((rd_T60 l0_4 x4_2).f7), .int .i64 ((rd_T60 l0_4 x4_2).f8)] 60 (0, 0)) (by (with_reducible repeat (first | refine blk_drewN ?_ _ | refine blk_drew ?_ | refine blk_alloc ?_ _)); exact BK161.out) hg (Kd.R_ne HO_3.out BK161.out (by decide)))
                        have n2_ := Aside0.mk (Kd.R_after (ok := (fun _ => True)) (by (with_reducible repeat (first | apply Kd.R_alloc | apply Kd.R_drewN | apply Kd.R_drew)); exact HO168.out) hg hat)
                        have n3_ := Aside0.mk (hb)
                        have n4_ := Aside0.mk (ho)
                        clear BK151
                        clear BK161
                        clear HO168
                        clear HB
                        clear HO_3
                        have BK151 := n0_
                        have BK161 := n1_
                        have HO168 := n2_
                        have HB := n3_
                        have HO171 := n4_
                        clear n0_ n1_ n2_ n3_ n4_
                        clear ho hb hg hat
                        refine hK.out _ _ ⟨(blk_cell BK161.out 0).trans rfl, (blk_cell BK161.out 1).trans rfl, (blk_cell BK161.out 2).trans rfl, (blk_cell BK161.out 3).trans rfl, (blk_cell BK161.out 4).trans rfl, (blk_cell BK161.out 5).trans rfl, (blk_cell BK161.out 6).trans rfl, (blk_cell BK161.out 7).trans rfl, (blk_cell BK161.out 8).trans rfl⟩ (fun hHeld => ?_)
                        clear hK K
                        refine norm_ (a' := ?_) ?_ ?_
                        rotate_left
                        · show Act.put _ (some 109) _ = _
                          simp only [Act.put, List.setIfInBounds_toArray, List.set_cons_zero, List.set_cons_succ, i64_w, i32_w]
                          rfl
                        refine pure_ (i := 30) (N := some 3) (v := ?_) (a' := ?_) #[true, true, true, true, true, true, true, true, true, true, true, true, true, true, true, true, true, true, true, true, true, true, true, true, true, true, true, true, true, true, true] rfl rfl (any_of HT_.out (by kernel_rfl)) (fun _ _ _ h => h) (Or.inl ⟨by rfl, ?_⟩) ?_ ?_
                        rotate_left
                        · intro w'
                          go_simp
                          with_reducible rfl
                        rotate_left
                        · simp only [Act.put, List.setIfInBounds_toArray, List.set_cons_zero, List.set_cons_succ, i64_w, i32_w]
                          rfl
                        refine done_ (done_of HT_.out (by kernel_rfl)) ?_
                        try go_wp2
                        go_roundg k2
                        case measure => have := HJ1.out; have := HK2.out; omega
                        case rel => exact ⟨(y169), (wrap64 (x4_2 + 1)), (by first | rfl | (simp; done) | (simp [*]; done)), H', ⟨by have := HJ1.out; have := HK2.out; omega⟩, ⟨by (with_reducible repeat (first | apply Kd.R_alloc | apply Kd.R_drewN | apply Kd.R_drew)); exact Kd.R_mono HO171.out (fun _ hk => trivial)⟩, ⟨by (with_reducible repeat (first | refine blk_drewN ?_ _ | refine blk_drew ?_ | refine blk_alloc ?_ _)); exact BK151.out⟩, ⟨by repeat (first | (with_reducible first | exact HB.out | apply below_alloc | apply pw_below_drewN | apply below_drew1 | refine below_set ?_ GE151.out | refine below_set ?_ GE161.out) | exact HB.out)⟩⟩
                      · rw [if_neg c31] at H
                        exact absurd H (by simp)
                    · replace c29 := Bool.eq_false_iff.mpr c29
                      subst c29
                      have H1 : (some ([] : List Int)) = some r := by rw [if_neg (show ¬ (false = true) by decide)] at H; exact H
                      clear H
                      have H := H1
                      clear H1
                      obtain rfl := Option.some.inj H
                      have hcz43_0 : wr.cell? ⟨gb151, 0, none⟩ = some (.int .i64 a0_0) := (blk_cell BK151.out 0).trans rfl
                      have hcz43_1 : wr.cell? ⟨gb151, 1, none⟩ = some (.int .i64 a0_1) := (blk_cell BK151.out 1).trans rfl
                      have hcz43_2 : wr.cell? ⟨gb151, 2, none⟩ = some (.int .i64 a0_2) := (blk_cell BK151.out 2).trans rfl
                      have hcz43_3 : wr.cell? ⟨gb151, 3, none⟩ = some (.int .i64 a0_3) := (blk_cell BK151.out 3).trans rfl
                      have hcz43_4 : wr.cell? ⟨gb151, 4, none⟩ = some (.slice A0_4 l0_4.length c0_4) := (blk_cell BK151.out 4).trans rfl
                      have hfz43_0 := blk_frozen BK151.out 0
                      have hfz43_1 := blk_frozen BK151.out 1
                      have hfz43_2 := blk_frozen BK151.out 2
                      have hfz43_3 := blk_frozen BK151.out 3
                      have hfz43_4 := blk_frozen BK151.out 4
                      have p160 : 0 ≤ (x4_2 : Int) := of_decide_eq_true (by first | (with_reducible assumption) | assumption)
                      have q160 : x4_2 < (l0_4.length : Int) := of_decide_eq_true (by first | (with_reducible assumption) | assumption)
                      obtain ⟨ad160, e160, hx160_0, hx160_1, hx160_2, hx160_3, hx160_4, hx160_5, hx160_6, hx160_7, hx160_8⟩ := at_T60 HR0_4.out x4_2 p160 q160
                      cases e160
                      replace hx160_0 := (HB.out.cell (World.block_lt_of_cell? w _ hx160_0)).trans hx160_0
                      replace hx160_1 := (HB.out.cell (World.block_lt_of_cell? w _ hx160_1)).trans hx160_1
                      replace hx160_2 := (HB.out.cell (World.block_lt_of_cell? w _ hx160_2)).trans hx160_2
                      replace hx160_3 := (HB.out.cell (World.block_lt_of_cell? w _ hx160_3)).trans hx160_3
                      replace hx160_4 := (HB.out.cell (World.block_lt_of_cell? w _ hx160_4)).trans hx160_4
                      replace hx160_5 := (HB.out.cell (World.block_lt_of_cell? w _ hx160_5)).trans hx160_5
                      replace hx160_6 := (HB.out.cell (World.block_lt_of_cell? w _ hx160_6)).trans hx160_6
                      replace hx160_7 := (HB.out.cell (World.block_lt_of_cell? w _ hx160_7)).trans hx160_7
                      replace hx160_8 := (HB.out.cell (World.block_lt_of_cell? w _ hx160_8)).trans hx160_8
                      replace p160 := eq_true p160
                      replace q160 := eq_true q160
                      go_wp2_with (first | ((with_reducible refine gate_dst (N := 5) rfl ?_); (try (refine gate_guard (by rfl) ?_; dsimp only)); refine box_event ?hg (N := 5) ?hd (cs := #[.bool false, .bool false, .bool false, .bool false, .bool false, .int .u32 0, .int .i64 0, .int .i64 0, .int .i64 0]) (t := 60) ?hr ?_; (case hd => rfl); (case hg => rfl); (case hr => first | (go_simp; done) | (go_simp; rfl)); intro gb161 hg w44 hbox hb; have n0_ := Aside0.mk (Kd.R_below (by (with_reducible repeat (first | apply Kd.R_alloc | apply Kd.R_drewN | apply Kd.R_drew)); exact HO_3.out) hb); have n1_ := Aside0.mk (blk_below (g := gb151) (o := .cells #[.int .i64 a0_0, .int .i64 a0_1, .int .i64 a0_2, .int .i64 a0_3, .slice (some ad160) l0_4.length c0_4] 44 (0, 0)) (by (with_reducible repeat (first | refine blk_drewN ?_ _ | refine blk_drew ?_ | refine blk_alloc ?_ _)); exact BK151.out) hb); have n2_ := Aside0.mk (below_step (by repeat (first | (with_reducible first | exact HB.out | apply below_alloc | apply pw_below_drewN | apply below_drew1 | refine below_set ?_ GE151.out) | exact HB.out)) hb); have n3_ := Aside0.mk (hbox); have n4_ := Aside0.mk ((by rw [hg]; exact (below_size (by repeat (first | (with_reducible first | exact HB.out | apply below_alloc | apply pw_below_drewN | apply below_drew1 | refine below_set ?_ GE151.out) | exact HB.out))) : w.heap.size ≤ gb161)); have n5_ := Aside0.mk ((by rw [hg]; exact (below_size (by repeat (first | (with_reducible first | exact HB.out | apply below_alloc | apply pw_below_drewN | apply below_drew1 | refine below_set ?_ GE151.out) | exact HB.out))) : w.heap.size ≤ gb161)); have n6_ := Aside0.mk ((by rw [hg]; exact Nat.ne_of_lt (blk_lt (g := gb151) (o := .cells #[.int .i64 a0_0, .int .i64 a0_1, .int .i64 a0_2, .int .i64 a0_3, .slice (some ad160) l0_4.length c0_4] 44 (0, 0)) (by (with_reducible repeat (first | refine blk_drewN ?_ _ | refine blk_drew ?_ | refine blk_alloc ?_ _)); exact BK151.out)) : gb151 ≠ gb161)); have n7_ := Aside0.mk ((by rw [hg]; exact Nat.ne_of_gt (blk_lt (g := gb151) (o := .cells #[.int .i64 a0_0, .int .i64 a0_1, .int .i64 a0_2, .int .i64 a0_3, .slice (some ad160) l0_4.length c0_4] 44 (0, 0)) (by (with_reducible repeat (first | refine blk_drewN ?_ _ | refine blk_drew ?_ | refine blk_alloc ?_ _)); exact BK151.out)) : gb161 ≠ gb151)); clear HO_3; clear BK151; clear HB; have HO_3 := n0_; have BK151 := n1_; have HB := n2_; have BK161 := n3_; have GW161 := n4_; have GE161 := n5_; have NB151_161 := n6_; have NB161_151 := n7_; clear n0_ n1_ n2_ n3_ n4_ n5_ n6_ n7_; clear hb hbox hg; have hnb45 := NB161_151.out; have hnc45 := NB151_161.out; have hcz46_0 : w44.cell? ⟨gb161, 0, none⟩ = some (.bool false) := (blk_cell BK161.out 0).trans rfl; have hcz46_1 : w44.cell? ⟨gb161, 1, none⟩ = some (.bool false) := (blk_cell BK161.out 1).trans rfl; have hcz46_2 : w44.cell? ⟨gb161, 2, none⟩ = some (.bool false) := (blk_cell BK161.out 2).trans rfl; have hcz46_3 : w44.cell? ⟨gb161, 3, none⟩ = some (.bool false) := (blk_cell BK161.out 3).trans rfl; have hcz46_4 : w44.cell? ⟨gb161, 4, none⟩ = some (.bool false) := (blk_cell BK161.out 4).trans rfl; have hcz46_5 : w44.cell? ⟨gb161, 5, none⟩ = some (.int .u32 0) := (blk_cell BK161.out 5).trans rfl; have hcz46_6 : w44.cell? ⟨gb161, 6, none⟩ = some (.int .i64 0) := (blk_cell BK161.out 6).trans rfl; have hcz46_7 : w44.cell? ⟨gb161, 7, none⟩ = some (.int .i64 0) := (blk_cell BK161.out 7).trans rfl; have hcz46_8 : w44.cell? ⟨gb161, 8, none⟩ = some (.int .i64 0) := (blk_cell BK161.out 8).trans rfl; have hfz46_0 := blk_frozen BK161.out 0; have hfz46_1 := blk_frozen BK161.out 1; have hfz46_2 := blk_frozen BK161.out 2; have hfz46_3 := blk_frozen BK161.out 3; have hfz46_4 := blk_frozen BK161.out 4; have hfz46_5 := blk_frozen BK161.out 5; have hfz46_6 := blk_frozen BK161.out 6; have hfz46_7 := blk_frozen BK161.out 7; have hfz46_8 := blk_frozen BK161.out 8) | ((with_reducible refine gate_callee (f := 42) rfl ?_); refine goesL_ (some 66) rfl rfl Try.func42 (by kernel_rfl) rfl #[.int .i64 ((rd_T60 l0_4 x4_2).f6)] rfl (by (try simp only [List.map_toArray, List.map_cons, List.map_nil]); first | done | rfl | (simp only [List.length_drop, List.length_take]; rfl)) ?_; (with_reducible refine (presidioref6_byteOf.calls ((rd_T60 l0_4 x4_2).f6) true _ A24.out).mono ?_); rintro e w' ⟨rfl, ⟨nd, rfl⟩⟩; refine ⟨_, rfl, ?_⟩) | (go_at_call 42; (with_reducible refine (presidioref6_byteOf.calls ((rd_T60 l0_4 x4_2).f7) true _ A26.out).mono ?_); rintro e w' ⟨rfl, ⟨nd, rfl⟩⟩) | (go_at_call 42; (with_reducible refine (presidioref6_byteOf.calls ((rd_T60 l0_4 x4_2).f8) false _ A28.out).mono ?_); rintro e w' ⟨rfl, ⟨nd, rfl⟩⟩))
                      go_ret
                      exact ⟨_, by first | rfl | (simp [errW_none, errW_some] <;> rfl) | (simp [*, errW_none, errW_some] <;> rfl), by first | exact Kd.R_nil _ _ _ _ _ | exact Kd.N_nil _ _ _ _ _ | exact Kd.V_nil _ _ _ _ _ | exact Kd.Q_nil _ _ _ _ _ | exact Kd.S_nil _ _ _ _ _, by repeat (first | (with_reducible first | exact HB.out | apply below_alloc | apply pw_below_drewN | apply below_drew1 | refine below_set ?_ GE151.out | refine below_set ?_ GE161.out) | exact HB.out)⟩
                  · replace c27 := Bool.eq_false_iff.mpr c27
                    subst c27
                    have H1 : (some ([] : List Int)) = some r := by rw [if_neg (show ¬ (false = true) by decide)] at H; exact H
                    clear H
                    have H := H1
                    clear H1
                    obtain rfl := Option.some.inj H
                    have hcz47_0 : wr.cell? ⟨gb151, 0, none⟩ = some (.int .i64 a0_0) := (blk_cell BK151.out 0).trans rfl
                    have hcz47_1 : wr.cell? ⟨gb151, 1, none⟩ = some (.int .i64 a0_1) := (blk_cell BK151.out 1).trans rfl
                    have hcz47_2 : wr.cell? ⟨gb151, 2, none⟩ = some (.int .i64 a0_2) := (blk_cell BK151.out 2).trans rfl
                    have hcz47_3 : wr.cell? ⟨gb151, 3, none⟩ = some (.int .i64 a0_3) := (blk_cell BK151.out 3).trans rfl
                    have hcz47_4 : wr.cell? ⟨gb151, 4, none⟩ = some (.slice A0_4 l0_4.length c0_4) := (blk_cell BK151.out 4).trans rfl
                    have hfz47_0 := blk_frozen BK151.out 0
                    have hfz47_1 := blk_frozen BK151.out 1
                    have hfz47_2 := blk_frozen BK151.out 2
                    have hfz47_3 := blk_frozen BK151.out 3
                    have hfz47_4 := blk_frozen BK151.out 4
                    have p160 : 0 ≤ (x4_2 : Int) := of_decide_eq_true (by first | (with_reducible assumption) | assumption)
                    have q160 : x4_2 < (l0_4.length : Int) := of_decide_eq_true (by first | (with_reducible assumption) | assumption)
                    obtain ⟨ad160, e160, hx160_0, hx160_1, hx160_2, hx160_3, hx160_4, hx160_5, hx160_6, hx160_7, hx160_8⟩ := at_T60 HR0_4.out x4_2 p160 q160
                    cases e160
                    replace hx160_0 := (HB.out.cell (World.block_lt_of_cell? w _ hx160_0)).trans hx160_0
                    replace hx160_1 := (HB.out.cell (World.block_lt_of_cell? w _ hx160_1)).trans hx160_1
                    replace hx160_2 := (HB.out.cell (World.block_lt_of_cell? w _ hx160_2)).trans hx160_2
                    replace hx160_3 := (HB.out.cell (World.block_lt_of_cell? w _ hx160_3)).trans hx160_3
                    replace hx160_4 := (HB.out.cell (World.block_lt_of_cell? w _ hx160_4)).trans hx160_4
                    replace hx160_5 := (HB.out.cell (World.block_lt_of_cell? w _ hx160_5)).trans hx160_5
                    replace hx160_6 := (HB.out.cell (World.block_lt_of_cell? w _ hx160_6)).trans hx160_6
                    replace hx160_7 := (HB.out.cell (World.block_lt_of_cell? w _ hx160_7)).trans hx160_7
                    replace hx160_8 := (HB.out.cell (World.block_lt_of_cell? w _ hx160_8)).trans hx160_8
                    replace p160 := eq_true p160
                    replace q160 := eq_true q160
                    go_wp2_with (first | ((with_reducible refine gate_dst (N := 5) rfl ?_); (try (refine gate_guard (by rfl) ?_; dsimp only)); refine box_event ?hg (N := 5) ?hd (cs := #[.bool false, .bool false, .bool false, .bool false, .bool false, .int .u32 0, .int .i64 0, .int .i64 0, .int .i64 0]) (t := 60) ?hr ?_; (case hd => rfl); (case hg => rfl); (case hr => first | (go_simp; done) | (go_simp; rfl)); intro gb161 hg w48 hbox hb; have n0_ := Aside0.mk (Kd.R_below (by (with_reducible repeat (first | apply Kd.R_alloc | apply Kd.R_drewN | apply Kd.R_drew)); exact HO_3.out) hb); have n1_ := Aside0.mk (blk_below (g := gb151) (o := .cells #[.int .i64 a0_0, .int .i64 a0_1, .int .i64 a0_2, .int .i64 a0_3, .slice (some ad160) l0_4.length c0_4] 44 (0, 0)) (by (with_reducible repeat (first | refine blk_drewN ?_ _ | refine blk_drew ?_ | refine blk_alloc ?_ _)); exact BK151.out) hb); have n2_ := Aside0.mk (below_step (by repeat (first | (with_reducible first | exact HB.out | apply below_alloc | apply pw_below_drewN | apply below_drew1 | refine below_set ?_ GE151.out) | exact HB.out)) hb); have n3_ := Aside0.mk (hbox); have n4_ := Aside0.mk ((by rw [hg]; exact (below_size (by repeat (first | (with_reducible first | exact HB.out | apply below_alloc | apply pw_below_drewN | apply below_drew1 | refine below_set ?_ GE151.out) | exact HB.out))) : w.heap.size ≤ gb161)); have n5_ := Aside0.mk ((by rw [hg]; exact (below_size (by repeat (first | (with_reducible first | exact HB.out | apply below_alloc | apply pw_below_drewN | apply below_drew1 | refine below_set ?_ GE151.out) | exact HB.out))) : w.heap.size ≤ gb161)); have n6_ := Aside0.mk ((by rw [hg]; exact Nat.ne_of_lt (blk_lt (g := gb151) (o := .cells #[.int .i64 a0_0, .int .i64 a0_1, .int .i64 a0_2, .int .i64 a0_3, .slice (some ad160) l0_4.length c0_4] 44 (0, 0)) (by (with_reducible repeat (first | refine blk_drewN ?_ _ | refine blk_drew ?_ | refine blk_alloc ?_ _)); exact BK151.out)) : gb151 ≠ gb161)); have n7_ := Aside0.mk ((by rw [hg]; exact Nat.ne_of_gt (blk_lt (g := gb151) (o := .cells #[.int .i64 a0_0, .int .i64 a0_1, .int .i64 a0_2, .int .i64 a0_3, .slice (some ad160) l0_4.length c0_4] 44 (0, 0)) (by (with_reducible repeat (first | refine blk_drewN ?_ _ | refine blk_drew ?_ | refine blk_alloc ?_ _)); exact BK151.out)) : gb161 ≠ gb151)); clear HO_3; clear BK151; clear HB; have HO_3 := n0_; have BK151 := n1_; have HB := n2_; have BK161 := n3_; have GW161 := n4_; have GE161 := n5_; have NB151_161 := n6_; have NB161_151 := n7_; clear n0_ n1_ n2_ n3_ n4_ n5_ n6_ n7_; clear hb hbox hg; have hnb49 := NB161_151.out; have hnc49 := NB151_161.out; have hcz50_0 : w48.cell? ⟨gb161, 0, none⟩ = some (.bool false) := (blk_cell BK161.out 0).trans rfl; have hcz50_1 : w48.cell? ⟨gb161, 1, none⟩ = some (.bool false) := (blk_cell BK161.out 1).trans rfl; have hcz50_2 : w48.cell? ⟨gb161, 2, none⟩ = some (.bool false) := (blk_cell BK161.out 2).trans rfl; have hcz50_3 : w48.cell? ⟨gb161, 3, none⟩ = some (.bool false) := (blk_cell BK161.out 3).trans rfl; have hcz50_4 : w48.cell? ⟨gb161, 4, none⟩ = some (.bool false) := (blk_cell BK161.out 4).trans rfl; have hcz50_5 : w48.cell? ⟨gb161, 5, none⟩ = some (.int .u32 0) := (blk_cell BK161.out 5).trans rfl; have hcz50_6 : w48.cell? ⟨gb161, 6, none⟩ = some (.int .i64 0) := (blk_cell BK161.out 6).trans rfl; have hcz50_7 : w48.cell? ⟨gb161, 7, none⟩ = some (.int .i64 0) := (blk_cell BK161.out 7).trans rfl; have hcz50_8 : w48.cell? ⟨gb161, 8, none⟩ = some (.int .i64 0) := (blk_cell BK161.out 8).trans rfl; have hfz50_0 := blk_frozen BK161.out 0; have hfz50_1 := blk_frozen BK161.out 1; have hfz50_2 := blk_frozen BK161.out 2; have hfz50_3 := blk_frozen BK161.out 3; have hfz50_4 := blk_frozen BK161.out 4; have hfz50_5 := blk_frozen BK161.out 5; have hfz50_6 := blk_frozen BK161.out 6; have hfz50_7 := blk_frozen BK161.out 7; have hfz50_8 := blk_frozen BK161.out 8) | ((with_reducible refine gate_callee (f := 42) rfl ?_); refine goesL_ (some 66) rfl rfl Try.func42 (by kernel_rfl) rfl #[.int .i64 ((rd_T60 l0_4 x4_2).f6)] rfl (by (try simp only [List.map_toArray, List.map_cons, List.map_nil]); first | done | rfl | (simp only [List.length_drop, List.length_take]; rfl)) ?_; (with_reducible refine (presidioref6_byteOf.calls ((rd_T60 l0_4 x4_2).f6) true _ A24.out).mono ?_); rintro e w' ⟨rfl, ⟨nd, rfl⟩⟩; refine ⟨_, rfl, ?_⟩) | (go_at_call 42; (with_reducible refine (presidioref6_byteOf.calls ((rd_T60 l0_4 x4_2).f7) false _ A26.out).mono ?_); rintro e w' ⟨rfl, ⟨nd, rfl⟩⟩))
                    go_ret
                    exact ⟨_, by first | rfl | (simp [errW_none, errW_some] <;> rfl) | (simp [*, errW_none, errW_some] <;> rfl), by first | exact Kd.R_nil _ _ _ _ _ | exact Kd.N_nil _ _ _ _ _ | exact Kd.V_nil _ _ _ _ _ | exact Kd.Q_nil _ _ _ _ _ | exact Kd.S_nil _ _ _ _ _, by repeat (first | (with_reducible first | exact HB.out | apply below_alloc | apply pw_below_drewN | apply below_drew1 | refine below_set ?_ GE151.out | refine below_set ?_ GE161.out) | exact HB.out)⟩
                · replace c25 := Bool.eq_false_iff.mpr c25
                  subst c25
                  have H1 : (some ([] : List Int)) = some r := by rw [if_neg (show ¬ (false = true) by decide)] at H; exact H
                  clear H
                  have H := H1
                  clear H1
                  obtain rfl := Option.some.inj H
                  have hcz51_0 : wr.cell? ⟨gb151, 0, none⟩ = some (.int .i64 a0_0) := (blk_cell BK151.out 0).trans rfl
                  have hcz51_1 : wr.cell? ⟨gb151, 1, none⟩ = some (.int .i64 a0_1) := (blk_cell BK151.out 1).trans rfl
                  have hcz51_2 : wr.cell? ⟨gb151, 2, none⟩ = some (.int .i64 a0_2) := (blk_cell BK151.out 2).trans rfl
                  have hcz51_3 : wr.cell? ⟨gb151, 3, none⟩ = some (.int .i64 a0_3) := (blk_cell BK151.out 3).trans rfl
                  have hcz51_4 : wr.cell? ⟨gb151, 4, none⟩ = some (.slice A0_4 l0_4.length c0_4) := (blk_cell BK151.out 4).trans rfl
                  have hfz51_0 := blk_frozen BK151.out 0
                  have hfz51_1 := blk_frozen BK151.out 1
                  have hfz51_2 := blk_frozen BK151.out 2
                  have hfz51_3 := blk_frozen BK151.out 3
                  have hfz51_4 := blk_frozen BK151.out 4
                  have p160 : 0 ≤ (x4_2 : Int) := of_decide_eq_true (by first | (with_reducible assumption) | assumption)
                  have q160 : x4_2 < (l0_4.length : Int) := of_decide_eq_true (by first | (with_reducible assumption) | assumption)
                  obtain ⟨ad160, e160, hx160_0, hx160_1, hx160_2, hx160_3, hx160_4, hx160_5, hx160_6, hx160_7, hx160_8⟩ := at_T60 HR0_4.out x4_2 p160 q160
                  cases e160
                  replace hx160_0 := (HB.out.cell (World.block_lt_of_cell? w _ hx160_0)).trans hx160_0
                  replace hx160_1 := (HB.out.cell (World.block_lt_of_cell? w _ hx160_1)).trans hx160_1
                  replace hx160_2 := (HB.out.cell (World.block_lt_of_cell? w _ hx160_2)).trans hx160_2
                  replace hx160_3 := (HB.out.cell (World.block_lt_of_cell? w _ hx160_3)).trans hx160_3
                  replace hx160_4 := (HB.out.cell (World.block_lt_of_cell? w _ hx160_4)).trans hx160_4
                  replace hx160_5 := (HB.out.cell (World.block_lt_of_cell? w _ hx160_5)).trans hx160_5
                  replace hx160_6 := (HB.out.cell (World.block_lt_of_cell? w _ hx160_6)).trans hx160_6
                  replace hx160_7 := (HB.out.cell (World.block_lt_of_cell? w _ hx160_7)).trans hx160_7
                  replace hx160_8 := (HB.out.cell (World.block_lt_of_cell? w _ hx160_8)).trans hx160_8
                  replace p160 := eq_true p160
                  replace q160 := eq_true q160
                  go_wp2_with (first | ((with_reducible refine gate_dst (N := 5) rfl ?_); (try (refine gate_guard (by rfl) ?_; dsimp only)); refine box_event ?hg (N := 5) ?hd (cs := #[.bool false, .bool false, .bool false, .bool false, .bool false, .int .u32 0, .int .i64 0, .int .i64 0, .int .i64 0]) (t := 60) ?hr ?_; (case hd => rfl); (case hg => rfl); (case hr => first | (go_simp; done) | (go_simp; rfl)); intro gb161 hg w52 hbox hb; have n0_ := Aside0.mk (Kd.R_below (by (with_reducible repeat (first | apply Kd.R_alloc | apply Kd.R_drewN | apply Kd.R_drew)); exact HO_3.out) hb); have n1_ := Aside0.mk (blk_below (g := gb151) (o := .cells #[.int .i64 a0_0, .int .i64 a0_1, .int .i64 a0_2, .int .i64 a0_3, .slice (some ad160) l0_4.length c0_4] 44 (0, 0)) (by (with_reducible repeat (first | refine blk_drewN ?_ _ | refine blk_drew ?_ | refine blk_alloc ?_ _)); exact BK151.out) hb); have n2_ := Aside0.mk (below_step (by repeat (first | (with_reducible first | exact HB.out | apply below_alloc | apply pw_below_drewN | apply below_drew1 | refine below_set ?_ GE151.out) | exact HB.out)) hb); have n3_ := Aside0.mk (hbox); have n4_ := Aside0.mk ((by rw [hg]; exact (below_size (by repeat (first | (with_reducible first | exact HB.out | apply below_alloc | apply pw_below_drewN | apply below_drew1 | refine below_set ?_ GE151.out) | exact HB.out))) : w.heap.size ≤ gb161)); have n5_ := Aside0.mk ((by rw [hg]; exact (below_size (by repeat (first | (with_reducible first | exact HB.out | apply below_alloc | apply pw_below_drewN | apply below_drew1 | refine below_set ?_ GE151.out) | exact HB.out))) : w.heap.size ≤ gb161)); have n6_ := Aside0.mk ((by rw [hg]; exact Nat.ne_of_lt (blk_lt (g := gb151) (o := .cells #[.int .i64 a0_0, .int .i64 a0_1, .int .i64 a0_2, .int .i64 a0_3, .slice (some ad160) l0_4.length c0_4] 44 (0, 0)) (by (with_reducible repeat (first | refine blk_drewN ?_ _ | refine blk_drew ?_ | refine blk_alloc ?_ _)); exact BK151.out)) : gb151 ≠ gb161)); have n7_ := Aside0.mk ((by rw [hg]; exact Nat.ne_of_gt (blk_lt (g := gb151) (o := .cells #[.int .i64 a0_0, .int .i64 a0_1, .int .i64 a0_2, .int .i64 a0_3, .slice (some ad160) l0_4.length c0_4] 44 (0, 0)) (by (with_reducible repeat (first | refine blk_drewN ?_ _ | refine blk_drew ?_ | refine blk_alloc ?_ _)); exact BK151.out)) : gb161 ≠ gb151)); clear HO_3; clear BK151; clear HB; have HO_3 := n0_; have BK151 := n1_; have HB := n2_; have BK161 := n3_; have GW161 := n4_; have GE161 := n5_; have NB151_161 := n6_; have NB161_151 := n7_; clear n0_ n1_ n2_ n3_ n4_ n5_ n6_ n7_; clear hb hbox hg; have hnb53 := NB161_151.out; have hnc53 := NB151_161.out; have hcz54_0 : w52.cell? ⟨gb161, 0, none⟩ = some (.bool false) := (blk_cell BK161.out 0).trans rfl; have hcz54_1 : w52.cell? ⟨gb161, 1, none⟩ = some (.bool false) := (blk_cell BK161.out 1).trans rfl; have hcz54_2 : w52.cell? ⟨gb161, 2, none⟩ = some (.bool false) := (blk_cell BK161.out 2).trans rfl; have hcz54_3 : w52.cell? ⟨gb161, 3, none⟩ = some (.bool false) := (blk_cell BK161.out 3).trans rfl; have hcz54_4 : w52.cell? ⟨gb161, 4, none⟩ = some (.bool false) := (blk_cell BK161.out 4).trans rfl; have hcz54_5 : w52.cell? ⟨gb161, 5, none⟩ = some (.int .u32 0) := (blk_cell BK161.out 5).trans rfl; have hcz54_6 : w52.cell? ⟨gb161, 6, none⟩ = some (.int .i64 0) := (blk_cell BK161.out 6).trans rfl; have hcz54_7 : w52.cell? ⟨gb161, 7, none⟩ = some (.int .i64 0) := (blk_cell BK161.out 7).trans rfl; have hcz54_8 : w52.cell? ⟨gb161, 8, none⟩ = some (.int .i64 0) := (blk_cell BK161.out 8).trans rfl; have hfz54_0 := blk_frozen BK161.out 0; have hfz54_1 := blk_frozen BK161.out 1; have hfz54_2 := blk_frozen BK161.out 2; have hfz54_3 := blk_frozen BK161.out 3; have hfz54_4 := blk_frozen BK161.out 4; have hfz54_5 := blk_frozen BK161.out 5; have hfz54_6 := blk_frozen BK161.out 6; have hfz54_7 := blk_frozen BK161.out 7; have hfz54_8 := blk_frozen BK161.out 8) | ((with_reducible refine gate_callee (f := 42) rfl ?_); refine goesL_ (some 66) rfl rfl Try.func42 (by kernel_rfl) rfl #[.int .i64 ((rd_T60 l0_4 x4_2).f6)] rfl (by (try simp only [List.map_toArray, List.map_cons, List.map_nil]); first | done | rfl | (simp only [List.length_drop, List.length_take]; rfl)) ?_; (with_reducible refine (presidioref6_byteOf.calls ((rd_T60 l0_4 x4_2).f6) false _ A24.out).mono ?_); rintro e w' ⟨rfl, ⟨nd, rfl⟩⟩; refine ⟨_, rfl, ?_⟩))
                  go_ret
                  exact ⟨_, by first | rfl | (simp [errW_none, errW_some] <;> rfl) | (simp [*, errW_none, errW_some] <;> rfl), by first | exact Kd.R_nil _ _ _ _ _ | exact Kd.N_nil _ _ _ _ _ | exact Kd.V_nil _ _ _ _ _ | exact Kd.Q_nil _ _ _ _ _ | exact Kd.S_nil _ _ _ _ _, by repeat (first | (with_reducible first | exact HB.out | apply below_alloc | apply pw_below_drewN | apply below_drew1 | refine below_set ?_ GE151.out | refine below_set ?_ GE161.out) | exact HB.out)⟩
              · rw [if_neg c23] at H
                exact absurd H (by simp)
            · rw [if_neg c22] at H
              have c22b0 : decide (x4_2 < (l0_4.length : Int)) = false := decide_eq_false c22
              clear c22
              obtain rfl := Option.some.inj H
              have hcz55_0 : wr.cell? ⟨gb151, 0, none⟩ = some (.int .i64 a0_0) := (blk_cell BK151.out 0).trans rfl
              have hcz55_1 : wr.cell? ⟨gb151, 1, none⟩ = some (.int .i64 a0_1) := (blk_cell BK151.out 1).trans rfl
              have hcz55_2 : wr.cell? ⟨gb151, 2, none⟩ = some (.int .i64 a0_2) := (blk_cell BK151.out 2).trans rfl
              have hcz55_3 : wr.cell? ⟨gb151, 3, none⟩ = some (.int .i64 a0_3) := (blk_cell BK151.out 3).trans rfl
              have hcz55_4 : wr.cell? ⟨gb151, 4, none⟩ = some (.slice A0_4 l0_4.length c0_4) := (blk_cell BK151.out 4).trans rfl
              have hfz55_0 := blk_frozen BK151.out 0
              have hfz55_1 := blk_frozen BK151.out 1
              have hfz55_2 := blk_frozen BK151.out 2
              have hfz55_3 := blk_frozen BK151.out 3
              have hfz55_4 := blk_frozen BK151.out 4
              go_wp2
              go_ret
              exact ⟨_, by first | rfl | (simp [errW_none, errW_some] <;> rfl) | (simp [*, errW_none, errW_some] <;> rfl), by (with_reducible repeat (first | apply Kd.R_alloc | apply Kd.R_drewN | apply Kd.R_drew)); exact HO_3.out, by repeat (first | (with_reducible first | exact HB.out | apply below_alloc | apply pw_below_drewN | apply below_drew1 | refine below_set ?_ GE151.out) | exact HB.out)⟩

end Go.Proofs.Ytmhglfidggjfdaa.PBillR
