/- Package phasor: turn of any word, Store. -/
import Derived.Test.YtdpjpmlajjfpgaaPha
namespace Go.Proofs.Ytdpjpmlajjfpgaa.Pha
open Go Go.RowKit Go.Proofs.Ytdpjpmlajjfpgaa.Mem Go.Proofs.Ytdpjpmlajjfpgaa.Kept Go.Proofs.Ytdpjpmlajjfpgaa.Flt
set_option linter.unusedVariables false
set_option linter.unusedSimpArgs false
attribute [local go_sem] run_store_complex

theorem cut_id {x : Int} (h : -1125899906842624 ≤ x ∧ x ≤ 1125899906842624) : cutF x = x := by unfold cutF; rw [if_neg (by omega)]
theorem turn_id {s : PS} (h : s.In) {v : Int} (h1 : v ≠ 1) (h2 : v ≠ 2) (h3 : v ≠ 3) (h4 : v ≠ 4) (h5 : v ≠ 5) (h6 : v ≠ 6) (h7 : v ≠ 7) (h8 : v ≠ 8) : turnF s v = s := by
  have e : preF s v = (s.r0, s.r1) := by unfold preF; simp only [h1, h2, h3, h4, h5, h6, h7, h8, if_false]
  unfold turnF
  rw [e]
  show ({ s with r0 := cutF s.r0, r1 := cutF s.r1 } : PS) = s
  rw [cut_id h.2.2.2.2.1, cut_id h.2.2.2.2.2]
theorem Is.drewN {w : World} {g : Nat} {s : PS} (h : Is w g s) (n : Nat) : Is (w.drewN n) g s := h
theorem Is.inn {w : World} {g : Nat} {s : PS} (h : Is w g s) : s.In := by
  obtain ⟨x0, x1, y0, y1, z0, z1, hb, hf, hi⟩ := h
  exact hi
theorem Is.blk {w : World} {g : Nat} {s : PS} (h : Is w g s) : g < w.heap.size ∧ ∃ cs, w.heap[g]? = some (.cells cs 108 (0, 0)) := by
  obtain ⟨x0, x1, y0, y1, z0, z1, hb, hf, hi⟩ := h
  exact ⟨blk_lt hb, _, hb⟩
theorem Is.kept {w w' : World} {S : Nat → Prop} {g : Nat} {s : PS} (h : Is w g s) (hk : Kept w w' S) (hg : ¬ S g) : Is w' g s := by
  obtain ⟨x0, x1, y0, y1, z0, z1, hb, hf, hi⟩ := h
  exact ⟨x0, x1, y0, y1, z0, z1, hk.blk hb hg, hf, hi⟩
theorem Is.below {w w' : World} {g : Nat} {s : PS} (h : Is w g s) (hb : Below w.heap.size w w') : Is w' g s := h.kept (S := fun _ => False) (kept_below hb) (fun h => h)
set_option maxRecDepth 100000 in
theorem turn_no {w : World} {g : Nat} {v : Int} (h1 : (v == 1) = false) (h2 : (v == 2) = false) (h3 : (v == 3) = false) (h4 : (v == 4) = false) (h5 : (v == 5) = false) (h6 : (v == 6) = false) (h7 : (v == 7) = false) (h8 : (v == 8) = false) :
    Calls Try.prog 67 #[.pointer (some ⟨g, 0, none⟩), .int .u64 v] w fun e w' => e = .returned (.tuple #[]) ∧ w = w' := by
  go_enter Try.func67, Try.ntmps67
  go_wp2
  (try simp only [Exit.inBlock, Exit.then])
  refine bodyPost_ret (results_none rfl _ _ _) rfl ?_
  exact ⟨rfl, rfl⟩
theorem turn_any {w : World} {g : Nat} {s : PS} (h : Is w g s) (v : Int) : Calls Try.prog 67 #[.pointer (some ⟨g, 0, none⟩), .int .u64 v] w fun e w' => e = .returned (.tuple #[]) ∧ Is w' g (turnF s v) ∧ Kept w w' (fun j => j = g) := by
  by_cases h1 : v = 1
  · subst h1; exact turn_1 h
  by_cases h2 : v = 2
  · subst h2; exact turn_2 h
  by_cases h3 : v = 3
  · subst h3; exact turn_3 h
  by_cases h4 : v = 4
  · subst h4; exact turn_4 h
  by_cases h5 : v = 5
  · subst h5; exact turn_5 h
  by_cases h6 : v = 6
  · subst h6; exact turn_6 h
  by_cases h7 : v = 7
  · subst h7; exact turn_7 h
  by_cases h8 : v = 8
  · subst h8; exact turn_8 h
  refine (turn_no (by simpa using h1) (by simpa using h2) (by simpa using h3) (by simpa using h4) (by simpa using h5) (by simpa using h6) (by simpa using h7) (by simpa using h8)).mono fun e w' ⟨he, hw⟩ => ?_
  subst hw
  exact ⟨he, by rw [turn_id h.inn h1 h2 h3 h4 h5 h6 h7 h8]; exact h, kept_refl _ _⟩
/-- What a store leaves. -/
def storeF (s : PS) (k v : Int) : PS :=
  if k = 0 then { s with a0 := clipF v } else if k = 1 then { s with a1 := clipF v } else if k = 2 then { s with b0 := clipF v } else if k = 3 then { s with b1 := clipF v } else if k = 4 then turnF s v else s
theorem fl_clip (v : Int) : Fl (FloatKind.f64.nearest (clipF v)) (clipF v) := fl_of _ (by have := clipF_in v; omega)
theorem store_nil (w : World) (k v : Int) : Calls Try.prog 61 #[.pointer none, .int .i64 k, .int .u64 v] w fun e w' => e = .returned (.tuple #[]) ∧ w = w' := by
  go_enter Try.func61, Try.ntmps61
  go_wp2
  (try simp only [Exit.inBlock, Exit.then])
  refine bodyPost_ret (results_none rfl _ _ _) rfl ?_
  exact ⟨rfl, rfl⟩
theorem store_no {w : World} {g : Nat} {k v : Int} (h0 : (k == 0) = false) (h1 : (k == 1) = false) (h2 : (k == 2) = false) (h3 : (k == 3) = false) (h4 : (k == 4) = false) :
    Calls Try.prog 61 #[.pointer (some ⟨g, 0, none⟩), .int .i64 k, .int .u64 v] w fun e w' => e = .returned (.tuple #[]) ∧ w = w' := by
  go_enter Try.func61, Try.ntmps61
  go_wp2
  go_end0
  exact ⟨rfl, rfl⟩
theorem store_4 {w : World} {g : Nat} {s : PS} (h : Is w g s) (v : Int) : Calls Try.prog 61 #[.pointer (some ⟨g, 0, none⟩), .int .i64 4, .int .u64 v] w fun e w' => e = .returned (.tuple #[]) ∧ Is w' g (turnF s v) ∧ Kept w w' (fun j => j = g) := by
  go_enter Try.func61, Try.ntmps61
  go_wp2_with (first | (go_at_call 67; refine (turn_any h v).mono ?_; rintro e w1 ⟨rfl, H1, k1⟩))
  go_end0
  exact ⟨rfl, H1, k1⟩
set_option maxRecDepth 100000 in
set_option maxHeartbeats 4000000 in
theorem store_0 {w : World} {g : Nat} {s : PS} (h : Is w g s) (v : Int) : Calls Try.prog 61 #[.pointer (some ⟨g, 0, none⟩), .int .i64 0, .int .u64 v] w fun e w' => e = .returned (.tuple #[]) ∧ Is w' g { s with a0 := clipF v } ∧ Kept w w' (fun j => j = g) := by
  obtain ⟨x0, x1, y0, y1, z0, z1, hb, ⟨f0, f1, f2, f3, f4, f5⟩, hi⟩ := h
  have hc := cells3 hb
  have hfz := blk_free hb 0
  have HE : Hid (Is (w.setCell ⟨g, 0, none⟩ (.complex .f64 (FloatKind.f64.nearest (clipF v)) x1)) g { s with a0 := clipF v }) := by
    refine Lib.hid ⟨_, x1, y0, y1, z0, z1, ?_, ⟨fl_clip v, f1, f2, f3, f4, f5⟩, ?_⟩
    · have := blk_set hb 0 (.complex .f64 (FloatKind.f64.nearest (clipF v)) x1)
      simpa using this
    · exact ⟨clipF_in v, hi.2.1, hi.2.2.1, hi.2.2.2.1, hi.2.2.2.2⟩
  clear f0 f1 f2 f3 f4 f5 hi hb
  go_enter Try.func61, Try.ntmps61
  go_wp2
  refine wp_region_still_tail 11 (by kernel_rfl) (by kernel_rfl) ?_
  simp only [List.take_succ_cons, List.take_zero, List.drop_succ_cons, List.drop_zero]
  repeat still_step
  still_call (clip_same _ _)
  repeat still_step
  refine wpStill_nil ?_
  go_wp2
  go_end0
  exact ⟨rfl, HE.out.drewN 1, kept_drewN (kept_set (S := fun j => j = g) (kept_refl _ _) rfl _ _) 1⟩
set_option maxRecDepth 100000 in
set_option maxHeartbeats 4000000 in
theorem store_1 {w : World} {g : Nat} {s : PS} (h : Is w g s) (v : Int) : Calls Try.prog 61 #[.pointer (some ⟨g, 0, none⟩), .int .i64 1, .int .u64 v] w fun e w' => e = .returned (.tuple #[]) ∧ Is w' g { s with a1 := clipF v } ∧ Kept w w' (fun j => j = g) := by
  obtain ⟨x0, x1, y0, y1, z0, z1, hb, ⟨f0, f1, f2, f3, f4, f5⟩, hi⟩ := h
  have hc := cells3 hb
  have hfz := blk_free hb 0
  have HE : Hid (Is (w.setCell ⟨g, 0, none⟩ (.complex .f64 x0 (FloatKind.f64.nearest (clipF v)))) g { s with a1 := clipF v }) := by
    refine Lib.hid ⟨x0, _, y0, y1, z0, z1, ?_, ⟨f0, fl_clip v, f2, f3, f4, f5⟩, ?_⟩
    · have := blk_set hb 0 (.complex .f64 x0 (FloatKind.f64.nearest (clipF v)))
      simpa using this
    · exact ⟨hi.1, clipF_in v, hi.2.2.1, hi.2.2.2.1, hi.2.2.2.2⟩
  clear f0 f1 f2 f3 f4 f5 hi hb
  go_enter Try.func61, Try.ntmps61
  go_wp2
  refine wp_region_still_tail 11 (by kernel_rfl) (by kernel_rfl) ?_
  simp only [List.take_succ_cons, List.take_zero, List.drop_succ_cons, List.drop_zero]
  repeat still_step
  still_call (clip_same _ _)
  repeat still_step
  refine wpStill_nil ?_
  go_wp2
  go_end0
  exact ⟨rfl, HE.out.drewN 1, kept_drewN (kept_set (S := fun j => j = g) (kept_refl _ _) rfl _ _) 1⟩
set_option maxRecDepth 100000 in
set_option maxHeartbeats 4000000 in
theorem store_2 {w : World} {g : Nat} {s : PS} (h : Is w g s) (v : Int) : Calls Try.prog 61 #[.pointer (some ⟨g, 0, none⟩), .int .i64 2, .int .u64 v] w fun e w' => e = .returned (.tuple #[]) ∧ Is w' g { s with b0 := clipF v } ∧ Kept w w' (fun j => j = g) := by
  obtain ⟨x0, x1, y0, y1, z0, z1, hb, ⟨f0, f1, f2, f3, f4, f5⟩, hi⟩ := h
  have hc := cells3 hb
  have hfz := blk_free hb 1
  have HE : Hid (Is (w.setCell ⟨g, 1, none⟩ (.complex .f64 (FloatKind.f64.nearest (clipF v)) y1)) g { s with b0 := clipF v }) := by
    refine Lib.hid ⟨x0, x1, _, y1, z0, z1, ?_, ⟨f0, f1, fl_clip v, f3, f4, f5⟩, ?_⟩
    · have := blk_set hb 1 (.complex .f64 (FloatKind.f64.nearest (clipF v)) y1)
      simpa using this
    · exact ⟨hi.1, hi.2.1, clipF_in v, hi.2.2.2.1, hi.2.2.2.2⟩
  clear f0 f1 f2 f3 f4 f5 hi hb
  go_enter Try.func61, Try.ntmps61
  go_wp2
  refine wp_region_still_tail 11 (by kernel_rfl) (by kernel_rfl) ?_
  simp only [List.take_succ_cons, List.take_zero, List.drop_succ_cons, List.drop_zero]
  repeat still_step
  still_call (clip_same _ _)
  repeat still_step
  refine wpStill_nil ?_
  go_wp2
  go_end0
  exact ⟨rfl, HE.out.drewN 1, kept_drewN (kept_set (S := fun j => j = g) (kept_refl _ _) rfl _ _) 1⟩
set_option maxRecDepth 100000 in
set_option maxHeartbeats 4000000 in
theorem store_3 {w : World} {g : Nat} {s : PS} (h : Is w g s) (v : Int) : Calls Try.prog 61 #[.pointer (some ⟨g, 0, none⟩), .int .i64 3, .int .u64 v] w fun e w' => e = .returned (.tuple #[]) ∧ Is w' g { s with b1 := clipF v } ∧ Kept w w' (fun j => j = g) := by
  obtain ⟨x0, x1, y0, y1, z0, z1, hb, ⟨f0, f1, f2, f3, f4, f5⟩, hi⟩ := h
  have hc := cells3 hb
  have hfz := blk_free hb 1
  have HE : Hid (Is (w.setCell ⟨g, 1, none⟩ (.complex .f64 y0 (FloatKind.f64.nearest (clipF v)))) g { s with b1 := clipF v }) := by
    refine Lib.hid ⟨x0, x1, y0, _, z0, z1, ?_, ⟨f0, f1, f2, fl_clip v, f4, f5⟩, ?_⟩
    · have := blk_set hb 1 (.complex .f64 y0 (FloatKind.f64.nearest (clipF v)))
      simpa using this
    · exact ⟨hi.1, hi.2.1, hi.2.2.1, clipF_in v, hi.2.2.2.2⟩
  clear f0 f1 f2 f3 f4 f5 hi hb
  go_enter Try.func61, Try.ntmps61
  go_wp2
  refine wp_region_still_tail 11 (by kernel_rfl) (by kernel_rfl) ?_
  simp only [List.take_succ_cons, List.take_zero, List.drop_succ_cons, List.drop_zero]
  repeat still_step
  still_call (clip_same _ _)
  repeat still_step
  refine wpStill_nil ?_
  go_wp2
  go_end0
  exact ⟨rfl, HE.out.drewN 1, kept_drewN (kept_set (S := fun j => j = g) (kept_refl _ _) rfl _ _) 1⟩
theorem store_any {w : World} {g : Nat} {s : PS} (h : Is w g s) (k v : Int) : Calls Try.prog 61 #[.pointer (some ⟨g, 0, none⟩), .int .i64 k, .int .u64 v] w fun e w' => e = .returned (.tuple #[]) ∧ Is w' g (storeF s k v) ∧ Kept w w' (fun j => j = g) := by
  by_cases h0 : k = 0
  · subst h0; exact store_0 h v
  by_cases h1 : k = 1
  · subst h1; exact store_1 h v
  by_cases h2 : k = 2
  · subst h2; exact store_2 h v
  by_cases h3 : k = 3
  · subst h3; exact store_3 h v
  by_cases h4 : k = 4
  · subst h4; exact store_4 h v
  refine (store_no (by simpa using h0) (by simpa using h1) (by simpa using h2) (by simpa using h3) (by simpa using h4)).mono fun e w' ⟨he, hw⟩ => ?_
  subst hw
  have e : storeF s k v = s := by unfold storeF; simp only [h0, h1, h2, h3, h4, if_false]
  exact ⟨he, by rw [e]; exact h, kept_refl _ _⟩
end Go.Proofs.Ytdpjpmlajjfpgaa.Pha
