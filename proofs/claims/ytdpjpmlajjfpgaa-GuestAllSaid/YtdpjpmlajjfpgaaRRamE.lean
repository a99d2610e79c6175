/- Contracts of the reference's frames: NewRam. -/
import Derived.Test.YtdpjpmlajjfpgaaRRamD
namespace Go.Proofs.Ytdpjpmlajjfpgaa.Ram
open Go.RowKit Go.Proofs.Ytdpjpmlajjfpgaa.Mem Go.Proofs.Ytdpjpmlajjfpgaa.Kept
open Go.Proofs.YtdpjpmlajjfpgaaW.PrintWords (nums ReadsInt own_reads own_reads' own_le own_lit own_nil print_make own_made)
set_option linter.unusedVariables false
set_option linter.unusedSimpArgs false

def Z : ByteArray := strOfNums (List.replicate 128 0)
theorem strs_zero (n : Nat) : strs n (List.replicate (n * 128) 0) = List.replicate n (.string Z) := by
  apply List.ext_getElem
  · simp [strs]
  · intro i h1 h2
    have hi : i < n := by simpa [strs] using h1
    simp [strs, fs, part_zero hi (show 0 + 128 ≤ 128 by omega), Z]
theorem frames_lt {f : Int} {j : Nat} (h : j < frames f) : (j : Int) < f ∧ (j : Int) < 240 := by
  have h1 := frames_in f
  have : cl f ≤ f ∨ cl f = 0 := by
    unfold cl
    by_cases h : f < 0
    · rw [if_pos h]; exact .inr rfl
    · rw [if_neg h]
      by_cases h2 : 240 < f
      · rw [if_pos h2]; omega
      · rw [if_neg h2]; omega
  omega
theorem frames_end {f : Int} (h : ((frames f : Nat) : Int) < f) : ¬ (((frames f : Nat) : Int) < 240) := by
  have h1 := frames_in f
  rw [h1.1] at h ⊢
  unfold cl at h ⊢
  by_cases h3 : f < 0
  · rw [if_pos h3] at h; omega
  · rw [if_neg h3] at h ⊢
    by_cases h2 : 240 < f
    · rw [if_pos h2]; omega
    · rw [if_neg h2] at h; omega
/-- Behind the append: what lies at g. -/
theorem after_new {w wr w2 w3 : World} {g j c : Nat} {A : Option Addr} {x y : Value} {xs ys : List Value} (hg : wr.heap[g]? = some (.cells #[x, y] 92 (0, 0))) (ho : wr.ownsRow w.heap.size 9 1 (.slice A j c) j xs)
    (h2 : Below wr.heap.size wr w2) {v' : Value} (h3 : w3.ownsRow w.heap.size 9 1 v' (j + 1) ys) (hk : w2.grownBy w3 (Value.slice A j c).ownBlock) :
    (∃ A3 c3, v' = .slice A3 (j + 1) c3) ∧ w3.heap[g]? = some (.cells #[x, y] 92 (0, 0)) := by
  refine ⟨?_, ?_⟩
  · obtain ⟨A, c, h⟩ := own_slice h3
    exact ⟨A, c, h⟩
  · have hne : ∀ k, (Value.slice A j c).ownBlock = some k → k ≠ g := by
      intro k hk e
      subst e
      obtain ⟨_, _, cs, h5⟩ := own_lt ho hk
      rw [hg] at h5
      injection h5 with h5
      injection h5 with _ h5 _
      exact absurd h5 (by decide)
    exact (kept_grown (S := fun k => (Value.slice A j c).ownBlock = some k) hk (fun k hk => hk)).blk (blk_below hg h2) (fun e => hne g e rfl)
def RNew (f s : Int) (w : World) (e : Ending) (w' : World) : Prop :=
  ∃ g R, e = .returned (.pointer (some ⟨g, 0, none⟩)) ∧ RIs w' w.heap.size g R (frames f) (List.replicate (frames f * 128) 0) (secures f s) ∧ Below w.heap.size w w'
theorem rnew_end {w wr : World} {f s S : Int} {g c : Nat} {A : Option Addr} {y : Value} (hS : secures f s = S) (hg : wr.heap[g]? = some (.cells #[.slice A (frames f) c, y] 92 (0, 0))) (hB : w.heap.size ≤ g)
    (ho : wr.ownsRow w.heap.size 9 1 (.slice A (frames f) c) (frames f) (List.replicate (frames f) (.string Z))) (hb : Below w.heap.size w wr) :
    RNew f s w (.returned (.pointer (some ⟨g, 0, none⟩))) (wr.setCell ⟨g, 1, none⟩ (.int .i64 S)) := by
  subst hS
  have hk : Kept wr (wr.setCell ⟨g, 1, none⟩ (.int .i64 (secures f s))) (fun k => k = g) := kept_set (S := fun k => k = g) (kept_refl _ _) rfl _ _
  refine ⟨g, _, rfl, ⟨A, c, ?_, hB, (frames_in f).2, by simp, ?_, rfl⟩, hb.setCell hB _⟩
  · have := blk_set hg 1 (.int .i64 (secures f s))
    simpa using this
  · rw [strs_zero]
    refine own_kept hk ho (fun k hk e => ?_)
    obtain ⟨_, _, cs, h5⟩ := own_lt ho hk
    rw [e, hg] at h5
    injection h5 with h5
    injection h5 with _ h5 _
    exact absurd h5 (by decide)
theorem rnew_fin {w wr : World} {f s S : Int} {g c N : Nat} {A : Option Addr} {y : Value} (hN : frames f = N) (hc : ((frames f : Nat) : Int) = cl f) (hS : (if s < 0 then 0 else if (N : Int) < s then (N : Int) else s) = S) (hg : wr.heap[g]? = some (.cells #[.slice A N c, y] 92 (0, 0))) (hB : w.heap.size ≤ g)
    (ho : wr.ownsRow w.heap.size 9 1 (.slice A N c) N (List.replicate N (.string Z))) (hb : Below w.heap.size w wr) :
    RNew f s w (.returned (.pointer (some ⟨g, 0, none⟩))) (wr.setCell ⟨g, 1, none⟩ (.int .i64 S)) := by
  subst hN
  exact rnew_end (by unfold secures; rw [← hc]; exact hS) hg hB ho hb
theorem ram_fin {w wr w2 w3 : World} {g j c c3 : Nat} {A A3 : Option Addr} {x : Value} {xs ys : List Value} (hg3 : w2.grownBy w3 (Value.slice A j c).ownBlock) (ho3 : w3.ownsRow w.heap.size 9 1 (.slice A3 (j + 1) c3) (j + 1) ys)
    (hg : wr.heap[g]? = some (.cells #[.slice A j c, x] 92 (0, 0))) (ho : wr.ownsRow w.heap.size 9 1 (.slice A j c) j xs) (hb2 : Below wr.heap.size wr w2) (hblk : w3.heap[g]? = some (.cells #[.slice A j c, x] 92 (0, 0))) (hB : Below w.heap.size w wr) (hBg : w.heap.size ≤ g) :
    (w3.setCell ⟨g, 0, none⟩ (.slice A3 (j + 1) c3)).heap[g]? = some (.cells #[.slice A3 (j + 1) c3, x] 92 (0, 0)) ∧ (w3.setCell ⟨g, 0, none⟩ (.slice A3 (j + 1) c3)).ownsRow w.heap.size 9 1 (.slice A3 (j + 1) c3) (j + 1) ys ∧ Below w.heap.size w (w3.setCell ⟨g, 0, none⟩ (.slice A3 (j + 1) c3)) := by
  have hk : Kept w3 (w3.setCell ⟨g, 0, none⟩ (.slice A3 (j + 1) c3)) (fun k => k = g) := kept_set (S := fun k => k = g) (kept_refl _ _) rfl _ _
  refine ⟨?_, ?_, ?_⟩
  · have := blk_set hblk 0 (.slice A3 (j + 1) c3)
    simpa using this
  · refine own_kept hk ho3 (fun k hk' e => ?_)
    obtain ⟨_, _, cs, h5⟩ := own_lt ho3 hk'
    rw [e, hblk] at h5
    injection h5 with h5
    injection h5 with _ h5 _
    exact absurd h5 (by decide)
  · have h1 := bel_chain hB hb2
    exact (h1.grown hg3 h1.size (fun k hk => (own_lt ho hk).1)).setCell hBg _
theorem info9 : (Try.prog.info? 9).map (fun i => (i.zero, i.size, i.bytes)) = some (some (.string ⟨#[]⟩), 1, 16) := by kernel_rfl
set_option maxRecDepth 100000 in
set_option maxHeartbeats 16000000 in
theorem rnew_any (w : World) (f s : Int) : Calls Try.prog 27 #[.int .i64 f, .int .i64 s] w (RNew f s w) := by
  obtain ⟨i9, hi9, hz90, hz91, hz92⟩ := info_parts info9
  obtain ⟨N, hN⟩ : ∃ N, frames f = N := ⟨_, rfl⟩
  have hN4 : N ≤ 240 := by rw [← hN]; exact (frames_in f).2
  have HN1 := Lib.hid (fun j (h : j < N) => frames_lt (f := f) (j := j) (by rw [hN]; exact h))
  have HN2 := Lib.hid (fun (h : (N : Int) < f) => (by have := frames_end (f := f) (by rw [hN]; exact h); rwa [hN] at this : ¬ ((N : Int) < 240)))
  have HNN := Lib.hid hN
  have HCL := Lib.hid (frames_in f).1
  clear hN
  go_enter Try.func27, Try.ntmps27
  go_wp2
  have hg0 : (w.alloc (.cells #[.slice none 0 0, .int .i64 0] 92)).heap[w.heap.size]? = some (.cells #[.slice none 0 0, .int .i64 0] 92 (0, 0)) := blk_new _ _
  have hb0 := bel_alloc (Below.refl w.heap.size w) (.cells #[.slice none 0 0, .int .i64 0] 92)
  have ho0 := own_nil (w.alloc (.cells #[.slice none 0 0, .int .i64 0] 92)) w.heap.size 9 1
  obtain ⟨g, hg⟩ : ∃ g, w.heap.size = g := ⟨_, rfl⟩
  have HBg : Hid (w.heap.size ≤ g) := Lib.hid (by omega)
  go_loopw [6] (fun i wr => ∃ (j : Nat) (A : Option Addr) (c : Nat), j ≤ N ∧ i = .int .i64 j ∧ Hid (wr.heap[g]? = some (.cells #[.slice A j c, .int .i64 0] 92 (0, 0))) ∧ Hid (wr.ownsRow w.heap.size 9 1 (.slice A j c) j (List.replicate j (.string Z))) ∧ Hid (Below w.heap.size w wr)) (fun i _ => N - (intOf i).toNat)
  case atStart => exact ⟨0, none, 0, by omega, rfl, Lib.hid (by rw [← hg]; exact hg0), Lib.hid ho0, Lib.hid hb0⟩
  case round =>
    clear hg0 hb0 ho0
    obtain ⟨j, A, c, hj, rfl, HG, HO, HB⟩ := hrel
    rw [hg]
    have HGE := Lib.hid hg
    clear hg
    by_cases hjn : j < N
    · obtain ⟨b1, b2⟩ := HN1.out j hjn
      go_wp2
      have hmk0 := print_make (P := Try.prog) 26 5 .u8 1 underB info5 (by decide) 128 (by decide)
      have hcv0 := conv (c := 128) (own_reads' (own_made wr.drew wr.heap.size 5 .u8 128 (Nat.le_refl _) (by decide)))
      obtain ⟨ob, hob⟩ : ∃ ob, Obj.cells (madeCells #[.int .u8 0] 128) 5 = ob := ⟨_, rfl⟩
      have hmk : ∀ W : World, (Instr.makeSlice 26 (.int .i64 128) (.int .i64 128)).run Try.prog W = .ok (.slice (some ⟨W.heap.size, 0, none⟩) 128 128) (W.alloc ob) := by rw [← hob]; exact hmk0
      have hcv : (convert 26 9 (.slice (some ⟨wr.heap.size, 0, none⟩) 128 128)).run Try.prog (wr.alloc ob).drew = .ok (.string Z) (wr.alloc ob).drew := by rw [← hob]; exact hcv0
      have hb2 : Below wr.heap.size wr ((wr.drew.alloc ob).alloc (.cells #[.string Z] 9)) := bel_alloc (bel_alloc (bel_drew (Below.refl _ _)) _) _
      have HO2 : Hid (((wr.drew.alloc ob).alloc (.cells #[.string Z] 9)).ownsRow w.heap.size 9 1 (.slice A j c) j (List.replicate j (.string Z))) := Lib.hid (((show wr.drew.ownsRow w.heap.size 9 1 (.slice A j c) j (List.replicate j (.string Z)) from HO.out).alloc ob).alloc _)
      have HN : Hid (∀ i u, [Value.string Z][i]? = some u → ((wr.drew.alloc ob).alloc (.cells #[.string Z] 9)).cell? ((⟨(wr.drew.alloc ob).heap.size, 0, none⟩ : Addr).add i) = some u) := Lib.hid (by
        intro i u hi
        have h0 : i = 0 := by
          rcases Nat.eq_zero_or_pos i with h | h
          · exact h
          · rw [List.getElem?_eq_none (by simp; omega)] at hi; cases hi
        subst h0
        rw [add_at, blk_cell (blk_new _ _)]
        simpa using hi)
      have hm1 : j + 1 ≤ maxLen := by unfold maxLen; omega
      have hm2 : (j + 1) * 16 ≤ 140737488355328 := by omega
      have hbs : w.heap.size ≤ ((wr.drew.alloc ob).alloc (.cells #[.string Z] 9)).heap.size := Nat.le_trans HB.out.size hb2.size
      have xd : wr.drew.cell? ⟨g, 0, none⟩ = some (.slice A j c) := (cells2 HG.out).1
      clear hmk0 hcv0 hob
      refine wp_region_noPanic ?_
      refine Go.Proofs.YtdpjpmlajjfpgaaW.PrintLast.start_ (n := 12) (S := fun w' => w'.cell? ⟨g, 0, none⟩ = some (.slice A j c)) (ds := [11]) #[false, false, false, false, false, false, false, false, false, false, false, false] (by kernel_rfl) rfl rfl xd (fun hHeld => ?_)
      refine Go.Proofs.YtdpjpmlajjfpgaaW.PrintLast.take_ (i := 0) (N := (some 18)) (v := ?_) (a' := ?_) #[true, false, false, false, false, false, false, false, false, false, false, false] rfl rfl (by kernel_rfl) (fun _ _ _ h => h) (Or.inl ⟨by rfl, ?_⟩) hHeld ?_ ?_
      rotate_left
      · intro w' s0
        go_simp
        with_reducible rfl
      rotate_left
      · simp only [Act.put, List.setIfInBounds_toArray, List.set_cons_zero, List.set_cons_succ]
        rfl
      refine Go.Proofs.YtdpjpmlajjfpgaaW.PrintLast.take_ (i := 1) (N := (some 19)) (v := ?_) (a' := ?_) #[true, true, false, false, false, false, false, false, false, false, false, false] rfl rfl (by kernel_rfl) (fun _ _ _ h => h) (Or.inl ⟨by rfl, ?_⟩) hHeld ?_ ?_
      rotate_left
      · intro w' s0
        go_simp
        with_reducible rfl
      rotate_left
      · simp only [Act.put, List.setIfInBounds_toArray, List.set_cons_zero, List.set_cons_succ]
        rfl
      refine Go.Proofs.YtdpjpmlajjfpgaaW.PrintLast.take_ (i := 2) (N := (some 20)) (v := ?_) (a' := ?_) #[true, true, true, false, false, false, false, false, false, false, false, false] rfl rfl (by kernel_rfl) (fun _ _ _ h => h) (Or.inl ⟨by rfl, ?_⟩) hHeld ?_ ?_
      rotate_left
      · intro w' s0
        go_simp
        with_reducible rfl
      rotate_left
      · simp only [Act.put, List.setIfInBounds_toArray, List.set_cons_zero, List.set_cons_succ]
        rfl
      refine Go.Proofs.YtdpjpmlajjfpgaaW.PrintLast.take_ (i := 3) (N := (some 21)) (v := ?_) (a' := ?_) #[true, true, true, true, false, false, false, false, false, false, false, false] rfl rfl (by kernel_rfl) (fun _ _ _ h => h) (Or.inl ⟨by rfl, ?_⟩) hHeld ?_ ?_
      rotate_left
      · intro w' s0
        go_simp
        with_reducible rfl
      rotate_left
      · simp only [Act.put, List.setIfInBounds_toArray, List.set_cons_zero, List.set_cons_succ]
        rfl
      refine Go.Proofs.YtdpjpmlajjfpgaaW.PrintLast.take_ (i := 4) (N := (some 22)) (v := ?_) (a' := ?_) #[true, true, true, true, true, false, false, false, false, false, false, false] rfl rfl (by kernel_rfl) (fun _ _ _ h => h) (Or.inl ⟨by rfl, ?_⟩) hHeld ?_ ?_
      rotate_left
      · intro w' s0
        go_simp
        with_reducible rfl
      rotate_left
      · simp only [Act.put, List.setIfInBounds_toArray, List.set_cons_zero, List.set_cons_succ]
        rfl
      refine Go.Proofs.YtdpjpmlajjfpgaaW.PrintLast.one_ (i := 5) (N := (some 23)) #[true, true, true, true, true, true, false, false, false, false, false, false] rfl rfl (by kernel_rfl) (by decide) (fun K hK => ?_)
      refine Go.Proofs.YtdpjpmlajjfpgaaW.PrintLast.value_ (v := .slice (some ⟨wr.heap.size, 0, none⟩) 128 128) (w1 := wr.drew.alloc ob) (by rfl) rfl (by go_simp) ?_
      refine hK.out _ _ (cell_below hHeld (bel_alloc (Below.refl _ _) _)) (fun hHeld5 => ?_)
      clear hK K
      simp only [Act.put, List.setIfInBounds_toArray, List.set_cons_zero, List.set_cons_succ]
      refine Go.Proofs.YtdpjpmlajjfpgaaW.PrintLast.one_ (i := 6) (N := (some 24)) #[true, true, true, true, true, true, true, false, false, false, false, false] rfl rfl (by kernel_rfl) (by decide) (fun K hK => ?_)
      refine Go.Proofs.YtdpjpmlajjfpgaaW.PrintLast.value_ (v := .string Z) (w1 := wr.drew.alloc ob) (by rfl) rfl (by go_simp) ?_
      refine hK.out _ _ hHeld5 (fun hHeld6 => ?_)
      clear hK K
      simp only [Act.put, List.setIfInBounds_toArray, List.set_cons_zero, List.set_cons_succ]
      refine Go.Proofs.YtdpjpmlajjfpgaaW.PrintLast.one_ (i := 7) (N := (some 25)) #[true, true, true, true, true, true, true, true, false, false, false, false] rfl rfl (by kernel_rfl) (by decide) (fun K hK => ?_)
      refine Go.Proofs.YtdpjpmlajjfpgaaW.PrintLast.value_ (v := .slice (some ⟨(wr.drew.alloc ob).heap.size, 0, none⟩) 1 1) (w1 := (wr.drew.alloc ob).alloc (.cells #[.string Z] 9)) (by rfl) rfl (by go_simp) ?_
      refine hK.out _ _ (cell_below hHeld6 (bel_alloc (Below.refl _ _) _)) (fun hHeld7 => ?_)
      clear hK K
      simp only [Act.put, List.setIfInBounds_toArray, List.set_cons_zero, List.set_cons_succ]
      refine Go.Proofs.YtdpjpmlajjfpgaaW.PrintLast.one_ (i := 8) (N := (some 26)) #[true, true, true, true, true, true, true, true, true, false, false, false] rfl rfl (by kernel_rfl) (by decide) (fun K hK => ?_)
      rw [if_pos (by rfl)]
      refine wp_append_own _ (.tmp 22) (.tmp 25) 90 rfl w.heap.size 9 i9 _ 1 16 Try.underlying90 hi9 hz90 hz91 hz92 rfl (by decide) _ j (List.replicate j (.string Z)) rfl HO2.out ⟨(wr.drew.alloc ob).heap.size, 0, none⟩ 1 1 [.string Z] rfl rfl HN.out (by intro u hu; simp at hu; subst hu; rfl) hm1 hm2 hbs ?_
      intro v' w3 ho3 hg3 _
      obtain ⟨⟨A3, c3, rfl⟩, hblk3⟩ := after_new (w := w) HG.out HO.out hb2 ho3 hg3
      have hcell3 := (cells2 hblk3).1
      have hfro3 := blk_free hblk3 0
      have HO3 := Lib.hid ho3
      have HG3 := Lib.hid hg3
      clear ho3 hg3
      refine hK.out _ _ hcell3 (fun hHeld8 => ?_)
      clear hK K
      simp only [Act.put, List.setIfInBounds_toArray, List.set_cons_zero, List.set_cons_succ]
      refine Go.Proofs.YtdpjpmlajjfpgaaW.PrintLast.take_ (i := 9) (N := (some 27)) (v := ?_) (a' := ?_) #[true, true, true, true, true, true, true, true, true, true, false, false] rfl rfl (by kernel_rfl) (fun _ _ _ h => h) (Or.inl ⟨by rfl, ?_⟩) hHeld8 ?_ ?_
      rotate_left
      · intro w' s0
        go_simp
        with_reducible rfl
      rotate_left
      · simp only [Act.put, List.setIfInBounds_toArray, List.set_cons_zero, List.set_cons_succ]
        rfl
      refine Go.Proofs.YtdpjpmlajjfpgaaW.PrintLast.take_ (i := 10) (N := (some 28)) (v := ?_) (a' := ?_) #[true, true, true, true, true, true, true, true, true, true, true, false] rfl rfl (by kernel_rfl) (fun _ _ _ h => h) (Or.inl ⟨by rfl, ?_⟩) hHeld8 ?_ ?_
      rotate_left
      · intro w' s0
        go_simp
        with_reducible rfl
      rotate_left
      · simp only [Act.put, List.setIfInBounds_toArray, List.set_cons_zero, List.set_cons_succ]
        rfl
      refine Go.Proofs.YtdpjpmlajjfpgaaW.PrintLast.last_ (i := 11) (N := none) #[true, true, true, true, true, true, true, true, true, true, true, true] rfl rfl (by kernel_rfl) (by decide) (fun K hK => ?_)
      refine Go.Proofs.YtdpjpmlajjfpgaaW.PrintLast.skip_ (w1 := w3.setCell ⟨g, 0, none⟩ (.slice A3 (j + 1) c3)) (by rfl) rfl (by go_simp) ?_
      refine hK.out _ _ ?_
      clear hK K
      try simp only [Act.put, List.setIfInBounds_toArray, List.set_cons_zero, List.set_cons_succ]
      refine Go.Proofs.YtdpjpmlajjfpgaaW.PrintLast.done_ (by kernel_rfl) ?_
      refine NoPanic.normal ?_
      have hfin := ram_fin HG3.out HO3.out HG.out HO.out hb2 hblk3 HB.out HBg.out
      rw [HGE.out, ← List.replicate_succ'] at hfin
      have HF1 := Lib.hid hfin.1
      have HF2 := Lib.hid hfin.2.1
      have HF3 := Lib.hid hfin.2.2
      clear hfin
      go_wp2
      go_roundw
      case measure => simp [intOf]; omega
      case rel => exact ⟨j + 1, A3, c3, by omega, by go_num, HF1, HF2, HF3⟩
    · have hjN : j = N := by omega
      subst hjN
      obtain ⟨x0, x1⟩ := cells2 HG.out
      have x2 := blk_free HG.out 1
      by_cases hlt : (j : Int) < f
      · have b3 := HN2.out hlt
        rcases sec_cases j s with ⟨hs, he⟩ | ⟨hs, hs', he⟩ | ⟨hs, he⟩
        all_goals
          have HE := Lib.hid he
          clear he
          go_wp2
          go_ret
          exact rnew_fin HNN.out HCL.out HE.out HG.out HBg.out HO.out HB.out
      · rcases sec_cases j s with ⟨hs, he⟩ | ⟨hs, hs', he⟩ | ⟨hs, he⟩
        all_goals
          have HE := Lib.hid he
          clear he
          go_wp2
          go_ret
          exact rnew_fin HNN.out HCL.out HE.out HG.out HBg.out HO.out HB.out
end Go.Proofs.Ytdpjpmlajjfpgaa.Ram
