/- What the statements on ram begin with; what no memory answers. -/
import Derived.Test.YtbcdkhgfjdbjoaaRamG
namespace Go.Proofs.Ytbcdkhgfjdbjoaa.Ram
open Go.RowKit Go.Proofs.Ytbcdkhgfjdbjoaa.Mem Go.Proofs.Ytbcdkhgfjdbjoaa.Kept
open Go.Proofs.YtbcdkhgfjdbjoaaW.PrintWords (nums ReadsInt own_reads own_reads' own_le own_lit print_append_row)
set_option linter.unusedVariables false
set_option linter.unusedSimpArgs false

theorem reads1 (w : World) (x : Int) : ReadsInt (w.alloc (.cells #[.int .u8 x] 5)) .u8 (some ⟨w.heap.size, 0, none⟩) 1 [x] := by
  refine ⟨rfl, by omega, fun _ => ⟨_, rfl, fun j hj => ?_⟩⟩
  rw [add_at, blk_cell (blk_new _ _)]
  have : j = 0 := by omega
  subst this
  rfl
theorem reads_nil (w : World) : ReadsInt w .u8 none 0 [] := ⟨rfl, by omega, fun h => absurd h (by omega)⟩

set_option maxRecDepth 100000 in
set_option maxHeartbeats 4000000 in
theorem begun (w : World) : Calls Try.prog 22 #[] w fun e w' => e = .returned (.bool true) ∧ Below w.heap.size w w' := by
  have hb := Below.refl w.heap.size w
  have HZ : Hid (∀ x ∈ splice (splice (List.replicate (4 * 128) (0 : Int)) (1 * 128 + 3) [7]) (2 * 128 + 1 * 8) (low8 5), 0 ≤ x ∧ x ≤ 255) := Lib.hid (mem_splice (mem_splice mem_zero (by simp)) (mem_low8 5 (by omega)))
  have P1 : Hid (part (splice (List.replicate (4 * 128) (0 : Int)) (1 * 128 + 3) [7]) 1 3 1 = [7]) := Lib.hid (part_same (n := 4) (by simp) (by omega) (by omega) rfl)
  have P2 : Hid (num8 (part (splice (splice (List.replicate (4 * 128) (0 : Int)) (1 * 128 + 3) [7]) (2 * 128 + 1 * 8) (low8 5)) 2 (1 * 8) 8) = 5) := Lib.hid (by
    rw [part_same (n := 4) (f := 2) (o := 1 * 8) (k := 8) (l := low8 5) (by rw [splice_len (by simp)]; simp) (by omega) (by omega) rfl]
    exact num_low 5 (by omega) (by omega))
  have e1 : ((1 : Nat) : Int) = 1 := rfl
  have M1 : Hid (may 4 2 false 1 3 1 = false) := Lib.hid (by decide)
  have C4 : Hid (frames 4 = 4) := Lib.hid (by decide)
  have C2 : Hid (secures 4 2 = 2) := Lib.hid (by decide)
  have S1 : Hid ((decide ((0 : Int) ≤ 1) && decide ((1 : Int) < 2)) = true) := Lib.hid (by decide)
  have O1 : Hid (true = true ∨ (2 : Int) ≤ 1) := Lib.hid (Or.inl rfl)
  have O2 : Hid (false = true ∨ (2 : Int) ≤ 2) := Lib.hid (Or.inr (by omega))
  have q41 : 1 < 4 := by omega
  have q42 : 2 < 4 := by omega
  have q40 : 0 < 4 := by omega
  have q16 : 1 < 16 := by omega
  have q5 : (0 : Int) ≤ 5 ∧ (5 : Int) ≤ 18446744073709551615 := by omega
  have q31 : 3 + 1 ≤ 128 := by omega
  clear e1
  go_enter Try.func22, Try.ntmps22
  go_wp2_with (first
    | (go_at_call 23; (with_reducible refine (new_i w 4 2 4 2 C4.out C2.out).mono ?_); rintro e w1 ⟨g, b, rfl, H, hb1⟩; have H1 := Lib.hid (H.below (bel_alloc (Below.refl _ _) (.cells #[.int .u8 7] 5))); replace hb := bel_alloc (bel_chain hb hb1) (.cells #[.int .u8 7] 5); clear H hb1)
    | (go_at_call 27; refine (write_i H1.out true 1 3 1 3 rfl rfl (some ⟨w1.heap.size, 0, none⟩) 1 1 q41 (Or.inl rfl) q31 (reads1 _ 7)).mono ?_; rintro e w2 ⟨rfl, H, hk⟩; have H2 := Lib.hid H; replace hb := bel_row hb H1.out (Nat.le_refl _) q40 hk; clear H hk H1)
    | (go_at_call 35; (with_reducible refine (read_i H2.out true 1 3 1 1 3 1 rfl rfl rfl q41 (Or.inl rfl) q31 P1.out).mono ?_); rintro e w3 ⟨A3, c3, rfl, hc3, hr3, hb3, hf3⟩; have HF3 := Lib.hid hf3; have hlt3 := Lib.hid (H2.out.row q40).2.1; have H3 := Lib.hid (H2.out.below hb3); have R3 := Lib.hid hr3; replace hb := bel_chain hb hb3; clear hr3 hb3 hf3 H2)
    | (go_at_call 35; (with_reducible refine (read_no H3.out false 1 3 1 M1.out).mono ?_); rintro e w4 ⟨rfl, rfl⟩)
    | (go_at_call 30; refine (setWord_i H3.out false 2 1 2 1 5 rfl rfl q42 (Or.inr (by omega)) q16 q5).mono ?_; rintro e w5 ⟨rfl, H, hk⟩; have H5 := Lib.hid H; have R5 := Lib.hid (reads_kept R3.out HF3.out hk (fun k e => (by rw [e]; exact hlt3.out))); replace hb := bel_row hb H3.out (Nat.le_refl _) q40 hk; clear H hk R3 H3)
    | (go_at_call 37; (with_reducible refine (get_i H5.out false 2 1 2 1 5 rfl rfl q42 O2.out q16 HZ.out P2.out).mono ?_); rintro e w6 ⟨rfl, rfl⟩; obtain ⟨ad, rfl, hc⟩ := R5.out.2.2 (by decide); have x0 := hc 0 (by decide); rw [Addr.add_zero'] at x0)
    | (go_at_call 25; (with_reducible refine (frames_i H5.out 4 rfl).mono ?_); rintro e w7 ⟨rfl, rfl⟩)
    | (go_at_call 39; (with_reducible refine (secure_i H5.out 1 true S1.out).mono ?_); rintro e w8 ⟨rfl, rfl⟩)
    | (go_at_call 32; refine (clear_i H5.out 2 2 rfl q42).mono ?_; rintro e w9 ⟨rfl, H, hk⟩; have H9 := Lib.hid H; replace hb := bel_row hb H5.out (Nat.le_refl _) q40 hk; clear H hk H5)
    | (go_at_call 34; (with_reducible refine (copy_i H9.out).mono ?_); rintro e w10 ⟨g', b', rfl, _, _, hb10⟩; replace hb := bel_chain hb hb10; clear hb10)
    | fail)
  all_goals go_ret
  all_goals exact ⟨rfl, hb⟩
end Go.Proofs.Ytbcdkhgfjdbjoaa.Ram
