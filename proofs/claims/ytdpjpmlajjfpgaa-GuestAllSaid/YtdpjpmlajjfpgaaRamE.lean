/- Contracts of package ram: SetWord, Word. -/
import Derived.Test.YtdpjpmlajjfpgaaRamD
namespace Go.Proofs.Ytdpjpmlajjfpgaa.Ram
open Go.RowKit Go.Proofs.Ytdpjpmlajjfpgaa.Mem Go.Proofs.Ytdpjpmlajjfpgaa.Kept
open Go.Proofs.YtdpjpmlajjfpgaaW.PrintWords (nums ReadsInt own_reads own_reads' own_le own_lit print_append_row)
set_option linter.unusedVariables false
set_option linter.unusedSimpArgs false

/-- A number's eight bytes, the lowest first; and back. -/
def low8 (v : Int) : List Int := [v % 256, v / 256 % 256, v / 65536 % 256, v / 16777216 % 256, v / 4294967296 % 256, v / 1099511627776 % 256, v / 281474976710656 % 256, v / 72057594037927936 % 256]
def num8 (l : List Int) : Int := l.getD 0 0 + 256 * (l.getD 1 0 + 256 * (l.getD 2 0 + 256 * (l.getD 3 0 + 256 * (l.getD 4 0 + 256 * (l.getD 5 0 + 256 * (l.getD 6 0 + 256 * l.getD 7 0))))))
theorem at_eight {w : World} {B g b n : Nat} {F : List Int} {s : Int} (h : Is w B g b n F s) (sec : Bool) (f k : Nat) (h1 : f < n) (h2 : sec = true ∨ s ≤ f) (hk : k < 16) :
    Calls Try.prog 52 #[.pointer (some ⟨g, 0, none⟩), .bool sec, .int .i64 f, .int .i64 ((k : Int) * 8), .int .i64 8] w fun e w' => e = .returned (.slice (some ⟨b, f * 128 + k * 8, none⟩) 8 8) ∧ w = w' :=
  (by have := at_ok h sec f (k * 8) 8 h1 h2 (by omega); rwa [show (((k * 8 : Nat)) : Int) = (k : Int) * 8 by omega] at this)
theorem set_splice (F L : List Int) (o j : Nat) (hj : j < L.length) (hF : o + L.length ≤ F.length) : (splice F o (L.take j)).set (o + j) (L.getD j 0) = splice F o (L.take (j + 1)) := by
  have e1 : (F.take o).length = o := by rw [List.length_take]; omega
  have e2 : (L.take j).length = j := by rw [List.length_take]; omega
  have e3 : (L.take (j + 1)).length = j + 1 := by rw [List.length_take]; omega
  have e4 : L.getD j 0 = L[j] := by rw [List.getD_eq_getElem?_getD, List.getElem?_eq_getElem hj]; rfl
  unfold splice
  rw [e2, e3, e4, List.drop_eq_getElem_cons (show o + j < F.length by omega), List.set_append_right _ _ (by omega), e1, Nat.add_sub_cancel_left, List.set_append_right _ _ (by omega), e2, Nat.sub_self]
  rw [List.take_succ_eq_append_getElem hj]
  simp only [List.append_assoc, List.cons_append, List.nil_append, List.set_cons_zero, Nat.add_assoc]
theorem is_cell {w : World} {B g b n : Nat} {F : List Int} {s : Int} (h : Is w B g b n F s) {o : Nat} (ho : o < n * 128) : w.cell? ⟨b, o, none⟩ = some (.int .u8 (F.getD o 0)) ∧ w.frozen? ⟨b, o, none⟩ = false := by
  have hr := h.reads (by omega) (o := o) (m := 1) (by omega)
  have hc := reads_cell hr (show 0 < 1 by omega)
  obtain ⟨A, c, cur, _, _, _, hF, _, _, _, hrow⟩ := h
  obtain ⟨_, _, hcb, _, hsize⟩ := hrow (by omega)
  refine ⟨?_, blk_free hcb o⟩
  rw [Nat.add_zero] at hc
  rw [hc, List.getD_eq_getElem?_getD, List.getD_eq_getElem?_getD, List.getElem?_take, if_pos (by omega), List.getElem?_drop, Nat.add_zero]
theorem is_set {w : World} {B g b n : Nat} {F : List Int} {s : Int} (h : Is w B g b n F s) {o : Nat} (ho : o < n * 128) (x : Int) : Is (w.setCell ⟨b, o, none⟩ (.int .u8 x)) B g b n (F.set o x) s ∧ Kept w (w.setCell ⟨b, o, none⟩ (.int .u8 x)) (fun j => j = b) := by
  have hkk : Kept w (w.setCell ⟨b, o, none⟩ (.int .u8 x)) (fun j => j = b) := kept_set (S := fun j => j = b) (kept_refl _ _) rfl _ _
  refine ⟨?_, hkk⟩
  have hrow := h.row (by omega)
  obtain ⟨A, c, cur, h1, h2, h3, h4, h5, h6, h7, h8⟩ := h
  obtain ⟨h9, h10, h11, h12, h13⟩ := h8 (by omega)
  refine ⟨A, c, _, hkk.blk h1 (fun e => hrow.2.2 e.symm), h2, h3, by simpa using h4, h5, h6, h7, fun _ => ⟨h9, h10, blk_set h11 o _, ?_, by simpa using h13⟩⟩
  rw [Array.toList_setIfInBounds, List.take_set, h12]
  simp [nums, List.map_set]
theorem set_step {w wr : World} {B g b n : Nat} {F L : List Int} {s x : Int} {o j : Nat} (HI : Is wr B g b n (splice F o (L.take j)) s) (HK : Kept w wr (fun j => j = b)) (hj : j < L.length) (hL : o + L.length ≤ n * 128) (hF : F.length = n * 128) (hx : L.getD j 0 = x) :
    Is (wr.setCell ⟨b, o + j, none⟩ (.int .u8 x)) B g b n (splice F o (L.take (j + 1))) s ∧ Kept w (wr.setCell ⟨b, o + j, none⟩ (.int .u8 x)) (fun j => j = b) := by
  obtain ⟨h1, h2⟩ := is_set HI (o := o + j) (by omega) x
  refine ⟨?_, kept_trans HK h2⟩
  rw [← hx, set_splice F L o j hj (by omega), hx] at h1
  exact h1
set_option maxHeartbeats 2000000 in
theorem setWord_ok {w : World} {B g b n : Nat} {F : List Int} {s : Int} (h : Is w B g b n F s) (sec : Bool) (f k : Nat) (v : Int) (h1 : f < n) (h2 : sec = true ∨ s ≤ f) (hk : k < 16) (hv : 0 ≤ v ∧ v ≤ 18446744073709551615) :
    Calls Try.prog 29 #[.pointer (some ⟨g, 0, none⟩), .bool sec, .int .i64 f, .int .i64 k, .int .u64 v] w fun e w' => e = .returned (.int .i64 0) ∧ Is w' B g b n (splice F (f * 128 + k * 8) (low8 v)) s ∧ Kept w w' (fun j => j = b) := by
  have qn := fun (w : World) (a : Option Addr) (n c n' c' : Nat) => Lib.run_eql_slice_nil (P := Try.prog) w 26 5 a n c n' c' underB
  have H := Lib.hid h
  have H2 := Lib.hid h2
  have hlen := h.len
  clear h h2
  go_enter Try.func29, Try.ntmps29
  go_wp2_with (first
    | (go_at_call 53; (with_reducible refine (word_ok _ k hk).mono ?_); rintro e w1 ⟨rfl, rfl⟩)
    | (go_at_call 52; (with_reducible refine (at_eight H.out _ f k h1 H2.out hk).mono ?_); rintro e w1 ⟨rfl, rfl⟩)
    | fail)
  obtain ⟨o, ho⟩ : ∃ o, f * 128 + k * 8 = o := ⟨_, rfl⟩
  rw [ho]
  have hon : o + 8 ≤ n * 128 := by omega
  have HO := Lib.hid ho
  clear ho
  go_loopw [23] (fun i wr => ∃ j : Nat, j ≤ 8 ∧ i = .int .i64 j ∧ Hid (Is wr B g b n (splice F o ((low8 v).take j)) s) ∧ Hid (Kept w wr (fun j => j = b))) (fun i _ => 8 - (intOf i).toNat)
  case atStart => exact ⟨0, by omega, rfl, Lib.hid (by rw [List.take_zero, splice_nil]; exact H.out), Lib.hid (kept_refl _ _)⟩
  case round =>
    clear H
    obtain ⟨j, hj, rfl, HI, HK⟩ := hrel
    by_cases h8 : j = 8
    · subst h8
      go_wp2
      go_ret
      exact ⟨rfl, by rw [HO.out]; exact HI.out, HK.out⟩
    · have hc : j = 0 ∨ j = 1 ∨ j = 2 ∨ j = 3 ∨ j = 4 ∨ j = 5 ∨ j = 6 ∨ j = 7 := by omega
      have hcell := is_cell HI.out (o := o + j) (by omega)
      rcases hc with rfl | rfl | rfl | rfl | rfl | rfl | rfl | rfl
      · rw [Nat.add_zero] at hcell
        obtain ⟨x0, x1⟩ := hcell
        go_wp2
        go_roundw
        case measure => simp [intOf]
        case rel => exact ⟨1, by omega, rfl, Lib.hid (set_step (j := 0) HI.out HK.out (by simp [low8]) (by simp [low8]; omega) hlen.1 rfl).1, Lib.hid (set_step (j := 0) HI.out HK.out (by simp [low8]) (by simp [low8]; omega) hlen.1 rfl).2⟩
      · obtain ⟨x0, x1⟩ := hcell
        go_wp2
        go_roundw
        case measure => simp [intOf]
        case rel => exact ⟨2, by omega, rfl, Lib.hid (set_step (j := 1) HI.out HK.out (by simp [low8]) (by simp [low8]; omega) hlen.1 rfl).1, Lib.hid (set_step (j := 1) HI.out HK.out (by simp [low8]) (by simp [low8]; omega) hlen.1 rfl).2⟩
      · obtain ⟨x0, x1⟩ := hcell
        go_wp2
        go_roundw
        case measure => simp [intOf]
        case rel => exact ⟨3, by omega, rfl, Lib.hid (set_step (j := 2) HI.out HK.out (by simp [low8]) (by simp [low8]; omega) hlen.1 rfl).1, Lib.hid (set_step (j := 2) HI.out HK.out (by simp [low8]) (by simp [low8]; omega) hlen.1 rfl).2⟩
      · obtain ⟨x0, x1⟩ := hcell
        go_wp2
        go_roundw
        case measure => simp [intOf]
        case rel => exact ⟨4, by omega, rfl, Lib.hid (set_step (j := 3) HI.out HK.out (by simp [low8]) (by simp [low8]; omega) hlen.1 rfl).1, Lib.hid (set_step (j := 3) HI.out HK.out (by simp [low8]) (by simp [low8]; omega) hlen.1 rfl).2⟩
      · obtain ⟨x0, x1⟩ := hcell
        go_wp2
        go_roundw
        case measure => simp [intOf]
        case rel => exact ⟨5, by omega, rfl, Lib.hid (set_step (j := 4) HI.out HK.out (by simp [low8]) (by simp [low8]; omega) hlen.1 rfl).1, Lib.hid (set_step (j := 4) HI.out HK.out (by simp [low8]) (by simp [low8]; omega) hlen.1 rfl).2⟩
      · obtain ⟨x0, x1⟩ := hcell
        go_wp2
        go_roundw
        case measure => simp [intOf]
        case rel => exact ⟨6, by omega, rfl, Lib.hid (set_step (j := 5) HI.out HK.out (by simp [low8]) (by simp [low8]; omega) hlen.1 rfl).1, Lib.hid (set_step (j := 5) HI.out HK.out (by simp [low8]) (by simp [low8]; omega) hlen.1 rfl).2⟩
      · obtain ⟨x0, x1⟩ := hcell
        go_wp2
        go_roundw
        case measure => simp [intOf]
        case rel => exact ⟨7, by omega, rfl, Lib.hid (set_step (j := 6) HI.out HK.out (by simp [low8]) (by simp [low8]; omega) hlen.1 rfl).1, Lib.hid (set_step (j := 6) HI.out HK.out (by simp [low8]) (by simp [low8]; omega) hlen.1 rfl).2⟩
      · obtain ⟨x0, x1⟩ := hcell
        go_wp2
        go_roundw
        case measure => simp [intOf]
        case rel => exact ⟨8, by omega, rfl, Lib.hid (set_step (j := 7) HI.out HK.out (by simp [low8]) (by simp [low8]; omega) hlen.1 (show v / 72057594037927936 % 256 = v / 72057594037927936 by omega)).1, Lib.hid (set_step (j := 7) HI.out HK.out (by simp [low8]) (by simp [low8]; omega) hlen.1 (show v / 72057594037927936 % 256 = v / 72057594037927936 by omega)).2⟩
/-- The number of the last m of eight bytes. -/
def up (L : List Int) : Nat → Int
  | 0 => 0
  | m + 1 => up L m * 256 + L.getD (7 - m) 0
theorem up_in (L : List Int) (h : ∀ m, 0 ≤ L.getD m 0 ∧ L.getD m 0 ≤ 255) : ∀ m, 0 ≤ up L m ∧ up L m < 256 ^ m
  | 0 => by simp [up]
  | m + 1 => by
    have ih := up_in L h m
    have hb := h (7 - m)
    have e : (256 : Int) ^ (m + 1) = 256 ^ m * 256 := Int.pow_succ 256 m
    rw [e]
    simp only [up]
    omega
theorem up_step (L : List Int) (h : ∀ m, 0 ≤ L.getD m 0 ∧ L.getD m 0 ≤ 255) {m j : Nat} {z : Int} (hm : m < 8) (hj : 7 - m = j) (hz : L.getD j 0 = z) : bits .or .u64 (IntKind.u64.wrap (up L m * 256)) z = up L (m + 1) := by
  subst hj hz
  have hu := up_in L h m
  have hb := h (7 - m)
  have hp : (256 : Int) ^ m ≤ 256 ^ 7 := by
    have : m = 0 ∨ m = 1 ∨ m = 2 ∨ m = 3 ∨ m = 4 ∨ m = 5 ∨ m = 6 ∨ m = 7 := by omega
    rcases this with rfl | rfl | rfl | rfl | rfl | rfl | rfl | rfl <;> decide
  have hq : up L m * 256 < 18446744073709551616 := by
    have : (256 : Int) ^ 7 = 72057594037927936 := by decide
    omega
  rw [Bits.u64_nn (by omega) (by omega), Bits.join_u64 8 _ _ (by omega) (by omega) (by omega) hb.1 (by omega) (by omega)]
  rfl
theorem ret_w {x y : Int} (h : x = y) : Ending.returned (.tuple #[.int .u64 x, .int .i64 0]) = .returned (.tuple #[.int .u64 y, .int .i64 0]) := by rw [h]
theorem up_num (L : List Int) : up L 8 = num8 L := by simp [up, num8]; omega
set_option maxHeartbeats 2000000 in
theorem get_ok {w : World} {B g b n : Nat} {F : List Int} {s : Int} (h : Is w B g b n F s) (sec : Bool) (f k : Nat) (h1 : f < n) (h2 : sec = true ∨ s ≤ f) (hk : k < 16) (hF : ∀ x ∈ F, 0 ≤ x ∧ x ≤ 255) :
    Calls Try.prog 39 #[.pointer (some ⟨g, 0, none⟩), .bool sec, .int .i64 f, .int .i64 k] w fun e w' => e = .returned (.tuple #[.int .u64 (num8 (part F f (k * 8) 8)), .int .i64 0]) ∧ w = w' := by
  have qn := fun (w : World) (a : Option Addr) (n c n' c' : Nat) => Lib.run_eql_slice_nil (P := Try.prog) w 26 5 a n c n' c' underB
  have H := Lib.hid h
  have H2 := Lib.hid h2
  have hlen := h.len
  have hp := h.reads (o := f * 128 + k * 8) (m := 8) (by omega) (by omega)
  obtain ⟨L, hL⟩ : ∃ L, part F f (k * 8) 8 = L := ⟨_, rfl⟩
  have hpL : ReadsInt w .u8 (some ⟨b, f * 128 + k * 8, none⟩) 8 L := by rw [← hL]; exact hp
  have hLb : ∀ m, 0 ≤ L.getD m 0 ∧ L.getD m 0 ≤ 255 := by
    intro m
    rw [List.getD_eq_getElem?_getD]
    rcases Nat.lt_or_ge m L.length with hm | hm
    · rw [List.getElem?_eq_getElem hm]
      have : L[m] ∈ F := by
        have : L[m] ∈ L := List.getElem_mem hm
        have h2 : L[m] ∈ part F f (k * 8) 8 := by rw [hL]; exact this
        exact List.mem_of_mem_drop (List.mem_of_mem_take h2)
      exact hF _ this
    · rw [List.getElem?_eq_none hm]; simp
  rw [hL]
  have HP := Lib.hid hpL
  have HB := Lib.hid hLb
  clear h h2 hp hL hpL hLb hF
  go_enter Try.func39, Try.ntmps39
  go_wp2_with (first
    | (go_at_call 53; (with_reducible refine (word_ok _ k hk).mono ?_); rintro e w1 ⟨rfl, rfl⟩)
    | (go_at_call 52; (with_reducible refine (at_eight H.out _ f k h1 H2.out hk).mono ?_); rintro e w1 ⟨rfl, rfl⟩)
    | fail)
  obtain ⟨o, ho⟩ : ∃ o, f * 128 + k * 8 = o := ⟨_, rfl⟩
  have HPo := HP.out
  rw [ho] at HPo ⊢
  clear ho HP
  go_loop [11, 12] (fun v i => ∃ m : Nat, m ≤ 8 ∧ i = .int .i64 (7 - (m : Int)) ∧ v = .int .u64 (up L m)) (fun _ i => (intOf i + 1).toNat)
  case atStart => exact ⟨0, by omega, rfl, rfl⟩
  case round =>
    obtain ⟨m, hm, rfl, rfl⟩ := hrel
    by_cases h8 : m = 8
    · subst h8
      go_wp2
      go_ret2
      exact ⟨ret_w (up_num L), rfl⟩
    · have hc : m = 0 ∨ m = 1 ∨ m = 2 ∨ m = 3 ∨ m = 4 ∨ m = 5 ∨ m = 6 ∨ m = 7 := by omega
      have b0 := HB.out 0
      have b1 := HB.out 1
      have b2 := HB.out 2
      have b3 := HB.out 3
      have b4 := HB.out 4
      have b5 := HB.out 5
      have b6 := HB.out 6
      have b7 := HB.out 7
      rcases hc with rfl | rfl | rfl | rfl | rfl | rfl | rfl | rfl
      · have x0 := reads_cell HPo (show 7 < 8 by decide)
        obtain ⟨z, hz⟩ : ∃ z, L.getD 7 0 = z := ⟨_, rfl⟩
        rw [hz] at x0 b7
        have HZ := Lib.hid hz
        clear hz
        go_wp2
        go_round
        case measure => simp [intOf]
        case rel => exact ⟨1, by omega, rfl, by rw [up_step L HB.out (m := 0) (by decide) rfl HZ.out]⟩
      · have x0 := reads_cell HPo (show 6 < 8 by decide)
        obtain ⟨z, hz⟩ : ∃ z, L.getD 6 0 = z := ⟨_, rfl⟩
        rw [hz] at x0 b6
        have HZ := Lib.hid hz
        clear hz
        go_wp2
        go_round
        case measure => simp [intOf]
        case rel => exact ⟨2, by omega, rfl, by rw [up_step L HB.out (m := 1) (by decide) rfl HZ.out]⟩
      · have x0 := reads_cell HPo (show 5 < 8 by decide)
        obtain ⟨z, hz⟩ : ∃ z, L.getD 5 0 = z := ⟨_, rfl⟩
        rw [hz] at x0 b5
        have HZ := Lib.hid hz
        clear hz
        go_wp2
        go_round
        case measure => simp [intOf]
        case rel => exact ⟨3, by omega, rfl, by rw [up_step L HB.out (m := 2) (by decide) rfl HZ.out]⟩
      · have x0 := reads_cell HPo (show 4 < 8 by decide)
        obtain ⟨z, hz⟩ : ∃ z, L.getD 4 0 = z := ⟨_, rfl⟩
        rw [hz] at x0 b4
        have HZ := Lib.hid hz
        clear hz
        go_wp2
        go_round
        case measure => simp [intOf]
        case rel => exact ⟨4, by omega, rfl, by rw [up_step L HB.out (m := 3) (by decide) rfl HZ.out]⟩
      · have x0 := reads_cell HPo (show 3 < 8 by decide)
        obtain ⟨z, hz⟩ : ∃ z, L.getD 3 0 = z := ⟨_, rfl⟩
        rw [hz] at x0 b3
        have HZ := Lib.hid hz
        clear hz
        go_wp2
        go_round
        case measure => simp [intOf]
        case rel => exact ⟨5, by omega, rfl, by rw [up_step L HB.out (m := 4) (by decide) rfl HZ.out]⟩
      · have x0 := reads_cell HPo (show 2 < 8 by decide)
        obtain ⟨z, hz⟩ : ∃ z, L.getD 2 0 = z := ⟨_, rfl⟩
        rw [hz] at x0 b2
        have HZ := Lib.hid hz
        clear hz
        go_wp2
        go_round
        case measure => simp [intOf]
        case rel => exact ⟨6, by omega, rfl, by rw [up_step L HB.out (m := 5) (by decide) rfl HZ.out]⟩
      · have x0 := reads_cell HPo (show 1 < 8 by decide)
        obtain ⟨z, hz⟩ : ∃ z, L.getD 1 0 = z := ⟨_, rfl⟩
        rw [hz] at x0 b1
        have HZ := Lib.hid hz
        clear hz
        go_wp2
        go_round
        case measure => simp [intOf]
        case rel => exact ⟨7, by omega, rfl, by rw [up_step L HB.out (m := 6) (by decide) rfl HZ.out]⟩
      · have x0 := reads_cell HPo (show 0 < 8 by decide)
        obtain ⟨z, hz⟩ : ∃ z, L.getD 0 0 = z := ⟨_, rfl⟩
        rw [Nat.add_zero] at x0
        rw [hz] at x0 b0
        have HZ := Lib.hid hz
        clear hz
        go_wp2
        go_round
        case measure => simp [intOf]
        case rel => exact ⟨8, by omega, rfl, by rw [up_step L HB.out (m := 7) (by decide) rfl HZ.out]⟩
theorem setWord_nil (w : World) (sec : Bool) (f k : Int) (v : Int) : Calls Try.prog 29 #[.pointer none, .bool sec, .int .i64 f, .int .i64 k, .int .u64 v] w fun e w' => e = .returned (.int .i64 (-20)) ∧ w = w' := by
  have qn := fun (w : World) (a : Option Addr) (n c n' c' : Nat) => Lib.run_eql_slice_nil (P := Try.prog) w 26 5 a n c n' c' underB
  by_cases hk : k < 0 ∨ 16 ≤ k
  · have HK := Lib.hid hk
    clear hk
    go_enter Try.func29, Try.ntmps29
    go_wp2_with (first
      | (go_at_call 53; (with_reducible refine (word_no _ k HK.out).mono ?_); rintro e w1 ⟨rfl, rfl⟩)
      | (go_at_call 52; (with_reducible refine (at_nil _ _ _ _ _).mono ?_); rintro e w1 ⟨rfl, rfl⟩)
      | fail)
    go_ret
    exact ⟨rfl, rfl⟩
  · obtain ⟨k, rfl⟩ : ∃ j : Nat, k = (j : Int) := ⟨k.toNat, by omega⟩
    have hk2 : k < 16 := by omega
    clear hk
    go_enter Try.func29, Try.ntmps29
    go_wp2_with (first
      | (go_at_call 53; (with_reducible refine (word_ok _ k hk2).mono ?_); rintro e w1 ⟨rfl, rfl⟩)
      | (go_at_call 52; (with_reducible refine (at_nil _ _ _ _ _).mono ?_); rintro e w1 ⟨rfl, rfl⟩)
      | fail)
    go_ret
    exact ⟨rfl, rfl⟩
theorem setWord_no {w : World} {B g b n : Nat} {F : List Int} {s : Int} (h : Is w B g b n F s) (sec : Bool) (f k : Int) (v : Int) (hm : f < 0 ∨ (n : Int) ≤ f ∨ (sec = false ∧ f < s) ∨ k < 0 ∨ 16 ≤ k) : Calls Try.prog 29 #[.pointer (some ⟨g, 0, none⟩), .bool sec, .int .i64 f, .int .i64 k, .int .u64 v] w fun e w' => e = .returned (.int .i64 (-20)) ∧ w = w' := by
  have qn := fun (w : World) (a : Option Addr) (n c n' c' : Nat) => Lib.run_eql_slice_nil (P := Try.prog) w 26 5 a n c n' c' underB
  have H := Lib.hid h
  by_cases hk : k < 0 ∨ 16 ≤ k
  · have HK := Lib.hid hk
    have HM : Hid (may n s sec f (-1) 8 = false) := Lib.hid (by unfold may; simp)
    clear hk hm h
    go_enter Try.func29, Try.ntmps29
    go_wp2_with (first
      | (go_at_call 53; (with_reducible refine (word_no _ k HK.out).mono ?_); rintro e w1 ⟨rfl, rfl⟩)
      | (go_at_call 52; (with_reducible refine (at_no H.out _ _ _ _ HM.out).mono ?_); rintro e w1 ⟨rfl, rfl⟩)
      | fail)
    go_ret
    exact ⟨rfl, rfl⟩
  · obtain ⟨k, rfl⟩ : ∃ j : Nat, k = (j : Int) := ⟨k.toNat, by omega⟩
    have hk2 : k < 16 := by omega
    have HM : Hid (may n s sec f ((k : Int) * 8) 8 = false) := Lib.hid (by
      unfold may
      rcases hm with h | h | ⟨h, h'⟩ | h | h
      · rw [decide_eq_false (show ¬ (0 ≤ f) by omega)]; simp
      · rw [decide_eq_false (show ¬ (f < (n : Int)) by omega)]; simp
      · rw [h, decide_eq_false (show ¬ (s ≤ f) by omega)]; simp
      · omega
      · omega)
    clear hk hm h
    go_enter Try.func29, Try.ntmps29
    go_wp2_with (first
      | (go_at_call 53; (with_reducible refine (word_ok _ k hk2).mono ?_); rintro e w1 ⟨rfl, rfl⟩)
      | (go_at_call 52; (with_reducible refine (at_no H.out _ _ _ _ HM.out).mono ?_); rintro e w1 ⟨rfl, rfl⟩)
      | fail)
    go_ret
    exact ⟨rfl, rfl⟩
theorem get_nil (w : World) (sec : Bool) (f k : Int) : Calls Try.prog 39 #[.pointer none, .bool sec, .int .i64 f, .int .i64 k] w fun e w' => e = .returned (.tuple #[.int .u64 0, .int .i64 (-20)]) ∧ w = w' := by
  have qn := fun (w : World) (a : Option Addr) (n c n' c' : Nat) => Lib.run_eql_slice_nil (P := Try.prog) w 26 5 a n c n' c' underB
  by_cases hk : k < 0 ∨ 16 ≤ k
  · have HK := Lib.hid hk
    clear hk
    go_enter Try.func39, Try.ntmps39
    go_wp2_with (first
      | (go_at_call 53; (with_reducible refine (word_no _ k HK.out).mono ?_); rintro e w1 ⟨rfl, rfl⟩)
      | (go_at_call 52; (with_reducible refine (at_nil _ _ _ _ _).mono ?_); rintro e w1 ⟨rfl, rfl⟩)
      | fail)
    go_ret2
    exact ⟨rfl, rfl⟩
  · obtain ⟨k, rfl⟩ : ∃ j : Nat, k = (j : Int) := ⟨k.toNat, by omega⟩
    have hk2 : k < 16 := by omega
    clear hk
    go_enter Try.func39, Try.ntmps39
    go_wp2_with (first
      | (go_at_call 53; (with_reducible refine (word_ok _ k hk2).mono ?_); rintro e w1 ⟨rfl, rfl⟩)
      | (go_at_call 52; (with_reducible refine (at_nil _ _ _ _ _).mono ?_); rintro e w1 ⟨rfl, rfl⟩)
      | fail)
    go_ret2
    exact ⟨rfl, rfl⟩
theorem get_no {w : World} {B g b n : Nat} {F : List Int} {s : Int} (h : Is w B g b n F s) (sec : Bool) (f k : Int) (hm : f < 0 ∨ (n : Int) ≤ f ∨ (sec = false ∧ f < s) ∨ k < 0 ∨ 16 ≤ k) : Calls Try.prog 39 #[.pointer (some ⟨g, 0, none⟩), .bool sec, .int .i64 f, .int .i64 k] w fun e w' => e = .returned (.tuple #[.int .u64 0, .int .i64 (-20)]) ∧ w = w' := by
  have qn := fun (w : World) (a : Option Addr) (n c n' c' : Nat) => Lib.run_eql_slice_nil (P := Try.prog) w 26 5 a n c n' c' underB
  have H := Lib.hid h
  by_cases hk : k < 0 ∨ 16 ≤ k
  · have HK := Lib.hid hk
    have HM : Hid (may n s sec f (-1) 8 = false) := Lib.hid (by unfold may; simp)
    clear hk hm h
    go_enter Try.func39, Try.ntmps39
    go_wp2_with (first
      | (go_at_call 53; (with_reducible refine (word_no _ k HK.out).mono ?_); rintro e w1 ⟨rfl, rfl⟩)
      | (go_at_call 52; (with_reducible refine (at_no H.out _ _ _ _ HM.out).mono ?_); rintro e w1 ⟨rfl, rfl⟩)
      | fail)
    go_ret2
    exact ⟨rfl, rfl⟩
  · obtain ⟨k, rfl⟩ : ∃ j : Nat, k = (j : Int) := ⟨k.toNat, by omega⟩
    have hk2 : k < 16 := by omega
    have HM : Hid (may n s sec f ((k : Int) * 8) 8 = false) := Lib.hid (by
      unfold may
      rcases hm with h | h | ⟨h, h'⟩ | h | h
      · rw [decide_eq_false (show ¬ (0 ≤ f) by omega)]; simp
      · rw [decide_eq_false (show ¬ (f < (n : Int)) by omega)]; simp
      · rw [h, decide_eq_false (show ¬ (s ≤ f) by omega)]; simp
      · omega
      · omega)
    clear hk hm h
    go_enter Try.func39, Try.ntmps39
    go_wp2_with (first
      | (go_at_call 53; (with_reducible refine (word_ok _ k hk2).mono ?_); rintro e w1 ⟨rfl, rfl⟩)
      | (go_at_call 52; (with_reducible refine (at_no H.out _ _ _ _ HM.out).mono ?_); rintro e w1 ⟨rfl, rfl⟩)
      | fail)
    go_ret2
    exact ⟨rfl, rfl⟩
end Go.Proofs.Ytdpjpmlajjfpgaa.Ram
