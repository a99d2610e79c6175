/- Contracts of the reference's frames: Low, Num, Word, SetWord, Clear. -/
import Derived.Test.YtdpjpmlajjfpgaaRRamB
namespace Go.Proofs.Ytdpjpmlajjfpgaa.Ram
open Go.RowKit Go.Proofs.Ytdpjpmlajjfpgaa.Mem Go.Proofs.Ytdpjpmlajjfpgaa.Kept
open Go.Proofs.YtdpjpmlajjfpgaaW.PrintWords (nums ReadsInt own_reads own_reads' own_le own_lit own_nil print_append_num)
set_option linter.unusedVariables false
set_option linter.unusedSimpArgs false

def dv (v : Int) : Nat → Int
  | 0 => v
  | 1 => v / 256
  | 2 => v / 65536
  | 3 => v / 16777216
  | 4 => v / 4294967296
  | 5 => v / 1099511627776
  | 6 => v / 281474976710656
  | 7 => v / 72057594037927936
  | _ => v / 72057594037927936 / 256
theorem low_take (v : Int) (j : Nat) (hj : j < 8) : (low8 v).take j ++ [(low8 v).getD j 0] = (low8 v).take (j + 1) := by
  rw [List.take_succ_eq_append_getElem (show j < (low8 v).length by simpa [low8] using hj), List.getD_eq_getElem?_getD, List.getElem?_eq_getElem (show j < (low8 v).length by simpa [low8] using hj)]
  rfl
theorem own_take {w : World} {B j : Nat} {v : Value} {x z : Int} (hj : j < 8) (hz : (low8 x).getD j 0 = z) (h : w.ownsRow B 5 1 v ((low8 x).take j ++ [z]).length (nums .u8 ((low8 x).take j ++ [z]))) : w.ownsRow B 5 1 v (j + 1) (nums .u8 ((low8 x).take (j + 1))) := by
  rw [← hz, low_take x j hj] at h
  have : ((low8 x).take (j + 1)).length = j + 1 := by rw [List.length_take]; simp [low8]; omega
  rwa [this] at h
set_option maxHeartbeats 4000000 in
theorem rlow8 (w : World) (v : Int) (hv : 0 ≤ v ∧ v ≤ 18446744073709551615) :
    Calls Try.prog 50 #[.int .u64 v, .int .i64 8] w fun e w' => ∃ A c, e = .returned (.slice A 8 c) ∧ ReadsInt w' .u8 A 8 (low8 v) ∧ Below w.heap.size w w' := by
  obtain ⟨v0, v1⟩ := hv
  go_enter Try.func50, Try.ntmps50
  go_wp2
  go_loopw [0, 5, 6] (fun t x i wr => ∃ j : Nat, j ≤ 8 ∧ t = .int .u64 (dv v j) ∧ i = .int .i64 j ∧ Hid (wr.ownsRow w.heap.size 5 1 x j (nums .u8 ((low8 v).take j))) ∧ Hid (Below w.heap.size w wr)) (fun _ _ i _ => 8 - (intOf i).toNat)
  case atStart => exact ⟨0, by omega, rfl, rfl, Lib.hid (own_nil _ _ _ _), Lib.hid (Below.refl _ _)⟩
  case round =>
    obtain ⟨j, hj, rfl, rfl, HO, HB⟩ := hrel
    by_cases h8 : j = 8
    · subst h8
      obtain ⟨A, c, rfl, hr⟩ := own_reads HO.out
      clear HO
      go_wp2
      go_ret
      exact ⟨A, c, rfl, hr, HB.out⟩
    · have hc : j = 0 ∨ j = 1 ∨ j = 2 ∨ j = 3 ∨ j = 4 ∨ j = 5 ∨ j = 6 ∨ j = 7 := by omega
      rcases hc with rfl | rfl | rfl | rfl | rfl | rfl | rfl | rfl
      · simp only [dv]
        have u1_ : 0 ≤ v := by omega
        have u2_ : v ≤ 18446744073709551615 := by omega
        go_wp2_with (first
          | (at_builtin; refine print_append_num (w0 := w) (W := wr) w.heap.size rfl (.tmp 12) (.tmp 16) 26 5 .u8 1 rfl underB info5 (by decide) _ ((low8 v).take 0) (v % 256) rfl rfl HO.out HB.out HB.out.size (by simp [low8]) ?_; intro v1 w1 ho hb _ _; have HO1 := Lib.hid (own_take (j := 0) (by decide) rfl ho); have HB1 := Lib.hid hb; clear ho hb)
          | fail)
        go_roundw
        case measure => simp [intOf]
        case rel => exact ⟨1, by omega, by first | rfl | (show Value.int .u64 _ = Value.int .u64 _; congr 1; simp only [dv]; omega), rfl, HO1, HB1⟩
      · simp only [dv]
        have u1_ : 0 ≤ v / 256 := by omega
        have u2_ : v / 256 ≤ 18446744073709551615 := by omega
        go_wp2_with (first
          | (at_builtin; refine print_append_num (w0 := w) (W := wr) w.heap.size rfl (.tmp 12) (.tmp 16) 26 5 .u8 1 rfl underB info5 (by decide) _ ((low8 v).take 1) (v / 256 % 256) rfl rfl HO.out HB.out HB.out.size (by simp [low8]) ?_; intro v1 w1 ho hb _ _; have HO1 := Lib.hid (own_take (j := 1) (by decide) rfl ho); have HB1 := Lib.hid hb; clear ho hb)
          | fail)
        go_roundw
        case measure => simp [intOf]
        case rel => exact ⟨2, by omega, by first | rfl | (show Value.int .u64 _ = Value.int .u64 _; congr 1; simp only [dv]; omega), rfl, HO1, HB1⟩
      · simp only [dv]
        have u1_ : 0 ≤ v / 65536 := by omega
        have u2_ : v / 65536 ≤ 18446744073709551615 := by omega
        go_wp2_with (first
          | (at_builtin; refine print_append_num (w0 := w) (W := wr) w.heap.size rfl (.tmp 12) (.tmp 16) 26 5 .u8 1 rfl underB info5 (by decide) _ ((low8 v).take 2) (v / 65536 % 256) rfl rfl HO.out HB.out HB.out.size (by simp [low8]) ?_; intro v1 w1 ho hb _ _; have HO1 := Lib.hid (own_take (j := 2) (by decide) rfl ho); have HB1 := Lib.hid hb; clear ho hb)
          | fail)
        go_roundw
        case measure => simp [intOf]
        case rel => exact ⟨3, by omega, by first | rfl | (show Value.int .u64 _ = Value.int .u64 _; congr 1; simp only [dv]; omega), rfl, HO1, HB1⟩
      · simp only [dv]
        have u1_ : 0 ≤ v / 16777216 := by omega
        have u2_ : v / 16777216 ≤ 18446744073709551615 := by omega
        go_wp2_with (first
          | (at_builtin; refine print_append_num (w0 := w) (W := wr) w.heap.size rfl (.tmp 12) (.tmp 16) 26 5 .u8 1 rfl underB info5 (by decide) _ ((low8 v).take 3) (v / 16777216 % 256) rfl rfl HO.out HB.out HB.out.size (by simp [low8]) ?_; intro v1 w1 ho hb _ _; have HO1 := Lib.hid (own_take (j := 3) (by decide) rfl ho); have HB1 := Lib.hid hb; clear ho hb)
          | fail)
        go_roundw
        case measure => simp [intOf]
        case rel => exact ⟨4, by omega, by first | rfl | (show Value.int .u64 _ = Value.int .u64 _; congr 1; simp only [dv]; omega), rfl, HO1, HB1⟩
      · simp only [dv]
        have u1_ : 0 ≤ v / 4294967296 := by omega
        have u2_ : v / 4294967296 ≤ 18446744073709551615 := by omega
        go_wp2_with (first
          | (at_builtin; refine print_append_num (w0 := w) (W := wr) w.heap.size rfl (.tmp 12) (.tmp 16) 26 5 .u8 1 rfl underB info5 (by decide) _ ((low8 v).take 4) (v / 4294967296 % 256) rfl rfl HO.out HB.out HB.out.size (by simp [low8]) ?_; intro v1 w1 ho hb _ _; have HO1 := Lib.hid (own_take (j := 4) (by decide) rfl ho); have HB1 := Lib.hid hb; clear ho hb)
          | fail)
        go_roundw
        case measure => simp [intOf]
        case rel => exact ⟨5, by omega, by first | rfl | (show Value.int .u64 _ = Value.int .u64 _; congr 1; simp only [dv]; omega), rfl, HO1, HB1⟩
      · simp only [dv]
        have u1_ : 0 ≤ v / 1099511627776 := by omega
        have u2_ : v / 1099511627776 ≤ 18446744073709551615 := by omega
        go_wp2_with (first
          | (at_builtin; refine print_append_num (w0 := w) (W := wr) w.heap.size rfl (.tmp 12) (.tmp 16) 26 5 .u8 1 rfl underB info5 (by decide) _ ((low8 v).take 5) (v / 1099511627776 % 256) rfl rfl HO.out HB.out HB.out.size (by simp [low8]) ?_; intro v1 w1 ho hb _ _; have HO1 := Lib.hid (own_take (j := 5) (by decide) rfl ho); have HB1 := Lib.hid hb; clear ho hb)
          | fail)
        go_roundw
        case measure => simp [intOf]
        case rel => exact ⟨6, by omega, by first | rfl | (show Value.int .u64 _ = Value.int .u64 _; congr 1; simp only [dv]; omega), rfl, HO1, HB1⟩
      · simp only [dv]
        have u1_ : 0 ≤ v / 281474976710656 := by omega
        have u2_ : v / 281474976710656 ≤ 18446744073709551615 := by omega
        go_wp2_with (first
          | (at_builtin; refine print_append_num (w0 := w) (W := wr) w.heap.size rfl (.tmp 12) (.tmp 16) 26 5 .u8 1 rfl underB info5 (by decide) _ ((low8 v).take 6) (v / 281474976710656 % 256) rfl rfl HO.out HB.out HB.out.size (by simp [low8]) ?_; intro v1 w1 ho hb _ _; have HO1 := Lib.hid (own_take (j := 6) (by decide) rfl ho); have HB1 := Lib.hid hb; clear ho hb)
          | fail)
        go_roundw
        case measure => simp [intOf]
        case rel => exact ⟨7, by omega, by first | rfl | (show Value.int .u64 _ = Value.int .u64 _; congr 1; simp only [dv]; omega), rfl, HO1, HB1⟩
      · simp only [dv]
        have u1_ : 0 ≤ v / 72057594037927936 := by omega
        have u2_ : v / 72057594037927936 ≤ 18446744073709551615 := by omega
        go_wp2_with (first
          | (at_builtin; refine print_append_num (w0 := w) (W := wr) w.heap.size rfl (.tmp 12) (.tmp 16) 26 5 .u8 1 rfl underB info5 (by decide) _ ((low8 v).take 7) (v / 72057594037927936 % 256) rfl rfl HO.out HB.out HB.out.size (by simp [low8]) ?_; intro v1 w1 ho hb _ _; have HO1 := Lib.hid (own_take (j := 7) (by decide) rfl ho); have HB1 := Lib.hid hb; clear ho hb)
          | fail)
        go_roundw
        case measure => simp [intOf]
        case rel => exact ⟨8, by omega, by first | rfl | (show Value.int .u64 _ = Value.int .u64 _; congr 1; simp only [dv]; omega), rfl, HO1, HB1⟩
theorem reads_addr {w : World} {A : Option Addr} {n : Nat} {L : List Int} (h : ReadsInt w .u8 A n L) (hn : 0 < n) : ∃ b o, A = some ⟨b, o, none⟩ := by
  obtain ⟨ad, e, hc⟩ := h.2.2 hn
  have h0 := hc 0 hn
  have hspot := World.cell?_spot h0
  simp [Addr.add] at hspot
  obtain ⟨bb, oo, ss⟩ := ad
  simp at hspot
  subst hspot
  exact ⟨bb, oo, e⟩
theorem ret_n {x y : Int} (h : x = y) : Ending.returned (.int .u64 x) = .returned (.int .u64 y) := by rw [h]
theorem rnum_nil (w : World) (c : Nat) : Calls Try.prog 45 #[.slice none 0 c] w fun e w' => e = .returned (.int .u64 0) ∧ w = w' := by
  go_enter Try.func45, Try.ntmps45
  go_wp2
  go_loop [3, 4] (fun v i => v = .int .u64 0 ∧ i = .int .i64 (-1)) (fun _ _ => 0)
  case atStart => exact ⟨rfl, rfl⟩
  case round =>
    obtain ⟨rfl, rfl⟩ := hrel
    go_wp2
    go_ret
    exact ⟨rfl, rfl⟩
set_option maxHeartbeats 4000000 in
theorem rnum8 (w : World) (A : Option Addr) (c : Nat) (L : List Int) (hr : ReadsInt w .u8 A 8 L) (hb : ∀ x ∈ L, 0 ≤ x ∧ x ≤ 255) :
    Calls Try.prog 45 #[.slice A 8 c] w fun e w' => e = .returned (.int .u64 (num8 L)) ∧ w = w' := by
  obtain ⟨b, o, rfl⟩ := reads_addr hr (by decide)
  have hLb : ∀ m, 0 ≤ L.getD m 0 ∧ L.getD m 0 ≤ 255 := by
    intro m
    rw [List.getD_eq_getElem?_getD]
    rcases Nat.lt_or_ge m L.length with hm | hm
    · rw [List.getElem?_eq_getElem hm]; exact hb _ (List.getElem_mem hm)
    · rw [List.getElem?_eq_none hm]; simp
  have HB := Lib.hid hLb
  have HC := Lib.hid hr
  clear hr hb hLb
  go_enter Try.func45, Try.ntmps45
  go_wp2
  go_loop [3, 4] (fun v i => ∃ m : Nat, m ≤ 8 ∧ i = .int .i64 (7 - (m : Int)) ∧ v = .int .u64 (up L m)) (fun _ i => (intOf i + 1).toNat)
  case atStart => exact ⟨0, by omega, rfl, rfl⟩
  case round =>
    obtain ⟨m, hm, rfl, rfl⟩ := hrel
    by_cases h8 : m = 8
    · subst h8
      go_wp2
      go_ret
      exact ⟨ret_n (up_num L), rfl⟩
    · have hc : m = 0 ∨ m = 1 ∨ m = 2 ∨ m = 3 ∨ m = 4 ∨ m = 5 ∨ m = 6 ∨ m = 7 := by omega
      have hu := up_in L HB.out m
      rcases hc with rfl | rfl | rfl | rfl | rfl | rfl | rfl | rfl
      · have x0 := reads_cell HC.out (show 7 < 8 by decide)
        obtain ⟨z, hz⟩ : ∃ z, L.getD 7 0 = z := ⟨_, rfl⟩
        have hzb := HB.out 7
        rw [hz] at x0 hzb
        obtain ⟨y, hy⟩ : ∃ y, up L 0 = y := ⟨_, rfl⟩
        rw [hy] at hu ⊢
        obtain ⟨hu0, hu1⟩ := hu
        have hu2 : y < 1 := by simpa using hu1
        have HZ := Lib.hid hz
        have HY := Lib.hid hy
        clear hz hy hu1
        go_wp2
        go_round
        case measure => simp [intOf]
        case rel => exact ⟨1, by omega, rfl, by rw [show up L 1 = up L 0 * 256 + L.getD 7 0 from rfl, HY.out, HZ.out]⟩
      · have x0 := reads_cell HC.out (show 6 < 8 by decide)
        obtain ⟨z, hz⟩ : ∃ z, L.getD 6 0 = z := ⟨_, rfl⟩
        have hzb := HB.out 6
        rw [hz] at x0 hzb
        obtain ⟨y, hy⟩ : ∃ y, up L 1 = y := ⟨_, rfl⟩
        rw [hy] at hu ⊢
        obtain ⟨hu0, hu1⟩ := hu
        have hu2 : y < 256 := by simpa using hu1
        have HZ := Lib.hid hz
        have HY := Lib.hid hy
        clear hz hy hu1
        go_wp2
        go_round
        case measure => simp [intOf]
        case rel => exact ⟨2, by omega, rfl, by rw [show up L 2 = up L 1 * 256 + L.getD 6 0 from rfl, HY.out, HZ.out]⟩
      · have x0 := reads_cell HC.out (show 5 < 8 by decide)
        obtain ⟨z, hz⟩ : ∃ z, L.getD 5 0 = z := ⟨_, rfl⟩
        have hzb := HB.out 5
        rw [hz] at x0 hzb
        obtain ⟨y, hy⟩ : ∃ y, up L 2 = y := ⟨_, rfl⟩
        rw [hy] at hu ⊢
        obtain ⟨hu0, hu1⟩ := hu
        have hu2 : y < 65536 := by simpa using hu1
        have HZ := Lib.hid hz
        have HY := Lib.hid hy
        clear hz hy hu1
        go_wp2
        go_round
        case measure => simp [intOf]
        case rel => exact ⟨3, by omega, rfl, by rw [show up L 3 = up L 2 * 256 + L.getD 5 0 from rfl, HY.out, HZ.out]⟩
      · have x0 := reads_cell HC.out (show 4 < 8 by decide)
        obtain ⟨z, hz⟩ : ∃ z, L.getD 4 0 = z := ⟨_, rfl⟩
        have hzb := HB.out 4
        rw [hz] at x0 hzb
        obtain ⟨y, hy⟩ : ∃ y, up L 3 = y := ⟨_, rfl⟩
        rw [hy] at hu ⊢
        obtain ⟨hu0, hu1⟩ := hu
        have hu2 : y < 16777216 := by simpa using hu1
        have HZ := Lib.hid hz
        have HY := Lib.hid hy
        clear hz hy hu1
        go_wp2
        go_round
        case measure => simp [intOf]
        case rel => exact ⟨4, by omega, rfl, by rw [show up L 4 = up L 3 * 256 + L.getD 4 0 from rfl, HY.out, HZ.out]⟩
      · have x0 := reads_cell HC.out (show 3 < 8 by decide)
        obtain ⟨z, hz⟩ : ∃ z, L.getD 3 0 = z := ⟨_, rfl⟩
        have hzb := HB.out 3
        rw [hz] at x0 hzb
        obtain ⟨y, hy⟩ : ∃ y, up L 4 = y := ⟨_, rfl⟩
        rw [hy] at hu ⊢
        obtain ⟨hu0, hu1⟩ := hu
        have hu2 : y < 4294967296 := by simpa using hu1
        have HZ := Lib.hid hz
        have HY := Lib.hid hy
        clear hz hy hu1
        go_wp2
        go_round
        case measure => simp [intOf]
        case rel => exact ⟨5, by omega, rfl, by rw [show up L 5 = up L 4 * 256 + L.getD 3 0 from rfl, HY.out, HZ.out]⟩
      · have x0 := reads_cell HC.out (show 2 < 8 by decide)
        obtain ⟨z, hz⟩ : ∃ z, L.getD 2 0 = z := ⟨_, rfl⟩
        have hzb := HB.out 2
        rw [hz] at x0 hzb
        obtain ⟨y, hy⟩ : ∃ y, up L 5 = y := ⟨_, rfl⟩
        rw [hy] at hu ⊢
        obtain ⟨hu0, hu1⟩ := hu
        have hu2 : y < 1099511627776 := by simpa using hu1
        have HZ := Lib.hid hz
        have HY := Lib.hid hy
        clear hz hy hu1
        go_wp2
        go_round
        case measure => simp [intOf]
        case rel => exact ⟨6, by omega, rfl, by rw [show up L 6 = up L 5 * 256 + L.getD 2 0 from rfl, HY.out, HZ.out]⟩
      · have x0 := reads_cell HC.out (show 1 < 8 by decide)
        obtain ⟨z, hz⟩ : ∃ z, L.getD 1 0 = z := ⟨_, rfl⟩
        have hzb := HB.out 1
        rw [hz] at x0 hzb
        obtain ⟨y, hy⟩ : ∃ y, up L 6 = y := ⟨_, rfl⟩
        rw [hy] at hu ⊢
        obtain ⟨hu0, hu1⟩ := hu
        have hu2 : y < 281474976710656 := by simpa using hu1
        have HZ := Lib.hid hz
        have HY := Lib.hid hy
        clear hz hy hu1
        go_wp2
        go_round
        case measure => simp [intOf]
        case rel => exact ⟨7, by omega, rfl, by rw [show up L 7 = up L 6 * 256 + L.getD 1 0 from rfl, HY.out, HZ.out]⟩
      · have x0 := reads_cell HC.out (show 0 < 8 by decide)
        rw [Nat.add_zero] at x0
        obtain ⟨z, hz⟩ : ∃ z, L.getD 0 0 = z := ⟨_, rfl⟩
        have hzb := HB.out 0
        rw [hz] at x0 hzb
        obtain ⟨y, hy⟩ : ∃ y, up L 7 = y := ⟨_, rfl⟩
        rw [hy] at hu ⊢
        obtain ⟨hu0, hu1⟩ := hu
        have hu2 : y < 72057594037927936 := by simpa using hu1
        have HZ := Lib.hid hz
        have HY := Lib.hid hy
        clear hz hy hu1
        go_wp2
        go_round
        case measure => simp [intOf]
        case rel => exact ⟨8, by omega, rfl, by rw [show up L 8 = up L 7 * 256 + L.getD 0 0 from rfl, HY.out, HZ.out]⟩
end Go.Proofs.Ytdpjpmlajjfpgaa.Ram
