/- Contracts of package ram: New, word, Read, Write, Clear, Secure, Copy. -/
import Derived.Test.YtdpjpmlajjfpgaaRam
namespace Go.Proofs.Ytdpjpmlajjfpgaa.Ram
open Go.RowKit Go.Proofs.Ytdpjpmlajjfpgaa.Mem Go.Proofs.Ytdpjpmlajjfpgaa.Kept
open Go.Proofs.YtdpjpmlajjfpgaaW.PrintWords (nums ReadsInt own_reads own_reads' own_le own_lit print_append_row)
set_option linter.unusedVariables false
set_option linter.unusedSimpArgs false

theorem word_no (w : World) (k : Int) (h : k < 0 ∨ 16 ≤ k) : Calls Try.prog 53 #[.int .i64 k] w fun e w' => e = .returned (.int .i64 (-1)) ∧ w = w' := by
  rcases h with h | h
  all_goals
    go_enter Try.func53, Try.ntmps53
    go_wp2
    all_goals go_ret
    all_goals exact ⟨rfl, rfl⟩
theorem word_ok (w : World) (k : Nat) (h : k < 16) : Calls Try.prog 53 #[.int .i64 k] w fun e w' => e = .returned (.int .i64 ((k : Int) * 8)) ∧ w = w' := by
  have h' : (k : Int) < 16 := by omega
  go_enter Try.func53, Try.ntmps53
  go_wp2
  go_ret
  exact ⟨rfl, rfl⟩
/-- A memory's frames' bytes, o being the place in one. -/
def part (F : List Int) (f o k : Nat) : List Int := (F.drop (f * 128 + o)).take k
theorem part_len {F : List Int} {n f o k : Nat} (h : F.length = n * 128) (h1 : f < n) (h3 : o + k ≤ 128) : (part F f o k).length = k := by
  unfold part; rw [List.length_take, List.length_drop]; omega
theorem read_nil (w : World) (sec : Bool) (f o k : Int) : Calls Try.prog 42 #[.pointer none, .bool sec, .int .i64 f, .int .i64 o, .int .i64 k] w fun e w' => e = .returned (.tuple #[.slice none 0 0, .int .i64 (-20)]) ∧ w = w' := by
  have qn := fun (w : World) (a : Option Addr) (n c n' c' : Nat) => Lib.run_eql_slice_nil (P := Try.prog) w 26 5 a n c n' c' underB
  go_enter Try.func42, Try.ntmps42
  go_wp2_with (first
    | (go_at_call 52; (with_reducible refine (at_nil _ _ _ _ _).mono ?_); rintro e w1 ⟨rfl, rfl⟩)
    | fail)
  go_ret2
  exact ⟨rfl, rfl⟩
theorem read_no {w : World} {B g b n : Nat} {F : List Int} {s : Int} (h : Is w B g b n F s) (sec : Bool) (f o k : Int) (hm : may n s sec f o k = false) :
    Calls Try.prog 42 #[.pointer (some ⟨g, 0, none⟩), .bool sec, .int .i64 f, .int .i64 o, .int .i64 k] w fun e w' => e = .returned (.tuple #[.slice none 0 0, .int .i64 (-20)]) ∧ w = w' := by
  have H := Lib.hid h
  have HM := Lib.hid hm
  clear h hm
  have qn := fun (w : World) (a : Option Addr) (n c n' c' : Nat) => Lib.run_eql_slice_nil (P := Try.prog) w 26 5 a n c n' c' underB
  go_enter Try.func42, Try.ntmps42
  go_wp2_with (first
    | (go_at_call 52; (with_reducible refine (at_no H.out _ _ _ _ HM.out).mono ?_); rintro e w1 ⟨rfl, rfl⟩)
    | fail)
  go_ret2
  exact ⟨rfl, rfl⟩
theorem reads_at {w : World} {B g b n : Nat} {F : List Int} {s : Int} (h : Is w B g b n F s) {f o k : Nat} (h1 : f < n) (h3 : o + k ≤ 128) : ReadsInt w .u8 (some ⟨b, f * 128 + (if k = 0 then 0 else o), none⟩) k (part F f o k) := by
  by_cases hk : k = 0
  · subst hk
    exact ⟨by simp [part], by omega, fun h => absurd h (by omega)⟩
  · rw [if_neg hk]
    exact h.reads (by omega) (by omega)
set_option maxHeartbeats 1000000 in
theorem read_ok {w : World} {B g b n : Nat} {F : List Int} {s : Int} (h : Is w B g b n F s) (sec : Bool) (f o k : Nat) (h1 : f < n) (h2 : sec = true ∨ s ≤ f) (h3 : o + k ≤ 128) :
    Calls Try.prog 42 #[.pointer (some ⟨g, 0, none⟩), .bool sec, .int .i64 f, .int .i64 o, .int .i64 k] w fun e w' => ∃ A c, e = .returned (.tuple #[.slice A k c, .int .i64 0]) ∧ k ≤ c ∧ ReadsInt w' .u8 A k (part F f o k) ∧ Below w.heap.size w w' ∧ Fresh w.heap.size A := by
  have H := Lib.hid h
  have H2 := Lib.hid h2
  have HR := Lib.hid (reads_at h h1 h3)
  have hpl := Lib.hid (part_len (k := k) h.len.1 h1 h3)
  have hbd : (([] : List Int).length + k) * 1 ≤ 140737488355328 := by simp; omega
  obtain ⟨z, hz⟩ : ∃ z, (if k = 0 then 0 else o) = z := ⟨_, rfl⟩
  have HZ := Lib.hid hz
  rw [hz] at HR
  clear h h2 hz
  have qn := fun (w : World) (a : Option Addr) (n c n' c' : Nat) => Lib.run_eql_slice_nil (P := Try.prog) w 26 5 a n c n' c' underB
  go_enter Try.func42, Try.ntmps42
  go_wp2_with (first
    | (go_at_call 52; (with_reducible refine (at_ok H.out _ f o k h1 H2.out h3).mono ?_); rintro e w1 ⟨rfl, rfl⟩; rw [HZ.out])
    | (at_builtin; refine print_append_row (w0 := w) w.heap.size rfl (.tmp 21) (.tmp 22) 26 5 .u8 1 rfl underB info5 (by decide) _ [] (part F f o k) (some ⟨b, f * 128 + z, none⟩) k k rfl rfl (own_lit w w.heap.size 5 .u8 [] (Nat.le_refl _) (by simp)) (HR.out.below (bel_alloc (Below.refl _ _) _)) (bel_alloc (Below.refl _ _) _) (bel_alloc (Below.refl _ _) _).size hbd ?_; intro v1 w1 ho1 hb1 hg1 hat1; have ho2 : w1.ownsRow w.heap.size 5 1 v1 (part F f o k).length (nums .u8 (part F f o k)) := ho1; rw [hpl.out] at ho2; obtain ⟨A1, c1, rfl, hr1⟩ := own_reads ho2; have hc1 := own_le ho2; have hf1 := own_fresh ho2; clear hg1 hat1 ho1 ho2)
    | fail)
  go_ret2
  exact ⟨_, _, rfl, hc1, hr1, hb1, hf1⟩
end Go.Proofs.Ytdpjpmlajjfpgaa.Ram
