/- Contracts of the reference's frames: Word, SetWord, Clear. -/
import Derived.Test.YtdpjpmlajjfpgaaRRamC
namespace Go.Proofs.Ytdpjpmlajjfpgaa.Ram
open Go.RowKit Go.Proofs.Ytdpjpmlajjfpgaa.Mem Go.Proofs.Ytdpjpmlajjfpgaa.Kept
open Go.Proofs.YtdpjpmlajjfpgaaW.PrintWords (nums ReadsInt own_reads own_reads' own_le own_lit own_nil print_append_num)
set_option linter.unusedVariables false
set_option linter.unusedSimpArgs false

theorem rread_i {w : World} {B g : Nat} {R : Option Nat} {n : Nat} {F L : List Int} {s : Int} (h : RIs w B g R n F s) (sec : Bool) (fi oi ki : Int) (f o k : Nat) (hf : fi = f) (ho : oi = o) (hk : ki = k) (h1 : f < n) (h2 : sec = true ∨ s ≤ fi) (h3 : o + k ≤ 128) (hF : ∀ x ∈ F, 0 ≤ x ∧ x ≤ 255) (hL : part F f o k = L) :
    Calls Try.prog 43 #[.pointer (some ⟨g, 0, none⟩), .bool sec, .int .i64 fi, .int .i64 oi, .int .i64 ki] w fun e w' => ∃ A c, e = .returned (.tuple #[.slice A k c, .int .i64 0]) ∧ ReadsInt w' .u8 A k L ∧ Below w.heap.size w w' ∧ Fresh w.heap.size A := by
  subst hf ho hk hL; exact rread_ok h sec f o k h1 h2 h3 hF
theorem rwrite_i {w : World} {B g : Nat} {R : Option Nat} {n : Nat} {F l : List Int} {s : Int} (h : RIs w B g R n F s) (sec : Bool) (fi oi : Int) (f o : Nat) (hf : fi = f) (ho : oi = o) (A : Option Addr) (k c : Nat) (h1 : f < n) (h2 : sec = true ∨ s ≤ fi) (h3 : o + k ≤ 128) (hr : ReadsInt w .u8 A k l) :
    Calls Try.prog 54 #[.pointer (some ⟨g, 0, none⟩), .bool sec, .int .i64 fi, .int .i64 oi, .slice A k c] w fun e w' => e = .returned (.int .i64 0) ∧ RIs w' B g R n (splice F (f * 128 + o) l) s ∧ (∃ b, R = some b ∧ Kept w w' (fun j => j = b)) := by
  subst hf ho; exact rwrite_ok h sec f o A k c h1 h2 h3 hr
theorem mem_part {F : List Int} {f o k : Nat} (hF : ∀ x ∈ F, 0 ≤ x ∧ x ≤ 255) : ∀ x ∈ part F f o k, 0 ≤ x ∧ x ≤ 255 := fun x hx => hF x (List.mem_of_mem_drop (List.mem_of_mem_take hx))
set_option maxHeartbeats 1000000 in
theorem rget_ok {w : World} {B g : Nat} {R : Option Nat} {n : Nat} {F : List Int} {s : Int} (h : RIs w B g R n F s) (sec : Bool) (f k : Nat) (h1 : f < n) (h2 : sec = true ∨ s ≤ f) (hk : k < 16) (hF : ∀ x ∈ F, 0 ≤ x ∧ x ≤ 255) :
    Calls Try.prog 41 #[.pointer (some ⟨g, 0, none⟩), .bool sec, .int .i64 f, .int .i64 k] w fun e w' => e = .returned (.tuple #[.int .u64 (num8 (part F f (k * 8) 8)), .int .i64 0]) ∧ Below w.heap.size w w' := by
  have H := Lib.hid h
  have H2 := Lib.hid h2
  have HF := Lib.hid hF
  have HP := Lib.hid (mem_part (f := f) (o := k * 8) (k := 8) hF)
  have hk' : (k : Int) < 16 := by omega
  have z1 : 8 * (k : Int) = ((k * 8 : Nat) : Int) := by omega
  have Z1 := Lib.hid z1
  have h3 : k * 8 + 8 ≤ 128 := by omega
  clear h h2 hF z1
  go_enter Try.func41, Try.ntmps41
  go_wp2_with (first
    | (go_at_call 43; (with_reducible refine (rread_i H.out sec f (8 * (k : Int)) 8 f (k * 8) 8 rfl Z1.out rfl h1 H2.out h3 HF.out rfl).mono ?_); rintro e w1 ⟨A1, c1, rfl, hr, hb, _⟩; have R1 := Lib.hid hr; have B1 := Lib.hid hb; clear hr hb)
    | (go_at_call 45; (with_reducible refine (rnum8 w1 A1 c1 _ R1.out HP.out).mono ?_); rintro e w2 ⟨rfl, rfl⟩)
    | fail)
  go_ret2
  exact ⟨rfl, B1.out⟩
set_option maxHeartbeats 1000000 in
theorem rget_no {w : World} {B g : Nat} {R : Option Nat} {n : Nat} {F : List Int} {s : Int} (h : RIs w B g R n F s) (sec : Bool) (f k : Int) (hm : f < 0 ∨ (n : Int) ≤ f ∨ (sec = false ∧ f < s) ∨ k < 0 ∨ 16 ≤ k) :
    Calls Try.prog 41 #[.pointer (some ⟨g, 0, none⟩), .bool sec, .int .i64 f, .int .i64 k] w fun e w' => e = .returned (.tuple #[.int .u64 0, .int .i64 (-20)]) ∧ w = w' := by
  have H := Lib.hid h
  by_cases hk : k < 0 ∨ 16 ≤ k
  · clear hm h
    rcases hk with hk | hk
    all_goals
      go_enter Try.func41, Try.ntmps41
      go_wp2
      all_goals go_ret2
      all_goals exact ⟨rfl, rfl⟩
  · obtain ⟨k, rfl⟩ : ∃ j : Nat, k = (j : Int) := ⟨k.toNat, by omega⟩
    have hk2 : (k : Int) < 16 := by omega
    have HM : Hid (may n s sec f (8 * (k : Int)) 8 = false) := Lib.hid (by
      unfold may
      rcases hm with h | h | ⟨h, h'⟩ | h | h
      · rw [decide_eq_false (show ¬ (0 ≤ f) by omega)]; simp
      · rw [decide_eq_false (show ¬ (f < (n : Int)) by omega)]; simp
      · rw [h, decide_eq_false (show ¬ (s ≤ f) by omega)]; simp
      · omega
      · omega)
    clear hk hm h
    go_enter Try.func41, Try.ntmps41
    go_wp2_with (first
      | (go_at_call 43; (with_reducible refine (rread_no H.out sec f (8 * (k : Int)) 8 HM.out).mono ?_); rintro e w1 ⟨rfl, rfl⟩)
      | (go_at_call 45; (with_reducible refine (rnum_nil _ 0).mono ?_); rintro e w2 ⟨rfl, rfl⟩)
      | fail)
    go_ret2
    exact ⟨rfl, rfl⟩
set_option maxHeartbeats 1000000 in
theorem rsetWord_ok {w : World} {B g : Nat} {R : Option Nat} {n : Nat} {F : List Int} {s : Int} (h : RIs w B g R n F s) (sec : Bool) (f k : Nat) (v : Int) (h1 : f < n) (h2 : sec = true ∨ s ≤ f) (hk : k < 16) (hv : 0 ≤ v ∧ v ≤ 18446744073709551615) :
    Calls Try.prog 30 #[.pointer (some ⟨g, 0, none⟩), .bool sec, .int .i64 f, .int .i64 k, .int .u64 v] w fun e w' => e = .returned (.int .i64 0) ∧ RIs w' B g R n (splice F (f * 128 + k * 8) (low8 v)) s ∧ (∃ b, R = some b ∧ Kept w w' (fun j => j = b)) := by
  have H := Lib.hid h
  have H2 := Lib.hid h2
  have HV := Lib.hid hv
  have hk' : (k : Int) < 16 := by omega
  have z1 : 8 * (k : Int) = ((k * 8 : Nat) : Int) := by omega
  have Z1 := Lib.hid z1
  have h3 : k * 8 + 8 ≤ 128 := by omega
  clear h h2 hv z1
  go_enter Try.func30, Try.ntmps30
  go_wp2_with (first
    | (go_at_call 50; (with_reducible refine (rlow8 w v HV.out).mono ?_); rintro e w1 ⟨A1, c1, rfl, hr, hb⟩; have R1 := Lib.hid hr; have B1 := Lib.hid hb; have H1 := Lib.hid (H.out.below hb); clear hr hb)
    | (go_at_call 54; (with_reducible refine (rwrite_i H1.out sec f (8 * (k : Int)) f (k * 8) rfl Z1.out A1 8 c1 h1 H2.out h3 R1.out).mono ?_); rintro e w2 ⟨rfl, hI, b, hb, hk2⟩)
    | fail)
  go_ret
  exact ⟨rfl, hI, b, hb, kept_trans (kept_below B1.out) hk2⟩
set_option maxHeartbeats 1000000 in
theorem rsetWord_no {w : World} {B g : Nat} {R : Option Nat} {n : Nat} {F : List Int} {s : Int} (h : RIs w B g R n F s) (sec : Bool) (f k : Int) (v : Int) (hv : 0 ≤ v ∧ v ≤ 18446744073709551615) (hm : f < 0 ∨ (n : Int) ≤ f ∨ (sec = false ∧ f < s) ∨ k < 0 ∨ 16 ≤ k) :
    Calls Try.prog 30 #[.pointer (some ⟨g, 0, none⟩), .bool sec, .int .i64 f, .int .i64 k, .int .u64 v] w fun e w' => e = .returned (.int .i64 (-20)) ∧ Below w.heap.size w w' := by
  have H := Lib.hid h
  have HV := Lib.hid hv
  have hb := Below.refl w.heap.size w
  by_cases hk : k < 0 ∨ 16 ≤ k
  · clear hm h hv
    rcases hk with hk | hk
    all_goals
      go_enter Try.func30, Try.ntmps30
      go_wp2
      all_goals go_ret
      all_goals exact ⟨rfl, hb⟩
  · obtain ⟨k, rfl⟩ : ∃ j : Nat, k = (j : Int) := ⟨k.toNat, by omega⟩
    have hk2 : (k : Int) < 16 := by omega
    have HM : Hid (may n s sec f (8 * (k : Int)) (8 : Nat) = false) := Lib.hid (by
      unfold may
      rcases hm with h | h | ⟨h, h'⟩ | h | h
      · rw [decide_eq_false (show ¬ (0 ≤ f) by omega)]; simp
      · rw [decide_eq_false (show ¬ (f < (n : Int)) by omega)]; simp
      · rw [h, decide_eq_false (show ¬ (s ≤ f) by omega)]; simp
      · omega
      · omega)
    clear hk hm h hv
    go_enter Try.func30, Try.ntmps30
    go_wp2_with (first
      | (go_at_call 50; (with_reducible refine (rlow8 w v HV.out).mono ?_); rintro e w1 ⟨A1, c1, rfl, hr, hb1⟩; have H1 := Lib.hid (H.out.below hb1); have B1 := Lib.hid hb1; clear hr hb1)
      | (go_at_call 54; (refine (rwrite_no H1.out sec f (8 * (k : Int)) A1 8 c1 HM.out).mono ?_); rintro e w2 ⟨rfl, rfl⟩)
      | fail)
    go_ret
    exact ⟨rfl, B1.out⟩
end Go.Proofs.Ytdpjpmlajjfpgaa.Ram
