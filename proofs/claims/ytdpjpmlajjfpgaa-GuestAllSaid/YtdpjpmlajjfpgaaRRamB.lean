/- Contracts of the reference's frames: Read, Write. -/
import Derived.Test.YtdpjpmlajjfpgaaRRam
import Derived.StillTailTactics
namespace Go.Proofs.Ytdpjpmlajjfpgaa.Ram
open Go.RowKit Go.Proofs.Ytdpjpmlajjfpgaa.Mem Go.Proofs.Ytdpjpmlajjfpgaa.Kept
open Go.Proofs.YtdpjpmlajjfpgaaW.PrintWords (nums ReadsInt own_reads own_reads' own_le own_lit print_append_row)
set_option linter.unusedVariables false
set_option linter.unusedSimpArgs false

theorem may_split (n : Nat) (s : Int) (sec : Bool) (f o k : Int) : may n s sec f o k = ((decide (0 ≤ f) && decide (f < n) && (sec || decide (s ≤ f))) && decide (0 ≤ o) && decide (0 ≤ k) && decide (o ≤ 128) && decide (k ≤ 128 - o)) := rfl
set_option maxHeartbeats 4000000 in
theorem rread_no {w : World} {B g : Nat} {R : Option Nat} {n : Nat} {F : List Int} {s : Int} (h : RIs w B g R n F s) (sec : Bool) (f o k : Int) (hm : may n s sec f o k = false) :
    Calls Try.prog 43 #[.pointer (some ⟨g, 0, none⟩), .bool sec, .int .i64 f, .int .i64 o, .int .i64 k] w fun e w' => e = .returned (.tuple #[.slice none 0 0, .int .i64 (-20)]) ∧ w = w' := by
  have H := Lib.hid h
  clear h
  rw [may_split] at hm
  obtain ⟨x, hx⟩ : ∃ x, (decide (0 ≤ f) && decide (f < (n : Int)) && (sec || decide (s ≤ f))) = x := ⟨_, rfl⟩
  rw [hx] at hm
  have HX := Lib.hid hx
  clear hx
  cases x with
  | false =>
    clear hm
    go_enter Try.func43, Try.ntmps43
    go_wp2_with (first
      | (go_at_call 62; (with_reducible refine (rmay_any H.out sec f).mono ?_); rintro e w1 ⟨rfl, rfl⟩; rw [HX.out])
      | fail)
    all_goals go_ret2
    all_goals exact ⟨rfl, rfl⟩
  | true =>
    have hc : o < 0 ∨ k < 0 ∨ 128 < o ∨ (0 ≤ o ∧ o ≤ 128 ∧ 128 - o < k) := by simp at hm; omega
    clear hm
    rcases hc with h1 | h1 | h1 | ⟨h1, h2, h3⟩
    all_goals
      go_enter Try.func43, Try.ntmps43
      go_wp2_with (first
        | (go_at_call 62; (with_reducible refine (rmay_any H.out sec f).mono ?_); rintro e w1 ⟨rfl, rfl⟩; rw [HX.out])
        | fail)
      all_goals go_ret2
      all_goals exact ⟨rfl, rfl⟩
/-- The bytes of a text, laid anew. -/
theorem bytes_post {w : World} {L : List Int} {k : Nat} (hL : L.length = k) (hk : k ≤ 128) (hb : ∀ x ∈ L, 0 ≤ x ∧ x ≤ 255) :
    ReadsInt (Lib.bytesWorld w 5 (strOfNums L)) .u8 (some ⟨w.heap.size, 0, none⟩) k L ∧ Below w.heap.size w (Lib.bytesWorld w 5 (strOfNums L)) := by
  refine ⟨⟨hL, by omega, fun _ => ⟨_, rfl, fun j hj => ?_⟩⟩, ⟨rfl, rfl, rfl, by rw [Lib.bytesWorld_size]; omega, fun j hj => Lib.bytesWorld_at_old _ _ _ j hj⟩⟩
  rw [add_at, Nat.zero_add, Lib.bytesWorld_cell _ _ _ _ (by rw [str_size]; omega)]
  have hj' : j < L.length := by omega
  have hx := hb L[j] (List.getElem_mem hj')
  simp [strOfNums, List.getD_eq_getElem?_getD, List.getElem?_eq_getElem hj']
  omega
set_option maxRecDepth 100000 in
set_option maxHeartbeats 4000000 in
theorem rread_ok {w : World} {B g : Nat} {R : Option Nat} {n : Nat} {F : List Int} {s : Int} (h : RIs w B g R n F s) (sec : Bool) (f o k : Nat) (h1 : f < n) (h2 : sec = true ∨ s ≤ f) (h3 : o + k ≤ 128) (hF : ∀ x ∈ F, 0 ≤ x ∧ x ≤ 255) :
    Calls Try.prog 43 #[.pointer (some ⟨g, 0, none⟩), .bool sec, .int .i64 f, .int .i64 o, .int .i64 k] w fun e w' => ∃ A c, e = .returned (.tuple #[.slice A k c, .int .i64 0]) ∧ ReadsInt w' .u8 A k (part F f o k) ∧ Below w.heap.size w w' ∧ Fresh w.heap.size A := by
  have H := Lib.hid h
  have hlen := h.len
  have HM : Hid ((decide ((0 : Int) ≤ (f : Int)) && decide ((f : Int) < (n : Int)) && (sec || decide (s ≤ (f : Int)))) = true) := Lib.hid (by rcases h2 with h2 | h2 <;> simp [h1, h2])
  obtain ⟨A, c, hg, _, _, _, ho, _⟩ := h
  obtain ⟨b, rfl, _, xc, _⟩ := own_cell ho h1
  obtain ⟨x0, x1⟩ := cells2 hg
  have hnc := own_le ho
  have hcv := fun (w : World) (s : ByteArray) => Lib.run_convert_string_bytes (P := Try.prog) w 9 26 5 s Try.underlying9 underB (by kernel_rfl)
  have hpl := part_len (k := k) hlen.1 h1 h3
  have hex := fs_extract hlen.1 h1 h3
  obtain ⟨t, ht⟩ : ∃ t, fs F f = t := ⟨_, rfl⟩
  have hts : t.size = 128 := by rw [← ht]; exact fs_size hlen.1 h1
  rw [ht] at hex xc
  obtain ⟨u, hu⟩ : ∃ u, strOfNums (part F f o k) = u := ⟨_, rfl⟩
  have hus : u.size = k := by rw [← hu, str_size, hpl]
  rw [hu] at hex
  have q1 : (f : Int) < (n : Int) := by omega
  have q2 : (o : Int) + (k : Int) ≤ 128 := by omega
  have q3 : (k : Int) ≤ 128 - (o : Int) := by omega
  have hN : (n : Int) ≤ 240 := by omega
  have HP := Lib.hid (bytes_post (w := w) hpl (by omega) (fun x hx => hF x (List.mem_of_mem_drop (List.mem_of_mem_take hx))))
  rw [hu] at HP
  clear hg ho ht hu hlen hpl hF h2
  go_enter Try.func43, Try.ntmps43
  go_wp2_with (first
    | (go_at_call 62; (with_reducible refine (rmay_any H.out sec f).mono ?_); rintro e w1 ⟨rfl, rfl⟩; rw [HM.out])
    | fail)
  go_ret2
  exact ⟨_, _, rfl, HP.out.1, HP.out.2, fun ad h => by cases h; exact Nat.le_refl _⟩
theorem conv {w : World} {A : Option Addr} {n c : Nat} {l : List Int} (h : ReadsInt w .u8 A n l) : (convert 26 9 (.slice A n c)).run Try.prog w = .ok (.string (strOfNums l)) w :=
  Go.Proofs.YtdpjpmlajjfpgaaW.PrintWords.string_of_reads underB (by kernel_rfl) (by kernel_rfl) h
theorem kept_undrew {w w' : World} {S : Nat → Prop} (h : Kept w.drew w' S) : Kept w w' S := ⟨h.os, h.tape, h.output, h.size, h.block⟩
theorem list_mid (F l : List Int) (o : Nat) (h : o + l.length ≤ F.length) : F.take o ++ l ++ F.drop (o + l.length) = splice F o l := by simp [splice]
/-- A frame's text behind a write. -/
theorem fs_splice {F l : List Int} {n f o k : Nat} (hF : F.length = n * 128) (h1 : f < n) (h3 : o + k ≤ 128) (hl : l.length = k) :
    (fs F f).extract 0 o ++ strOfNums l ++ (fs F f).extract (o + k) 128 = fs (splice F (f * 128 + o) l) f := by
  rw [fs, fs, str_extract, str_extract, str_append, str_append]
  congr 1
  have hpl := part_len (F := F) (k := 128) hF h1 (show 0 + 128 ≤ 128 by omega)
  have hfit : f * 128 + o + l.length ≤ F.length := by omega
  have hpl2 := part_len (F := splice F (f * 128 + o) l) (n := n) (f := f) (o := 0) (k := 128) (by rw [splice_len hfit, hF]) h1 (by omega)
  have e : (((part F f 0 128).drop 0).take (o - 0) ++ l ++ ((part F f 0 128).drop (o + k)).take (128 - (o + k))) = splice (part F f 0 128) o l := by
    have e2 : ((part F f 0 128).drop (o + l.length)).take (128 - (o + l.length)) = (part F f 0 128).drop (o + l.length) := List.take_of_length_le (by rw [List.length_drop]; omega)
    rw [List.drop_zero, Nat.sub_zero, ← hl, e2, list_mid _ _ _ (by omega)]
  rw [e]
  refine list_ext (by rw [splice_len (by omega), hpl, hpl2]) (fun i hi => ?_)
  rw [splice_len (by omega), hpl] at hi
  rw [splice_at _ _ _ _ (by omega), part_at _ _ _ _ _ hi, part_at _ _ _ _ _ hi, splice_at _ _ _ _ hfit]
  by_cases hc : o ≤ i ∧ i < o + l.length
  · rw [if_pos hc, if_pos (by omega)]
    congr 1
    omega
  · rw [if_neg hc, if_neg (by omega)]
theorem fs_other {F l : List Int} {n f f' o : Nat} (hF : F.length = n * 128) (h1 : f < n) (h1' : f' < n) (h3 : o + l.length ≤ 128) (hne : f ≠ f') : fs (splice F (f * 128 + o) l) f' = fs F f' := by
  rw [fs, fs, part_other hF h1 h3 h1' (by omega) (Or.inl hne)]
/-- Behind a store of a frame's text. -/
theorem ris_set {w : World} {B g : Nat} {R : Option Nat} {n : Nat} {F l : List Int} {s : Int} (h : RIs w B g R n F s) {f o : Nat} (h1 : f < n) (h3 : o + l.length ≤ 128) {b : Nat} (hb : R = some b) :
    RIs (w.setCell ⟨b, f, none⟩ (.string (fs (splice F (f * 128 + o) l) f))) B g R n (splice F (f * 128 + o) l) s ∧ Kept w (w.setCell ⟨b, f, none⟩ (.string (fs (splice F (f * 128 + o) l) f))) (fun j => j = b) := by
  have hk : Kept w (w.setCell ⟨b, f, none⟩ (.string (fs (splice F (f * 128 + o) l) f))) (fun j => j = b) := kept_set (S := fun j => j = b) (kept_refl _ _) rfl _ _
  have hrow := h.row hb
  refine ⟨?_, hk⟩
  obtain ⟨A, c, hg, hB, hn, hF, ho, hR⟩ := h
  have hfit : f * 128 + o + l.length ≤ F.length := by omega
  refine ⟨A, c, hk.blk hg (fun e => hrow.2.2 e.symm), hB, hn, by rw [splice_len hfit, hF], ?_, hR⟩
  obtain ⟨b', rfl, hb', _, _⟩ := own_cell ho h1
  rw [hb'] at hR
  rw [hb] at hR
  injection hR with hR
  subst hR
  have hs := (ho.stored f (.string (fs (splice F (f * 128 + o) l) f))).1
  have e : (strs n F).set f (.string (fs (splice F (f * 128 + o) l) f)) = strs n (splice F (f * 128 + o) l) := by
    apply List.ext_getElem
    · simp [strs]
    · intro i hi1 hi2
      rw [List.getElem_set]
      by_cases hfi : f = i
      · subst hfi; rw [if_pos rfl]; simp [strs]
      · rw [if_neg hfi]
        simp [strs]
        rw [fs_other hF h1 (by simpa [strs] using hi2) h3 hfi]
  rwa [e] at hs
set_option maxHeartbeats 4000000 in
theorem rwrite_no {w : World} {B g : Nat} {R : Option Nat} {n : Nat} {F : List Int} {s : Int} (h : RIs w B g R n F s) (sec : Bool) (f o : Int) (A : Option Addr) (k c : Nat) (hm : may n s sec f o k = false) :
    Calls Try.prog 54 #[.pointer (some ⟨g, 0, none⟩), .bool sec, .int .i64 f, .int .i64 o, .slice A k c] w fun e w' => e = .returned (.int .i64 (-20)) ∧ w = w' := by
  have H := Lib.hid h
  clear h
  rw [may_split] at hm
  obtain ⟨x, hx⟩ : ∃ x, (decide (0 ≤ f) && decide (f < (n : Int)) && (sec || decide (s ≤ f))) = x := ⟨_, rfl⟩
  rw [hx] at hm
  have HX := Lib.hid hx
  clear hx
  cases x with
  | false =>
    clear hm
    go_enter Try.func54, Try.ntmps54
    go_wp2_with (first
      | (go_at_call 62; (with_reducible refine (rmay_any H.out sec f).mono ?_); rintro e w1 ⟨rfl, rfl⟩; rw [HX.out])
      | fail)
    all_goals go_ret
    all_goals exact ⟨rfl, rfl⟩
  | true =>
    have hc : o < 0 ∨ 128 < o ∨ (0 ≤ o ∧ o ≤ 128 ∧ 128 - o < (k : Int)) := by simp at hm; omega
    clear hm
    rcases hc with h1 | h1 | ⟨h1, h2, h3⟩
    all_goals
      go_enter Try.func54, Try.ntmps54
      go_wp2_with (first
        | (go_at_call 62; (with_reducible refine (rmay_any H.out sec f).mono ?_); rintro e w1 ⟨rfl, rfl⟩; rw [HX.out])
        | fail)
      all_goals go_ret
      all_goals exact ⟨rfl, rfl⟩
set_option maxRecDepth 100000 in
set_option maxHeartbeats 4000000 in
theorem rwrite_ok {w : World} {B g : Nat} {R : Option Nat} {n : Nat} {F l : List Int} {s : Int} (h : RIs w B g R n F s) (sec : Bool) (f o : Nat) (A : Option Addr) (k c : Nat) (h1 : f < n) (h2 : sec = true ∨ s ≤ f) (h3 : o + k ≤ 128) (hr : ReadsInt w .u8 A k l) :
    Calls Try.prog 54 #[.pointer (some ⟨g, 0, none⟩), .bool sec, .int .i64 f, .int .i64 o, .slice A k c] w fun e w' => e = .returned (.int .i64 0) ∧ RIs w' B g R n (splice F (f * 128 + o) l) s ∧ (∃ b, R = some b ∧ Kept w w' (fun j => j = b)) := by
  have H := Lib.hid h
  have hlen := h.len
  have HM : Hid ((decide ((0 : Int) ≤ (f : Int)) && decide ((f : Int) < (n : Int)) && (sec || decide (s ≤ (f : Int)))) = true) := Lib.hid (by rcases h2 with h2 | h2 <;> simp [h1, h2])
  obtain ⟨A', c', hg, _, _, _, ho, hR⟩ := h
  obtain ⟨b, rfl, hb, xc, xf⟩ := own_cell ho h1
  have HRb : Hid (R = some b) := Lib.hid (by rw [← hR]; exact hb)
  have HG : w.drew.heap[g]? = _ := hg
  obtain ⟨x0, x1⟩ := cells2 hg
  obtain ⟨y0, y1⟩ := cells2 HG
  have yc : w.drew.cell? ⟨b, f, none⟩ = some (.string (fs F f)) := xc
  have yf : w.drew.frozen? ⟨b, f, none⟩ = false := xf
  have hnc := own_le ho
  have cv0 := conv (c := c) (show ReadsInt w.drew .u8 A k l from hr)
  have HL := Lib.hid hr.1
  have HE := Lib.hid (fs_splice hlen.1 h1 h3 hr.1)
  have HS := Lib.hid (ris_set (w := w.drew) (l := l) (o := o) H.out h1 (by rw [hr.1]; exact h3) HRb.out)
  obtain ⟨t, ht⟩ : ∃ t, fs F f = t := ⟨_, rfl⟩
  have hts : t.size = 128 := by rw [← ht]; exact fs_size hlen.1 h1
  rw [ht] at xc yc HE
  obtain ⟨x1, hx1⟩ : ∃ x, t.extract 0 o = x := ⟨_, rfl⟩
  obtain ⟨x2, hx2⟩ : ∃ x, strOfNums l = x := ⟨_, rfl⟩
  obtain ⟨x3, hx3⟩ : ∃ x, t.extract (o + k) 128 = x := ⟨_, rfl⟩
  obtain ⟨x4, hx4⟩ : ∃ x, x1 ++ x2 = x := ⟨_, rfl⟩
  obtain ⟨x5, hx5⟩ : ∃ x, x4 ++ x3 = x := ⟨_, rfl⟩
  have z1 : x1.size ≤ 128 := by rw [← hx1, ByteArray.size_extract]; omega
  have z2 : x2.size ≤ 128 := by rw [← hx2, str_size, hr.1]; omega
  have z3 : x3.size ≤ 128 := by rw [← hx3, ByteArray.size_extract]; omega
  have z4 : x4.size ≤ 256 := by rw [← hx4, ByteArray.size_append]; omega
  have n1 : ¬ (9223372036854775807 < x1.size + x2.size) := by omega
  have n2 : ¬ (9223372036854775807 < x4.size + x3.size) := by omega
  rw [hx1, hx2, hx3, hx4, hx5] at HE
  have cv : (convert 26 9 (.slice A k c)).run Try.prog w.drew = .ok (.string x2) w.drew := by rw [← hx2]; exact cv0
  have hsl : ∀ W, (Instr.slice 9 (.string t) (some (.int .i64 ((o : Int) + (k : Int)))) none none).run Try.prog W = .ok (.string x3) W := fun W => by
    rw [run_slice_string_from_if W 9 t .i64 _ Try.underlying9, if_pos ⟨by omega, by rw [hts]; omega⟩, hts, show ((o : Int) + (k : Int)).toNat = o + k by omega, hx3]
  clear cv0 z1 z2 z3 z4 hx2 hx3
  have q1 : (f : Int) < (n : Int) := by omega
  have q2 : (o : Int) + (k : Int) ≤ 128 := by omega
  have q3 : (k : Int) ≤ 128 - (o : Int) := by omega
  have q4 : IntKind.i64.wrap ((o : Int) + (k : Int)) = (o : Int) + (k : Int) := IntWalk.i64_in _ (by omega)
  have hN : (n : Int) ≤ 240 := by omega
  clear hg ho ht hlen h2 hr hR hb HG
  go_enter Try.func54, Try.ntmps54
  go_wp2_with (first
    | (go_at_call 62; (with_reducible refine (rmay_any H.out sec f).mono ?_); rintro e w1 ⟨rfl, rfl⟩; rw [HM.out])
    | fail)
  refine wp_region_still_tail 19 (by kernel_rfl) (by kernel_rfl) ?_
  change wpStill _ _ w.drew (fun a' => wpList _ _ _ _ a' w.drew) _ _
  simp only [List.take_succ_cons, List.take_zero, List.drop_succ_cons, List.drop_zero]
  repeat still_step
  refine wpStill_nil ?_
  go_wp2
  go_ret
  refine ⟨rfl, ?_, b, HRb.out, ?_⟩
  · rw [HE.out]; exact HS.out.1
  · rw [HE.out]; exact kept_undrew HS.out.2
end Go.Proofs.Ytdpjpmlajjfpgaa.Ram
