/- A copy says what this one says, and neither turns the other: the walk. -/
import Derived.Test.YtbcdkhgfjdbjoaaRamL
namespace Go.Proofs.Ytbcdkhgfjdbjoaa.Ram
open Go.RowKit Go.Proofs.Ytbcdkhgfjdbjoaa.Mem Go.Proofs.Ytbcdkhgfjdbjoaa.Kept
open Go.Proofs.YtbcdkhgfjdbjoaaW.PrintWords (nums ReadsInt string_of_reads)
set_option linter.unusedVariables false

theorem conv {w : World} {A : Option Addr} {n c : Nat} {l : List Int} (h : ReadsInt w .u8 A n l) : (convert 50 9 (.slice A n c)).run Try.prog w = .ok (.string (strOfNums l)) w :=
  string_of_reads underB (by kernel_rfl) (by kernel_rfl) h
theorem frame_kept {w w' : World} {B g b n b' B' : Nat} {F : List Int} {s : Int} (h : Is w B g b n F s) (hn : 0 < n) (hk : Kept w w' (fun k => k = b')) (hg : w.heap.size ≤ B' ∨ g < B') (hb : b < B') (hB : B' ≤ b') : Is w' B g b n F s :=
  h.kept hk (fun e => by have := h.lt; omega) (fun _ e => by have := h.row hn; omega)

set_option maxRecDepth 100000 in
set_option maxHeartbeats 8000000 in
theorem copies_out (w : World) (fr : Int) (A1 : Option Addr) (n1 c1 : Nat) (A2 : Option Addr) (n2 c2 : Nat) (h : 128 < n1 ∨ 128 < n2) :
    Calls Try.prog 12 #[.int .u8 fr, .slice A1 n1 c1, .slice A2 n2 c2] w fun e w' => e = .returned (.bool true) ∧ Below w.heap.size w w' := by
  have hb := Below.refl w.heap.size w
  by_cases h1 : 128 < n1
  · have h1' : (128 : Int) < (n1 : Int) := by omega
    clear h
    go_enter Try.func12, Try.ntmps12
    go_wp2_with (first
      | (go_at_call 22; (with_reducible refine (begun _).mono ?_); rintro e w1 ⟨rfl, hb1⟩; replace hb := bel_chain hb hb1; clear hb1)
      | fail)
    all_goals go_ret
    all_goals exact ⟨rfl, hb⟩
  · have h1' : ¬ ((128 : Int) < (n1 : Int)) := by omega
    have h2' : (128 : Int) < (n2 : Int) := by omega
    clear h
    go_enter Try.func12, Try.ntmps12
    go_wp2_with (first
      | (go_at_call 22; (with_reducible refine (begun _).mono ?_); rintro e w1 ⟨rfl, hb1⟩; replace hb := bel_chain hb hb1; clear hb1)
      | fail)
    all_goals go_ret
    all_goals exact ⟨rfl, hb⟩
set_option maxRecDepth 100000 in
set_option maxHeartbeats 8000000 in
theorem copies_in (w : World) (fr : Int) (hfr : 0 ≤ fr ∧ fr ≤ 255) (A1 : Option Addr) (n1 c1 : Nat) (l1 : List Int) (A2 : Option Addr) (n2 c2 : Nat) (l2 : List Int) (h1 : n1 ≤ 128) (h2 : n2 ≤ 128) (hr1 : ReadsInt w .u8 A1 n1 l1) (hr2 : ReadsInt w .u8 A2 n2 l2) :
    Calls Try.prog 12 #[.int .u8 fr, .slice A1 n1 c1, .slice A2 n2 c2] w fun e w' => e = .returned (.bool true) ∧ Below w.heap.size w w' := by
  have hb := Below.refl w.heap.size w
  have C4 : Hid (frames 5 = 5) := Lib.hid (by decide)
  have C2 : Hid (secures 5 2 = 2) := Lib.hid (by decide)
  have hl1 := hr1.1
  have hl2 := hr2.1
  have R1 := Lib.hid hr1
  have R2 := Lib.hid hr2
  have h1' : ¬ ((128 : Int) < (n1 : Int)) := by omega
  have h2' : ¬ ((128 : Int) < (n2 : Int)) := by omega
  obtain ⟨f, hf⟩ : ∃ f : Nat, fr % 5 = (f : Int) := ⟨(fr % 5).toNat, by omega⟩
  have hf5 : f < 5 := by omega
  have hrem : Int.tmod fr 5 = (f : Int) := by rw [Int.tmod_eq_emod_of_nonneg hfr.1, hf]
  have v1_ : IntKind.i64.wrap (f : Int) = (f : Int) := IntWalk.i64_in _ (by omega)
  obtain ⟨f2, hf2⟩ : ∃ f2 : Nat, ((f : Int) + 1) % 5 = (f2 : Int) := ⟨(((f : Int) + 1) % 5).toNat, by omega⟩
  have hf25 : f2 < 5 := by omega
  have hff : f2 ≠ f := by omega
  have q5 : 0 < 5 := by omega
  have L0 : (List.replicate (5 * 128) (0 : Int)).length = 5 * 128 := by simp
  obtain ⟨F1, hF1⟩ : ∃ F1, splice (List.replicate (5 * 128) (0 : Int)) (f * 128 + 0) l1 = F1 := ⟨_, rfl⟩
  have L1 : F1.length = 5 * 128 := by rw [← hF1, splice_len (by omega), L0]
  obtain ⟨F2, hF2⟩ : ∃ F2, splice F1 (f * 128 + 0) l2 = F2 := ⟨_, rfl⟩
  have L2 : F2.length = 5 * 128 := by rw [← hF2, splice_len (by omega), L1]
  obtain ⟨F3, hF3⟩ : ∃ F3, splice F2 (f2 * 128) (List.replicate 128 0) = F3 := ⟨_, rfl⟩
  have P1 : Hid (part F1 f 0 n1 = l1) := Lib.hid (by rw [← hF1]; exact part_same L0 hf5 (by omega) hl1)
  have P3 : Hid (part F3 f 0 n2 = l2) := Lib.hid (by
    rw [← hF3]
    have e := part_other (l := List.replicate 128 0) (f := f2) (o := 0) (f' := f) (o' := 0) (k' := n2) L2 hf25 (by simp) hf5 (by omega) (Or.inl hff)
    rw [Nat.add_zero] at e
    rw [e, ← hF2]
    exact part_same L1 hf5 (by omega) hl2)
  have HF1 := Lib.hid hF1
  have HF2 := Lib.hid hF2
  have HF3 := Lib.hid hF3
  have S1 : Hid ((decide ((0 : Int) ≤ 1) && decide ((1 : Int) < 2)) = true) := Lib.hid (by decide)
  have S2 : Hid ((decide ((0 : Int) ≤ 2) && decide ((2 : Int) < 2)) = false) := Lib.hid (by decide)
  have z1 : 0 + n1 ≤ 128 := by omega
  have z2 : 0 + n2 ≤ 128 := by omega
  clear hr1 hr2 hl1 hl2 L0 L1 L2 hF1 hF2 hF3 hff
  go_enter Try.func12, Try.ntmps12
  go_wp2_with (first
    | (go_at_call 22; (with_reducible refine (begun _).mono ?_); rintro e w1 ⟨rfl, hb1⟩; replace hb := bel_chain hb hb1; clear hb1)
    | (go_at_call 23; (with_reducible refine (new_i w1 5 2 5 2 C4.out C2.out).mono ?_); rintro e w2 ⟨g, b, rfl, H, hb2⟩; have H2 := Lib.hid H; have hB := Lib.hid hb.size; replace hb := bel_chain hb hb2; have R12 := Lib.hid (R1.out.below hb); clear H hb2)
    | (go_at_call 27; (with_reducible refine (write_i H2.out true f 0 f 0 rfl rfl A1 n1 c1 hf5 (Or.inl rfl) z1 R12.out).mono ?_); rintro e w3 ⟨rfl, H, hk⟩; rw [HF1.out] at H; have H3 := Lib.hid H; replace hb := bel_row hb H2.out hB.out q5 hk; clear H hk R12 H2)
    | (go_at_call 34; (with_reducible refine (copy_i H3.out).mono ?_); rintro e w4 ⟨g', b', rfl, HC, HO, hb4⟩; have HC4 := Lib.hid HC; have HO4 := Lib.hid HO; have hB4 := Lib.hid hb.size; have hlt4 := Lib.hid (H3.out.row q5).2.1; have hgl4 := Lib.hid H3.out.lt.2; replace hb := bel_chain hb hb4; clear HC HO hb4 H3)
    | (go_at_call 35; (with_reducible refine (read_i HC4.out true f 0 n1 f 0 n1 rfl rfl rfl hf5 (Or.inl rfl) z1 P1.out).mono ?_); rintro e w5 ⟨A5, c5, rfl, hc5, hr5, hb5, hf5'⟩; have HC5 := Lib.hid (HC4.out.below hb5); have HO5 := Lib.hid (HO4.out.below hb5); replace hb := bel_chain hb hb5; have cv5 := conv (c := c5) hr5; have cv1 := conv (c := c1) (R1.out.below hb); have R25 := Lib.hid (R2.out.below hb); clear hr5 hb5 hf5' HC4 HO4)
    | (go_at_call 27; (with_reducible refine (write_i HC5.out true f 0 f 0 rfl rfl A2 n2 c2 hf5 (Or.inl rfl) z2 R25.out).mono ?_); rintro e w6 ⟨rfl, H, hk⟩; rw [HF2.out] at H; have HC6 := Lib.hid H; have HO6 := Lib.hid (frame_kept HO5.out q5 hk (Or.inr hgl4.out) hlt4.out (HC5.out.row q5).1); replace hb := bel_row hb HC5.out hB4.out q5 hk; clear H hk R25 HC5 HO5 cv5 cv1)
    | (go_at_call 32; (with_reducible refine (clear_i HC6.out f2 f2 rfl hf25).mono ?_); rintro e w7 ⟨rfl, H, hk⟩; rw [HF3.out] at H; have HC7 := Lib.hid H; have HO7 := Lib.hid (frame_kept HO6.out q5 hk (Or.inr hgl4.out) hlt4.out (HC6.out.row q5).1); replace hb := bel_row hb HC6.out hB4.out q5 hk; clear H hk HC6 HO6)
    | (go_at_call 35; (with_reducible refine (read_i HO7.out true f 0 n1 f 0 n1 rfl rfl rfl hf5 (Or.inl rfl) z1 P1.out).mono ?_); rintro e w8 ⟨A8, c8, rfl, hc8, hr8, hb8, _⟩; have HC8 := Lib.hid (HC7.out.below hb8); have R8 := Lib.hid hr8; replace hb := bel_chain hb hb8; clear hr8 hb8 HO7 HC7)
    | (go_at_call 35; (with_reducible refine (read_i HC8.out true f 0 n2 f 0 n2 rfl rfl rfl hf5 (Or.inl rfl) z2 P3.out).mono ?_); rintro e w9 ⟨A9, c9, rfl, hc9, hr9, hb9, _⟩; have HC9 := Lib.hid (HC8.out.below hb9); replace hb := bel_chain hb hb9; have cv8 := conv (c := c8) (R8.out.below hb9); have cv9 := conv (c := c9) hr9; have cv1 := conv (c := c1) (R1.out.below hb); have cv2 := conv (c := c2) (R2.out.below hb); clear hr9 hb9 HC8 R8)
    | (go_at_call 25; (with_reducible refine (frames_i HC9.out 5 rfl).mono ?_); rintro e w10 ⟨rfl, rfl⟩)
    | (go_at_call 39; (with_reducible refine (secure_i HC9.out 1 true S1.out).mono ?_); rintro e w11 ⟨rfl, rfl⟩)
    | (go_at_call 39; (with_reducible refine (secure_i HC9.out 2 false S2.out).mono ?_); rintro e w12 ⟨rfl, rfl⟩)
    | fail)
  all_goals go_ret
  all_goals exact ⟨rfl, hb⟩
theorem reads_plain {w : World} {a : Option Addr} {b off : Nat} {l : List Int} (hl : l.length ≤ 1152921504606846976) (ha : 0 < l.length → a = some ⟨b, off, none⟩) (hc : ∀ i, i < l.length → w.cell? ⟨b, off + i, none⟩ = some (.int .u8 (l.getD i 0))) : ReadsInt w .u8 a l.length l :=
  ⟨rfl, by omega, fun h => ⟨_, ha h, fun j hj => by rw [add_at]; exact hc j hj⟩⟩
theorem copies_all (w : World) (fr : Int) (hfr : 0 ≤ fr ∧ fr ≤ 255) (A1 : Option Addr) (c1 : Nat) (l1 : List Int) (A2 : Option Addr) (c2 : Nat) (l2 : List Int) (hr1 : ReadsInt w .u8 A1 l1.length l1) (hr2 : ReadsInt w .u8 A2 l2.length l2) :
    Calls Try.prog 12 #[.int .u8 fr, .slice A1 l1.length c1, .slice A2 l2.length c2] w fun e w' => e = .returned (.bool true) ∧ Below w.heap.size w w' := by
  by_cases h : 128 < l1.length ∨ 128 < l2.length
  · exact copies_out w fr A1 _ c1 A2 _ c2 h
  · exact copies_in w fr hfr A1 _ c1 l1 A2 _ c2 l2 (by omega) (by omega) hr1 hr2
end Go.Proofs.Ytbcdkhgfjdbjoaa.Ram
