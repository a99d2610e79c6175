/- Which bytes are bills: the closed statement's walk. -/
import Derived.Test.YtmhglfidggjfdaaBillA
namespace Go.Proofs.Ytmhglfidggjfdaa.Bill
open Go Go.RowKit Go.Proofs.YtmhglfidggjfdaaW.PrintWords
open Go.Proofs.Ytmhglfidggjfdaa.PBillBack (S60 z60 k60 rd_T60 at_T60)
set_option linter.unusedVariables false
set_option linter.unusedSimpArgs false
def badS : Nat → ByteArray
  | 0 => ⟨#[]⟩
  | 1 => ⟨#[80, 77]⟩
  | 2 => ⟨#[80, 77, 0, 0, 0, 0]⟩
  | 3 => ⟨#[112, 109, 0, 0, 0, 0, 0]⟩
  | 4 => ⟨#[80, 77, 0, 0, 0, 0, 1]⟩
  | 5 => (⟨#[80, 77, 60, 10, 20, 1, 1, 31, 1, 2, 3, 4, 30, 4, 2]⟩ : ByteArray).extract 0 14
  | 6 => (⟨#[80, 77, 60, 10, 20, 1, 1, 31, 1, 2, 3, 4, 30, 4, 2]⟩ : ByteArray) ++ ⟨#[0]⟩
  | 7 => ⟨#[80, 77, 60, 10, 20, 1, 1, 32, 1, 2, 3, 4, 30, 4, 2]⟩
  | _ => ⟨#[80, 77, 0, 0, 0, 0, 0, 0]⟩
def bo : S60 := ⟨true, true, true, true, true, 16909060, 30, 4, 2⟩
def oneS : ByteArray := ⟨#[80, 77, 60, 10, 20, 1, 1, 31, 1, 2, 3, 4, 30, 4, 2]⟩
theorem k9 {k : Nat} (h : k < 9) : k = 0 ∨ k = 1 ∨ k = 2 ∨ k = 3 ∨ k = 4 ∨ k = 5 ∨ k = 6 ∨ k = 7 ∨ k = 8 := by omega
theorem take_bad {k : Nat} (h : k < 9) : takeB (bytesOf (badS k)) = (0, 0, 0, 0, [], -2) := by
  rcases k9 h with rfl | rfl | rfl | rfl | rfl | rfl | rfl | rfl | rfl <;> decide +kernel
theorem bad_size {k : Nat} (h : k < 9) : (badS k).size ≤ 1000 := by
  rcases k9 h with rfl | rfl | rfl | rfl | rfl | rfl | rfl | rfl | rfl <;> decide +kernel
def badsAt (w : World) (B : Nat) : Prop := w.heap[B]? = some (.cells #[.string (badS 0), .string (badS 1), .string (badS 2), .string (badS 3), .string (badS 4), .string (badS 5), .string (badS 6), .string (badS 7), .string (badS 8)] 9 (0, 0))
theorem bads_cell {w : World} {B k : Nat} (h : badsAt w B) (hk : k < 9) : w.cell? ⟨B, k, Option.none⟩ = some (.string (badS k)) := by
  rw [Mem.blk_cell h]
  rcases k9 hk with rfl | rfl | rfl | rfl | rfl | rfl | rfl | rfl | rfl <;> rfl
theorem br_lit {w : World} {g c : Nat} {t : TypeId} {fr : Nat × Nat} {l : List Int} (h : w.heap[g]? = some (.cells (l.map (Value.int .u8)).toArray t fr)) (hl : l.length ≤ 1000) (hc : l.length ≤ c) : BR w (some ⟨g, 0, Option.none⟩) c l := by
  refine ⟨CRow.c_row (b := g) (o := 0) (by omega) (fun _ => rfl) (fun i hi => ?_), hc⟩
  rw [Nat.zero_add, cell_of_row w g i _ t fr h]
  simp [List.getD_eq_getElem?_getD, List.getElem?_eq_getElem hi]
theorem br_bytes (W : World) (s : ByteArray) (hs : s.size ≤ 1000) : BR (Lib.bytesWorld W 5 s) (some ⟨W.heap.size, 0, Option.none⟩) (grownCap W s.size 0 5) (bytesOf s) := by
  refine ⟨CRow.c_row (b := W.heap.size) (o := 0) ?_ (fun _ => rfl) (fun i hi => ?_), ?_⟩
  · rw [bytesOf_length]; omega
  · rw [bytesOf_length] at hi
    rw [Nat.zero_add, Lib.bytesWorld_cell W 5 s i hi]
    have h' : i < s.data.toList.length := by rw [data_length]; exact hi
    simp [bytesOf, List.getD_eq_getElem?_getD, List.getElem?_eq_getElem h']
  · rw [bytesOf_length]; exact grownCap_ge _ _ _ _
theorem in_bytesOf (s : ByteArray) : BytesIn (bytesOf s) := by
  intro x hx
  obtain ⟨b, _, rfl⟩ := List.mem_map.1 hx
  have := UInt8.toNat_lt b
  omega
theorem take_str (W : World) (s : ByteArray) (hs : s.size ≤ 1000) {F T S C E : Int} {l : List S60} (e : takeB (bytesOf s) = (F, T, S, C, l, E)) : Calls Try.prog 25 #[.slice (some ⟨W.heap.size, 0, Option.none⟩) s.size (grownCap W s.size 0 5)] (Lib.bytesWorld W 5 s) fun e w' => ∃ A1 c1, e = .returned (.tuple #[.agg #[.int .i64 F, .int .i64 T, .int .i64 S, .int .i64 C, .slice A1 l.length c1], .int .i64 E]) ∧ PR w' A1 c1 l ∧ Below W.heap.size W w' := by
  have h := take_eq (br_bytes W s hs) (in_bytesOf s) e
  rw [bytesOf_length] at h
  refine h.mono ?_
  rintro e w' ⟨A1, c1, rfl, R, B⟩
  exact ⟨A1, c1, rfl, R, Mem.bel_chain (bytes_below (Below.refl _ _) (Nat.le_refl _) 5 s) B⟩
theorem PR.nil (w : World) (A : Option Addr) (c : Nat) : PR w A c [] := ⟨⟨rfl, by simp, fun h => absurd h (Nat.lt_irrefl 0)⟩, Nat.zero_le _⟩
set_option maxRecDepth 100000 in
set_option maxHeartbeats 400000 in
theorem forms (w : World) : Calls Try.prog 9 #[] w fun e w' => e = .returned (.bool true) ∧ Below w.heap.size w w' := by
  have hu44 := Try.underlying44
  have hu60 := Try.underlying60
  have hcv := fun (W : World) (s : ByteArray) => Lib.run_convert_string_bytes (P := Try.prog) W 9 38 5 s Try.underlying9 Try.underlying38 Try.underlying5
  have hS : sameB 0 0 0 0 [] 0 0 0 0 [] = true := by decide +kernel
  have hS1 : sameB 60 10 20 1 [bo] 60 10 20 1 [bo] = true := by decide +kernel
  have hw0 : WfL [] := by intro p hp; cases hp
  have hwo : WfL [bo] := by intro p hp; rw [List.mem_singleton.1 hp]; decide
  have hp0 : putB 0 0 0 0 [] = [80, 77, 0, 0, 0, 0, 0] := by decide +kernel
  have hp1 : putB 60 10 20 1 [bo] = [80, 77, 60, 10, 20, 1, 1, 31, 1, 2, 3, 4, 30, 4, 2] := by decide +kernel
  have ht1 : takeB (bytesOf oneS) = (60, 10, 20, 1, [bo], 0) := by decide +kernel
  have ht0 : takeB [80, 77, 0, 0, 0, 0, 0] = (0, 0, 0, 0, [], 0) := by decide +kernel
  have hn0 : BytesIn [80, 77, 0, 0, 0, 0, 0] := by unfold BytesIn; decide
  have HSE := Lib.hid (show ∀ (W : World) (A : Option Addr) (c : Nat), Calls Try.prog 30 #[.agg #[.int .i64 0, .int .i64 0, .int .i64 0, .int .i64 0, .slice A 0 c], .agg #[.int .i64 0, .int .i64 0, .int .i64 0, .int .i64 0, .slice none 0 0]] W fun e w' => e = .returned (.bool true) ∧ Below W.heap.size W w' from fun W A c => same_eq (l := []) (l' := []) (PR.nil W A c) (PR.none W 0) (by simp) hS)
  have HPZ := Lib.hid (show ∀ (W : World) (A : Option Addr) (c : Nat), Calls Try.prog 27 #[.agg #[.int .i64 0, .int .i64 0, .int .i64 0, .int .i64 0, .slice A 0 c]] W fun e w' => ∃ A1 c1, e = .returned (.slice A1 7 c1) ∧ BR w' A1 c1 [80, 77, 0, 0, 0, 0, 0] ∧ Below W.heap.size W w' from fun W A c => put_eq (l := []) (PR.nil W A c) hw0 hp0)
  have HPO := Lib.hid (show ∀ (W : World) (A : Option Addr) (c : Nat), PR W A c [bo] → Calls Try.prog 27 #[.agg #[.int .i64 60, .int .i64 10, .int .i64 20, .int .i64 1, .slice A 1 c]] W fun e w' => ∃ A1 c1, e = .returned (.slice A1 15 c1) ∧ BR w' A1 c1 [80, 77, 60, 10, 20, 1, 1, 31, 1, 2, 3, 4, 30, 4, 2] ∧ Below W.heap.size W w' from fun W A c h => put_eq (l := [bo]) h hwo hp1)
  have HSO := Lib.hid (show ∀ (W : World) (A : Option Addr) (c : Nat) (A' : Option Addr) (c' : Nat), PR W A c [bo] → PR W A' c' [bo] → Calls Try.prog 30 #[.agg #[.int .i64 60, .int .i64 10, .int .i64 20, .int .i64 1, .slice A 1 c], .agg #[.int .i64 60, .int .i64 10, .int .i64 20, .int .i64 1, .slice A' 1 c']] W fun e w' => e = .returned (.bool true) ∧ Below W.heap.size W w' from fun W A c A' c' h h' => same_eq (l := [bo]) (l' := [bo]) h h' (by simp) hS1)
  have HTO := Lib.hid (show ∀ W : World, Calls Try.prog 25 #[.slice (some ⟨W.heap.size, 0, none⟩) oneS.size (grownCap W oneS.size 0 5)] (Lib.bytesWorld W 5 oneS) fun e w' => ∃ A1 c1, e = .returned (.tuple #[.agg #[.int .i64 60, .int .i64 10, .int .i64 20, .int .i64 1, .slice A1 1 c1], .int .i64 0]) ∧ PR w' A1 c1 [bo] ∧ Below W.heap.size W w' from fun W => take_str W oneS (by decide +kernel) ht1)
  have HT0 := Lib.hid ht0
  have HN0 := Lib.hid hn0
  clear hS hS1 hw0 hwo hp0 hp1 ht1 ht0 hn0
  have hone : (⟨#[80, 77, 60, 10, 20, 1, 1, 31, 1, 2, 3, 4, 30, 4, 2]⟩ : ByteArray) = oneS := rfl
  have HON := Lib.hid hone
  clear hone
  go_enter Try.func9, Try.ntmps9
  go_upto_region 5 with (first
    | (go_at_call 23; (with_reducible refine (begun7 _).mono ?_); rintro e w1 ⟨rfl, B1⟩; have HB1 := Lib.hid B1; clear B1)
    | fail)
  have HB0 : badsAt (w1.alloc (.cells #[.string ⟨#[]⟩, .string ⟨#[80, 77]⟩, .string ⟨#[80, 77, 0, 0, 0, 0]⟩, .string ⟨#[112, 109, 0, 0, 0, 0, 0]⟩, .string ⟨#[80, 77, 0, 0, 0, 0, 1]⟩, .string ((⟨#[80, 77, 60, 10, 20, 1, 1, 31, 1, 2, 3, 4, 30, 4, 2]⟩ : ByteArray).extract 0 14), .string ((⟨#[80, 77, 60, 10, 20, 1, 1, 31, 1, 2, 3, 4, 30, 4, 2]⟩ : ByteArray) ++ ⟨#[0]⟩), .string ⟨#[80, 77, 60, 10, 20, 1, 1, 32, 1, 2, 3, 4, 30, 4, 2]⟩, .string ⟨#[80, 77, 0, 0, 0, 0, 0, 0]⟩] 9)) w1.heap.size := Mem.blk_new _ _
  have hb := Mem.bel_alloc HB1.out (.cells #[.string ⟨#[]⟩, .string ⟨#[80, 77]⟩, .string ⟨#[80, 77, 0, 0, 0, 0]⟩, .string ⟨#[112, 109, 0, 0, 0, 0, 0]⟩, .string ⟨#[80, 77, 0, 0, 0, 0, 1]⟩, .string ((⟨#[80, 77, 60, 10, 20, 1, 1, 31, 1, 2, 3, 4, 30, 4, 2]⟩ : ByteArray).extract 0 14), .string ((⟨#[80, 77, 60, 10, 20, 1, 1, 31, 1, 2, 3, 4, 30, 4, 2]⟩ : ByteArray) ++ ⟨#[0]⟩), .string ⟨#[80, 77, 60, 10, 20, 1, 1, 32, 1, 2, 3, 4, 30, 4, 2]⟩, .string ⟨#[80, 77, 0, 0, 0, 0, 0, 0]⟩] 9)
  generalize hW : w1.alloc (.cells #[.string ⟨#[]⟩, .string ⟨#[80, 77]⟩, .string ⟨#[80, 77, 0, 0, 0, 0]⟩, .string ⟨#[112, 109, 0, 0, 0, 0, 0]⟩, .string ⟨#[80, 77, 0, 0, 0, 0, 1]⟩, .string ((⟨#[80, 77, 60, 10, 20, 1, 1, 31, 1, 2, 3, 4, 30, 4, 2]⟩ : ByteArray).extract 0 14), .string ((⟨#[80, 77, 60, 10, 20, 1, 1, 31, 1, 2, 3, 4, 30, 4, 2]⟩ : ByteArray) ++ ⟨#[0]⟩), .string ⟨#[80, 77, 60, 10, 20, 1, 1, 32, 1, 2, 3, 4, 30, 4, 2]⟩, .string ⟨#[80, 77, 0, 0, 0, 0, 0, 0]⟩] 9) = W at HB0 hb ⊢
  clear hW HB1
  obtain ⟨B, hB⟩ : ∃ B, w1.heap.size = B := ⟨_, rfl⟩
  rw [hB] at HB0 ⊢
  clear hB
  rw [HON.out]
  clear HON
  have HBs := Lib.hid HB0
  have HB := Lib.hid hb
  clear HB0 hb
  go_wp2_with (fail)
  go_loopw [3] (fun i wr => ∃ k : Nat, k ≤ 9 ∧ i = .int .i64 k ∧ badsAt wr B ∧ Below w.heap.size w wr) (fun i _ => 9 - (intOf i).toNat)
  case atStart => exact ⟨0, by omega, rfl, HBs.out, HB.out⟩
  case round =>
    clear HBs HB
    obtain ⟨k, hk, rfl, h1, h2⟩ := hrel
    by_cases h9 : k = 9
    · subst h9
      have HB := Lib.hid h2
      clear h1 h2 hk
      go_upto_region 12 with (first
        | (go_at_call 25; (with_reducible refine (HTO.out _).mono ?_); rintro e w2 ⟨A2, c2, rfl, R2, B2⟩; have HB2 := Lib.hid (Mem.bel_chain HB.out B2); have HR2 := Lib.hid R2; clear B2 R2)
        | fail)
      have HBX := Lib.hid (Mem.bel_alloc HB2.out (.cells #[.int .i64 60, .int .i64 10, .int .i64 20, .int .i64 1, .slice A2 1 c2] 44))
      have HRX := Lib.hid (HR2.out.below (Mem.bel_alloc (Below.refl _ _) (.cells #[.int .i64 60, .int .i64 10, .int .i64 20, .int .i64 1, .slice A2 1 c2] 44)))
      have HKX := Lib.hid (Mem.blk_new w2 (.cells #[.int .i64 60, .int .i64 10, .int .i64 20, .int .i64 1, .slice A2 1 c2] 44))
      generalize hX : w2.alloc (.cells #[.int .i64 60, .int .i64 10, .int .i64 20, .int .i64 1, .slice A2 1 c2] 44) = X at HBX HRX HKX ⊢
      generalize hg6 : w2.heap.size = g6 at HKX ⊢
      clear hX hg6 HB2 HR2 HB
      have kc : (convert 38 38 (.slice (some ⟨X.heap.size, 0, none⟩) 7 7)).run Try.prog (X.alloc (.cells #[.int .u8 80, .int .u8 77, .int .u8 0, .int .u8 0, .int .u8 0, .int .u8 0, .int .u8 0] 5)) = .ok (.slice (some ⟨X.heap.size, 0, none⟩) 7 7) (X.alloc (.cells #[.int .u8 80, .int .u8 77, .int .u8 0, .int .u8 0, .int .u8 0, .int .u8 0, .int .u8 0] 5 (7, 8))) := Lib.run_convert_bytes_const X 38 5 _ 7 7 Try.underlying38 Try.underlying5
      have HTZ := Lib.hid (show Calls Try.prog 25 #[.slice (some ⟨X.heap.size, 0, none⟩) 7 7] (X.alloc (.cells #[.int .u8 80, .int .u8 77, .int .u8 0, .int .u8 0, .int .u8 0, .int .u8 0, .int .u8 0] 5 (7, 8))) fun e w' => ∃ A1 c1, e = .returned (.tuple #[.agg #[.int .i64 0, .int .i64 0, .int .i64 0, .int .i64 0, .slice A1 0 c1], .int .i64 0]) ∧ PR w' A1 c1 [] ∧ Below (X.alloc (.cells #[.int .u8 80, .int .u8 77, .int .u8 0, .int .u8 0, .int .u8 0, .int .u8 0, .int .u8 0] 5 (7, 8))).heap.size (X.alloc (.cells #[.int .u8 80, .int .u8 77, .int .u8 0, .int .u8 0, .int .u8 0, .int .u8 0, .int .u8 0] 5 (7, 8))) w' from take_eq (b := [80, 77, 0, 0, 0, 0, 0]) (br_lit (l := [80, 77, 0, 0, 0, 0, 0]) (Mem.blk_new X (.cells #[.int .u8 80, .int .u8 77, .int .u8 0, .int .u8 0, .int .u8 0, .int .u8 0, .int .u8 0] 5 (7, 8))) (by decide) (by decide)) HN0.out HT0.out)
      go_upto_region 13 with (first
        | (go_at_call 25; (with_reducible refine HTZ.out.mono ?_); rintro e w4 ⟨A4, c4, rfl, _, B4⟩; have HB4 := Lib.hid (Mem.bel_chain (Mem.bel_alloc (Below.refl _ _) _) B4); clear B4)
        | fail)
      have HBY := Lib.hid (Mem.bel_chain HBX.out (Mem.bel_alloc HB4.out (.cells #[.int .i64 0, .int .i64 0, .int .i64 0, .int .i64 0, .slice A4 0 c4] 44)))
      have HRY := Lib.hid (HRX.out.below (Mem.bel_alloc HB4.out (.cells #[.int .i64 0, .int .i64 0, .int .i64 0, .int .i64 0, .slice A4 0 c4] 44)))
      have HKY := Lib.hid (Mem.blk_below HKX.out (Mem.bel_alloc HB4.out (.cells #[.int .i64 0, .int .i64 0, .int .i64 0, .int .i64 0, .slice A4 0 c4] 44)))
      have HK8 := Lib.hid (Mem.blk_new w4 (.cells #[.int .i64 0, .int .i64 0, .int .i64 0, .int .i64 0, .slice A4 0 c4] 44))
      generalize hY : w4.alloc (.cells #[.int .i64 0, .int .i64 0, .int .i64 0, .int .i64 0, .slice A4 0 c4] 44) = Y at HBY HRY HKY HK8 ⊢
      generalize hg8 : w4.heap.size = g8 at HK8 ⊢
      clear hY hg8 HB4 HBX HRX HKX kc HTZ HT0 HN0
      go_upto_region 14 with (fail)
      have bz1 := Mem.bel_alloc (Below.refl Y.heap.size Y) (.cells #[.bool true, .bool true, .bool true, .bool true, .bool true, .int .u32 16909060, .int .i64 30, .int .i64 4, .int .i64 2] 60)
      have bz2 := Mem.bel_alloc bz1 (.cells #[.int .i64 60, .int .i64 10, .int .i64 20, .int .i64 1, .slice (some ⟨Y.heap.size, 0, none⟩) 1 1] 44)
      have HBZ := Lib.hid (Mem.bel_chain HBY.out bz2)
      have HRZ := Lib.hid (HRY.out.below bz2)
      have HK6 := Lib.hid (Mem.blk_below HKY.out bz2)
      have HKB := Lib.hid (Mem.blk_below HK8.out bz2)
      have pn : PR (Y.alloc (.cells #[.bool true, .bool true, .bool true, .bool true, .bool true, .int .u32 16909060, .int .i64 30, .int .i64 4, .int .i64 2] 60)) (some ⟨Y.heap.size, 0, none⟩) 1 [bo] := pr_new Y _ rfl bo
      have HPN := Lib.hid (pn.below (Mem.bel_alloc (Below.refl _ _) (.cells #[.int .i64 60, .int .i64 10, .int .i64 20, .int .i64 1, .slice (some ⟨Y.heap.size, 0, none⟩) 1 1] 44)))
      have HKT := Lib.hid (Mem.blk_new (Y.alloc (.cells #[.bool true, .bool true, .bool true, .bool true, .bool true, .int .u32 16909060, .int .i64 30, .int .i64 4, .int .i64 2] 60)) (.cells #[.int .i64 60, .int .i64 10, .int .i64 20, .int .i64 1, .slice (some ⟨Y.heap.size, 0, none⟩) 1 1] 44))
      clear bz1 bz2 pn HBY HRY HKY HK8
      have hsz : (Y.alloc (.cells #[.bool true, .bool true, .bool true, .bool true, .bool true, .int .u32 16909060, .int .i64 30, .int .i64 4, .int .i64 2] 60)).heap.size = Y.heap.size + 1 := sz _ _
      rw [hsz] at HKT
      clear hsz
      obtain ⟨Z, hZ⟩ : ∃ Z, (Y.alloc (.cells #[.bool true, .bool true, .bool true, .bool true, .bool true, .int .u32 16909060, .int .i64 30, .int .i64 4, .int .i64 2] 60)).alloc (.cells #[.int .i64 60, .int .i64 10, .int .i64 20, .int .i64 1, .slice (some ⟨Y.heap.size, 0, none⟩) 1 1] 44) = Z := ⟨_, rfl⟩
      rw [hZ] at HBZ HRZ HK6 HKB HPN HKT
      rw [hZ]
      clear hZ
      have ha := Mem.cells5 HK6.out
      have hb := Mem.cells5 HKB.out
      have hc := Mem.cells5 HKT.out
      go_wp2_with (first
        | (go_at_call 30; (with_reducible refine (HSO.out _ _ _ _ _ HRZ.out HPN.out).mono ?_); rintro e w5 ⟨rfl, B5⟩; have HB5 := Lib.hid B5; clear B5 ha hb hc; have hb := Mem.cells5 (Mem.blk_below HKB.out HB5.out); have hc := Mem.cells5 (Mem.blk_below HKT.out HB5.out))
        | (go_at_call 27; (with_reducible refine (HPO.out _ _ _ (HPN.out.below HB5.out)).mono ?_); rintro e w6 ⟨A6, c6, rfl, R6, B6⟩; have HB6 := Lib.hid (Mem.bel_chain HB5.out B6); clear B6 hb hc; have hb := Mem.cells5 (Mem.blk_below HKB.out HB6.out); have cv6 : (convert 38 9 (.slice A6 15 c6)).run Try.prog w6 = .ok (.string oneS) w6 := R6.conv; clear R6)
        | (go_at_call 30; (with_reducible refine (HSE.out _ _ _).mono ?_); rintro e w7 ⟨rfl, B7⟩; have HB7 := Lib.hid (Mem.bel_chain HB6.out B7); clear B7 hb; have hb := Mem.cells5 (Mem.blk_below HKB.out HB7.out))
        | (go_at_call 27; (with_reducible refine (HPZ.out _ _ _).mono ?_); rintro e w8 ⟨A8, c8, rfl, R8, B8⟩; have HB8 := Lib.hid (Mem.bel_chain HB7.out B8); clear B8 hb; have cv8 : (convert 38 9 (.slice A8 7 c8)).run Try.prog w8 = .ok (.string ⟨#[80, 77, 0, 0, 0, 0, 0]⟩) w8 := R8.conv; clear R8)
        | fail)
      go_ret
      exact ⟨rfl, Mem.bel_chain HBZ.out HB8.out⟩
    · have hk9 : k < 9 := by omega
      have x := bads_cell h1 hk9
      have hT := fun W => take_str W (badS k) (bad_size hk9) (take_bad hk9)
      obtain ⟨s, hs⟩ : ∃ s, badS k = s := ⟨_, rfl⟩
      rw [hs] at x hT
      have HT := Lib.hid (show ∀ W : World, Calls Try.prog 25 #[.slice (some ⟨W.heap.size, 0, none⟩) s.size (grownCap W s.size 0 5)] (Lib.bytesWorld W 5 s) fun e w' => ∃ A1 c1, e = .returned (.tuple #[.agg #[.int .i64 0, .int .i64 0, .int .i64 0, .int .i64 0, .slice A1 0 c1], .int .i64 (-2)]) ∧ PR w' A1 c1 [] ∧ Below W.heap.size W w' from hT)
      have HBs := Lib.hid h1
      have HB := Lib.hid h2
      have hk0 : (0 : Int) ≤ k := by omega
      have hk1 : (k : Int) < 9 := by omega
      have e1 : IntKind.i64.wrap ((k : Int) + 1) = k + 1 := IntWalk.i64_in _ (by omega)
      clear hT hs h1 h2 h9 hk
      go_wp2_with (first
        | (go_at_call 25; (with_reducible refine (HT.out _).mono ?_); rintro e w2 ⟨A2, c2, rfl, _, B2⟩; have HB2 := Lib.hid B2; clear B2; have hc5 := Mem.cells5 (Mem.blk_new w2 (.cells #[.int .i64 0, .int .i64 0, .int .i64 0, .int .i64 0, .slice A2 0 c2] 44)))
        | (go_at_call 30; (with_reducible refine (HSE.out _ _ _).mono ?_); rintro e w3 ⟨rfl, B3⟩; have HB3 := Lib.hid B3; clear B3)
        | fail)
      all_goals go_roundw
      case rel =>
        have b2 := Mem.bel_alloc HB2.out (.cells #[.int .i64 0, .int .i64 0, .int .i64 0, .int .i64 0, .slice A2 0 c2] 44)
        exact ⟨k + 1, by omega, by first | rfl | simp, Mem.blk_below (Mem.blk_below HBs.out b2) HB3.out, Mem.bel_chain (Mem.bel_chain HB.out b2) HB3.out⟩
      case measure => simp [intOf]; omega
end Go.Proofs.Ytmhglfidggjfdaa.Bill
