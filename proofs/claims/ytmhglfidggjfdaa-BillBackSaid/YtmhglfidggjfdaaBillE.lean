/- Bills as bytes: the contracts in one form; whether the package does anything. -/
import Derived.Test.YtmhglfidggjfdaaBillM
import Derived.Test.YtmhglfidggjfdaaCells
namespace Go.Proofs.Ytmhglfidggjfdaa.Bill
open Go Go.RowKit Go.Proofs.YtmhglfidggjfdaaW.PrintWords
open Go.Proofs.Ytmhglfidggjfdaa.PBillBack (S60 z60 k60 rd_T60 at_T60)
set_option linter.unusedVariables false
set_option linter.unusedSimpArgs false

/-- A row of parts, of bytes, that reads at a world. -/
def PR (w : World) (A : Option Addr) (c : Nat) (l : List S60) : Prop := Kd.C k60 w A l.length l ∧ l.length ≤ c
def BR (w : World) (A : Option Addr) (c : Nat) (l : List Int) : Prop := Kd.C (Kd.int .u8) w A l.length l ∧ l.length ≤ c
theorem PR.below {w w' : World} {A : Option Addr} {c : Nat} {l : List S60} (h : PR w A c l) (hb : Below w.heap.size w w') : PR w' A c l := ⟨Kd.C_below h.1 hb, h.2⟩
theorem BR.below {w w' : World} {A : Option Addr} {c : Nat} {l : List Int} (h : BR w A c l) (hb : Below w.heap.size w w') : BR w' A c l := ⟨Kd.C_below h.1 hb, h.2⟩
theorem PR.none (w : World) (c : Nat) : PR w none c [] := ⟨Kd.C_nil _ _, Nat.zero_le _⟩
theorem BR.none (w : World) (c : Nat) : BR w none c [] := ⟨Kd.C_nil _ _, Nat.zero_le _⟩
theorem BR.conv {w : World} {A : Option Addr} {c : Nat} {l : List Int} (h : BR w A c l) : (convert 38 9 (.slice A l.length c)).run Try.prog w = .ok (.string (strOfNums l)) w := Kd.C_string (P := Try.prog) (A := A) (c := c) Try.underlying38 Try.underlying5 Try.underlying9 h.1
def BytesIn (b : List Int) : Prop := ∀ x ∈ b, 0 ≤ x ∧ x ≤ 255
section
variable {w : World} {A A' : Option Addr} {c c' : Nat}
theorem put_eq {F T S C : Int} {l : List S60} {r : List Int} (h : PR w A c l) (hw : WfL l) (e : putB F T S C l = r) : Calls Try.prog 27 #[.agg #[.int .i64 F, .int .i64 T, .int .i64 S, .int .i64 C, .slice A l.length c]] w fun e w' => ∃ A1 c1, e = .returned (.slice A1 r.length c1) ∧ BR w' A1 c1 r ∧ Below w.heap.size w w' := by
  refine (put_any w F T S C A c l h.1 h.2 hw).mono ?_
  rw [e]
  rintro e w' ⟨v, rfl, R, B⟩
  obtain ⟨A1, c1, rfl⟩ := Kd.R_slice R
  exact ⟨A1, c1, rfl, ⟨(Kd.R_reads' R).2.2, (Kd.R_reads' R).2.1⟩, B⟩
theorem rput_eq {F T S C : Int} {l : List S60} {r : List Int} (h : PR w A c l) (hl : l.length ≤ 1000) (hw : WfL l) (e : putB F T S C l = r) : Calls Try.prog 28 #[.agg #[.int .i64 F, .int .i64 T, .int .i64 S, .int .i64 C, .slice A l.length c]] w fun e w' => ∃ A1 c1, e = .returned (.slice A1 r.length c1) ∧ BR w' A1 c1 r ∧ Below w.heap.size w w' := by
  refine (PBillR.presidioref6_PutBill.calls (l.length + 10) F T S C A c l r w h.1 h.2 (by rw [put_f F T S C l hl hw (Nat.le_refl _), e])).mono ?_
  rintro e w' ⟨v, rfl, R, B⟩
  obtain ⟨A1, c1, rfl⟩ := Kd.R_slice R
  exact ⟨A1, c1, rfl, ⟨(Kd.R_reads' R).2.2, (Kd.R_reads' R).2.1⟩, B⟩
theorem take_eq {b : List Int} {F T S C E : Int} {l : List S60} (h : BR w A c b) (hb : BytesIn b) (e : takeB b = (F, T, S, C, l, E)) : Calls Try.prog 25 #[.slice A b.length c] w fun e w' => ∃ A1 c1, e = .returned (.tuple #[.agg #[.int .i64 F, .int .i64 T, .int .i64 S, .int .i64 C, .slice A1 l.length c1], .int .i64 E]) ∧ PR w' A1 c1 l ∧ Below w.heap.size w w' := by
  refine (take_any w A c b h.1 h.2 hb).mono ?_
  rw [e]
  rintro e w' ⟨v, rfl, R, B⟩
  obtain ⟨A1, c1, rfl⟩ := Kd.R_slice R
  exact ⟨A1, c1, rfl, ⟨(Kd.R_reads' R).2.2, (Kd.R_reads' R).2.1⟩, B⟩
theorem rtake_eq {b : List Int} {F T S C E : Int} {l : List S60} (h : BR w A c b) (hb : BytesIn b) (e : takeB b = (F, T, S, C, l, E)) : Calls Try.prog 26 #[.slice A b.length c] w fun e w' => ∃ A1 c1, e = .returned (.tuple #[.agg #[.int .i64 F, .int .i64 T, .int .i64 S, .int .i64 C, .slice A1 l.length c1], .int .i64 E]) ∧ PR w' A1 c1 l ∧ Below w.heap.size w w' := by
  refine (PBillR.presidioref6_TakeBill.calls 260 A c b F T S C l E w h.1 h.2 (by rw [take_f hb (Nat.le_refl _), e])).mono ?_
  rintro e w' ⟨v, rfl, R, B⟩
  obtain ⟨A1, c1, rfl⟩ := Kd.R_slice R
  exact ⟨A1, c1, rfl, ⟨(Kd.R_reads' R).2.2, (Kd.R_reads' R).2.1⟩, B⟩
theorem same_eq {F T S C F' T' S' C' : Int} {l l' : List S60} {r : Bool} (h : PR w A c l) (h' : PR w A' c' l') (hl : l.length ≤ 1000) (e : sameB F T S C l F' T' S' C' l' = r) :
    Calls Try.prog 30 #[.agg #[.int .i64 F, .int .i64 T, .int .i64 S, .int .i64 C, .slice A l.length c], .agg #[.int .i64 F', .int .i64 T', .int .i64 S', .int .i64 C', .slice A' l'.length c']] w fun e w' => e = .returned (.bool r) ∧ Below w.heap.size w w' :=
  PBillR.bill_Same.calls (l.length + 1) F T S C A c l F' T' S' C' A' c' l' r w h.1 h.2 h'.1 h'.2 (by rw [same_f F T S C l F' T' S' C' l' hl (Nat.le_refl _), e])
theorem rsame_eq {F T S C F' T' S' C' : Int} {l l' : List S60} {r : Bool} (h : PR w A c l) (h' : PR w A' c' l') (hl : l.length ≤ 1000) (e : sameB F T S C l F' T' S' C' l' = r) :
    Calls Try.prog 29 #[.agg #[.int .i64 F, .int .i64 T, .int .i64 S, .int .i64 C, .slice A l.length c], .agg #[.int .i64 F', .int .i64 T', .int .i64 S', .int .i64 C', .slice A' l'.length c']] w fun e w' => e = .returned (.bool r) ∧ Below w.heap.size w w' :=
  PBillR.presidioref6_SameBill.calls (l.length + 2) F T S C A c l F' T' S' C' A' c' l' r w h.1 h.2 h'.1 h'.2 (by rw [rsame_f F T S C l F' T' S' C' l' hl (Nat.le_refl _), e])
end
/-- The parts of a slice literal. -/
theorem pr_new (w : World) (g : Nat) (hg : w.heap.size = g) (p : S60) : PR (w.alloc (.cells #[.bool p.f0, .bool p.f1, .bool p.f2, .bool p.f3, .bool p.f4, .int .u32 p.f5, .int .i64 p.f6, .int .i64 p.f7, .int .i64 p.f8] 60)) (some ⟨g, 0, none⟩) 1 [p] := by
  subst hg
  have hb := Mem.blk_new w (.cells #[.bool p.f0, .bool p.f1, .bool p.f2, .bool p.f3, .bool p.f4, .int .u32 p.f5, .int .i64 p.f6, .int .i64 p.f7, .int .i64 p.f8] 60)
  refine ⟨⟨rfl, by simp, fun _ => ⟨_, rfl, fun j q hj => ?_⟩⟩, Nat.le_refl _⟩
  rcases j with _ | j
  · injection hj with hj
    subst hj
    refine ⟨_, rfl, Go.Proofs.Ytmhglfidggjfdaa.PBillBack.k60_mk _ _, fun i u hi => ?_⟩
    rw [Kept.add_at, Mem.blk_cell hb]
    simpa using hi
  · simp at hj
def bp : S60 := ⟨true, false, false, false, false, 258, 0, 2, 0⟩
set_option maxRecDepth 100000 in
set_option maxHeartbeats 4000000 in
theorem begun7 (w : World) : Calls Try.prog 23 #[] w fun e w' => e = .returned (.bool true) ∧ Below w.heap.size w w' := by
  have hu44 := Try.underlying44
  have hu60 := Try.underlying60
  have hw : WfL [bp] := by intro p hp; rw [List.mem_singleton.1 hp]; decide
  have hput : putB 9 0 0 1 [bp] = [80, 77, 9, 0, 0, 1, 1, 1, 0, 0, 1, 2, 0, 2, 0] := by decide +kernel
  have htk : takeB [80, 77, 9, 0, 0, 1, 1, 1, 0, 0, 1, 2, 0, 2, 0] = (9, 0, 0, 1, [bp], 0) := by decide +kernel
  have htn : takeB [] = (0, 0, 0, 0, [], -2) := by decide +kernel
  have hs1 : sameB 9 0 0 1 [bp] 9 0 0 1 [bp] = true := by decide +kernel
  have hs0 : sameB 9 0 0 1 [bp] 0 0 0 0 [] = false := by decide +kernel
  have HW := Lib.hid hw
  have HPU := Lib.hid hput
  have HTK := Lib.hid htk
  have HTN := Lib.hid htn
  have HS1 := Lib.hid hs1
  have HS0 := Lib.hid hs0
  have hp0 := pr_new w _ rfl bp
  have HP0 := Lib.hid (show PR (w.alloc (.cells #[.bool true, .bool false, .bool false, .bool false, .bool false, .int .u32 258, .int .i64 0, .int .i64 2, .int .i64 0] 60)) (some ⟨w.heap.size, 0, none⟩) 1 [bp] from hp0)
  clear hw hput htk htn hs1 hs0 hp0
  have HK27 := Lib.hid (show Calls Try.prog 27 #[.agg #[.int .i64 9, .int .i64 0, .int .i64 0, .int .i64 1, .slice (some ⟨w.heap.size, 0, none⟩) 1 1]] (w.alloc (.cells #[.bool true, .bool false, .bool false, .bool false, .bool false, .int .u32 258, .int .i64 0, .int .i64 2, .int .i64 0] 60)) fun e w' => ∃ A1 c1, e = .returned (.slice A1 15 c1) ∧ BR w' A1 c1 [80, 77, 9, 0, 0, 1, 1, 1, 0, 0, 1, 2, 0, 2, 0] ∧ Below (w.alloc (.cells #[.bool true, .bool false, .bool false, .bool false, .bool false, .int .u32 258, .int .i64 0, .int .i64 2, .int .i64 0] 60)).heap.size (w.alloc (.cells #[.bool true, .bool false, .bool false, .bool false, .bool false, .int .u32 258, .int .i64 0, .int .i64 2, .int .i64 0] 60)) w' from put_eq HP0.out HW.out HPU.out)
  have HKN := Lib.hid (show ∀ W : World, Calls Try.prog 25 #[.slice none 0 0] W fun e w' => ∃ A1 c1, e = .returned (.tuple #[.agg #[.int .i64 0, .int .i64 0, .int .i64 0, .int .i64 0, .slice A1 0 c1], .int .i64 (-2)]) ∧ PR w' A1 c1 [] ∧ Below W.heap.size W w' from fun W => take_eq (BR.none W 0) (fun x hx => by cases hx) HTN.out)
  go_enter Try.func23, Try.ntmps23
  go_upto_region 4 with (first
    | (go_at_call 27; (with_reducible refine HK27.out.mono ?_); rintro e w1 ⟨A1, c1, rfl, R1, B1⟩; have hb1 := Lib.hid (Mem.bel_chain (Mem.bel_alloc (Below.refl w.heap.size w) _) B1); have HR1 := Lib.hid R1; have HK25 := Lib.hid (show Calls Try.prog 25 #[.slice A1 15 c1] w1 fun e w' => ∃ A1 c1, e = .returned (.tuple #[.agg #[.int .i64 9, .int .i64 0, .int .i64 0, .int .i64 1, .slice A1 1 c1], .int .i64 0]) ∧ PR w' A1 c1 [bp] ∧ Below w1.heap.size w1 w' from take_eq R1 (by unfold BytesIn; decide) HTK.out); clear R1 B1)
    | (go_at_call 25; (with_reducible refine HK25.out.mono ?_); rintro e w2 ⟨A2, c2, rfl, R2, B2⟩; have hb2 := Lib.hid (Mem.bel_chain hb1.out B2); have HR12 := Lib.hid (HR1.out.below B2); have HR2 := Lib.hid R2; clear R2 B2)
    | (go_at_call 25; (with_reducible refine (HKN.out _).mono ?_); rintro e w3 ⟨A3, c3, rfl, R3, B3⟩; have BK := Lib.hid (Mem.blk_below (Mem.blk_new w2 (.cells #[.int .i64 9, .int .i64 0, .int .i64 0, .int .i64 1, .slice A2 1 c2] 44)) B3); have hb3 := Lib.hid (Mem.bel_chain (Mem.bel_alloc hb2.out _) B3); have HR13 := Lib.hid ((HR12.out.below (Mem.bel_alloc (Below.refl _ _) _)).below B3); have HR23 := Lib.hid ((HR2.out.below (Mem.bel_alloc (Below.refl _ _) _)).below B3); clear R3 B3)
    | fail)
  obtain ⟨X, hX⟩ : ∃ X, w3.alloc (.cells #[.int .i64 0, .int .i64 0, .int .i64 0, .int .i64 0, .slice A3 0 c3] 44) = X := ⟨_, rfl⟩
  have hBX : X.heap[w2.heap.size]? = some (.cells #[.int .i64 9, .int .i64 0, .int .i64 0, .int .i64 1, .slice A2 1 c2] 44 (0, 0)) := by rw [← hX]; exact Mem.blk_alloc BK.out _
  have hRX : BR X A1 c1 [80, 77, 9, 0, 0, 1, 1, 1, 0, 0, 1, 2, 0, 2, 0] := by rw [← hX]; exact HR13.out.below (Mem.bel_alloc (Below.refl _ _) _)
  have hPX : PR X A2 c2 [bp] := by rw [← hX]; exact HR23.out.below (Mem.bel_alloc (Below.refl _ _) _)
  have hbX : Below w.heap.size w X := by rw [← hX]; exact Mem.bel_alloc hb3.out _
  rw [hX]
  clear hX
  have hcv : (convert 38 9 (.slice A1 15 c1)).run Try.prog X = .ok (.string ⟨#[80, 77, 9, 0, 0, 1, 1, 1, 0, 0, 1, 2, 0, 2, 0]⟩) X := hRX.conv
  obtain ⟨ad, e0, p0, _⟩ := at_T60 hPX.1 0 (by decide) (by decide)
  cases e0
  replace p0 : X.cell? ad = some (.bool true) := p0
  have HPX := Lib.hid hPX
  have HBX := Lib.hid hBX
  have HbX := Lib.hid hbX
  have hK30 : ∀ W, Below X.heap.size X W → Calls Try.prog 30 #[.agg #[.int .i64 9, .int .i64 0, .int .i64 0, .int .i64 1, .slice (some ad) 1 c2], .agg #[.int .i64 9, .int .i64 0, .int .i64 0, .int .i64 1, .slice (some ad) 1 c2]] W fun e w' => e = .returned (.bool true) ∧ Below W.heap.size W w' := fun W h => same_eq (l := [bp]) (l' := [bp]) (HPX.out.below h) (HPX.out.below h) (by simp) HS1.out
  have hK31 : ∀ W, Below X.heap.size X W → Calls Try.prog 30 #[.agg #[.int .i64 9, .int .i64 0, .int .i64 0, .int .i64 1, .slice (some ad) 1 c2], .agg #[.int .i64 0, .int .i64 0, .int .i64 0, .int .i64 0, .slice none 0 0]] W fun e w' => e = .returned (.bool false) ∧ Below W.heap.size W w' := fun W h => same_eq (l := [bp]) (l' := []) (HPX.out.below h) (PR.none W 0) (by simp) HS0.out
  have HK30 := Lib.hid hK30
  have HK31 := Lib.hid hK31
  have hc5 := Mem.cells5 hBX
  clear hRX hPX hbX hK30 hK31 hBX BK HR13 HR23 HR12 hb3 hb2
  go_wp2_with (first
    | (go_at_call 30; (with_reducible refine (HK30.out _ (Below.refl _ _)).mono ?_); rintro e w5 ⟨rfl, B5⟩; have HB5 := Lib.hid B5; clear B5 hc5; have hc5 := Mem.cells5 (Mem.blk_below HBX.out HB5.out))
    | (go_at_call 30; (with_reducible refine (HK31.out _ HB5.out).mono ?_); rintro e w6 ⟨rfl, B6⟩; have HB6 := Lib.hid (Mem.bel_chain HB5.out B6); clear B6 hc5)
    | fail)
  go_ret
  exact ⟨rfl, Mem.bel_chain HbX.out HB6.out⟩
end Go.Proofs.Ytmhglfidggjfdaa.Bill
