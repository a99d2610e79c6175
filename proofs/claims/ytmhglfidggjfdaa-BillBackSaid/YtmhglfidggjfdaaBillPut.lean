/- Bills as bytes: bill.Put walked. -/
import Derived.Test.YtmhglfidggjfdaaBillP
import Derived.Deep.DeepCutAuto
import Derived.Lib.SlBytesConst
import Derived.ArgAppend
namespace Go.Proofs.Ytmhglfidggjfdaa.Bill
open Go Go.RowKit Go.Proofs.Ytmhglfidggjfdaa.Kept Go.Proofs.Ytmhglfidggjfdaa.PBillBack Go.Proofs.YtmhglfidggjfdaaW.PrintWords
set_option linter.unusedVariables false
set_option linter.unusedSimpArgs false

/-- The bits of a part's first j bools. -/
def bB (b0 b1 b2 b3 b4 : Bool) : Nat → Int
  | 0 => 0
  | 1 => if b0 then 1 else 0
  | 2 => (if b0 then 1 else 0) + if b1 then 2 else 0
  | 3 => (if b0 then 1 else 0) + (if b1 then 2 else 0) + if b2 then 4 else 0
  | 4 => (if b0 then 1 else 0) + (if b1 then 2 else 0) + (if b2 then 4 else 0) + if b3 then 8 else 0
  | _ => (if b0 then 1 else 0) + (if b1 then 2 else 0) + (if b2 then 4 else 0) + (if b3 then 8 else 0) + if b4 then 16 else 0
def bK (p : S60) (j : Nat) : Int := bB p.f0 p.f1 p.f2 p.f3 p.f4 j
def rowP (p : S60) : List Int := [bK p 5, p.f5 / 16777216, p.f5 / 65536 % 256, p.f5 / 256 % 256, p.f5 % 256, p.f6, p.f7, p.f8]
def fitP (p : S60) : Bool := byB p.f6 && byB p.f7 && byB p.f8
def hdB (F T S C n : Int) : Bool := byB F && byB T && byB S && byB C && byB n
def headL (F T S C n : Int) : List Int := [80, 77, F, T, S, C, n]
def putB (F T S C : Int) (l : List S60) : List Int := if (hdB F T S C l.length && l.all fitP) = true then headL F T S C l.length ++ l.flatMap rowP else []
def WfL (l : List S60) : Prop := ∀ p ∈ l, 0 ≤ p.f5 ∧ p.f5 ≤ 4294967295
def PutPost (w : World) (r : List Int) (e : Ending) (w' : World) : Prop := ∃ v, e = .returned v ∧ Kd.R (Kd.int .u8) 5 w' w.heap.size (fun _ => True) v r ∧ Below w.heap.size w w'
theorem sz (w : World) (o : Obj) : (w.alloc o).heap.size = w.heap.size + 1 := by show (w.heap.push o).size = _; simp
theorem c_ints {w : World} {g : Nat} {k : IntKind} {t : TypeId} {l : List Int} (h : w.heap[g]? = some (.cells (l.map (Value.int k)).toArray t (0, 0))) (hl : l.length ≤ 1000) : Kd.C (Kd.int k) w (some ⟨g, 0, none⟩) l.length l := by
  refine ⟨rfl, by omega, fun h0 => ⟨_, rfl, fun j p hj => ?_⟩⟩
  obtain ⟨hlt, rfl⟩ := List.getElem?_eq_some_iff.1 hj
  refine ⟨[.int k l[j]], rfl, rfl, fun i u hi => ?_⟩
  rcases i with _ | i
  · injection hi with hi
    subst hi
    show w.cell? ((⟨g, 0, none⟩ : Addr).add (j * 1 + 0)) = _
    rw [Kept.add_at, Mem.blk_cell h, show 0 + (j * 1 + 0) = j by omega]
    simp [List.getElem?_eq_getElem hlt]
  · simp at hi
theorem r_new (W : World) (base g : Nat) (hg : W.heap.size = g) (hb : base ≤ g) (l : List Int) (hl : l.length ≤ 1000) : Kd.R (Kd.int .u8) 5 (W.alloc (.cells (l.map (Value.int .u8)).toArray 5)) base (fun _ => True) (.slice (some ⟨g, 0, none⟩) l.length l.length) l := by
  subst hg
  refine ⟨fun _ _ => trivial, l.map (Value.int .u8), ?_, ?_⟩
  · have h2 := World.ownsRow_lit (base := base) (e := 5) (size := (Kd.int .u8).sz) W (l.map (Value.int .u8)).toArray l.length hb (by unfold maxLen; omega) (by show _ = l.length * 1; simp)
    simpa using h2
  · exact Kd.reps_scalar (enc := Value.int .u8) l
theorem c_new (W : World) (g : Nat) (hg : W.heap.size = g) (l : List Int) (hl : l.length ≤ 1000) : Kd.C (Kd.int .u8) (W.alloc (.cells (l.map (Value.int .u8)).toArray 5)) (some ⟨g, 0, none⟩) l.length l := by
  subst hg
  exact c_ints (Mem.blk_new W _) hl
theorem info5b : (Try.prog.info? 5).map (fun i => (i.zero, i.size, i.bytes)) = some (some (.int .u8 0), 1, 1) := by kernel_rfl
theorem own_down {w : World} {b B : Nat} {e : TypeId} {size n : Nat} {v : Value} {xs : List Value} (h : w.ownsRow B e size v n xs) (hb : b ≤ B) : w.ownsRow b e size v n xs :=
  ⟨h.1, h.2.imp id fun ⟨g, cap, cur, a1, a2, a3⟩ => ⟨g, cap, cur, a1, Nat.le_trans hb a2, a3⟩⟩
theorem r_own {w : World} {b B n : Nat} {v : Value} {l : List Int} (h : w.ownsRow B 5 1 v n (l.map (Value.int .u8))) (hn : n = l.length) (hb : b ≤ B) : Kd.R (Kd.int .u8) 5 w b (fun _ => True) v l := by
  subst hn
  exact ⟨fun _ _ => trivial, l.map (Value.int .u8), own_down h hb, Kd.reps_scalar (enc := Value.int .u8) l⟩
theorem blk_fr {w : World} {g : Nat} {cs : Array Value} {t : TypeId} {fr : Nat × Nat} (h : w.heap[g]? = some (.cells cs t fr)) (j : Nat) : w.cell? ⟨g, j, none⟩ = cs[j]? := cell_of_row w g j cs t fr h
def pcells (p : S60) : Array Value := #[.bool p.f0, .bool p.f1, .bool p.f2, .bool p.f3, .bool p.f4, .int .u32 p.f5, .int .i64 p.f6, .int .i64 p.f7, .int .i64 p.f8]
theorem put_snoc {l : List S60} {k : Nat} (h : k < l.length) : l.take (k + 1) = l.take k ++ [rd_T60 l k] := by
  rw [List.take_succ_eq_append_getElem h]; unfold rd_T60; simp [List.getD_eq_getElem?_getD, List.getElem?_eq_getElem h]
theorem rd_mem {l : List S60} {k : Nat} (h : k < l.length) : rd_T60 l k ∈ l := by
  have e : rd_T60 l k = l[k] := by unfold rd_T60; simp [List.getD_eq_getElem?_getD, List.getElem?_eq_getElem h]
  rw [e]; exact List.getElem_mem h
theorem rowP_len (p : S60) : (rowP p).length = 8 := rfl
theorem rows_len : ∀ l : List S60, (l.flatMap rowP).length = 8 * l.length
  | [] => rfl
  | p :: t => by rw [List.flatMap_cons, List.length_append, rowP_len, rows_len t, List.length_cons]; omega
theorem bB_step0 : ∀ b0 b1 b2 b3 b4 : Bool, (b0 = false → bB b0 b1 b2 b3 b4 1 = bB b0 b1 b2 b3 b4 0) ∧ (b0 = true → bB b0 b1 b2 b3 b4 1 = Go.bits .or .u8 (bB b0 b1 b2 b3 b4 0) 1) := by decide
theorem bK_step0 (p : S60) : (p.f0 = false → bK p 1 = bK p 0) ∧ (p.f0 = true → bK p 1 = Go.bits .or .u8 (bK p 0) 1) := bB_step0 _ _ _ _ _
theorem bB_step1 : ∀ b0 b1 b2 b3 b4 : Bool, (b1 = false → bB b0 b1 b2 b3 b4 2 = bB b0 b1 b2 b3 b4 1) ∧ (b1 = true → bB b0 b1 b2 b3 b4 2 = Go.bits .or .u8 (bB b0 b1 b2 b3 b4 1) 2) := by decide
theorem bK_step1 (p : S60) : (p.f1 = false → bK p 2 = bK p 1) ∧ (p.f1 = true → bK p 2 = Go.bits .or .u8 (bK p 1) 2) := bB_step1 _ _ _ _ _
theorem bB_step2 : ∀ b0 b1 b2 b3 b4 : Bool, (b2 = false → bB b0 b1 b2 b3 b4 3 = bB b0 b1 b2 b3 b4 2) ∧ (b2 = true → bB b0 b1 b2 b3 b4 3 = Go.bits .or .u8 (bB b0 b1 b2 b3 b4 2) 4) := by decide
theorem bK_step2 (p : S60) : (p.f2 = false → bK p 3 = bK p 2) ∧ (p.f2 = true → bK p 3 = Go.bits .or .u8 (bK p 2) 4) := bB_step2 _ _ _ _ _
theorem bB_step3 : ∀ b0 b1 b2 b3 b4 : Bool, (b3 = false → bB b0 b1 b2 b3 b4 4 = bB b0 b1 b2 b3 b4 3) ∧ (b3 = true → bB b0 b1 b2 b3 b4 4 = Go.bits .or .u8 (bB b0 b1 b2 b3 b4 3) 8) := by decide
theorem bK_step3 (p : S60) : (p.f3 = false → bK p 4 = bK p 3) ∧ (p.f3 = true → bK p 4 = Go.bits .or .u8 (bK p 3) 8) := bB_step3 _ _ _ _ _
theorem bB_step4 : ∀ b0 b1 b2 b3 b4 : Bool, (b4 = false → bB b0 b1 b2 b3 b4 5 = bB b0 b1 b2 b3 b4 4) ∧ (b4 = true → bB b0 b1 b2 b3 b4 5 = Go.bits .or .u8 (bB b0 b1 b2 b3 b4 4) 16) := by decide
theorem bK_step4 (p : S60) : (p.f4 = false → bK p 5 = bK p 4) ∧ (p.f4 = true → bK p 5 = Go.bits .or .u8 (bK p 4) 16) := bB_step4 _ _ _ _ _
theorem put_laid {w wr : World} {nd : Nat} {v : Value} {r : List Int} (RB : Below w.heap.size w wr) (RR : Kd.R (Kd.int .u8) 5 wr w.heap.size (fun _ => True) v r) (p : S60) :
    ((((wr.alloc (.cells #[.bool p.f0, .bool p.f1, .bool p.f2, .bool p.f3, .bool p.f4, .int .u32 p.f5, .int .i64 p.f6, .int .i64 p.f7, .int .i64 p.f8] 60)).alloc (.cells #[.int .i64 p.f6, .int .i64 p.f7, .int .i64 p.f8] 3)).alloc (.cells #[.pointer (some ⟨wr.heap.size, 0, none⟩), .pointer (some ⟨wr.heap.size, 1, none⟩), .pointer (some ⟨wr.heap.size, 2, none⟩), .pointer (some ⟨wr.heap.size, 3, none⟩), .pointer (some ⟨wr.heap.size, 4, none⟩)] 79)).drewN nd).heap[wr.heap.size]? = some (.cells #[.bool p.f0, .bool p.f1, .bool p.f2, .bool p.f3, .bool p.f4, .int .u32 p.f5, .int .i64 p.f6, .int .i64 p.f7, .int .i64 p.f8] 60 (0, 0)) ∧
    ((((wr.alloc (.cells #[.bool p.f0, .bool p.f1, .bool p.f2, .bool p.f3, .bool p.f4, .int .u32 p.f5, .int .i64 p.f6, .int .i64 p.f7, .int .i64 p.f8] 60)).alloc (.cells #[.int .i64 p.f6, .int .i64 p.f7, .int .i64 p.f8] 3)).alloc (.cells #[.pointer (some ⟨wr.heap.size, 0, none⟩), .pointer (some ⟨wr.heap.size, 1, none⟩), .pointer (some ⟨wr.heap.size, 2, none⟩), .pointer (some ⟨wr.heap.size, 3, none⟩), .pointer (some ⟨wr.heap.size, 4, none⟩)] 79)).drewN nd).heap[wr.heap.size + 1 + 1]? = some (.cells #[.pointer (some ⟨wr.heap.size, 0, none⟩), .pointer (some ⟨wr.heap.size, 1, none⟩), .pointer (some ⟨wr.heap.size, 2, none⟩), .pointer (some ⟨wr.heap.size, 3, none⟩), .pointer (some ⟨wr.heap.size, 4, none⟩)] 79 (0, 0)) ∧
    Below w.heap.size w ((((wr.alloc (.cells #[.bool p.f0, .bool p.f1, .bool p.f2, .bool p.f3, .bool p.f4, .int .u32 p.f5, .int .i64 p.f6, .int .i64 p.f7, .int .i64 p.f8] 60)).alloc (.cells #[.int .i64 p.f6, .int .i64 p.f7, .int .i64 p.f8] 3)).alloc (.cells #[.pointer (some ⟨wr.heap.size, 0, none⟩), .pointer (some ⟨wr.heap.size, 1, none⟩), .pointer (some ⟨wr.heap.size, 2, none⟩), .pointer (some ⟨wr.heap.size, 3, none⟩), .pointer (some ⟨wr.heap.size, 4, none⟩)] 79)).drewN nd) ∧ Kd.R (Kd.int .u8) 5 ((((wr.alloc (.cells #[.bool p.f0, .bool p.f1, .bool p.f2, .bool p.f3, .bool p.f4, .int .u32 p.f5, .int .i64 p.f6, .int .i64 p.f7, .int .i64 p.f8] 60)).alloc (.cells #[.int .i64 p.f6, .int .i64 p.f7, .int .i64 p.f8] 3)).alloc (.cells #[.pointer (some ⟨wr.heap.size, 0, none⟩), .pointer (some ⟨wr.heap.size, 1, none⟩), .pointer (some ⟨wr.heap.size, 2, none⟩), .pointer (some ⟨wr.heap.size, 3, none⟩), .pointer (some ⟨wr.heap.size, 4, none⟩)] 79)).drewN nd) w.heap.size (fun _ => True) v r :=
  ⟨Mem.blk_alloc (Mem.blk_alloc (Mem.blk_new wr _) _) _, by have h := Mem.blk_new ((wr.alloc (.cells #[.bool p.f0, .bool p.f1, .bool p.f2, .bool p.f3, .bool p.f4, .int .u32 p.f5, .int .i64 p.f6, .int .i64 p.f7, .int .i64 p.f8] 60)).alloc (.cells #[.int .i64 p.f6, .int .i64 p.f7, .int .i64 p.f8] 3)) (.cells #[.pointer (some ⟨wr.heap.size, 0, none⟩), .pointer (some ⟨wr.heap.size, 1, none⟩), .pointer (some ⟨wr.heap.size, 2, none⟩), .pointer (some ⟨wr.heap.size, 3, none⟩), .pointer (some ⟨wr.heap.size, 4, none⟩)] 79); rw [sz, sz] at h; exact h,
    Mem.bel_drewN (Mem.bel_alloc (Mem.bel_alloc (Mem.bel_alloc RB _) _) _) nd, Kd.R_drewN (Kd.R_alloc (Kd.R_alloc (Kd.R_alloc RR _) _) _) nd⟩
set_option maxRecDepth 100000 in
set_option maxHeartbeats 2000000 in
theorem put_any (w : World) (F T S C : Int) (A : Option Addr) (c : Nat) (l : List S60) (hr : Kd.C k60 w A l.length l) (hc : l.length ≤ c) (hw : WfL l) :
    Calls Try.prog 27 #[.agg #[.int .i64 F, .int .i64 T, .int .i64 S, .int .i64 C, .slice A l.length c]] w (PutPost w (putB F T S C l)) := by
  have hu44 := Try.underlying44
  have hu60 := Try.underlying60
  have hmax := Kd.C_max hr
  have HR := Lib.hid hr
  have HC := Lib.hid hc
  have HW := Lib.hid hw
  clear hr hc hw
  obtain ⟨r, hrr⟩ : ∃ r, putB F T S C l = r := ⟨_, rfl⟩
  rw [hrr]
  have HRR := Lib.hid hrr
  clear hrr
  have hf1 : ∀ (W : World) (g : Nat), W.heap.size = g → Calls Try.prog 41 #[.slice (some ⟨g, 0, none⟩) 5 5] (W.alloc (.cells #[.int .i64 F, .int .i64 T, .int .i64 S, .int .i64 C, .int .i64 l.length] 3)) fun e w' => e = .returned (.bool (hdB F T S C l.length)) ∧ W.alloc (.cells #[.int .i64 F, .int .i64 T, .int .i64 S, .int .i64 C, .int .i64 l.length] 3) = w' := fun W g hg => by
    subst hg
    have h := fits_any (W.alloc (.cells #[.int .i64 F, .int .i64 T, .int .i64 S, .int .i64 C, .int .i64 l.length] 3)) (some ⟨W.heap.size, 0, none⟩) 5 [F, T, S, C, (l.length : Int)] (c_ints (l := [F, T, S, C, (l.length : Int)]) (Mem.blk_new W _) (by simp))
    have e : [F, T, S, C, (l.length : Int)].all byB = hdB F T S C l.length := by simp [hdB, Bool.and_assoc]
    rw [e] at h
    exact h
  have HF1 := Lib.hid hf1
  clear hf1
  by_cases hh : hdB F T S C l.length = true
  rotate_left
  · have hh2 : hdB F T S C l.length = false := by simpa using hh
    have HH := Lib.hid hh2
    clear hh hh2
    go_enter Try.func27, Try.ntmps27
    go_wp2_with (first
      | (go_at_call 41; (with_reducible refine (HF1.out _ _ (sz _ _)).mono ?_); rw [HH.out]; rintro e w1 ⟨rfl, rfl⟩)
      | fail)
    go_ret
    exact ⟨_, rfl, by rw [← HRR.out]; unfold putB; rw [HH.out]; exact Kd.R_nil _ _ _ _ _, Mem.bel_alloc (Mem.bel_alloc (Below.refl _ _) _) _⟩
  · have HH := Lib.hid hh
    have hb := hh
    clear hh
    unfold hdB at hb
    simp only [Bool.and_eq_true] at hb
    obtain ⟨⟨⟨⟨b1, b2⟩, b3⟩, b4⟩, b5⟩ := hb
    have b1 := byB_in b1
    have b2 := byB_in b2
    have b3 := byB_in b3
    have b4 := byB_in b4
    have b5 := byB_in b5
    have e1 : IntKind.u8.wrap F = F := IntWalk.u8_in _ (by omega)
    have e2 : IntKind.u8.wrap T = T := IntWalk.u8_in _ (by omega)
    have e3 : IntKind.u8.wrap S = S := IntWalk.u8_in _ (by omega)
    have e4 : IntKind.u8.wrap C = C := IntWalk.u8_in _ (by omega)
    have e5 : IntKind.u8.wrap (l.length : Int) = l.length := IntWalk.u8_in _ (by omega)
    have kc := Lib.run_convert_bytes_const (P := Try.prog) ((w.alloc (.cells #[.int .i64 F, .int .i64 T, .int .i64 S, .int .i64 C, .slice A l.length c] 44)).alloc (.cells #[.int .i64 F, .int .i64 T, .int .i64 S, .int .i64 C, .int .i64 l.length] 3)) 38 5 #[.int .u8 80, .int .u8 77] 2 2 Try.underlying38 Try.underlying5
    simp only [sz, List.size_toArray, List.length_cons, List.length_nil] at kc
    obtain ⟨i5, hi5, hz5, hs5, hy5⟩ := info_parts info5b
    go_enter Try.func27, Try.ntmps27
    go_wp2_with (first
      | (go_at_call 41; (with_reducible refine (HF1.out _ _ (sz _ _)).mono ?_); rw [HH.out]; rintro e w1 ⟨rfl, rfl⟩)
      | (at_builtin; refine wpList_append_grows _ rfl (.tmp 24) (.tmp 41) 38 rfl 5 i5 (.int .u8 0) 1 1 Try.underlying38 hi5 hz5 hs5 hy5 rfl (by decide) (some ⟨w.heap.size + 1 + 1, 0, none⟩) 2 2 [.int .u8 80, .int .u8 77] rfl (fun h => by cases h) rfl ?_ ⟨w.heap.size + 1 + 1 + 1, 0, none⟩ 5 5 [.int .u8 F, .int .u8 T, .int .u8 S, .int .u8 C, .int .u8 l.length] rfl rfl ?_ ?_ (by decide) (by decide) (by decide) ?_; (rintro b hb j u hj; injection hb with hb; subst hb; rw [Kept.add_at, Nat.zero_add]; rw [blk_fr (Mem.blk_alloc (by have h := Mem.blk_new ((w.alloc (.cells #[.int .i64 F, .int .i64 T, .int .i64 S, .int .i64 C, .slice A l.length c] 44)).alloc (.cells #[.int .i64 F, .int .i64 T, .int .i64 S, .int .i64 C, .int .i64 l.length] 3)) (.cells #[.int .u8 80, .int .u8 77] 5 (2, 2 + 1)); rw [sz, sz] at h; exact h) _)]; simpa using hj); (intro j u hj; rw [Kept.add_at, Nat.zero_add]; rw [blk_fr (by have h := Mem.blk_new (((w.alloc (.cells #[.int .i64 F, .int .i64 T, .int .i64 S, .int .i64 C, .slice A l.length c] 44)).alloc (.cells #[.int .i64 F, .int .i64 T, .int .i64 S, .int .i64 C, .int .i64 l.length] 3)).alloc (.cells #[.int .u8 80, .int .u8 77] 5 (2, 2 + 1))) (.cells #[.int .u8 F, .int .u8 T, .int .u8 S, .int .u8 C, .int .u8 l.length] 5); rw [sz, sz, sz] at h; exact h)]; simpa using hj); (simp [Value.oneCell']); intro v1 W1 O1 G1; have hb4 := (show Below w.heap.size w ((((w.alloc (.cells #[.int .i64 F, .int .i64 T, .int .i64 S, .int .i64 C, .slice A l.length c] 44)).alloc (.cells #[.int .i64 F, .int .i64 T, .int .i64 S, .int .i64 C, .int .i64 l.length] 3)).alloc (.cells #[.int .u8 80, .int .u8 77] 5 (2, 2 + 1))).alloc (.cells #[.int .u8 F, .int .u8 T, .int .u8 S, .int .u8 C, .int .u8 l.length] 5)) from Mem.bel_alloc (Mem.bel_alloc (Mem.bel_alloc (Mem.bel_alloc (Below.refl _ _) _) _) _) _); have B1 := hb4.grown G1 hb4.size (fun x hx => by cases hx); have OR := r_own (l := headL F T S C l.length) O1 rfl hb4.size; have BK := (G1.block w.heap.size (by simp only [sz]; omega) (fun h => by cases h)).trans (Mem.blk_alloc (Mem.blk_alloc (Mem.blk_alloc (Mem.blk_new w (.cells #[.int .i64 F, .int .i64 T, .int .i64 S, .int .i64 C, .slice A l.length c] 44)) _) _) _); have hc5 := Mem.cells5 BK; have HB1 := Lib.hid B1; have HO1 := Lib.hid OR; have HBK := Lib.hid BK; clear hb4 B1 OR BK O1 G1 kc)
      | fail)
    clear hc5 i5 hi5 hz5 hs5 hy5 e1 e2 e3 e4 e5
    go_loopw [46, 3] (fun i v wr => ∃ k : Nat, k ≤ l.length ∧ i = .int .i64 k ∧ Hid ((l.take k).all fitP = true) ∧ Hid (Kd.R (Kd.int .u8) 5 wr w.heap.size (fun _ => True) v (headL F T S C l.length ++ (l.take k).flatMap rowP)) ∧ Hid (Below w.heap.size w wr)) (fun i _ _ => l.length - (intOf i).toNat)
    case atStart => exact ⟨0, by omega, rfl, Lib.hid rfl, Lib.hid (by simpa using HO1.out), HB1⟩
    case round =>
      obtain ⟨k, hk, rfl, RA, RR, RB⟩ := hrel
      clear HO1 HB1 HBK
      by_cases hkl : k < l.length
      · obtain ⟨ad, e0, c0, c1, c2, c3, c4, c5, c6, c7, c8⟩ := at_T60 (Kd.C_below HR.out RB.out) (k : Int) (by omega) (by omega)
        cases e0
        rw [Int.toNat_natCast] at c0 c1 c2 c3 c4 c5 c6 c7 c8
        have hsn := Lib.hid (put_snoc hkl)
        have hpw := HW.out _ (rd_mem hkl)
        have hmem := Lib.hid (rd_mem hkl)
        obtain ⟨p, hp⟩ : ∃ p, rd_T60 l (k : Int) = p := ⟨_, rfl⟩
        rw [hp] at c0 c1 c2 c3 c4 c5 c6 c7 c8 hsn hpw hmem
        clear hp
        have hf3 : ∀ (W : World) (g : Nat), W.heap.size = g → Calls Try.prog 41 #[.slice (some ⟨g, 0, none⟩) 3 3] (W.alloc (.cells #[.int .i64 p.f6, .int .i64 p.f7, .int .i64 p.f8] 3)) fun e w' => e = .returned (.bool (fitP p)) ∧ W.alloc (.cells #[.int .i64 p.f6, .int .i64 p.f7, .int .i64 p.f8] 3) = w' := fun W g hg => by
          subst hg
          have h := fits_any (W.alloc (.cells #[.int .i64 p.f6, .int .i64 p.f7, .int .i64 p.f8] 3)) (some ⟨W.heap.size, 0, none⟩) 3 [p.f6, p.f7, p.f8] (c_ints (l := [p.f6, p.f7, p.f8]) (Mem.blk_new W _) (by simp))
          have e : [p.f6, p.f7, p.f8].all byB = fitP p := by simp [fitP, Bool.and_assoc]
          rw [e] at h
          exact h
        have HF3 := Lib.hid hf3
        clear hf3
        by_cases hfit : fitP p = true
        rotate_left
        · have HF := Lib.hid (show fitP p = false by simpa using hfit)
          clear hfit
          go_wp2_with (first
            | (go_at_call 41; (with_reducible refine (HF3.out _ _ (sz _ _)).mono ?_); rw [HF.out]; rintro e w1 ⟨rfl, rfl⟩)
            | fail)
          go_ret
          refine ⟨_, rfl, ?_, Mem.bel_alloc (Mem.bel_alloc RB.out _) _⟩
          rw [← HRR.out]
          unfold putB
          have : l.all fitP = false := by
            rw [← Bool.not_eq_true, List.all_eq_true]
            intro h
            have := h p hmem.out
            rw [HF.out] at this; cases this
          rw [this, Bool.and_false]
          exact Kd.R_nil _ _ _ _ _
        · have HF := Lib.hid hfit
          have hfb := hfit
          clear hfit
          unfold fitP at hfb
          simp only [Bool.and_eq_true] at hfb
          obtain ⟨⟨g1, g2⟩, g3⟩ := hfb
          have g1 := byB_in g1
          have g2 := byB_in g2
          have g3 := byB_in g3
          go_wp2_with (first
            | (go_at_call 41; (with_reducible refine (HF3.out _ _ (sz _ _)).mono ?_); rw [HF.out]; rintro e w1 ⟨rfl, rfl⟩)
            | (go_at_call 39; (with_reducible refine (bits_any (p := p) _ (Mem.blk_alloc (Mem.blk_new wr _) _)).mono ?_); rintro e w2 ⟨nd, rfl, hw2⟩; obtain ⟨hB1, hB2, hB3, hR3⟩ := put_laid (nd := nd) RB.out RR.out p; rw [← hw2] at hB1 hB2 hB3 hR3; simp only [sz]; have HB1 := Lib.hid hB1; have HB2 := Lib.hid hB2; have HB3 := Lib.hid hB3; have HR3 := Lib.hid hR3; have hq5 := Mem.cells5 hB2; have hp9 := Mem.cells9 hB1; clear hw2 hB1 hB2 hB3 hR3)
            | fail)
          have hcl := Lib.hid (And.intro hq5 hp9)
          clear hq5 hp9
          go_loop [61, 6] (fun i s => ∃ j : Nat, j ≤ 5 ∧ i = .int .i64 j ∧ s = .int .u8 (bK p j)) (fun i _ => 5 - (intOf i).toNat)
          case atStart => exact ⟨0, by omega, rfl, rfl⟩
          case round =>
            obtain ⟨j, hj, rfl, rfl⟩ := hrel
            obtain ⟨⟨a0, a1, a2, a3, a4⟩, d0, d1, d2, d3, d4, d5, d6, d7, d8⟩ := hcl.out
            rcases (show j = 0 ∨ j = 1 ∨ j = 2 ∨ j = 3 ∨ j = 4 ∨ j = 5 by omega) with rfl | rfl | rfl | rfl | rfl | rfl
            · clear a1 a2 a3 a4 d1 d2 d3 d4 d5 d6 d7 d8
              have hbk := (bK_step0 p)
              obtain ⟨b, hb⟩ : ∃ b, p.f0 = b := ⟨_, rfl⟩
              rw [hb] at d0 hbk
              clear hb
              obtain ⟨s0, hs0⟩ : ∃ s, bK p 0 = s := ⟨_, rfl⟩
              rw [hs0] at hbk ⊢
              replace hbk := Lib.hid hbk
              cases b
              · go_wp2
                go_round
                case rel => exact ⟨1, by omega, by go_num, congrArg (Value.int .u8) (hbk.out.1 rfl).symm⟩
                case measure => simp [intOf]
              · go_wp2
                go_round
                case rel => exact ⟨1, by omega, by go_num, congrArg (Value.int .u8) (hbk.out.2 rfl).symm⟩
                case measure => simp [intOf]
            · clear a0 a2 a3 a4 d0 d2 d3 d4 d5 d6 d7 d8
              have hbk := (bK_step1 p)
              obtain ⟨b, hb⟩ : ∃ b, p.f1 = b := ⟨_, rfl⟩
              rw [hb] at d1 hbk
              clear hb
              obtain ⟨s0, hs0⟩ : ∃ s, bK p 1 = s := ⟨_, rfl⟩
              rw [hs0] at hbk ⊢
              replace hbk := Lib.hid hbk
              cases b
              · go_wp2
                go_round
                case rel => exact ⟨2, by omega, by go_num, congrArg (Value.int .u8) (hbk.out.1 rfl).symm⟩
                case measure => simp [intOf]
              · go_wp2
                go_round
                case rel => exact ⟨2, by omega, by go_num, congrArg (Value.int .u8) (hbk.out.2 rfl).symm⟩
                case measure => simp [intOf]
            · clear a0 a1 a3 a4 d0 d1 d3 d4 d5 d6 d7 d8
              have hbk := (bK_step2 p)
              obtain ⟨b, hb⟩ : ∃ b, p.f2 = b := ⟨_, rfl⟩
              rw [hb] at d2 hbk
              clear hb
              obtain ⟨s0, hs0⟩ : ∃ s, bK p 2 = s := ⟨_, rfl⟩
              rw [hs0] at hbk ⊢
              replace hbk := Lib.hid hbk
              cases b
              · go_wp2
                go_round
                case rel => exact ⟨3, by omega, by go_num, congrArg (Value.int .u8) (hbk.out.1 rfl).symm⟩
                case measure => simp [intOf]
              · go_wp2
                go_round
                case rel => exact ⟨3, by omega, by go_num, congrArg (Value.int .u8) (hbk.out.2 rfl).symm⟩
                case measure => simp [intOf]
            · clear a0 a1 a2 a4 d0 d1 d2 d4 d5 d6 d7 d8
              have hbk := (bK_step3 p)
              obtain ⟨b, hb⟩ : ∃ b, p.f3 = b := ⟨_, rfl⟩
              rw [hb] at d3 hbk
              clear hb
              obtain ⟨s0, hs0⟩ : ∃ s, bK p 3 = s := ⟨_, rfl⟩
              rw [hs0] at hbk ⊢
              replace hbk := Lib.hid hbk
              cases b
              · go_wp2
                go_round
                case rel => exact ⟨4, by omega, by go_num, congrArg (Value.int .u8) (hbk.out.1 rfl).symm⟩
                case measure => simp [intOf]
              · go_wp2
                go_round
                case rel => exact ⟨4, by omega, by go_num, congrArg (Value.int .u8) (hbk.out.2 rfl).symm⟩
                case measure => simp [intOf]
            · clear a0 a1 a2 a3 d0 d1 d2 d3 d5 d6 d7 d8
              have hbk := (bK_step4 p)
              obtain ⟨b, hb⟩ : ∃ b, p.f4 = b := ⟨_, rfl⟩
              rw [hb] at d4 hbk
              clear hb
              obtain ⟨s0, hs0⟩ : ∃ s, bK p 4 = s := ⟨_, rfl⟩
              rw [hs0] at hbk ⊢
              replace hbk := Lib.hid hbk
              cases b
              · go_wp2
                go_round
                case rel => exact ⟨5, by omega, by go_num, congrArg (Value.int .u8) (hbk.out.1 rfl).symm⟩
                case measure => simp [intOf]
              · go_wp2
                go_round
                case rel => exact ⟨5, by omega, by go_num, congrArg (Value.int .u8) (hbk.out.2 rfl).symm⟩
                case measure => simp [intOf]
            · clear a0 a1 a2 a3 a4 d0 d1 d2 d3 d4
              rw [show ((5 : Nat) : Int) = 5 from rfl]
              obtain ⟨s5, hs5⟩ : ∃ s, bK p 5 = s := ⟨_, rfl⟩
              rw [hs5]
              have HS5 := Lib.hid hs5
              clear hs5
              have e6 : IntKind.u8.wrap p.f6 = p.f6 := IntWalk.u8_in _ (by omega)
              have e7 : IntKind.u8.wrap p.f7 = p.f7 := IntWalk.u8_in _ (by omega)
              have e8 : IntKind.u8.wrap p.f8 = p.f8 := IntWalk.u8_in _ (by omega)
              have hxl := Lib.hid (show (headL F T S C l.length ++ (l.take k).flatMap rowP).length = 7 + 8 * k by rw [List.length_append, rows_len, List.length_take]; show 7 + _ = _; omega)
              have hnew := Lib.hid (show Kd.C (Kd.int .u8) (w2.alloc (.cells #[.int .u8 s5, .int .u8 (p.f5 / 16777216), .int .u8 (p.f5 / 65536 % 256), .int .u8 (p.f5 / 256 % 256), .int .u8 (p.f5 % 256), .int .u8 p.f6, .int .u8 p.f7, .int .u8 p.f8] 5)) (some ⟨w2.heap.size, 0, none⟩) 8 (rowP p) by
                have h := c_new w2 _ rfl (rowP p) (by rw [rowP_len]; decide)
                rw [← HS5.out]
                exact h)
              go_wp2_with (first
                | (at_builtin; refine Kd.R_append_rows (Kd.int .u8) (w0 := w) w.heap.size rfl (.tmp 74) (.tmp 100) 38 5 (.int .u8 0) 1 rfl Try.underlying38 info5b rfl (by decide) (by omega) u3 (headL F T S C l.length ++ (l.take k).flatMap rowP) (rowP p) (some ⟨w2.heap.size, 0, none⟩) 8 8 (fun _ => True) (fun _ => False) rfl rfl (Kd.R_alloc HR3.out _) hnew.out (fun _ _ h => h) (fun _ h => h.elim) (fun _ _ => trivial) (Mem.bel_alloc HB3.out _) (Mem.bel_alloc HB3.out _).size (by rw [hxl.out]; omega) ?_; intro v2 W2 O2 B2 G2 _; have HO2 := Lib.hid O2; have HB4 := Lib.hid B2; clear O2 B2 G2)
                | fail)
              go_roundw
              case rel =>
                refine ⟨k + 1, by omega, by go_num, Lib.hid ?_, Lib.hid ?_, HB4⟩
                · rw [hsn.out, List.all_append, RA.out]; simp [HF.out]
                · rw [hsn.out, List.flatMap_append, ← List.append_assoc]
                  have h := HO2.out
                  rw [show [p].flatMap rowP = rowP p by simp]
                  exact h
              case measure => simp [intOf]; omega
      · have hkl2 : k = l.length := by omega
        subst hkl2
        go_wp2
        go_ret
        refine ⟨_, rfl, ?_, RB.out⟩
        rw [← HRR.out]
        unfold putB
        have h1 := RA.out
        have h2 := RR.out
        rw [List.take_length] at h1 h2
        rw [HH.out, h1]
        exact h2
end Go.Proofs.Ytmhglfidggjfdaa.Bill
