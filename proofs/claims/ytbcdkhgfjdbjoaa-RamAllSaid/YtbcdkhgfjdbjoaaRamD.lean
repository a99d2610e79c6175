/- Contracts of package ram: Clear, SetWord, Word. -/
import Derived.Test.YtbcdkhgfjdbjoaaRamC
import Derived.Test.YtbcdkhgfjdbjoaaBits
namespace Go.Proofs.Ytbcdkhgfjdbjoaa.Ram
open Go.RowKit Go.Proofs.Ytbcdkhgfjdbjoaa.Mem Go.Proofs.Ytbcdkhgfjdbjoaa.Kept
open Go.Proofs.YtbcdkhgfjdbjoaaW.PrintWords (nums ReadsInt own_reads own_reads' own_le own_lit print_append_row)
set_option linter.unusedVariables false
set_option linter.unusedSimpArgs false

/-- clear of a part of a row of bytes. -/
theorem wpList_clear {w : World} {ops : Array Oper} {rest : List Oper} {o : Oper} {a : Act} {Q : Exit → Act → World → Prop} (hgd : o.guard = none) (x : Operand)
    (ho : o.op = .call { callee := .builtin .clear, args := #[x], argTypes := #[50] }) (b off n c : Nat) (hx : a.eval x = .slice (some ⟨b, off, none⟩) n c) (hn : 0 < n)
    (cur : Array Value) (t : TypeId) (hg : w.heap[b]? = some (.cells cur t (0, 0))) (hfit : off + n ≤ cur.size)
    (h : wpList Try.prog ops Q rest (a.put o.dst (.tuple #[])) (w.setRow b (splice cur.toList off (nums .u8 (List.replicate n 0))).toArray)) : wpList Try.prog ops Q (o :: rest) a w := by
  refine wpList_plain hgd fun K hK => ?_
  have hz : ∀ w, (zeroValue 5).run Try.prog w = .ok (.int .u8 0) w := by
    obtain ⟨i0, hi, hz0, hz1, hz2⟩ := info_parts info5
    intro w; simp [zeroValue, typeInfo, hi, hz0]
  have hrun : (Builtin.clear_ #[50] o.type #[.slice (some ⟨b, off, none⟩) n c]).run Try.prog w = .ok (.tuple #[]) (w.setRow b (splice cur.toList off (nums .u8 (List.replicate n 0))).toArray) := by
    have hzc : (Builtin.zeroCells (Value.int .u8 0).cells n).toList = nums .u8 (List.replicate n 0) := by
      rw [show (Value.int .u8 0).cells = #[.int .u8 0] from rfl]
      apply List.ext_getElem
      · simp [Builtin.zeroCells, nums]
      · intro i h1 h2
        simp [Builtin.zeroCells, nums, Nat.mod_one]
    have hst := run_storeCells_at Try.prog b off t (nums .u8 (List.replicate n 0)) 0 cur w hg (by simpa [nums] using hfit) (by intro v hv; simp [nums] at hv; rw [hv.2]; rfl)
    obtain ⟨m, rfl⟩ : ∃ m, n = m + 1 := ⟨n - 1, by omega⟩
    simp only [Nat.add_zero, List.append_assoc] at hst
    simp [Builtin.clear_, run_underlying underB, hz, hzc, hst, splice]
  unfold Oper.wp
  simp [execOp, ho, resolve, invoke, builtin, hx, hrun, Result.andThen]
  exact hK _ _ h
theorem clear_nil (w : World) (f : Int) : Calls Try.prog 32 #[.pointer none, .int .i64 f] w fun e w' => e = .returned (.int .i64 (-20)) ∧ w = w' := by
  have qn := fun (w : World) (a : Option Addr) (n c n' c' : Nat) => Lib.run_eql_slice_nil (P := Try.prog) w 50 5 a n c n' c' underB
  go_enter Try.func32, Try.ntmps32
  go_wp2_with (first
    | (go_at_call 43; (with_reducible refine (at_nil _ _ _ _ _).mono ?_); rintro e w1 ⟨rfl, rfl⟩)
    | fail)
  go_ret
  exact ⟨rfl, rfl⟩
theorem may_frame (n : Nat) (s f : Int) : may n s true f 0 128 = (decide (0 ≤ f) && decide (f < n)) := by
  unfold may; simp
theorem clear_no {w : World} {B g b n : Nat} {F : List Int} {s : Int} (h : Is w B g b n F s) (f : Int) (hm : f < 0 ∨ (n : Int) ≤ f) :
    Calls Try.prog 32 #[.pointer (some ⟨g, 0, none⟩), .int .i64 f] w fun e w' => e = .returned (.int .i64 (-20)) ∧ w = w' := by
  have H := Lib.hid h
  have HM := Lib.hid (show may n s true f 0 128 = false by rw [may_frame]; simp; omega)
  clear h hm
  have qn := fun (w : World) (a : Option Addr) (n c n' c' : Nat) => Lib.run_eql_slice_nil (P := Try.prog) w 50 5 a n c n' c' underB
  go_enter Try.func32, Try.ntmps32
  go_wp2_with (first
    | (go_at_call 43; (with_reducible refine (at_no H.out _ _ _ _ HM.out).mono ?_); rintro e w1 ⟨rfl, rfl⟩)
    | fail)
  go_ret
  exact ⟨rfl, rfl⟩
theorem at_frame {w : World} {B g b n : Nat} {F : List Int} {s : Int} (h : Is w B g b n F s) (f : Nat) (h1 : f < n) :
    Calls Try.prog 43 #[.pointer (some ⟨g, 0, none⟩), .bool true, .int .i64 f, .int .i64 0, .int .i64 128] w fun e w' => e = .returned (.slice (some ⟨b, f * 128, none⟩) 128 128) ∧ w = w' :=
  at_ok h true f 0 128 h1 (Or.inl rfl) (by omega)
set_option maxHeartbeats 1000000 in
theorem clear_ok {w : World} {B g b n : Nat} {F : List Int} {s : Int} (h : Is w B g b n F s) (f : Nat) (h1 : f < n) :
    Calls Try.prog 32 #[.pointer (some ⟨g, 0, none⟩), .int .i64 f] w fun e w' => e = .returned (.int .i64 0) ∧ Is w' B g b n (splice F (f * 128) (List.replicate 128 0)) s ∧ Kept w w' (fun j => j = b) := by
  have qn := fun (w : World) (a : Option Addr) (n c n' c' : Nat) => Lib.run_eql_slice_nil (P := Try.prog) w 50 5 a n c n' c' underB
  have H := Lib.hid h
  have hkey := h
  obtain ⟨A', c', cur, _, _, _, hF, _, _, _, hrow⟩ := hkey
  obtain ⟨_, _, hcb, _, hsize⟩ := hrow (by omega)
  have HC := Lib.hid hcb
  have HFIT := Lib.hid (show f * 128 + 128 ≤ cur.size by omega)
  clear h hrow hcb hsize
  go_enter Try.func32, Try.ntmps32
  go_wp2_with (first
    | (go_at_call 43; (with_reducible refine (at_frame H.out f h1).mono ?_); rintro e w1 ⟨rfl, rfl⟩)
    | ((with_reducible refine wpList_clear rfl (.tmp 11) rfl b (f * 128) 128 128 rfl (by decide) cur 86 HC.out HFIT.out ?_))
    | fail)
  go_ret
  have hkk : Kept w (w.setRow b (splice cur.toList (f * 128) (nums .u8 (List.replicate 128 0))).toArray) (fun j => j = b) := kept_setRow (S := fun j => j = b) (kept_refl _ _) rfl _
  exact ⟨rfl, is_splice H.out (by omega) HC.out hkk (setRow_heap w b _ _ _ _ HC.out) (by simp; omega), hkk⟩
end Go.Proofs.Ytbcdkhgfjdbjoaa.Ram
