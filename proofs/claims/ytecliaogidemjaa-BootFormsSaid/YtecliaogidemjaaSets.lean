/- A map from whole numbers to truth values that the call made, read as a set. -/
import Derived.Maps.OwnSet
import Derived.Test.YtecliaogidemjaaKept
import Derived.Test.YtecliaogidemjaaProg
namespace Go.Proofs.Ytecliaogidemjaa.Sets
open Go.RowKit Go.Proofs.Ytecliaogidemjaa.Mem Go.Proofs.Ytecliaogidemjaa.Kept
open Go.Maps (Keyed int_keyed keyOf_int_mk)
set_option linter.unusedVariables false

theorem zeroB (w : World) : (zeroValue 4).run Try.prog w = .ok (.bool false) w := by kernel_rfl
theorem keyedI : Keyed Try.prog 3 := int_keyed Try.underlying3
theorem plain_bool_inv {v : Value} {z : DataW Nat × List MemPlace} (h : plainElem Try.prog 4 v = some z) : ∃ x, v = .bool x ∧ z = (.lit (.bool x), []) := by
  unfold plainElem at h
  rw [Try.underlying4] at h
  cases v <;> simp_all
/-- Block b is a map that reads as the set f, of n entries at most. -/
def SetIs (w : World) (b n : Nat) (f : Int → Bool) : Prop :=
  ∃ D : DataW Nat, w.ownsMap Try.prog 3 (plainElem Try.prog 4) b n D ∧ Maps.IsMap D ∧ ∀ k, (Lit.int .i64 k).wf = true → D.atKey (.int .i64 k) (.lit (.bool false)) = .lit (.bool (f k))
theorem set_made (w : World) : SetIs (w.alloc (.map #[] 0)) w.heap.size 0 (fun _ => false) :=
  ⟨.map [], World.ownsMap_made .., ⟨_, rfl⟩, fun k hk => rfl⟩
theorem SetIs.lt {w : World} {b n : Nat} {f : Int → Bool} (h : SetIs w b n f) : b < w.heap.size := by
  obtain ⟨D, h, _⟩ := h
  exact h.lt
theorem SetIs.kept {w w' : World} {b n : Nat} {f : Int → Bool} {S : Nat → Prop} (h : SetIs w b n f) (hk : Kept w w' S) (hS : ¬ S b) : SetIs w' b n f := by
  have hlt := h.lt
  obtain ⟨D, ⟨es, clock, hb, F, hs, hD⟩, h2, h3⟩ := h
  exact ⟨D, ⟨es, clock, (hk.block b hlt hS).trans hb, F, hs, hD⟩, h2, h3⟩
theorem SetIs.below {w w' : World} {b n : Nat} {f : Int → Bool} (h : SetIs w b n f) (hk : Below w.heap.size w w') : SetIs w' b n f := h.kept (S := fun _ => False) (kept_below hk) (fun h => h)
theorem SetIs.mono {w : World} {b n n' : Nat} {f : Int → Bool} (h : SetIs w b n f) (hn : n ≤ n') : SetIs w b n' f := by
  obtain ⟨D, h1, h2, h3⟩ := h
  exact ⟨D, h1.mono hn, h2, h3⟩
theorem SetIs.drew {w : World} {b n : Nat} {f : Int → Bool} (h : SetIs w b n f) : SetIs w.drew b n f := h
theorem SetIs.look {w : World} {b n : Nat} {f : Int → Bool} (h : SetIs w b n f) {k : Int} (hk : (Lit.int .i64 k).wf = true) :
    (Instr.lookup 69 (.map (some b)) (.int .i64 k) false).run Try.prog w = .ok (.bool (f k)) w := by
  obtain ⟨D, h1, h2, h3⟩ := h
  obtain ⟨v, ps, hrun, hv⟩ := h1.lookup keyedI Try.underlying69 (zeroB w) (plainElem_bool Try.underlying4 false) (keyOf_int_mk Try.underlying3 hk)
  obtain ⟨x, rfl, hx⟩ := plain_bool_inv hv
  rw [h3 k hk] at hx
  injection hx with hx
  injection hx with hx
  injection hx with hx
  rw [hx]
  exact hrun
theorem SetIs.put {w : World} {b n : Nat} {f : Int → Bool} (h : SetIs w b n f) (hn : n < 1000000) {k : Int} (hk : (Lit.int .i64 k).wf = true) (x : Bool) :
    ∃ w', (Instr.mapUpdate 69 (.map (some b)) (.int .i64 k) (.bool x)).run Try.prog w = .ok () w' ∧ SetIs w' b (n + 1) (fun j => if j = k then x else f j) ∧ Kept w w' (fun j => j = b) := by
  obtain ⟨D, h1, h2, h3⟩ := h
  have hkey := keyOf_int_mk (P := Try.prog) (k := 3) Try.underlying3 hk
  obtain ⟨w', hrun, o1, o2⟩ := h1.update keyedI Try.underlying69 (by unfold maxLen; omega) hkey (plainElem_bool Try.underlying4 x)
  refine ⟨w', hrun, ⟨_, o1, o1.isMap, fun j hj => ?_⟩, kept_grown o2 (fun k hk => by injection hk with hk; exact hk.symm)⟩
  show _ = DataW.lit (.bool (if j = k then x else f j))
  by_cases e : j = k
  · subst e
    rw [if_pos rfl, Maps.atKey_put_same h2 (by simp [WideAt.IsKeyLit])]
  · rw [if_neg e, Maps.atKey_put_other (by intro h; injection h with _ h; exact e h)]
    exact h3 j hj
/-- The same at the operation. -/
theorem wp_look {w : World} {ops : Array Oper} {rest : List Oper} {o : Oper} {a : Act} {Q : Exit → Act → World → Prop} (hg : o.guard = none) (m x : Operand) (hop : o.op = Op.lookup 69 m x false)
    {b n : Nat} {f : Int → Bool} (h : SetIs w b n f) (k : Int) (hm : a.eval m = .map (some b)) (hx : a.eval x = .int .i64 k) (hk : (Lit.int .i64 k).wf = true) (v : Bool) (hv : f k = v)
    (hK : wpList Try.prog ops Q rest (a.put o.dst (.bool v)) w) : wpList Try.prog ops Q (o :: rest) a w := by
  refine wpList_plain hg fun K' hK' => ?_
  unfold Oper.wp
  simp [execOp, hop, hm, hx, h.look hk, hv, Result.andThen]
  exact hK' _ _ hK
theorem wp_put {w : World} {ops : Array Oper} {rest : List Oper} {o : Oper} {a : Act} {Q : Exit → Act → World → Prop} (hg : o.guard = none) (m x v : Operand) (hop : o.op = Op.mapUpdate 69 m x v)
    {b n : Nat} {f : Int → Bool} (h : SetIs w b n f) (hn : n < 1000000) (k : Int) (y : Bool) (hm : a.eval m = .map (some b)) (hx : a.eval x = .int .i64 k) (hv : a.eval v = .bool y) (hk : (Lit.int .i64 k).wf = true)
    (hK : ∀ w', SetIs w' b (n + 1) (fun j => if j = k then y else f j) → Kept w w' (fun j => j = b) → wpList Try.prog ops Q rest (a.put o.dst undef) w') : wpList Try.prog ops Q (o :: rest) a w := by
  refine wpList_plain hg fun K' hK' => ?_
  obtain ⟨w', hrun, r1, r2⟩ := h.put hn hk y
  unfold Oper.wp
  simp [execOp, hop, hm, hx, hv, hrun, Result.andThen]
  exact hK' _ _ (hK w' r1 r2)
end Go.Proofs.Ytecliaogidemjaa.Sets
