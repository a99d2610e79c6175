/- A map from whole numbers to truth values that the call made, read as a set. -/
import Derived.Maps.OwnSet
import Derived.Test.YtdpjpmlajjfpgaaKept
import Derived.Test.YtdpjpmlajjfpgaaProg
import Derived.Test.YtdpjpmlajjfpgaaPDealKx0
import Derived.BigQuiet
import Derived.Deep.QuietTactic
import Derived.IntWalk
import Derived.Outline
namespace Go.Proofs.Ytdpjpmlajjfpgaa.Sets
open Go.RowKit Go.Proofs.Ytdpjpmlajjfpgaa.Mem Go.Proofs.Ytdpjpmlajjfpgaa.Kept
open Go.Maps (Keyed int_keyed keyOf_int_mk)
set_option linter.unusedVariables false
set_option maxRecDepth 100000

theorem zeroB (w : World) : (zeroValue 4).run Try.prog w = .ok (.bool false) w := by kernel_rfl
theorem keyedI : Keyed Try.prog 3 := int_keyed Try.underlying3
theorem plain_bool_inv {v : Value} {z : DataW Nat × List MemPlace} (h : plainElem Try.prog 4 v = some z) : ∃ x, v = .bool x ∧ z = (.lit (.bool x), []) := by
  unfold plainElem at h
  rw [Try.underlying4] at h
  cases v <;> simp_all
/-- Block b is a map that reads as the set f, of n entries at most. -/
def SetIs (w : World) (b n : Nat) (f : Int → Bool) : Prop :=
  ∃ D : DataW Nat, w.ownsMap Try.prog 3 (plainElem Try.prog 4) b n D ∧ Maps.IsMap D ∧ ∀ k, (Lit.int .i64 k).wf = true → D.atKey (.int .i64 k) (.lit (.bool false)) = .lit (.bool (f k))
theorem set_made (w : World) : SetIs (w.alloc (.map #[] 0)) w.heap.size 0 (fun _ => false) :=
  ⟨.map [], World.ownsMap_made .., ⟨_, rfl⟩, fun k hk => rfl⟩
theorem SetIs.lt {w : World} {b n : Nat} {f : Int → Bool} (h : SetIs w b n f) : b < w.heap.size := by
  obtain ⟨D, h, _⟩ := h
  exact h.lt
theorem SetIs.kept {w w' : World} {b n : Nat} {f : Int → Bool} {S : Nat → Prop} (h : SetIs w b n f) (hk : Kept w w' S) (hS : ¬ S b) : SetIs w' b n f := by
  have hlt := h.lt
  obtain ⟨D, ⟨es, clock, hb, F, hs, hD⟩, h2, h3⟩ := h
  exact ⟨D, ⟨es, clock, (hk.block b hlt hS).trans hb, F, hs, hD⟩, h2, h3⟩
theorem SetIs.below {w w' : World} {b n : Nat} {f : Int → Bool} (h : SetIs w b n f) (hk : Below w.heap.size w w') : SetIs w' b n f := h.kept (S := fun _ => False) (kept_below hk) (fun h => h)
theorem SetIs.mono {w : World} {b n n' : Nat} {f : Int → Bool} (h : SetIs w b n f) (hn : n ≤ n') : SetIs w b n' f := by
  obtain ⟨D, h1, h2, h3⟩ := h
  exact ⟨D, h1.mono hn, h2, h3⟩
theorem SetIs.drew {w : World} {b n : Nat} {f : Int → Bool} (h : SetIs w b n f) : SetIs w.drew b n f := h
theorem SetIs.look {w : World} {b n : Nat} {f : Int → Bool} (h : SetIs w b n f) {k : Int} (hk : (Lit.int .i64 k).wf = true) :
    (Instr.lookup 110 (.map (some b)) (.int .i64 k) false).run Try.prog w = .ok (.bool (f k)) w := by
  obtain ⟨D, h1, h2, h3⟩ := h
  obtain ⟨v, ps, hrun, hv⟩ := h1.lookup keyedI Try.underlying110 (zeroB w) (plainElem_bool Try.underlying4 false) (keyOf_int_mk Try.underlying3 hk)
  obtain ⟨x, rfl, hx⟩ := plain_bool_inv hv
  rw [h3 k hk] at hx
  injection hx with hx
  injection hx with hx
  injection hx with hx
  rw [hx]
  exact hrun
theorem SetIs.put {w : World} {b n : Nat} {f : Int → Bool} (h : SetIs w b n f) (hn : n < 1000000) {k : Int} (hk : (Lit.int .i64 k).wf = true) (x : Bool) :
    ∃ w', (Instr.mapUpdate 110 (.map (some b)) (.int .i64 k) (.bool x)).run Try.prog w = .ok () w' ∧ SetIs w' b (n + 1) (fun j => if j = k then x else f j) ∧ Kept w w' (fun j => j = b) := by
  obtain ⟨D, h1, h2, h3⟩ := h
  have hkey := keyOf_int_mk (P := Try.prog) (k := 3) Try.underlying3 hk
  obtain ⟨w', hrun, o1, o2⟩ := h1.update keyedI Try.underlying110 (by unfold maxLen; omega) hkey (plainElem_bool Try.underlying4 x)
  refine ⟨w', hrun, ⟨_, o1, o1.isMap, fun j hj => ?_⟩, kept_grown o2 (fun k hk => by injection hk with hk; exact hk.symm)⟩
  show _ = DataW.lit (.bool (if j = k then x else f j))
  by_cases e : j = k
  · subst e
    rw [if_pos rfl, Maps.atKey_put_same h2 (by simp [WideAt.IsKeyLit])]
  · rw [if_neg e, Maps.atKey_put_other (by intro h; injection h with _ h; exact e h)]
    exact h3 j hj
/-- The same at the operation. -/
theorem wp_look {w : World} {ops : Array Oper} {rest : List Oper} {o : Oper} {a : Act} {Q : Exit → Act → World → Prop} (hg : o.guard = none) (m x : Operand) (hop : o.op = Op.lookup 110 m x false)
    {b n : Nat} {f : Int → Bool} (h : SetIs w b n f) (k : Int) (hm : a.eval m = .map (some b)) (hx : a.eval x = .int .i64 k) (hk : (Lit.int .i64 k).wf = true) (v : Bool) (hv : f k = v)
    (hK : wpList Try.prog ops Q rest (a.put o.dst (.bool v)) w) : wpList Try.prog ops Q (o :: rest) a w := by
  refine wpList_plain hg fun K' hK' => ?_
  unfold Oper.wp
  simp [execOp, hop, hm, hx, h.look hk, hv, Result.andThen]
  exact hK' _ _ hK
theorem wp_put {w : World} {ops : Array Oper} {rest : List Oper} {o : Oper} {a : Act} {Q : Exit → Act → World → Prop} (hg : o.guard = none) (m x v : Operand) (hop : o.op = Op.mapUpdate 110 m x v)
    {b n : Nat} {f : Int → Bool} (h : SetIs w b n f) (hn : n < 1000000) (k : Int) (y : Bool) (hm : a.eval m = .map (some b)) (hx : a.eval x = .int .i64 k) (hv : a.eval v = .bool y) (hk : (Lit.int .i64 k).wf = true)
    (hK : ∀ w', SetIs w' b (n + 1) (fun j => if j = k then y else f j) → Kept w w' (fun j => j = b) → wpList Try.prog ops Q rest (a.put o.dst undef) w') : wpList Try.prog ops Q (o :: rest) a w := by
  refine wpList_plain hg fun K' hK' => ?_
  obtain ⟨w', hrun, r1, r2⟩ := h.put hn hk y
  unfold Oper.wp
  simp [execOp, hop, hm, hx, hv, hrun, Result.andThen]
  exact hK' _ _ (hK w' r1 r2)
end Go.Proofs.Ytdpjpmlajjfpgaa.Sets
/- Small laws on worlds: rows of the call's own, sets and blocks beside them. -/
namespace Go.Proofs.Ytdpjpmlajjfpgaa.Own
open Go.RowKit Go.Proofs.Ytdpjpmlajjfpgaa.Mem Go.Proofs.Ytdpjpmlajjfpgaa.Kept Go.Proofs.Ytdpjpmlajjfpgaa.Sets
set_option linter.unusedVariables false
theorem infoI : (Try.prog.info? 3).map (fun i => (i.zero, i.size, i.bytes)) = some (some (.int .i64 0), 1, 8) := by kernel_rfl
theorem own_blk {w : World} {B n sz : Nat} {t : TypeId} {v : Value} {xs : List Value} (ho : w.ownsRow B t sz v n xs) {k : Nat} (hk : v.ownBlock = some k) : B ≤ k ∧ k < w.heap.size ∧ ∃ cs, w.heap[k]? = some (.cells cs t (0, 0)) := by
  rcases ho.2 with ⟨h1, _⟩ | ⟨g, cap, cur, h1, hb, hg, _⟩
  · rw [h1] at hk; cases hk
  · rw [h1] at hk
    injection hk with hk
    subst hk
    exact ⟨hb, blk_lt hg, _, hg⟩
theorem own_form {w : World} {B n sz : Nat} {t : TypeId} {v : Value} {xs : List Value} (ho : w.ownsRow B t sz v n xs) : ∃ A c, v = .slice A n c := by
  rcases ho.2 with ⟨h1, h2⟩ | ⟨g, cap, cur, h1, _⟩
  · exact ⟨none, 0, by rw [h1, h2]⟩
  · exact ⟨_, cap, h1⟩
theorem own_kept {w w' : World} {S : Nat → Prop} {B n sz : Nat} {t : TypeId} {v : Value} {xs : List Value} (h : Kept w w' S) (ho : w.ownsRow B t sz v n xs) (hS : ∀ k, v.ownBlock = some k → ¬ S k) : w'.ownsRow B t sz v n xs := by
  refine ⟨ho.1, ?_⟩
  rcases ho.2 with h1 | ⟨g, cap, cur, h1, hb, hg, hr⟩
  · exact Or.inl h1
  · exact Or.inr ⟨g, cap, cur, h1, hb, h.blk hg (hS g (by rw [h1]; rfl)), hr⟩
theorem own_below {w w' : World} {B n sz : Nat} {t : TypeId} {v : Value} {xs : List Value} (ho : w.ownsRow B t sz v n xs) (h : Below w.heap.size w w') : w'.ownsRow B t sz v n xs := own_kept (S := fun _ => False) (kept_below h) ho (fun _ _ h => h)
theorem own_down {w : World} {b B : Nat} {e : TypeId} {size n : Nat} {v : Value} {xs : List Value} (h : w.ownsRow B e size v n xs) (hb : b ≤ B) : w.ownsRow b e size v n xs :=
  ⟨h.1, h.2.imp id fun ⟨g, cap, cur, h1, h2, h3⟩ => ⟨g, cap, cur, h1, Nat.le_trans hb h2, h3⟩⟩
/-- A map of the call's own is no row. -/
theorem set_ne {w : World} {b n : Nat} {f : Int → Bool} (h : SetIs w b n f) {cs : Array Value} {t : TypeId} {z : Nat × Nat} {g : Nat} (hg : w.heap[g]? = some (.cells cs t z)) : b ≠ g := by
  rintro rfl
  obtain ⟨D, ⟨es, clock, hb, _⟩, _⟩ := h
  rw [hb] at hg
  cases hg
theorem set_own {w w1 : World} {b m : Nat} {f : Int → Bool} (h : SetIs w b m f) {B n sz : Nat} {t : TypeId} {v : Value} {xs : List Value} (ho : w.ownsRow B t sz v n xs) (hg : w.grownBy w1 v.ownBlock) : SetIs w1 b m f :=
  h.kept (S := fun k => v.ownBlock = some k) (kept_grown hg (fun k hk => hk)) (fun e => by obtain ⟨_, _, cs, hc⟩ := own_blk ho e; exact set_ne h hc rfl)
theorem blk_own {w w1 : World} {g : Nat} {cs : Array Value} {t' : TypeId} (h : w.heap[g]? = some (.cells cs t' (0, 0))) {B n sz : Nat} {t : TypeId} {v : Value} {xs : List Value} (ho : w.ownsRow B t sz v n xs) (hne : t' ≠ t) (hg : w.grownBy w1 v.ownBlock) : w1.heap[g]? = some (.cells cs t' (0, 0)) :=
  (kept_grown (S := fun k => v.ownBlock = some k) hg (fun k hk => hk)).blk h (fun e => by
    obtain ⟨_, _, cs', hc⟩ := own_blk ho e
    rw [h] at hc
    injection hc with hc
    injection hc with _ hc
    exact hne hc)
theorem own_set {w w1 : World} {b m : Nat} {f : Int → Bool} (h : SetIs w b m f) {B n sz : Nat} {t : TypeId} {v : Value} {xs : List Value} (ho : w.ownsRow B t sz v n xs) (hk : Kept w w1 (fun j => j = b)) : w1.ownsRow B t sz v n xs :=
  own_kept hk ho (fun k e => by rintro rfl; obtain ⟨_, _, cs, hc⟩ := own_blk ho e; exact set_ne h hc rfl)
end Go.Proofs.Ytdpjpmlajjfpgaa.Own
/- A map that the program made, read as a function from whole numbers to values: looked up, asked, stored into, struck from, counted. -/
namespace Go.Proofs.Ytdpjpmlajjfpgaa.MapV
open Go.RowKit Go.Proofs.Ytdpjpmlajjfpgaa.Mem Go.Proofs.Ytdpjpmlajjfpgaa.Kept
open Go.Maps (Keyed int_keyed keyOf_int_mk has size Tidy IsMap)
set_option linter.unusedVariables false
set_option maxRecDepth 100000

/-- An element's value, as it stands. -/
def heldV (v : Value) : Option (DataW Value × List MemPlace) := some (.held v, [])
def upd (f : Int → Option Value) (k : Int) (v : Option Value) : Int → Option Value := fun j => if j = k then v else f j
/-- Block b is a map, its keys of type kt, of kind q, that reads as f, of n entries. -/
def MapIs (w : World) (kt : TypeId) (q : IntKind) (b n : Nat) (f : Int → Option Value) : Prop :=
  ∃ D : DataW Value, w.ownsMap Try.prog kt heldV b n D ∧ Tidy D ∧ size D = n ∧ ∀ k, (Lit.int q k).wf = true → has D (.int q k) = (f k).isSome ∧ ∀ z, D.atKey (.int q k) (.held z) = .held ((f k).getD z)
section
variable {w w' : World} {kt et mt : TypeId} {q : IntKind} {b n : Nat} {f : Int → Option Value}
theorem map_made (w : World) (kt : TypeId) (q : IntKind) : MapIs (w.alloc (.map #[] 0)) kt q w.heap.size 0 (fun _ => none) :=
  ⟨.map [], World.ownsMap_made .., Maps.tidy_empty, rfl, fun k hk => ⟨rfl, fun z => rfl⟩⟩
theorem MapIs.lt (h : MapIs w kt q b n f) : b < w.heap.size := by
  obtain ⟨D, h, _⟩ := h
  exact h.lt
theorem MapIs.block (h : MapIs w kt q b n f) : ∃ es clock, w.heap[b]? = some (.map es clock) := by
  obtain ⟨D, ⟨es, clock, hb, _⟩, _⟩ := h
  exact ⟨es, clock, hb⟩
theorem MapIs.move (h : MapIs w kt q b n f) (hb : w'.heap[b]? = w.heap[b]?) : MapIs w' kt q b n f := by
  obtain ⟨D, ⟨es, clock, h1, F, hs, hD⟩, h2⟩ := h
  exact ⟨D, ⟨es, clock, hb.trans h1, F, hs, hD⟩, h2⟩
theorem MapIs.kept {S : Nat → Prop} (h : MapIs w kt q b n f) (hk : Kept w w' S) (hS : ¬ S b) : MapIs w' kt q b n f := h.move (hk.block b h.lt hS)
theorem MapIs.below (h : MapIs w kt q b n f) (hk : Below w.heap.size w w') : MapIs w' kt q b n f := h.move (hk.block b h.lt)
/-- No row of cells is a map. -/
theorem MapIs.ne (h : MapIs w kt q b n f) {cs : Array Value} {t : TypeId} {z : Nat × Nat} {g : Nat} (hg : w.heap[g]? = some (.cells cs t z)) : b ≠ g := by
  rintro rfl
  obtain ⟨es, clock, hb⟩ := h.block
  rw [hb] at hg
  cases hg
variable (hkt : Try.prog.underlying kt = some (.int q)) (hmt : Try.prog.underlying mt = some (.map kt et))
include hkt hmt
theorem MapIs.look (h : MapIs w kt q b n f) {z : Value} (hz : ∀ w, (zeroValue et).run Try.prog w = .ok z w) {k : Int} (hk : (Lit.int q k).wf = true) :
    (Instr.lookup mt (.map (some b)) (.int q k) false).run Try.prog w = .ok ((f k).getD z) w := by
  obtain ⟨D, h1, h2, h3, h4⟩ := h
  obtain ⟨v, ps, hrun, hv⟩ := h1.lookup (int_keyed hkt) hmt (hz w) (zd := .held z) (zp := []) rfl (keyOf_int_mk hkt hk)
  rw [(h4 k hk).2 z] at hv
  injection hv with hv
  injection hv with hv _
  injection hv with hv
  rw [← hv]
  exact hrun
theorem MapIs.ask (h : MapIs w kt q b n f) {z : Value} (hz : ∀ w, (zeroValue et).run Try.prog w = .ok z w) {k : Int} (hk : (Lit.int q k).wf = true) :
    (Instr.lookup mt (.map (some b)) (.int q k) true).run Try.prog w = .ok (.tuple #[(f k).getD z, .bool (f k).isSome]) w := by
  obtain ⟨D, h1, h2, h3, h4⟩ := h
  obtain ⟨v, ps, hrun, hv⟩ := h1.look_ok (int_keyed hkt) hmt (hz w) (zd := .held z) (zp := []) rfl (keyOf_int_mk hkt hk)
  rw [(h4 k hk).2 z] at hv
  injection hv with hv
  injection hv with hv _
  injection hv with hv
  rw [← hv, ← (h4 k hk).1]
  exact hrun
theorem MapIs.put (h : MapIs w kt q b n f) (hn : n < 1000000) {k : Int} (hk : (Lit.int q k).wf = true) (v : Value) :
    ∃ w', (Instr.mapUpdate mt (.map (some b)) (.int q k) v).run Try.prog w = .ok () w' ∧ MapIs w' kt q b (if (f k).isSome then n else n + 1) (upd f k (some v)) ∧ Kept w w' (fun j => j = b) := by
  obtain ⟨D, h1, h2, h3, h4⟩ := h
  have hkey := keyOf_int_mk (P := Try.prog) (k := kt) hkt hk
  have hkl : WideAt.IsKeyLit (.int q k) := by simp [WideAt.IsKeyLit]
  obtain ⟨w', hrun, o1, o2⟩ := h1.update (int_keyed hkt) hmt (by unfold maxLen; omega) hkey (val := v) (d := .held v) (ps := []) rfl
  have hsz : size (D.put (.int q k) (.held v)) = if (f k).isSome then n else n + 1 := by rw [Maps.size_put h2, (h4 k hk).1, h3]
  refine ⟨w', hrun, ⟨_, ?_, o1.tidy (int_keyed hkt), hsz, fun j hj => ?_⟩, kept_grown o2 (fun k hk => by injection hk with hk; exact hk.symm)⟩
  · obtain ⟨es, clock, a1, a2, a3, a4⟩ := o1
    refine ⟨es, clock, a1, a2, ?_, a4⟩
    rw [← hsz, a4]
    simp [size, length_sorted]
  · unfold upd
    by_cases e : j = k
    · subst e
      rw [if_pos rfl]
      exact ⟨Maps.has_put_same h2.isMap hkl _, fun z => Maps.atKey_put_same h2.isMap hkl _ _⟩
    · rw [if_neg e]
      have hne : (Lit.int q j) ≠ .int q k := fun h => by injection h with _ h; exact e h
      rw [Maps.has_put_other hne]
      exact ⟨(h4 j hj).1, fun z => by rw [Maps.atKey_put_other hne]; exact (h4 j hj).2 z⟩
theorem MapIs.drop (h : MapIs w kt q b n f) {k : Int} (hk : (Lit.int q k).wf = true) (ty : TypeId) :
    ∃ w', (Builtin.delete_ #[mt, kt] ty #[.map (some b), .int q k]).run Try.prog w = .ok (.tuple #[]) w' ∧ MapIs w' kt q b (if (f k).isSome then n - 1 else n) (upd f k none) ∧ Kept w w' (fun j => j = b) := by
  obtain ⟨D, h1, h2, h3, h4⟩ := h
  have hkey := keyOf_int_mk (P := Try.prog) (k := kt) hkt hk
  obtain ⟨w', hrun, o1, o2⟩ := h1.drop (int_keyed hkt) hmt hkey ty
  have hsz : size (D.del (.int q k)) = if (f k).isSome then n - 1 else n := by
    have := Maps.size_del (k := .int q k) h2
    rw [(h4 k hk).1, h3] at this
    split <;> simp_all <;> omega
  refine ⟨w', hrun, ⟨_, ?_, o1.tidy (int_keyed hkt), hsz, fun j hj => ?_⟩, kept_grown o2.grown (fun k hk => by injection hk with hk; exact hk.symm)⟩
  · obtain ⟨es, clock, a1, a2, a3, a4⟩ := o1
    refine ⟨es, clock, a1, a2, ?_, a4⟩
    rw [← hsz, a4]
    simp [size, length_sorted]
  · unfold upd
    by_cases e : j = k
    · subst e
      rw [if_pos rfl]
      exact ⟨Maps.has_del_same, fun z => Maps.atKey_del_same _⟩
    · rw [if_neg e]
      have hne : (Lit.int q j) ≠ .int q k := fun h => by injection h with _ h; exact e h
      rw [Maps.has_del_other hne]
      exact ⟨(h4 j hj).1, fun z => by rw [Maps.atKey_del_other hne]; exact (h4 j hj).2 z⟩
omit hkt in
theorem MapIs.len (h : MapIs w kt q b n f) (ty : TypeId) : (Builtin.len_ #[mt] ty #[.map (some b)]).run Try.prog w = .ok (.int .i64 n) w := by
  obtain ⟨D, h1, h2, h3, h4⟩ := h
  have := h1.len hmt ty
  rw [h3] at this
  exact this
end
end Go.Proofs.Ytdpjpmlajjfpgaa.MapV
/- Which deals may be: plain. -/
namespace Go.Proofs.Ytdpjpmlajjfpgaa.Deal
open Go Go.Proofs.Ytdpjpmlajjfpgaa.PDealK
set_option linter.unusedVariables false

abbrev RV := S40
abbrev SP := S42
def addS (f : Int → Bool) (k : Int) : Int → Bool := fun j => if j = k then true else f j
def rcvBad (f : Int → Bool) (a b : Int) : Bool := decide (a < 0) || (decide (6 ≤ a) || (f a || (decide (b < 1) || decide (7 < b))))
def rcvGo : (Int → Bool) → List RV → Bool
  | _, [] => true
  | f, r :: t => !rcvBad f r.f0 r.f1 && rcvGo (addS f r.f0) t
/-- Whether those may be receivers of a deal of a kind, of a sender. -/
def rcvB (k s : Int) (l : List RV) : Bool := decide (1 ≤ l.length) && decide (l.length ≤ 4) && !(decide (k = 3) && decide (1 < l.length)) && rcvGo (addS (fun _ => false) s) l
theorem rcvGo_drop {l : List RV} {k : Nat} (hk : k < l.length) (f : Int → Bool) :
    rcvGo f (l.drop k) = (!rcvBad f (rd_T40 l k).f0 (rd_T40 l k).f1 && rcvGo (addS f (rd_T40 l k).f0) (l.drop (k + 1))) := by
  have e : rd_T40 l k = l[k] := by unfold rd_T40; simp [List.getD_eq_getElem?_getD, List.getElem?_eq_getElem hk]
  rw [List.drop_eq_getElem_cons hk, e]
  rfl
/-- The pages of one span, behind those that there are. -/
def spanTo (p : Int) : Nat → List Int
  | 0 => []
  | n + 1 => spanTo p n ++ [p + n]
def addR (f : Int → Bool) (p : Int) (n : Nat) : Int → Bool := fun j => f j || (decide (p ≤ j) && decide (j < p + n))
/-- Of the first n numbers from p on none is in f. -/
def frR (f : Int → Bool) (p : Int) : Nat → Bool
  | 0 => true
  | n + 1 => frR f p n && !f (p + n)
def spBad (out : Nat) (p c : Int) : Bool := decide (c < 1) || (decide (40 - (out : Int) < c) || (decide (p < 0) || decide (4096 - c < p)))
def pgGo : (Int → Bool) → List Int → List SP → List Int × Bool
  | _, out, [] => (out, true)
  | f, out, s :: t => if spBad out.length s.f0 s.f1 = true ∨ frR f s.f0 s.f1.toNat = false then ([], false) else pgGo (addR f s.f0 s.f1.toNat) (out ++ spanTo s.f0 s.f1.toNat) t
/-- All pages of spans; no: they may not be. -/
def pgs (l : List SP) : List Int × Bool := if l.length = 0 ∨ 8 < l.length then ([], false) else pgGo (fun _ => false) [] l
theorem pgGo_drop {l : List SP} {k : Nat} (hk : k < l.length) (f : Int → Bool) (out : List Int) :
    pgGo f out (l.drop k) = if spBad out.length (rd_T42 l k).f0 (rd_T42 l k).f1 = true ∨ frR f (rd_T42 l k).f0 (rd_T42 l k).f1.toNat = false then ([], false) else pgGo (addR f (rd_T42 l k).f0 (rd_T42 l k).f1.toNat) (out ++ spanTo (rd_T42 l k).f0 (rd_T42 l k).f1.toNat) (l.drop (k + 1)) := by
  have e : rd_T42 l k = l[k] := by unfold rd_T42; simp [List.getD_eq_getElem?_getD, List.getElem?_eq_getElem hk]
  rw [List.drop_eq_getElem_cons hk, e]
  rfl
theorem spanTo_len (p : Int) : ∀ n, (spanTo p n).length = n
  | 0 => rfl
  | n + 1 => by simp [spanTo, spanTo_len p n]
theorem addR_zero (f : Int → Bool) (p : Int) : addR f p 0 = f := by
  funext j
  unfold addR
  have : (decide (p ≤ j) && decide (j < p + ((0 : Nat) : Int))) = false := by
    by_cases h : p ≤ j
    · simp only [h, decide_true, Bool.true_and, decide_eq_false_iff_not]; omega
    · simp [h]
  rw [this, Bool.or_false]
theorem addR_succ (f : Int → Bool) (p : Int) (k : Nat) : (fun j => if j = p + k then true else addR f p k j) = addR f p (k + 1) := by
  funext j
  unfold addR
  by_cases h : j = p + k
  · rw [if_pos h]
    have : (decide (p ≤ j) && decide (j < p + ((k + 1 : Nat) : Int))) = true := by simp; omega
    rw [this, Bool.or_true]
  · rw [if_neg h]
    congr 1
    rw [Bool.eq_iff_iff]
    simp
    omega
theorem addR_at (f : Int → Bool) (p : Int) (k : Nat) : addR f p k (p + k) = f (p + k) := by
  unfold addR
  have : (decide (p ≤ p + (k : Int)) && decide (p + (k : Int) < p + k)) = false := by simp
  rw [this, Bool.or_false]
theorem frR_le {f : Int → Bool} {p : Int} {k : Nat} : ∀ {n : Nat}, frR f p n = true → k ≤ n → frR f p k = true
  | 0, h, hk => by rw [Nat.le_zero.1 hk]; rfl
  | n + 1, h, hk => by
    rcases Nat.lt_or_ge k (n + 1) with h1 | h1
    · unfold frR at h
      exact frR_le (by simp at h; exact h.1) (by omega)
    · rw [show k = n + 1 by omega]; exact h
theorem frR_hit {f : Int → Bool} {p : Int} {k n : Nat} (h : f (p + k) = true) (hk : k < n) : frR f p n = false := by
  by_cases e : frR f p n = true
  · have := frR_le e (show k + 1 ≤ n by omega)
    unfold frR at this
    rw [h] at this
    simp at this
  · simpa using e
end Go.Proofs.Ytdpjpmlajjfpgaa.Deal
/- Which deals may be: receivers, and the pages of spans, walked. -/
namespace Go.Proofs.Ytdpjpmlajjfpgaa.Deal
open Go.RowKit Go.Proofs.Ytdpjpmlajjfpgaa.Mem Go.Proofs.Ytdpjpmlajjfpgaa.Kept Go.Proofs.Ytdpjpmlajjfpgaa.Sets Go.Proofs.Ytdpjpmlajjfpgaa.Own Go.Proofs.Ytdpjpmlajjfpgaa.PDealK
open Go.Proofs.YtdpjpmlajjfpgaaW.PrintWords hiding add_at blk_alloc blk_below blk_cell blk_drewN blk_far blk_lt blk_new blk_set
set_option linter.unusedVariables false
set_option linter.unusedSimpArgs false
theorem ret_b {a b : Bool} (h : a = b) : Ending.returned (.bool a) = .returned (.bool b) := by rw [h]
theorem wf_in {a : Int} (h : -9223372036854775808 ≤ a ∧ a ≤ 9223372036854775807) : (Lit.int .i64 a).wf = true := WalkArith.wf_i64 (by omega)
theorem c_alloc {α : Type} {d : Kd α} {w : World} {A : Option Addr} {n : Nat} {xs : List α} (h : Kd.C d w A n xs) (o : Obj) : Kd.C d (w.alloc o) A n xs := Kd.C_alloc h o
theorem bad_dec {f : Int → Bool} {a b : Int} : rcvBad f a b = true ↔ (a < 0 ∨ 6 ≤ a ∨ f a = true ∨ b < 1 ∨ 7 < b) := by unfold rcvBad; simp
set_option maxRecDepth 100000 in
set_option maxHeartbeats 4000000 in
theorem receivers_any (w : World) (k s : Int) (z : Bool) (A B : Option Addr) (c d m : Nat) (l : List RV) (hs : (Lit.int .i64 s).wf = true) (hl : Kd.C k40 w A l.length l) :
    Calls Try.prog 46 #[.agg #[.int .i64 k, .int .i64 s, .bool z, .slice A l.length c, .slice B m d]] w fun e w' => e = .returned (.bool (rcvB k s l)) ∧ Below w.heap.size w w' := by
  have hu25 := Try.underlying25
  have hu40 := Try.underlying40
  have HL := Lib.hid hl
  have HS := Lib.hid hs
  clear hl hs
  by_cases h1 : l.length < 1
  · have H := Lib.hid (show rcvB k s l = false by unfold rcvB; rw [decide_eq_false (show ¬ 1 ≤ l.length by omega)]; rfl)
    have d1 : decide ((l.length : Int) < 1) = true := decide_eq_true (by omega)
    go_enter Try.func46, Try.ntmps46
    go_wp2
    go_ret
    exact ⟨ret_b H.out.symm, bel_alloc (Below.refl _ _) _⟩
  have d1 : decide ((l.length : Int) < 1) = false := decide_eq_false (by omega)
  by_cases h2 : 4 < l.length
  · have H := Lib.hid (show rcvB k s l = false by unfold rcvB; rw [decide_eq_false (show ¬ l.length ≤ 4 by omega), Bool.and_false]; rfl)
    have d2 : decide ((4 : Int) < l.length) = true := decide_eq_true (by omega)
    go_enter Try.func46, Try.ntmps46
    go_wp2
    go_ret
    exact ⟨ret_b H.out.symm, bel_alloc (Below.refl _ _) _⟩
  have d2 : decide ((4 : Int) < l.length) = false := decide_eq_false (by omega)
  have key : ∀ b1 b2 : Bool, (k == 3) = b1 → decide ((1 : Int) < l.length) = b2 → Calls Try.prog 46 #[.agg #[.int .i64 k, .int .i64 s, .bool z, .slice A l.length c, .slice B m d]] w fun e w' => e = .returned (.bool (rcvB k s l)) ∧ Below w.heap.size w w' := by
    intro b1 b2 e1 e2
    by_cases hb : (b1 && b2) = true
    · obtain ⟨rfl, rfl⟩ : b1 = true ∧ b2 = true := by simpa using hb
      have H := Lib.hid (show rcvB k s l = false by unfold rcvB; rw [decide_eq_true (show k = 3 by simpa using e1), decide_eq_true (show 1 < l.length by have := of_decide_eq_true e2; omega)]; simp)
      clear hb
      go_enter Try.func46, Try.ntmps46
      go_wp2
      go_ret
      exact ⟨ret_b H.out.symm, bel_alloc (Below.refl _ _) _⟩
    · have hR := Lib.hid (show rcvB k s l = rcvGo (addS (fun _ => false) s) l by
        unfold rcvB
        rw [decide_eq_true (show 1 ≤ l.length by omega), decide_eq_true (show l.length ≤ 4 by omega)]
        have : (decide (k = 3) && decide (1 < l.length)) = false := by
          have q1 : decide (k = 3) = b1 := by rw [← e1]; rfl
          have q2 : decide (1 < l.length) = b2 := by rw [← e2]; simp; omega
          rw [q1, q2]; simpa using hb
        rw [this]; rfl)
      obtain ⟨R, hRe⟩ : ∃ R, rcvB k s l = R := ⟨_, rfl⟩
      rw [hRe] at hR ⊢
      clear hRe
      have SM := set_made (w.alloc (.cells #[.int .i64 k, .int .i64 s, .bool z, .slice A l.length c, .slice B m d] 25))
      obtain ⟨wm, hrun, S1, K1⟩ := SM.put (by decide) HS.out true
      have hb1 : b1 = false ∨ (b1 = true ∧ b2 = false) := by cases b1 <;> cases b2 <;> simp_all
      have B0 := blk_alloc (blk_new w (.cells #[.int .i64 k, .int .i64 s, .bool z, .slice A l.length c, .slice B m d] 25)) (.map #[] 0)
      have bel0 := bel_alloc (bel_alloc (Below.refl w.heap.size w) (.cells #[.int .i64 k, .int .i64 s, .bool z, .slice A l.length c, .slice B m d] 25)) (.map #[] 0)
      obtain ⟨M, hM⟩ : ∃ M, (w.alloc (.cells #[.int .i64 k, .int .i64 s, .bool z, .slice A l.length c, .slice B m d] 25)).heap.size = M := ⟨_, rfl⟩
      have hM1 : M = w.heap.size + 1 := by rw [← hM]; simp
      rw [hM] at S1 K1 hrun
      have B1 := K1.blk B0 (by omega)
      have bel1 := Lib.hid (K1.below bel0 bel0.size (fun j hj => by omega))
      have HS1 := Lib.hid S1
      have hcd := cells5 B1
      clear SM S1 K1 B0 bel0 hM hb
      subst hM1
      have hmm := @run_makeMap Try.prog
      rcases hb1 with rfl | ⟨rfl, rfl⟩
      all_goals
        go_enter Try.func46, Try.ntmps46
        go_wp2
        go_loopw [34] (fun i wr => ∃ (q : Nat) (f : Int → Bool), q ≤ l.length ∧ i = .int .i64 q ∧ Hid (SetIs wr (w.heap.size + 1) (q + 1) f) ∧ Hid (R = rcvGo f (l.drop q)) ∧ Hid (Below w.heap.size w wr)) (fun i _ => l.length - (intOf i).toNat)
        case atStart => exact ⟨0, _, Nat.zero_le _, rfl, HS1, hR, bel1⟩
        case round =>
          obtain ⟨q, f, hq, rfl, HF, HR, HB⟩ := hrel
          clear hR HS1 bel1 hcd B1 hrun
          by_cases hlt : q < l.length
          · obtain ⟨ad, e0, c0, c1⟩ := at_T40 (Kd.C_below HL.out HB.out) (q : Int) (by omega) (by omega)
            cases e0
            rw [Int.toNat_natCast] at c0 c1
            have hstep := Lib.hid (HR.out.trans (rcvGo_drop hlt f))
            obtain ⟨a, ha⟩ : ∃ a, (rd_T40 l q).f0 = a := ⟨_, rfl⟩
            obtain ⟨b, hb⟩ : ∃ b, (rd_T40 l q).f1 = b := ⟨_, rfl⟩
            obtain ⟨v, hv⟩ : ∃ v, f a = v := ⟨_, rfl⟩
            rw [ha, hb] at hstep
            rw [ha] at c0
            rw [hb] at c1
            have Hv := Lib.hid hv
            clear ha hb HR hv
            have SA := Lib.hid (HF.out.below (bel_alloc (Below.refl _ _) (.cells #[.int .i64 a, .int .i64 b] 40)))
            have BA := Lib.hid (bel_alloc HB.out (.cells #[.int .i64 a, .int .i64 b] 40))
            have KA := Lib.hid (blk_new wr (.cells #[.int .i64 a, .int .i64 b] 40))
            have BADS : Hid (rcvBad f a b = true → R = false) := Lib.hid (fun h => by rw [hstep.out, h]; rfl)
            by_cases g0 : a < 0
            · have H := Lib.hid (BADS.out (bad_dec.2 (Or.inl g0)))
              have t0 := decide_eq_true g0
              go_wp2
              go_ret
              exact ⟨ret_b H.out.symm, BA.out⟩
            have t0 := decide_eq_false g0
            by_cases g1 : 6 ≤ a
            · have H := Lib.hid (BADS.out (bad_dec.2 (Or.inr (Or.inl g1))))
              have t1 := decide_eq_true g1
              go_wp2
              go_ret
              exact ⟨ret_b H.out.symm, BA.out⟩
            have t1 := decide_eq_false g1
            have hwf := Lib.hid (wf_in (a := a) (by omega))
            have L := SA.out.look hwf.out
            rw [Hv.out] at L
            cases v with
            | true =>
              have H := Lib.hid (BADS.out (bad_dec.2 (Or.inr (Or.inr (Or.inl Hv.out)))))
              go_wp2
              go_ret
              exact ⟨ret_b H.out.symm, BA.out⟩
            | false =>
            by_cases g3 : b < 1
            · have H := Lib.hid (BADS.out (bad_dec.2 (Or.inr (Or.inr (Or.inr (Or.inl g3))))))
              have t3 := decide_eq_true g3
              go_wp2
              go_ret
              exact ⟨ret_b H.out.symm, BA.out⟩
            have t3 := decide_eq_false g3
            by_cases g4 : 7 < b
            · have H := Lib.hid (BADS.out (bad_dec.2 (Or.inr (Or.inr (Or.inr (Or.inr g4))))))
              have t4 := decide_eq_true g4
              go_wp2
              go_ret
              exact ⟨ret_b H.out.symm, BA.out⟩
            have t4 := decide_eq_false g4
            have hgood := Lib.hid (show rcvBad f a b = false by rw [← Bool.not_eq_true, bad_dec]; rintro (h | h | h | h | h) <;> first | omega | (rw [Hv.out] at h; cases h))
            go_wp2_with (first
              | (at_mapUpdate; refine wp_put rfl (.tmp 62) (.tmp 64) (.const (.bool true)) rfl SA.out (by omega) a true rfl rfl rfl hwf.out ?_; intro w3 S3 k3; have S3' := Lib.hid S3; have B3 := Lib.hid (k3.below BA.out BA.out.size (fun j hj => by rw [hj]; omega)); clear S3 k3 L)
              | fail)
            go_roundw
            case rel => exact ⟨q + 1, addS f a, by omega, by go_num, S3', Lib.hid (by rw [hstep.out, hgood.out]; rfl), B3⟩
            case measure => simp [intOf]; omega
          · have : q = l.length := by omega
            subst this
            have H := Lib.hid (show R = true by rw [HR.out]; simp [rcvGo])
            go_wp2
            go_ret
            exact ⟨ret_b H.out.symm, HB.out⟩
  exact key _ _ rfl rfl
/-- Along the pages of spans: what was seen, what is there. -/
structure OS (w W : World) (M : Nat) (v : Value) (f : Int → Bool) (out : List Int) : Prop where
  s : SetIs W M out.length f
  o : W.ownsRow w.heap.size 3 1 v out.length (nums .i64 out)
  b : Below w.heap.size w W
theorem OS.below {w W W' : World} {M : Nat} {v : Value} {f : Int → Bool} {out : List Int} (h : OS w W M v f out) (hb : Below W.heap.size W W') : OS w W' M v f out := ⟨h.s.below hb, own_below h.o hb, bel_chain h.b hb⟩
theorem OS.ret {w W : World} {M : Nat} {v : Value} {f : Int → Bool} {out : List Int} (h : OS w W M v f out) : Kd.R (Kd.int .i64) 3 W w.heap.size (fun _ => True) v out := Kd.R_of_own h.o (fun _ _ => trivial)
def PgPost (w : World) (R : List Int × Bool) (e : Ending) (w' : World) : Prop := ∃ v, e = .returned (.tuple #[v, .bool R.2]) ∧ Kd.R (Kd.int .i64) 3 w' w.heap.size (fun _ => True) v R.1 ∧ Below w.heap.size w w'
theorem PgPost.bad {w W : World} {R : List Int × Bool} (h : R = ([], false)) (hb : Below w.heap.size w W) : PgPost w R (.returned (.tuple #[.slice none 0 0, .bool false])) W := by
  subst h
  exact ⟨_, rfl, Kd.R_nil .., hb⟩
theorem PgPost.good {w W : World} {M : Nat} {v : Value} {f : Int → Bool} {out : List Int} {R : List Int × Bool} (h : R = (out, true)) (ho : OS w W M v f out) : PgPost w R (.returned (.tuple #[v, .bool true])) W := by
  subst h
  exact ⟨_, rfl, ho.ret, ho.b⟩
theorem sp_dec {n : Nat} {p c : Int} : spBad n p c = true ↔ (c < 1 ∨ 40 - (n : Int) < c ∨ p < 0 ∨ 4096 - c < p) := by unfold spBad; simp
set_option maxRecDepth 100000 in
set_option maxHeartbeats 8000000 in
theorem pages_any (w : World) (A : Option Addr) (c : Nat) (l : List SP) (hl : Kd.C k42 w A l.length l) :
    Calls Try.prog 63 #[.slice A l.length c] w (PgPost w (pgs l)) := by
  have hu42 := Try.underlying42
  have HL := Lib.hid hl
  clear hl
  obtain ⟨R, hR⟩ : ∃ R, pgs l = R := ⟨_, rfl⟩
  have hm := Lib.hid (Kd.C_max HL.out)
  by_cases h1 : l.length = 0
  · have H := Lib.hid (show R = ([], false) by rw [← hR]; unfold pgs; rw [if_pos (Or.inl h1)])
    rw [hR]
    clear hR
    have d1 : ((l.length : Int) == 0) = true := by simp [h1]
    go_enter Try.func63, Try.ntmps63
    go_wp2
    go_ret2
    exact PgPost.bad H.out (Below.refl _ _)
  have d1 : ((l.length : Int) == 0) = false := beq_eq_false_iff_ne.2 (by omega)
  by_cases h2 : 8 < l.length
  · have H := Lib.hid (show R = ([], false) by rw [← hR]; unfold pgs; rw [if_pos (Or.inr h2)])
    rw [hR]
    clear hR
    have d2 : decide ((8 : Int) < l.length) = true := decide_eq_true (by omega)
    go_enter Try.func63, Try.ntmps63
    go_wp2
    go_ret2
    exact PgPost.bad H.out (Below.refl _ _)
  have d2 : decide ((8 : Int) < l.length) = false := decide_eq_false (by omega)
  have H0 := Lib.hid (show R = pgGo (fun _ => false) [] (l.drop 0) by rw [← hR]; unfold pgs; rw [if_neg (by omega)]; rfl)
  rw [hR]
  clear hR
  have S0 := Lib.hid (show OS w (w.alloc (.map #[] 0)) w.heap.size (.slice none 0 0) (fun _ => false) [] from ⟨set_made w, World.ownsRow_nil .., bel_alloc (Below.refl _ _) _⟩)
  have hmm := @run_makeMap Try.prog
  go_enter Try.func63, Try.ntmps63
  go_wp2
  go_loopw [2, 19] (fun v i wr => ∃ (q : Nat) (f : Int → Bool) (out : List Int) (Av : Option Addr) (no cv : Nat), q ≤ l.length ∧ v = .slice Av no cv ∧ i = .int .i64 q ∧ no ≤ 40 ∧ Hid (out.length = no) ∧ Hid (OS w wr w.heap.size v f out) ∧ Hid (R = pgGo f out (l.drop q))) (fun _ i _ => l.length - (intOf i).toNat)
  case atStart => exact ⟨0, _, [], none, 0, 0, Nat.zero_le _, rfl, rfl, by simp, Lib.hid rfl, S0, H0⟩
  case round =>
    clear S0 H0
    obtain ⟨wo, rfl⟩ : ∃ wo : World, wo = wr := ⟨_, rfl⟩
    obtain ⟨q, f, out, Av, no, cv, hq, rfl, rfl, ho, Hno, HO, HR⟩ := hrel
    by_cases hlt : q < l.length
    · obtain ⟨ad, e0, c0, c1⟩ := at_T42 (Kd.C_below HL.out HO.out.b) (q : Int) (by omega) (by omega)
      cases e0
      rw [Int.toNat_natCast] at c0 c1
      have hstep := Lib.hid (HR.out.trans (pgGo_drop hlt f out))
      obtain ⟨a, ha⟩ : ∃ a, (rd_T42 l q).f0 = a := ⟨_, rfl⟩
      obtain ⟨b, hb⟩ : ∃ b, (rd_T42 l q).f1 = b := ⟨_, rfl⟩
      rw [ha, hb] at hstep
      rw [ha] at c0
      rw [hb] at c1
      clear ha hb HR
      rw [Hno.out] at hstep
      have OA := Lib.hid (HO.out.below (bel_alloc (Below.refl _ _) (.cells #[.int .i64 a, .int .i64 b] 42)))
      have KA := Lib.hid (blk_new wo (.cells #[.int .i64 a, .int .i64 b] 42))
      have BADS : Hid (spBad no a b = true → R = ([], false)) := Lib.hid (fun h => by rw [hstep.out, if_pos (Or.inl h)])
      by_cases g0 : b < 1
      · have H := Lib.hid (BADS.out (sp_dec.2 (Or.inl g0)))
        have t0 := decide_eq_true g0
        go_wp2
        go_ret2
        exact PgPost.bad H.out OA.out.b
      have t0 := decide_eq_false g0
      have hw1 : IntKind.i64.wrap (40 - (no : Int)) = 40 - (no : Int) := IntWalk.i64_in _ (by omega)
      by_cases g1 : 40 - (no : Int) < b
      · have H := Lib.hid (BADS.out (sp_dec.2 (Or.inr (Or.inl g1))))
        have t1 := decide_eq_true g1
        go_wp2
        go_ret2
        exact PgPost.bad H.out OA.out.b
      have t1 := decide_eq_false g1
      by_cases g2 : a < 0
      · have H := Lib.hid (BADS.out (sp_dec.2 (Or.inr (Or.inr (Or.inl g2)))))
        have t2 := decide_eq_true g2
        go_wp2
        go_ret2
        exact PgPost.bad H.out OA.out.b
      have t2 := decide_eq_false g2
      have hw2 : IntKind.i64.wrap (4096 - b) = 4096 - b := IntWalk.i64_in _ (by omega)
      by_cases g3 : 4096 - b < a
      · have H := Lib.hid (BADS.out (sp_dec.2 (Or.inr (Or.inr (Or.inr g3)))))
        have t3 := decide_eq_true g3
        go_wp2
        go_ret2
        exact PgPost.bad H.out OA.out.b
      have t3 := decide_eq_false g3
      have hgood := Lib.hid (show spBad no a b = false by rw [← Bool.not_eq_true, sp_dec]; omega)
      obtain ⟨n, hn⟩ : ∃ n : Nat, b = n := ⟨b.toNat, by omega⟩
      subst hn
      clear hw1 hw2 BADS
      go_wp2
      have H00 : Hid (OS w (wo.alloc (.cells #[.int .i64 a, .int .i64 n] 42)) w.heap.size (.slice Av no cv) (addR f a 0) (out ++ spanTo a 0)) := Lib.hid (by rw [addR_zero]; simpa [spanTo] using OA.out)
      clear OA c0 c1 d1 d2 t0 t1 t2 t3 g0
      go_loopw [2, 49] (fun v i wi => ∃ (k : Nat) (Av : Option Addr) (cv : Nat), k ≤ n ∧ v = .slice Av (no + k) cv ∧ i = .int .i64 k ∧ Hid (OS w wi w.heap.size (.slice Av (no + k) cv) (addR f a k) (out ++ spanTo a k)) ∧ Hid (wi.heap[wo.heap.size]? = some (.cells #[.int .i64 a, .int .i64 n] 42 (0, 0))) ∧ Hid (frR f a k = true)) (fun _ i _ => n - (intOf i).toNat)
      case atStart => exact ⟨0, Av, cv, Nat.zero_le _, rfl, rfl, H00, KA, Lib.hid rfl⟩
      case round =>
        clear H00 KA
        obtain ⟨k, Av, cv, hk, rfl, rfl, HI, HK, HF⟩ := hrel
        obtain ⟨c0, c1⟩ := cells2 HK.out
        by_cases hkn : k < n
        · have hw3 : IntKind.i64.wrap (a + k) = a + k := IntWalk.i64_in _ (by omega)
          have hwf := Lib.hid (wf_in (a := a + k) (by omega))
          have L := HI.out.s.look hwf.out
          obtain ⟨x, hx⟩ : ∃ x, f (a + k) = x := ⟨_, rfl⟩
          rw [addR_at, hx] at L
          have Hx := Lib.hid hx
          clear hx
          cases x with
          | true =>
            have H := Lib.hid (show R = ([], false) by rw [hstep.out, if_pos (Or.inr (by rw [Int.toNat_natCast]; exact frR_hit Hx.out hkn))])
            go_wp2
            go_ret2
            exact PgPost.bad H.out HI.out.b
          | false =>
            have hlen := Lib.hid (show (out ++ spanTo a k).length = no + k by rw [List.length_append, spanTo_len, Hno.out])
            have HS := Lib.hid HI.out.s
            go_wp2_with (first
              | (at_mapUpdate; refine wp_put rfl (.tmp 58) (.tmp 62) (.const (.bool true)) rfl HS.out (by rw [hlen.out]; omega) (a + k) true rfl rfl rfl hwf.out ?_; intro w3 S3 k3; have HS3 := Lib.hid S3; have HO3 := Lib.hid (own_set HI.out.s HI.out.o k3); have HK3 := Lib.hid (k3.blk HK.out (fun e => set_ne HI.out.s HK.out e.symm)); have HB3 := Lib.hid (k3.below HI.out.b HI.out.b.size (fun j hj => by omega)); clear S3 k3 L c0 c1; obtain ⟨c0, c1⟩ := cells2 HK3.out)
              | (at_builtin; refine print_append_num w.heap.size rfl (.tmp 63) (.tmp 68) 56 3 .i64 8 rfl Try.underlying56 infoI (by decide) (.slice Av (no + k) cv) (out ++ spanTo a k) (a + k) rfl rfl HO3.out HB3.out HB3.out.size (by rw [hlen.out]; omega) ?_; intro v4 w4 ho4 hb4 hg4 hat4; have HG4 := Lib.hid hg4; have HO4 := Lib.hid ho4; have HB4 := Lib.hid hb4; clear ho4 hb4 hg4 hat4)
              | fail)
            clear HB3 HI HK
            obtain ⟨A4, c4, rfl⟩ := own_form HO4.out
            have hl4 : (out ++ spanTo a k ++ [a + k]).length = no + (k + 1) := by rw [List.length_append, hlen.out]; rfl
            have hs4 : out ++ spanTo a k ++ [a + (k : Int)] = out ++ spanTo a (k + 1) := by simp [spanTo]
            have HOS : Hid (OS w w4 w.heap.size (.slice A4 (no + (k + 1)) c4) (addR f a (k + 1)) (out ++ spanTo a (k + 1))) := by
              have q1 := set_own HS3.out HO3.out HG4.out
              have q2 := HO4.out
              rw [hs4] at hl4 q2
              rw [addR_succ] at q1
              refine Lib.hid ⟨?_, ?_, HB4.out⟩
              · rw [hl4]; exact q1.mono (by rw [hlen.out]; omega)
              · rw [hl4] at q2 ⊢; exact q2
            have HKK := Lib.hid (blk_own HK3.out HO3.out (by decide) HG4.out)
            have HFF := Lib.hid (show frR f a (k + 1) = true by unfold frR; rw [HF.out, Hx.out]; rfl)
            rw [hl4]
            clear hs4 hl4 HO4 HG4 HS3 HO3 HK3 hw3 c0 c1
            go_wp2
            go_roundw
            case rel => exact ⟨k + 1, A4, c4, by omega, by go_num, by go_num, HOS, HKK, HFF⟩
            case measure => simp [intOf]; omega
        · have : k = n := by omega
          subst this
          have hst := Lib.hid (show R = pgGo (addR f a k) (out ++ spanTo a k) (l.drop (q + 1)) by rw [hstep.out, if_neg (by rw [hgood.out, Int.toNat_natCast, HF.out]; simp), Int.toNat_natCast])
          have hlen := Lib.hid (show (out ++ spanTo a k).length = no + k by rw [List.length_append, spanTo_len, Hno.out])
          clear hstep c0 c1
          go_wp2
          go_roundw
          case rel => exact ⟨q + 1, addR f a k, out ++ spanTo a k, Av, no + k, cv, by omega, rfl, by go_num, by omega, hlen, HI, hst⟩
          case measure => simp [intOf]; omega
    · have : q = l.length := by omega
      subst this
      have H := Lib.hid (show R = (out, true) by rw [HR.out]; simp [pgGo])
      go_wp2
      go_ret2
      exact PgPost.good H.out HO.out
end Go.Proofs.Ytdpjpmlajjfpgaa.Deal
/- Which spans may be: the reference's answer, walked. -/
namespace Go.Proofs.Ytdpjpmlajjfpgaa.Deal
open Go.RowKit Go.Proofs.Ytdpjpmlajjfpgaa.Mem Go.Proofs.Ytdpjpmlajjfpgaa.Kept Go.Proofs.Ytdpjpmlajjfpgaa.MapV Go.Proofs.Ytdpjpmlajjfpgaa.Own Go.Proofs.Ytdpjpmlajjfpgaa.PDealK
open Go.Proofs.YtdpjpmlajjfpgaaW.PrintWords hiding add_at blk_alloc blk_below blk_cell blk_drewN blk_far blk_lt blk_new blk_set
set_option linter.unusedVariables false
set_option linter.unusedSimpArgs false
def msBad (p c : Int) : Bool := decide (c < 1) || (decide (40 < c) || (decide (p < 0) || decide (4096 ≤ p)))
theorem ms_dec {p c : Int} : msBad p c = true ↔ (c < 1 ∨ 40 < c ∨ p < 0 ∨ 4096 ≤ p) := by unfold msBad; simp
def msGo : (Int → Bool) → Nat → List SP → Bool
  | _, n, [] => decide (n ≤ 40)
  | f, n, s :: t => !msBad s.f0 s.f1 && (decide (s.f0 + s.f1 ≤ 4096) && frR f s.f0 s.f1.toNat) && msGo (addR f s.f0 s.f1.toNat) (n + s.f1.toNat) t
/-- Whether spans may be, as the reference has it. -/
def msB (l : List SP) : Bool := decide (1 ≤ l.length) && decide (l.length ≤ 8) && msGo (fun _ => false) 0 l
theorem msGo_drop {l : List SP} {k : Nat} (hk : k < l.length) (f : Int → Bool) (n : Nat) :
    msGo f n (l.drop k) = (!msBad (rd_T42 l k).f0 (rd_T42 l k).f1 && (decide ((rd_T42 l k).f0 + (rd_T42 l k).f1 ≤ 4096) && frR f (rd_T42 l k).f0 (rd_T42 l k).f1.toNat) && msGo (addR f (rd_T42 l k).f0 (rd_T42 l k).f1.toNat) (n + (rd_T42 l k).f1.toNat) (l.drop (k + 1))) := by
  have e : rd_T42 l k = l[k] := by unfold rd_T42; simp [List.getD_eq_getElem?_getD, List.getElem?_eq_getElem hk]
  rw [List.drop_eq_getElem_cons hk, e]
  rfl
/-- A set as a map. -/
def setF (f : Int → Bool) : Int → Option Value := fun k => if f k = true then some (.bool true) else none
theorem setF_at (f : Int → Bool) (k : Int) : (setF f k).getD (.bool false) = .bool (f k) := by unfold setF; cases f k <;> rfl
theorem setF_some (f : Int → Bool) (k : Int) : (setF f k).isSome = f k := by unfold setF; cases f k <;> rfl
theorem setF_put (f : Int → Bool) (k : Int) : upd (setF f) k (some (.bool true)) = setF (fun j => if j = k then true else f j) := by
  funext j
  unfold upd setF
  by_cases e : j = k
  · simp [e]
  · simp [e]
abbrev SM (w : World) (b n : Nat) (f : Int → Bool) : Prop := MapIs w 3 .i64 b n (setF f)
theorem sm_look {w : World} {b n : Nat} {f : Int → Bool} (h : SM w b n f) {k : Int} (hk : (Lit.int .i64 k).wf = true) : (Instr.lookup 110 (.map (some b)) (.int .i64 k) false).run Try.prog w = .ok (.bool (f k)) w := by
  have := h.look (mt := 110) Try.underlying3 Try.underlying110 (z := .bool false) (fun w => by kernel_rfl) hk
  rwa [setF_at] at this
theorem sm_put {w : World} {b n : Nat} {f : Int → Bool} (h : SM w b n f) (hn : n < 1000000) {k : Int} (hk : (Lit.int .i64 k).wf = true) (hf : f k = false) :
    ∃ w', (Instr.mapUpdate 110 (.map (some b)) (.int .i64 k) (.bool true)).run Try.prog w = .ok () w' ∧ SM w' b (n + 1) (fun j => if j = k then true else f j) ∧ Kept w w' (fun j => j = b) := by
  obtain ⟨w', h1, h2, h3⟩ := h.put (mt := 110) Try.underlying3 Try.underlying110 hn hk (.bool true)
  rw [setF_some, hf, setF_put] at h2
  exact ⟨w', h1, h2, h3⟩
theorem sm_len {w : World} {b n : Nat} {f : Int → Bool} (h : SM w b n f) (ty : TypeId) : (Builtin.len_ #[110] ty #[.map (some b)]).run Try.prog w = .ok (.int .i64 n) w := MapIs.len Try.underlying110 h ty
set_option maxRecDepth 100000 in
set_option maxHeartbeats 8000000 in
theorem maySpans_any (w : World) (A : Option Addr) (c : Nat) (l : List SP) (hl : Kd.C k42 w A l.length l) :
    Calls Try.prog 49 #[.slice A l.length c] w fun e w' => e = .returned (.bool (msB l)) ∧ Below w.heap.size w w' := by
  have hu42 := Try.underlying42
  have HL := Lib.hid hl
  clear hl
  obtain ⟨R, hR⟩ : ∃ R, msB l = R := ⟨_, rfl⟩
  by_cases h1 : l.length < 1
  · have H := Lib.hid (show R = false by rw [← hR]; unfold msB; rw [decide_eq_false (show ¬ 1 ≤ l.length by omega)]; rfl)
    rw [hR]
    clear hR
    have d1 : decide ((l.length : Int) < 1) = true := decide_eq_true (by omega)
    go_enter Try.func49, Try.ntmps49
    go_wp2
    go_ret
    exact ⟨ret_b H.out.symm, Below.refl _ _⟩
  have d1 : decide ((l.length : Int) < 1) = false := decide_eq_false (by omega)
  by_cases h2 : 8 < l.length
  · have H := Lib.hid (show R = false by rw [← hR]; unfold msB; rw [decide_eq_false (show ¬ l.length ≤ 8 by omega), Bool.and_false]; rfl)
    rw [hR]
    clear hR
    have d2 : decide ((8 : Int) < l.length) = true := decide_eq_true (by omega)
    go_enter Try.func49, Try.ntmps49
    go_wp2
    go_ret
    exact ⟨ret_b H.out.symm, Below.refl _ _⟩
  have d2 : decide ((8 : Int) < l.length) = false := decide_eq_false (by omega)
  have H0 := Lib.hid (show R = msGo (fun _ => false) 0 (l.drop 0) by rw [← hR]; unfold msB; rw [decide_eq_true (show 1 ≤ l.length by omega), decide_eq_true (show l.length ≤ 8 by omega)]; rfl)
  rw [hR]
  clear hR
  have S0 := Lib.hid (show SM (w.alloc (.map #[] 0)) w.heap.size 0 (fun _ => false) from map_made w _ _)
  have B0 := Lib.hid (bel_alloc (Below.refl w.heap.size w) (.map #[] 0))
  have hmm := @run_makeMap Try.prog
  go_enter Try.func49, Try.ntmps49
  go_wp2
  go_loopw [4] (fun i wr => ∃ (q : Nat) (f : Int → Bool) (n : Nat), q ≤ l.length ∧ i = .int .i64 q ∧ n ≤ 40 * q ∧ Hid (SM wr w.heap.size n f) ∧ Hid (R = msGo f n (l.drop q)) ∧ Hid (Below w.heap.size w wr)) (fun i _ => l.length - (intOf i).toNat)
  case atStart => exact ⟨0, _, 0, Nat.zero_le _, rfl, by simp, S0, H0, B0⟩
  case round =>
    clear S0 H0 B0
    obtain ⟨wo, rfl⟩ : ∃ wo : World, wo = wr := ⟨_, rfl⟩
    obtain ⟨q, f, n, hq, rfl, hn, HS, HR, HB⟩ := hrel
    by_cases hlt : q < l.length
    · obtain ⟨ad, e0, c0, c1⟩ := at_T42 (Kd.C_below HL.out HB.out) (q : Int) (by omega) (by omega)
      cases e0
      rw [Int.toNat_natCast] at c0 c1
      have hstep := Lib.hid (HR.out.trans (msGo_drop hlt f n))
      have HL' := Lib.hid (fun W (hb : Below w.heap.size w W) => at_T42 (Kd.C_below HL.out hb) (q : Int) (by omega) (by omega))
      obtain ⟨a, ha⟩ : ∃ a, (rd_T42 l q).f0 = a := ⟨_, rfl⟩
      obtain ⟨b, hb⟩ : ∃ b, (rd_T42 l q).f1 = b := ⟨_, rfl⟩
      rw [ha, hb] at hstep HL'
      rw [ha] at c0
      rw [hb] at c1
      clear ha hb HR
      have BADS : Hid (msBad a b = true → R = false) := Lib.hid (fun h => by rw [hstep.out, h]; rfl)
      by_cases g0 : b < 1
      · have H := Lib.hid (BADS.out (ms_dec.2 (Or.inl g0)))
        have t0 := decide_eq_true g0
        go_wp2
        go_ret
        exact ⟨ret_b H.out.symm, HB.out⟩
      have t0 := decide_eq_false g0
      by_cases g1 : 40 < b
      · have H := Lib.hid (BADS.out (ms_dec.2 (Or.inr (Or.inl g1))))
        have t1 := decide_eq_true g1
        go_wp2
        go_ret
        exact ⟨ret_b H.out.symm, HB.out⟩
      have t1 := decide_eq_false g1
      by_cases g2 : a < 0
      · have H := Lib.hid (BADS.out (ms_dec.2 (Or.inr (Or.inr (Or.inl g2)))))
        have t2 := decide_eq_true g2
        go_wp2
        go_ret
        exact ⟨ret_b H.out.symm, HB.out⟩
      have t2 := decide_eq_false g2
      by_cases g3 : 4096 ≤ a
      · have H := Lib.hid (BADS.out (ms_dec.2 (Or.inr (Or.inr (Or.inr g3)))))
        have t3 := decide_eq_true g3
        go_wp2
        go_ret
        exact ⟨ret_b H.out.symm, HB.out⟩
      have t3 := decide_eq_false g3
      have hgood := Lib.hid (show msBad a b = false by rw [← Bool.not_eq_true, ms_dec]; omega)
      obtain ⟨m, hm⟩ : ∃ m : Nat, b = m := ⟨b.toNat, by omega⟩
      subst hm
      clear BADS
      go_wp2
      have H00 : Hid (SM wo w.heap.size (n + 0) (addR f a 0)) := Lib.hid (by rw [addR_zero]; exact HS.out)
      clear c0 c1 d1 d2 t0 t1 t2 t3 g0
      go_loopw [5] (fun i wi => ∃ (k : Nat), k ≤ m ∧ i = .int .i64 k ∧ Hid (SM wi w.heap.size (n + k) (addR f a k)) ∧ Hid (Below w.heap.size w wi) ∧ Hid (frR f a k = true) ∧ Hid (a + k ≤ 4096)) (fun i _ => m - (intOf i).toNat)
      case atStart => exact ⟨0, Nat.zero_le _, rfl, H00, HB, Lib.hid rfl, Lib.hid (by omega)⟩
      case round =>
        clear H00 HB HS
        obtain ⟨k, hk, rfl, HI, HB, HF, HP⟩ := hrel
        obtain ⟨ad', e0, c0, c1⟩ := HL'.out _ HB.out
        cases e0
        rw [Int.toNat_natCast] at c0 c1
        by_cases hkn : k < m
        · have hw3 : IntKind.i64.wrap (a + k) = a + k := IntWalk.i64_in _ (by omega)
          by_cases g5 : 4096 ≤ a + k
          · have t5 := decide_eq_true g5
            have H := Lib.hid (show R = false by rw [hstep.out, decide_eq_false (show ¬ a + (m : Int) ≤ 4096 by omega)]; simp)
            go_wp2
            go_ret
            exact ⟨ret_b H.out.symm, HB.out⟩
          have t5 := decide_eq_false g5
          have hwf := Lib.hid (wf_in (a := a + k) (by omega))
          have L := sm_look HI.out hwf.out
          obtain ⟨x, hx⟩ : ∃ x, f (a + k) = x := ⟨_, rfl⟩
          rw [addR_at, hx] at L
          have Hx := Lib.hid hx
          clear hx
          cases x with
          | true =>
            have H := Lib.hid (show R = false by rw [hstep.out, Int.toNat_natCast, frR_hit Hx.out hkn]; simp)
            go_wp2
            go_ret
            exact ⟨ret_b H.out.symm, HB.out⟩
          | false =>
            obtain ⟨w3, hrun, S3, k3⟩ := sm_put HI.out (by omega) hwf.out (by rw [addR_at]; exact Hx.out)
            rw [addR_succ] at S3
            have HS3 := Lib.hid S3
            have HB3 := Lib.hid (k3.below HB.out HB.out.size (fun j hj => by omega))
            have HFF := Lib.hid (show frR f a (k + 1) = true by unfold frR; rw [HF.out, Hx.out]; rfl)
            have HPP := Lib.hid (show a + ((k + 1 : Nat) : Int) ≤ 4096 by omega)
            clear S3 k3 HI HF
            go_wp2
            go_roundw
            case rel => exact ⟨k + 1, by omega, by go_num, HS3, HB3, HFF, HPP⟩
            case measure => simp [intOf]; omega
        · have : k = m := by omega
          subst this
          have hst := Lib.hid (show R = msGo (addR f a k) (n + k) (l.drop (q + 1)) by rw [hstep.out, hgood.out, Int.toNat_natCast, HF.out, decide_eq_true HP.out]; rfl)
          clear hstep
          go_wp2
          go_roundw
          case rel => exact ⟨q + 1, addR f a k, n + k, by omega, by go_num, by omega, HI, hst, HB⟩
          case measure => simp [intOf]; omega
    · have : q = l.length := by omega
      subst this
      have H := Lib.hid (show decide (n ≤ 40) = R by rw [HR.out]; simp [msGo])
      have L := sm_len HS.out 3
      have t6 : decide ((n : Int) ≤ 40) = R := by rw [← H.out]; simp; omega
      go_wp2
      go_ret
      exact ⟨rfl, HB.out⟩
end Go.Proofs.Ytdpjpmlajjfpgaa.Deal
