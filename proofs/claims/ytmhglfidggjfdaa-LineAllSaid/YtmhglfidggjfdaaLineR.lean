/- The reference's lines while they are made: three rows of one's own, and blocks that stay as they are. -/
import Derived.Test.YtmhglfidggjfdaaLineD
import Derived.Test.YtmhglfidggjfdaaWWords
import Derived.Test.YtmhglfidggjfdaaWLast
import Derived.Test.YtmhglfidggjfdaaWTab
import Derived.Deep.AppendLies
namespace Go.Proofs.Ytmhglfidggjfdaa.Line
open Go.RowKit Go.Proofs.Ytmhglfidggjfdaa.Mem Go.Proofs.Ytmhglfidggjfdaa.Kept
open Go.Proofs.YtmhglfidggjfdaaW.PrintWords (nums)
set_option linter.unusedVariables false
set_option linter.unusedSimpArgs false

theorem own_blk {w : World} {B n : Nat} {t : TypeId} {v : Value} {xs : List Value} (ho : w.ownsRow B t 1 v n xs) {k : Nat} (hk : v.ownBlock = some k) : B ≤ k ∧ k < w.heap.size ∧ ∃ cs, w.heap[k]? = some (.cells cs t (0, 0)) := by
  rcases ho.2 with ⟨h, _⟩ | ⟨g, cap, cur, he, hb, hg, _⟩
  · rw [h] at hk; simp [Value.ownBlock] at hk
  · rw [he] at hk
    have : g = k := by simpa [Value.ownBlock] using hk
    subst this
    exact ⟨hb, blk_lt hg, cur, hg⟩
theorem own_kept {w w' : World} {S : Nat → Prop} {B n : Nat} {t : TypeId} {v : Value} {xs : List Value} (h : Kept w w' S) (ho : w.ownsRow B t 1 v n xs) (hS : ∀ k, v.ownBlock = some k → ¬ S k) : w'.ownsRow B t 1 v n xs := by
  refine ⟨ho.1, ho.2.imp id ?_⟩
  rintro ⟨g, cap, cur, he, hb, hg, h1, h2, h3, h4⟩
  refine ⟨g, cap, cur, he, hb, ?_, h1, h2, h3, h4⟩
  exact h.blk hg (hS g (by rw [he]; simp [Value.ownBlock]))
theorem own_apart {w : World} {B n n' : Nat} {t t' : TypeId} {v v' : Value} {xs xs' : List Value} (ho : w.ownsRow B t 1 v n xs) (ho' : w.ownsRow B t' 1 v' n' xs') (hne : t ≠ t') {k : Nat} (hk : v.ownBlock = some k) : v'.ownBlock ≠ some k := by
  intro hk'
  obtain ⟨_, _, cs, h1⟩ := own_blk ho hk
  obtain ⟨_, _, cs', h2⟩ := own_blk ho' hk'
  rw [h1] at h2
  injection h2 with h2
  injection h2 with _ h2
  exact hne h2
/-- Three rows of one's own, and blocks that stay. -/
structure Pg (W0 w : World) (v0 : Value) (x0 : List Value) (v1 : Value) (x1 : List Value) (v2 : Value) (x2 : List Value) (K : List (Nat × Obj)) : Prop where
  o0 : w.ownsRow W0.heap.size 69 1 v0 x0.length x0
  o1 : w.ownsRow W0.heap.size 4 1 v1 x1.length x1
  o2 : w.ownsRow W0.heap.size 5 1 v2 x2.length x2
  kk : ∀ p ∈ K, w.heap[p.1]? = some p.2 ∧ W0.heap.size ≤ p.1 ∧ v0.ownBlock ≠ some p.1 ∧ v1.ownBlock ≠ some p.1 ∧ v2.ownBlock ≠ some p.1
  bl : Below W0.heap.size W0 w
variable {W0 w w' : World} {v0 v1 v2 v' : Value} {x0 x1 x2 : List Value} {K : List (Nat × Obj)}
theorem Pg.drew (h : Pg W0 w v0 x0 v1 x1 v2 x2 K) : Pg W0 w.drew v0 x0 v1 x1 v2 x2 K := ⟨h.o0, h.o1, h.o2, h.kk, bel_drew h.bl⟩
theorem Pg.drewN (h : Pg W0 w v0 x0 v1 x1 v2 x2 K) (n : Nat) : Pg W0 (w.drewN n) v0 x0 v1 x1 v2 x2 K := ⟨h.o0, h.o1, h.o2, h.kk, bel_drewN h.bl n⟩
theorem Pg.less (h : Pg W0 w v0 x0 v1 x1 v2 x2 K) {K' : List (Nat × Obj)} (hK : ∀ p ∈ K', p ∈ K) : Pg W0 w v0 x0 v1 x1 v2 x2 K' := ⟨h.o0, h.o1, h.o2, fun p hp => h.kk p (hK p hp), h.bl⟩
theorem Pg.lt (h : Pg W0 w v0 x0 v1 x1 v2 x2 K) {p : Nat × Obj} (hp : p ∈ K) : p.1 < w.heap.size := blk_lt (h.kk p hp).1
theorem Pg.alloc (h : Pg W0 w v0 x0 v1 x1 v2 x2 K) (o : Obj) : Pg W0 (w.alloc o) v0 x0 v1 x1 v2 x2 ((w.heap.size, o) :: K) := by
  have hb : Below w.heap.size w (w.alloc o) := bel_alloc (Below.refl _ _) o
  have hk : Kept w (w.alloc o) (fun _ => False) := kept_below hb
  refine ⟨own_kept hk h.o0 (fun _ _ h => h), own_kept hk h.o1 (fun _ _ h => h), own_kept hk h.o2 (fun _ _ h => h), fun p hp => ?_, bel_chain h.bl hb⟩
  rcases List.mem_cons.1 hp with rfl | hp
  · refine ⟨blk_new w o, h.bl.size, fun e => ?_, fun e => ?_, fun e => ?_⟩
    · have := (own_blk h.o0 e).2.1; exact Nat.lt_irrefl _ this
    · have := (own_blk h.o1 e).2.1; exact Nat.lt_irrefl _ this
    · have := (own_blk h.o2 e).2.1; exact Nat.lt_irrefl _ this
  · obtain ⟨h1, h2⟩ := h.kk p hp
    exact ⟨blk_alloc h1 o, h2⟩
theorem fresh_blk {g : Nat} {n cap : Nat} (hp : Pg W0 w v0 x0 v1 x1 v2 x2 K) {p : Nat × Obj} (hpK : p ∈ K) {v : Value} (hv : v.ownBlock ≠ some p.1) (hat : v.ownBlock = some g ∨ g = w.heap.size) : (Value.slice (some ⟨g, 0, none⟩) n cap).ownBlock ≠ some p.1 := by
  intro e
  have : g = p.1 := by simpa [Value.ownBlock] using e
  subst this
  rcases hat with h | h
  · exact hv h
  · have := hp.lt hpK; omega
theorem grown_K {row : Option Nat} (hg : w.grownBy w' row) {p : Nat × Obj} (h : w.heap[p.1]? = some p.2) (hne : row ≠ some p.1) : w'.heap[p.1]? = some p.2 :=
  (hg.block _ (blk_lt h) (fun e => hne e.symm)).trans h
theorem kept_row (hg : w.grownBy w' v0.ownBlock) : Kept w w' (fun k => v0.ownBlock = some k) := kept_grown hg (fun _ h => h)
theorem Pg.app0 (h : Pg W0 w v0 x0 v1 x1 v2 x2 K) {y : Value} {g cap : Nat} (hown : w'.ownsRow W0.heap.size 69 1 (.slice (some ⟨g, 0, none⟩) (x0.length + 1) cap) (x0.length + 1) (x0 ++ [y])) (hg : w.grownBy w' v0.ownBlock) (hat : v0.ownBlock = some g ∨ g = w.heap.size) :
    Pg W0 w' (.slice (some ⟨g, 0, none⟩) (x0.length + 1) cap) (x0 ++ [y]) v1 x1 v2 x2 K := by
  refine ⟨by rw [List.length_append]; exact hown, own_kept (kept_row hg) h.o1 (fun k hk => own_apart h.o1 h.o0 (by decide) hk), own_kept (kept_row hg) h.o2 (fun k hk => own_apart h.o2 h.o0 (by decide) hk), fun p hp => ?_, ?_⟩
  · obtain ⟨h1, h2, h3, h4, h5⟩ := h.kk p hp
    exact ⟨grown_K hg h1 h3, h2, fresh_blk h hp h3 hat, h4, h5⟩
  · exact h.bl.grown hg h.bl.size (fun k hk => (own_blk h.o0 hk).1)
theorem Pg.app1 (h : Pg W0 w v0 x0 v1 x1 v2 x2 K) {y : Value} {g cap : Nat} (hown : w'.ownsRow W0.heap.size 4 1 (.slice (some ⟨g, 0, none⟩) (x1.length + 1) cap) (x1.length + 1) (x1 ++ [y])) (hg : w.grownBy w' v1.ownBlock) (hat : v1.ownBlock = some g ∨ g = w.heap.size) :
    Pg W0 w' v0 x0 (.slice (some ⟨g, 0, none⟩) (x1.length + 1) cap) (x1 ++ [y]) v2 x2 K := by
  refine ⟨own_kept (kept_row hg) h.o0 (fun k hk => own_apart h.o0 h.o1 (by decide) hk), by rw [List.length_append]; exact hown, own_kept (kept_row hg) h.o2 (fun k hk => own_apart h.o2 h.o1 (by decide) hk), fun p hp => ?_, ?_⟩
  · obtain ⟨h1, h2, h3, h4, h5⟩ := h.kk p hp
    exact ⟨grown_K hg h1 h4, h2, h3, fresh_blk h hp h4 hat, h5⟩
  · exact h.bl.grown hg h.bl.size (fun k hk => (own_blk h.o1 hk).1)
theorem Pg.app2 (h : Pg W0 w v0 x0 v1 x1 v2 x2 K) {y : Value} {g cap : Nat} (hown : w'.ownsRow W0.heap.size 5 1 (.slice (some ⟨g, 0, none⟩) (x2.length + 1) cap) (x2.length + 1) (x2 ++ [y])) (hg : w.grownBy w' v2.ownBlock) (hat : v2.ownBlock = some g ∨ g = w.heap.size) :
    Pg W0 w' v0 x0 v1 x1 (.slice (some ⟨g, 0, none⟩) (x2.length + 1) cap) (x2 ++ [y]) K := by
  refine ⟨own_kept (kept_row hg) h.o0 (fun k hk => own_apart h.o0 h.o2 (by decide) hk), own_kept (kept_row hg) h.o1 (fun k hk => own_apart h.o1 h.o2 (by decide) hk), by rw [List.length_append]; exact hown, fun p hp => ?_, ?_⟩
  · obtain ⟨h1, h2, h3, h4, h5⟩ := h.kk p hp
    exact ⟨grown_K hg h1 h5, h2, h3, h4, fresh_blk h hp h5 hat⟩
  · exact h.bl.grown hg h.bl.size (fun k hk => (own_blk h.o2 hk).1)
section
variable {ops : Array Oper} {o : Oper} {a : Act} {Kc : Act → World → Prop} {Q : Exit → Act → World → Prop} {E : Prop}
theorem info69 : (Try.prog.info? 69).map (fun i => (i.zero, i.size, i.bytes)) = some (some (.slice none 0 0), 1, 24) := by kernel_rfl
theorem info4 : (Try.prog.info? 4).map (fun i => (i.zero, i.size, i.bytes)) = some (some (.bool false), 1, 1) := by kernel_rfl
theorem info5 : (Try.prog.info? 5).map (fun i => (i.zero, i.size, i.bytes)) = some (some (.int .u8 0), 1, 1) := by kernel_rfl
theorem under68 : Try.prog.underlying 68 = some (.slice 69) := by kernel_rfl
theorem under69 : Try.prog.underlying 69 = some (.slice 4) := by kernel_rfl
theorem under38 : Try.prog.underlying 38 = some (.slice 5) := by kernel_rfl
theorem app0_ (hp : Pg W0 w v0 x0 v1 x1 v2 x2 K) {q : Nat} {y : Value} (hq : (q, Obj.cells #[y] 69 (0, 0)) ∈ K) (hlen : x0.length ≤ 3) (hy : y.oneCell' = true) (hgd : o.guard = none) (s x : Operand) (ho : o.op = .call { callee := .builtin .append, args := #[s, x], argTypes := #[68, 68] })
    (hs : a.eval s = v0) (hx : a.eval x = .slice (some ⟨q, 0, none⟩) 1 1)
    (h : ∀ g cap w', Pg W0 w' (.slice (some ⟨g, 0, none⟩) (x0.length + 1) cap) (x0 ++ [y]) v1 x1 v2 x2 K → Kc (a.put o.dst (.slice (some ⟨g, 0, none⟩) (x0.length + 1) cap)) w') : if Region.wanted o (yielded ops a.tmps) = true then Oper.wp Try.prog o a w Kc Q else E := by
  obtain ⟨i0, hi, hz0, hz1, hz2⟩ := info_parts info69
  exact step_append_lies w hgd s x 68 ho W0.heap.size 69 i0 _ 1 24 under68 hi hz0 hz1 hz2 rfl (by omega) v0 x0.length x0 hs hp.o0 ⟨q, 0, none⟩ 1 1 [y] hx (by simp) (World.news_of_block (hp.kk _ hq).1) (by simpa using hy) (by omega) (by unfold maxLen; omega) (by omega) hp.bl.size w.heap.size rfl
    (fun g cap w' h1 h2 h3 _ => h g cap w' (hp.app0 h1 h2 h3))
theorem app1_ (hp : Pg W0 w v0 x0 v1 x1 v2 x2 K) {q : Nat} {y : Value} (hq : (q, Obj.cells #[y] 4 (0, 0)) ∈ K) (hlen : x1.length ≤ 3) (hy : y.oneCell' = true) (hgd : o.guard = none) (s x : Operand) (ho : o.op = .call { callee := .builtin .append, args := #[s, x], argTypes := #[69, 69] })
    (hs : a.eval s = v1) (hx : a.eval x = .slice (some ⟨q, 0, none⟩) 1 1)
    (h : ∀ g cap w', Pg W0 w' v0 x0 (.slice (some ⟨g, 0, none⟩) (x1.length + 1) cap) (x1 ++ [y]) v2 x2 K → Kc (a.put o.dst (.slice (some ⟨g, 0, none⟩) (x1.length + 1) cap)) w') : if Region.wanted o (yielded ops a.tmps) = true then Oper.wp Try.prog o a w Kc Q else E := by
  obtain ⟨i0, hi, hz0, hz1, hz2⟩ := info_parts info4
  exact step_append_lies w hgd s x 69 ho W0.heap.size 4 i0 _ 1 1 under69 hi hz0 hz1 hz2 rfl (by omega) v1 x1.length x1 hs hp.o1 ⟨q, 0, none⟩ 1 1 [y] hx (by simp) (World.news_of_block (hp.kk _ hq).1) (by simpa using hy) (by omega) (by unfold maxLen; omega) (by omega) hp.bl.size w.heap.size rfl
    (fun g cap w' h1 h2 h3 _ => h g cap w' (hp.app1 h1 h2 h3))
theorem app2_ (hp : Pg W0 w v0 x0 v1 x1 v2 x2 K) {q : Nat} {y : Value} (hq : (q, Obj.cells #[y] 5 (0, 0)) ∈ K) (hlen : x2.length ≤ 3) (hy : y.oneCell' = true) (hgd : o.guard = none) (s x : Operand) (ho : o.op = .call { callee := .builtin .append, args := #[s, x], argTypes := #[38, 38] })
    (hs : a.eval s = v2) (hx : a.eval x = .slice (some ⟨q, 0, none⟩) 1 1)
    (h : ∀ g cap w', Pg W0 w' v0 x0 v1 x1 (.slice (some ⟨g, 0, none⟩) (x2.length + 1) cap) (x2 ++ [y]) K → Kc (a.put o.dst (.slice (some ⟨g, 0, none⟩) (x2.length + 1) cap)) w') : if Region.wanted o (yielded ops a.tmps) = true then Oper.wp Try.prog o a w Kc Q else E := by
  obtain ⟨i0, hi, hz0, hz1, hz2⟩ := info_parts info5
  exact step_append_lies w hgd s x 38 ho W0.heap.size 5 i0 _ 1 1 under38 hi hz0 hz1 hz2 rfl (by omega) v2 x2.length x2 hs hp.o2 ⟨q, 0, none⟩ 1 1 [y] hx (by simp) (World.news_of_block (hp.kk _ hq).1) (by simpa using hy) (by omega) (by unfold maxLen; omega) (by omega) hp.bl.size w.heap.size rfl
    (fun g cap w' h1 h2 h3 _ => h g cap w' (hp.app2 h1 h2 h3))
end
theorem made4 : madeCells (Value.bool false).cells (4 * 1) = #[.bool false, .bool false, .bool false, .bool false] := by kernel_rfl
theorem run_make4 (w : World) : (Instr.makeSlice 69 (.int .i64 4) (.int .i64 4)).run Try.prog w = .ok (.slice (some ⟨w.heap.size, 0, none⟩) 4 4) (w.alloc (.cells #[.bool false, .bool false, .bool false, .bool false] 4)) := by
  obtain ⟨i0, hi, hz0, hz1, hz2⟩ := info_parts info4
  have hr := run_make (P := Try.prog) w 69 4 i0 _ under69 hi hz0 .i64 .i64 4 4 (by omega) (by omega) (by rw [hz2]; omega) (by omega)
  rw [hz1] at hr
  exact hr.trans (by rw [show (4 : Int).toNat = 4 from rfl, made4])
end Go.Proofs.Ytmhglfidggjfdaa.Line
