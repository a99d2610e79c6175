/- Small laws on worlds: all blocks but some stay as they were; bytes that read as a list. -/
import Derived.Test.YtdpjpmlajjfpgaaMem
import Derived.Test.YtdpjpmlajjfpgaaCells
import Derived.Test.YtdpjpmlajjfpgaaWWords
import Derived.OwnWalk
import Derived.Laws.CopyOwn
import Derived.Laws.OwnMore
namespace Go.Proofs.Ytdpjpmlajjfpgaa.Kept
open Go.RowKit Go.Proofs.Ytdpjpmlajjfpgaa.Mem
open Go.Proofs.YtdpjpmlajjfpgaaW.PrintWords (nums ReadsInt own_reads' string_of_reads)
set_option linter.unusedVariables false

/-- All blocks but those of S stay as they were. -/
structure Kept (w w' : World) (S : Nat → Prop) : Prop where
  os : w'.os = w.os
  tape : w'.tape = w.tape
  output : w'.output = w.output
  size : w.heap.size ≤ w'.heap.size
  block : ∀ k, k < w.heap.size → ¬ S k → w'.heap[k]? = w.heap[k]?
theorem Kept.below {w0 w w' : World} {S : Nat → Prop} {B : Nat} (h : Kept w w' S) (hb : Below B w0 w) (hB : B ≤ w.heap.size) (hS : ∀ k, S k → B ≤ k) : Below B w0 w' :=
  ⟨h.os.trans hb.os, h.tape.trans hb.tape, h.output.trans hb.output, Nat.le_trans hb.size h.size, fun k hk => (h.block k (by omega) (fun hs => by have := hS k hs; omega)).trans (hb.block k hk)⟩
theorem Kept.blk {w w' : World} {S : Nat → Prop} {g : Nat} {o : Obj} (h : Kept w w' S) (hg : w.heap[g]? = some o) (hS : ¬ S g) : w'.heap[g]? = some o :=
  (h.block g (blk_lt hg) hS).trans hg
theorem kept_grown {w w' : World} {S : Nat → Prop} {row : Option Nat} (h : w.grownBy w' row) (hS : ∀ k, row = some k → S k) : Kept w w' S :=
  ⟨h.os, h.tape, h.output, h.size, fun k hk hs => h.block k hk (fun e => hs (hS k e.symm))⟩
theorem kept_set {w w' : World} {S : Nat → Prop} (h : Kept w w' S) {g : Nat} (hg : S g) (j : Nat) (u : Value) : Kept w (w'.setCell ⟨g, j, none⟩ u) S := by
  refine ⟨h.os, h.tape, h.output, by simpa [World.setCell] using h.size, fun k hk hs => ?_⟩
  rw [← h.block k hk hs]
  simp only [World.setCell, Array.getElem?_modify]
  rw [if_neg (fun e => hs (by rw [← e]; exact hg))]
theorem kept_setRow {w w' : World} {S : Nat → Prop} (h : Kept w w' S) {g : Nat} (hg : S g) (cs : Array Value) : Kept w (w'.setRow g cs) S :=
  ⟨h.os, h.tape, h.output, by simpa using h.size, fun k hk hs => by rw [setRow_other w' g k cs (fun e => hs (by rw [e]; exact hg))]; exact h.block k hk hs⟩
theorem kept_below {w w' : World} {S : Nat → Prop} (h : Below w.heap.size w w') : Kept w w' S := ⟨h.os, h.tape, h.output, h.size, fun k hk _ => h.block k hk⟩
theorem kept_trans {w w1 w2 : World} {S : Nat → Prop} (h : Kept w w1 S) (k : Kept w1 w2 S) : Kept w w2 S :=
  ⟨k.os.trans h.os, k.tape.trans h.tape, k.output.trans h.output, Nat.le_trans h.size k.size, fun b hb hs => (k.block b (Nat.lt_of_lt_of_le hb h.size) hs).trans (h.block b hb hs)⟩
theorem kept_drewN {w w' : World} {S : Nat → Prop} (h : Kept w w' S) (n : Nat) : Kept w (w'.drewN n) S := ⟨h.os, h.tape, h.output, h.size, h.block⟩
theorem kept_refl (w : World) (S : Nat → Prop) : Kept w w S := ⟨rfl, rfl, rfl, Nat.le_refl _, fun _ _ _ => rfl⟩
theorem kept_wide {w w' : World} {S S' : Nat → Prop} (h : Kept w w' S) (hs : ∀ k, S k → S' k) : Kept w w' S' := ⟨h.os, h.tape, h.output, h.size, fun k hk hn => h.block k hk (fun e => hn (hs k e))⟩
theorem bel_none {B : Nat} {w0 w w' : World} (h : Below B w0 w) (hB : B ≤ w.heap.size) (hg : w.grownBy w' none) : Below B w0 w' :=
  h.grown hg hB (fun k hk => by cases hk)
theorem cell_below {w w' : World} {b o : Nat} {v : Value} (h : w.cell? ⟨b, o, none⟩ = some v) (hb : Below w.heap.size w w') : w'.cell? ⟨b, o, none⟩ = some v := by
  rw [hb.cell (p := ⟨b, o, none⟩) (World.block_lt_of_cell? w _ h)]; exact h
theorem add_at (g o j : Nat) : (⟨g, o, none⟩ : Addr).add j = ⟨g, o + j, none⟩ := by unfold Addr.add; split <;> simp_all
theorem reads_mid {w : World} {b o n k m : Nat} {L : List Int} (h : ReadsInt w .u8 (some ⟨b, o, none⟩) n L) (hm : k + m ≤ n) : ReadsInt w .u8 (some ⟨b, o + k, none⟩) m ((L.drop k).take m) := by
  refine ⟨by rw [List.length_take, List.length_drop]; have := h.1; omega, by have := h.2.1; omega, fun h0 => ?_⟩
  obtain ⟨ad, e, hc⟩ := h.2.2 (by omega)
  injection e with e
  subst e
  refine ⟨_, rfl, fun j hj => ?_⟩
  have := hc (k + j) (by omega)
  rw [add_at] at this ⊢
  rw [Nat.add_assoc, this, List.getD_eq_getElem?_getD, List.getD_eq_getElem?_getD, List.getElem?_take, if_pos hj, List.getElem?_drop]
theorem reads_cell {w : World} {b o n j : Nat} {L : List Int} (h : ReadsInt w .u8 (some ⟨b, o, none⟩) n L) (hj : j < n) : w.cell? ⟨b, o + j, none⟩ = some (.int .u8 (L.getD j 0)) := by
  obtain ⟨ad, e, hc⟩ := h.2.2 (by omega)
  injection e with e
  subst e
  have := hc j hj
  rwa [add_at] at this
/-- A block of bytes. -/
theorem reads_blk {w : World} {b : Nat} {t : TypeId} {F : List Int} (h : w.heap[b]? = some (.cells (nums .u8 F).toArray t (0, 0))) (hl : F.length ≤ 9223372036854775807) : ReadsInt w .u8 (some ⟨b, 0, none⟩) F.length F := by
  refine ⟨rfl, hl, fun _ => ⟨_, rfl, fun j hj => ?_⟩⟩
  rw [add_at, blk_cell h, Nat.zero_add]
  simp [nums, List.getD_eq_getElem?_getD, List.getElem?_eq_getElem hj]
theorem reads_part {w : World} {b : Nat} {t : TypeId} {F : List Int} (h : w.heap[b]? = some (.cells (nums .u8 F).toArray t (0, 0))) {o m : Nat} (hm : o + m ≤ F.length) (hl : F.length ≤ 9223372036854775807) : ReadsInt w .u8 (some ⟨b, o, none⟩) m ((F.drop o).take m) := by
  have := reads_mid (reads_blk h hl) hm
  rwa [Nat.zero_add] at this
theorem nums_splice (F l : List Int) (o : Nat) : nums .u8 (splice F o l) = splice (nums .u8 F) o (nums .u8 l) := by simp [nums, splice]
theorem splice_len {F l : List Int} {o : Nat} (h : o + l.length ≤ F.length) : (splice F o l).length = F.length := by simp [splice]; omega
/-- A place that lies in what was made since. -/
def Fresh (B : Nat) (A : Option Addr) : Prop := ∀ ad, A = some ad → B ≤ ad.block
theorem own_fresh {w : World} {B n c : Nat} {e : TypeId} {size : Nat} {A : Option Addr} {xs : List Value} (h : w.ownsRow B e size (.slice A n c) n xs) : Fresh B A := by
  rcases h.2 with ⟨h1, _⟩ | ⟨g, cap, cur, h1, hb, _⟩
  · injection h1 with h1; subst h1; intro ad h; cases h
  · injection h1 with h1; subst h1; intro ad h; cases h; exact hb
theorem reads_kept {w w' : World} {S : Nat → Prop} {B n : Nat} {A : Option Addr} {L : List Int} (h : ReadsInt w .u8 A n L) (hf : Fresh B A) (hk : Kept w w' S) (hS : ∀ k, S k → k < B) : ReadsInt w' .u8 A n L := by
  refine ⟨h.1, h.2.1, fun h0 => ?_⟩
  obtain ⟨ad, e, hc⟩ := h.2.2 h0
  refine ⟨ad, e, fun j hj => ?_⟩
  have hcj := hc j hj
  have hlt := World.block_lt_of_cell? w _ hcj
  have hbl : (ad.add j).block = ad.block := by unfold Addr.add; split <;> rfl
  rw [← hcj]
  refine World.cell?_of_block (hk.block _ hlt (fun hs => ?_))
  have := hS _ hs
  have := hf ad e
  rw [hbl] at *
  omega
/-- A row of noughts, made. -/
theorem make_b {P : Program} {ops : Array Oper} {rest : List Oper} {o : Oper} {a : Act} {Q : Exit → Act → World → Prop} {t : TypeId} (ht : P.underlying t = some (.slice 5)) (hinfo : (P.info? 5).map (fun i => (i.zero, i.size, i.bytes)) = some (some (.int .u8 0), 1, 1)) (W : World) (hgd : o.guard = none) (x y : Operand)
    (ho : o.op = .makeSlice t x y) (z : Int) (n : Nat) (hx : a.eval x = .int .i64 z) (hy : a.eval y = .int .i64 z) (hz : z = (n : Int)) (hn : n ≤ 1000)
    (h : ∀ w1, ReadsInt w1 .u8 (some ⟨W.heap.size, 0, none⟩) n (List.replicate n 0) → Below W.heap.size W w1 → wpList P ops Q rest (a.put o.dst (.slice (some ⟨W.heap.size, 0, none⟩) n n)) w1) :
    wpList P ops Q (o :: rest) a W := by
  obtain ⟨i0, hi, hz0, hz1, hz2⟩ := info_parts hinfo
  refine wpList_make_full W hgd x y t ho W.heap.size 5 i0 (.int .u8 0) 1 ht hi hz0 hz1 .i64 .i64 z z n hx hy hz hz (by rw [hz2]; omega) (by unfold maxLen; omega) (Nat.le_refl _) ?_
  intro w1 hown hg
  have e : (madeCells (Value.int .u8 0).cells (n * 1)).toList = nums .u8 (List.replicate n 0) := by
    rw [Nat.mul_one, show (Value.int .u8 0).cells = #[.int .u8 0] from rfl, toList_madeCells_one]; simp [nums]
  rw [e] at hown
  exact h w1 (own_reads' hown) ((Below.refl _ _).grown hg (Nat.le_refl _) (fun k hk => by cases hk))
end Go.Proofs.Ytdpjpmlajjfpgaa.Kept
