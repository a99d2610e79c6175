/- Bills as bytes: bill.Take walked. -/
import Derived.Test.YtmhglfidggjfdaaBillPut
import Derived.ScopeJumps
import Derived.StillTailTactics
import Derived.Deep.QuietTactic
import Derived.BigQuiet
import Derived.Deep.RegionHeld3
namespace Go.Proofs.Ytmhglfidggjfdaa.Bill
open Go Go.RowKit Go.Proofs.Ytmhglfidggjfdaa.Kept Go.Proofs.Ytmhglfidggjfdaa.PBillBack Go.Proofs.YtmhglfidggjfdaaW.PrintWords
set_option linter.unusedVariables false
set_option linter.unusedSimpArgs false

theorem wp_scope_back {P : Program} {Q : Exit → Act → World → Prop} {a : Act} {w : World} {c rest : Code} (l : Nat) (J : Act → World → Prop) (μ : Act → World → Nat) (hf : findLabel c l = some (Code.skip.seq rest))
    (pass : ∀ a w, J a w → rest.wp P (Exit.jump l (fun a' w' => J a' w' ∧ μ a' w' < μ a w) Q) a w)
    (first : (∀ a w, J a w → rest.wp P (Exit.jump l J Q) a w) → c.wp P (Exit.jump l J Q) a w) : (Code.scope c).wp P Q a w :=
  wp_scope_jumps l J μ hf (first fun a w hJ => Code.wp_mono (fun e a w hq => by
    cases e with
    | goto l' => exact ⟨hq.1, hq.2.1⟩
    | _ => exact hq) (pass a w hJ)) fun a w hJ => wp_seq (wp_skip (pass a w hJ))
theorem wp_scope_fwd {P : Program} {Q : Exit → Act → World → Prop} {a : Act} {w : World} {c rest : Code} (l : Nat) (hf : findLabel c l = some rest) (h : c.wp P (Exit.jump l (fun a w => rest.wp P (Exit.noGoto Q) a w) Q) a w) : (Code.scope c).wp P Q a w :=
  wp_scope_jumps l (fun a w => rest.wp P (Exit.noGoto Q) a w) (fun _ _ => 0) hf h (fun a w hJ => Code.wp_mono (fun e a w hq => by cases e <;> first | exact hq | exact hq.elim) hJ)
theorem add_pos (a : Addr) (n : Nat) (h : n ≠ 0) : a.add n = ⟨a.block, a.off + n, none⟩ := by unfold Addr.add; simp [h]
/-- One bit of a byte; the number of four bytes; the part of eight bytes; the parts of bytes. -/
def shO (x : Int) : Nat → Int
  | 0 => x
  | 1 => x / 2
  | 2 => x / 4
  | 3 => x / 8
  | _ => x / 16
def bitO (x : Int) (i : Nat) : Bool := Go.bits .and .u8 (shO x i) 1 == 1
def idO (r : List Int) : Int := Go.bits .or .u32 (Go.bits .or .u32 (Go.bits .or .u32 (rd r 1 * 16777216) (rd r 2 * 65536)) (rd r 3 * 256)) (rd r 4)
def partO (r : List Int) : S60 := ⟨bitO (rd r 0) 0, bitO (rd r 0) 1, bitO (rd r 0) 2, bitO (rd r 0) 3, bitO (rd r 0) 4, idO r, rd r 5, rd r 6, rd r 7⟩
def partJ (r : List Int) (j : Nat) : S60 := ⟨decide (0 < j) && bitO (rd r 0) 0, decide (1 < j) && bitO (rd r 0) 1, decide (2 < j) && bitO (rd r 0) 2, decide (3 < j) && bitO (rd r 0) 3, decide (4 < j) && bitO (rd r 0) 4, idO r, rd r 5, rd r 6, rd r 7⟩
theorem partJ_5 (r : List Int) : partJ r 5 = partO r := by simp [partJ, partO]
def partsO : Nat → List Int → List S60
  | 0, _ => []
  | m + 1, r => if 8 ≤ r.length then partO r :: partsO m (r.drop 8) else []
def billL (b : List Int) : List S60 := partsO (rd b 6).toNat (b.drop 7)
def takeB (b : List Int) : Int × Int × Int × Int × List S60 × Int :=
  if 7 ≤ b.length ∧ putB (rd b 2) (rd b 3) (rd b 4) (rd b 5) (billL b) = b then (rd b 2, rd b 3, rd b 4, rd b 5, billL b, 0) else (0, 0, 0, 0, [], -2)
def TakePost (w : World) (r : Int × Int × Int × Int × List S60 × Int) (e : Ending) (w' : World) : Prop :=
  ∃ v, e = .returned (.tuple #[.agg #[.int .i64 r.1, .int .i64 r.2.1, .int .i64 r.2.2.1, .int .i64 r.2.2.2.1, v], .int .i64 r.2.2.2.2.2]) ∧ Kd.R k60 60 w' w.heap.size (fun _ => True) v r.2.2.2.2.1 ∧ Below w.heap.size w w'
theorem parts_more {m : Nat} {r : List Int} (hm : 0 < m) (h : 8 ≤ r.length) : partsO m r = partO r :: partsO (m - 1) (r.drop 8) := by
  obtain ⟨m, rfl⟩ : ∃ n, m = n + 1 := ⟨m - 1, by omega⟩
  show (if 8 ≤ r.length then _ else _) = _
  rw [if_pos h]; rfl
theorem parts_end {m : Nat} {r : List Int} (h : m = 0 ∨ r.length < 8) : partsO m r = [] := by
  rcases m with _ | m
  · rfl
  · show (if 8 ≤ r.length then _ else _) = _
    rw [if_neg (by omega)]
theorem byte_rd {b : List Int} (hb : ∀ x ∈ b, 0 ≤ x ∧ x ≤ 255) (i : Int) : 0 ≤ rd b i ∧ rd b i ≤ 255 := by
  unfold rd
  rw [List.getD_eq_getElem?_getD]
  by_cases h : i.toNat < b.length
  · rw [List.getElem?_eq_getElem h]; exact hb _ (List.getElem_mem h)
  · rw [List.getElem?_eq_none (by omega)]; simp
theorem rd_drop {b : List Int} (k : Nat) (i : Nat) : rd (b.drop k) i = rd b ((k + i : Nat) : Int) := by
  unfold rd; rw [Int.toNat_natCast, Int.toNat_natCast]; simp [List.getD_eq_getElem?_getD]
theorem bits_u32 (a b : Int) : 0 ≤ Go.bits .or .u32 a b ∧ Go.bits .or .u32 a b ≤ 4294967295 := by
  unfold Go.bits
  simp only [IntKind.wrap_u32]
  omega
theorem bK_in (p : S60) : 0 ≤ bK p 5 ∧ bK p 5 ≤ 255 := by
  have h : ∀ b0 b1 b2 b3 b4 : Bool, 0 ≤ bB b0 b1 b2 b3 b4 5 ∧ bB b0 b1 b2 b3 b4 5 ≤ 255 := by decide
  exact h _ _ _ _ _
theorem putB_bytes (F T S C : Int) {l : List S60} (hw : WfL l) : ∀ x ∈ putB F T S C l, 0 ≤ x ∧ x ≤ 255 := by
  unfold putB
  split
  · rename_i h
    simp only [Bool.and_eq_true, hdB, List.all_eq_true, fitP] at h
    obtain ⟨⟨⟨⟨⟨h1, h2⟩, h3⟩, h4⟩, h5⟩, h6⟩ := h
    have h1 := byB_in h1
    have h2 := byB_in h2
    have h3 := byB_in h3
    have h4 := byB_in h4
    have h5 := byB_in h5
    intro x hx
    rcases List.mem_append.1 hx with hx | hx
    · simp only [headL, List.mem_cons, List.not_mem_nil, or_false] at hx
      omega
    · obtain ⟨p, hp, hx⟩ := List.mem_flatMap.1 hx
      obtain ⟨⟨g1, g2⟩, g3⟩ := h6 p hp
      have g1 := byB_in g1
      have g2 := byB_in g2
      have g3 := byB_in g3
      have hb := bK_in p
      have hwp := hw p hp
      simp only [rowP, List.mem_cons, List.not_mem_nil, or_false] at hx
      rcases hx with rfl | rfl | rfl | rfl | rfl | rfl | rfl | rfl <;> omega
  · intro x hx; cases hx
/-- What stands at the label. -/
structure TS (w wr : World) (g : Nat) (b : List Int) (pv : Value) (RA : Option Addr) (rn rc k : Nat) (L : List S60) : Prop where
  bel : Below w.heap.size w wr
  out : wr.heap[g]? = some (.cells #[.int .i64 (rd b 2), .int .i64 (rd b 3), .int .i64 (rd b 4), .int .i64 (rd b 5), pv] 44 (0, 0))
  own : Kd.R k60 60 wr w.heap.size (fun x => x ≠ g) pv L
  rest : Kd.C (Kd.int .u8) w RA rn (b.drop (7 + 8 * k))
  num : rn + (7 + 8 * k) = b.length
  room : rn ≤ rc
  len : L.length = k
  le : 7 + 8 * k ≤ b.length
  km : k ≤ (rd b 6).toNat
  sum : L ++ partsO ((rd b 6).toNat - k) (b.drop (7 + 8 * k)) = billL b
  wf : WfL L
theorem take_laid {w w' : World} {nd g rn rc k : Nat} {b : List Int} {pv : Value} {RA : Option Addr} {L : List S60} (T : TS w w' g b pv RA rn rc k L) (p : S60) :
    ((((w'.alloc (.cells #[.bool p.f0, .bool p.f1, .bool p.f2, .bool p.f3, .bool p.f4, .int .u32 p.f5, .int .i64 p.f6, .int .i64 p.f7, .int .i64 p.f8] 60)).drew.alloc (.cells #[.pointer (some ⟨w'.heap.size, 0, none⟩), .pointer (some ⟨w'.heap.size, 1, none⟩), .pointer (some ⟨w'.heap.size, 2, none⟩), .pointer (some ⟨w'.heap.size, 3, none⟩), .pointer (some ⟨w'.heap.size, 4, none⟩)] 79)).drewN nd).heap[w'.heap.size]? = some (.cells #[.bool p.f0, .bool p.f1, .bool p.f2, .bool p.f3, .bool p.f4, .int .u32 p.f5, .int .i64 p.f6, .int .i64 p.f7, .int .i64 p.f8] 60 (0, 0)) ∧ (((w'.alloc (.cells #[.bool p.f0, .bool p.f1, .bool p.f2, .bool p.f3, .bool p.f4, .int .u32 p.f5, .int .i64 p.f6, .int .i64 p.f7, .int .i64 p.f8] 60)).drew.alloc (.cells #[.pointer (some ⟨w'.heap.size, 0, none⟩), .pointer (some ⟨w'.heap.size, 1, none⟩), .pointer (some ⟨w'.heap.size, 2, none⟩), .pointer (some ⟨w'.heap.size, 3, none⟩), .pointer (some ⟨w'.heap.size, 4, none⟩)] 79)).drewN nd).heap[w'.heap.size + 1]? = some (.cells #[.pointer (some ⟨w'.heap.size, 0, none⟩), .pointer (some ⟨w'.heap.size, 1, none⟩), .pointer (some ⟨w'.heap.size, 2, none⟩), .pointer (some ⟨w'.heap.size, 3, none⟩), .pointer (some ⟨w'.heap.size, 4, none⟩)] 79 (0, 0))) ∧ (((w'.alloc (.cells #[.bool p.f0, .bool p.f1, .bool p.f2, .bool p.f3, .bool p.f4, .int .u32 p.f5, .int .i64 p.f6, .int .i64 p.f7, .int .i64 p.f8] 60)).drew.alloc (.cells #[.pointer (some ⟨w'.heap.size, 0, none⟩), .pointer (some ⟨w'.heap.size, 1, none⟩), .pointer (some ⟨w'.heap.size, 2, none⟩), .pointer (some ⟨w'.heap.size, 3, none⟩), .pointer (some ⟨w'.heap.size, 4, none⟩)] 79)).drewN nd).heap[g]? = some (.cells #[.int .i64 (rd b 2), .int .i64 (rd b 3), .int .i64 (rd b 4), .int .i64 (rd b 5), pv] 44 (0, 0)) ∧ Below w.heap.size w (((w'.alloc (.cells #[.bool p.f0, .bool p.f1, .bool p.f2, .bool p.f3, .bool p.f4, .int .u32 p.f5, .int .i64 p.f6, .int .i64 p.f7, .int .i64 p.f8] 60)).drew.alloc (.cells #[.pointer (some ⟨w'.heap.size, 0, none⟩), .pointer (some ⟨w'.heap.size, 1, none⟩), .pointer (some ⟨w'.heap.size, 2, none⟩), .pointer (some ⟨w'.heap.size, 3, none⟩), .pointer (some ⟨w'.heap.size, 4, none⟩)] 79)).drewN nd) ∧
    Kd.R k60 60 (((w'.alloc (.cells #[.bool p.f0, .bool p.f1, .bool p.f2, .bool p.f3, .bool p.f4, .int .u32 p.f5, .int .i64 p.f6, .int .i64 p.f7, .int .i64 p.f8] 60)).drew.alloc (.cells #[.pointer (some ⟨w'.heap.size, 0, none⟩), .pointer (some ⟨w'.heap.size, 1, none⟩), .pointer (some ⟨w'.heap.size, 2, none⟩), .pointer (some ⟨w'.heap.size, 3, none⟩), .pointer (some ⟨w'.heap.size, 4, none⟩)] 79)).drewN nd) w.heap.size (fun x => x ≠ g ∧ x ≠ w'.heap.size) pv L ∧ g < w'.heap.size ∧ w.heap.size ≤ w'.heap.size := by
  have hs : ∀ o : Obj, (w'.alloc o).drew.heap.size = w'.heap.size + 1 := fun o => sz w' o
  refine ⟨⟨Mem.blk_alloc (w := (w'.alloc (.cells #[.bool p.f0, .bool p.f1, .bool p.f2, .bool p.f3, .bool p.f4, .int .u32 p.f5, .int .i64 p.f6, .int .i64 p.f7, .int .i64 p.f8] 60)).drew) (Mem.blk_new w' _) _, ?_⟩, Mem.blk_alloc (w := (w'.alloc (.cells #[.bool p.f0, .bool p.f1, .bool p.f2, .bool p.f3, .bool p.f4, .int .u32 p.f5, .int .i64 p.f6, .int .i64 p.f7, .int .i64 p.f8] 60)).drew) (Mem.blk_alloc T.out _) _, Mem.bel_drewN (Mem.bel_alloc (Mem.bel_drew (Mem.bel_alloc T.bel _)) _) nd,
    Kd.R_drewN (Kd.R_alloc (Kd.R_drew (Kd.R_alloc (Kd.R_mono (Kd.R_bound T.own) (fun x hx => ⟨hx.1, by have := hx.2.2.1; omega⟩)) _)) _) nd, Mem.blk_lt T.out, T.bel.size⟩
  have h := Mem.blk_new (w'.alloc (.cells #[.bool p.f0, .bool p.f1, .bool p.f2, .bool p.f3, .bool p.f4, .int .u32 p.f5, .int .i64 p.f6, .int .i64 p.f7, .int .i64 p.f8] 60)).drew (.cells #[.pointer (some ⟨w'.heap.size, 0, none⟩), .pointer (some ⟨w'.heap.size, 1, none⟩), .pointer (some ⟨w'.heap.size, 2, none⟩), .pointer (some ⟨w'.heap.size, 3, none⟩), .pointer (some ⟨w'.heap.size, 4, none⟩)] 79)
  rw [hs] at h
  exact h
theorem map_u8 {l : List Int} {a b : List Int} (ha : ∀ x ∈ a, 0 ≤ x ∧ x ≤ 255) (hb : ∀ x ∈ b, 0 ≤ x ∧ x ≤ 255) (h : a.map (fun n => UInt8.ofNat n.toNat) = b.map (fun n => UInt8.ofNat n.toNat)) : a = b := by
  induction a generalizing b with
  | nil => cases b with
    | nil => rfl
    | cons y t => simp at h
  | cons x s ih => cases b with
    | nil => simp at h
    | cons y t =>
      simp only [List.map_cons, List.cons.injEq] at h
      have hx := ha x (List.mem_cons_self ..)
      have hy := hb y (List.mem_cons_self ..)
      have h1 := congrArg UInt8.toNat h.1
      simp only [UInt8.toNat_ofNat'] at h1
      rw [ih (fun z hz => ha z (List.mem_cons_of_mem _ hz)) (fun z hz => hb z (List.mem_cons_of_mem _ hz)) h.2]
      congr 1
      omega
theorem str_eq {a b : List Int} (ha : ∀ x ∈ a, 0 ≤ x ∧ x ≤ 255) (hb : ∀ x ∈ b, 0 ≤ x ∧ x ≤ 255) : bytes_Equal.f a b = some (decide (a = b)) := by
  unfold bytes_Equal.f
  congr 1
  by_cases h : a = b
  · subst h; simp
  · rw [decide_eq_false h, beq_eq_false_iff_ne]
    intro e
    rw [ByteArray.toList_eq, ByteArray.toList_eq, strOfNums_data, strOfNums_data] at e
    exact h (map_u8 (l := []) ha hb e)
theorem cutB {w : World} {A : Option Addr} {c : Nat} {xs : List Int} (h : Kd.C (Kd.int .u8) w A xs.length xs) (hc : xs.length ≤ c) (j : Nat) (hj : j ≤ xs.length) :
    ∃ A1, (∀ W, (Instr.slice 38 (.slice A xs.length c) (some (.int .i64 j)) none none).run Try.prog W = .ok (.slice A1 (xs.drop j).length (c - j)) W) ∧ Kd.C (Kd.int .u8) w A1 (xs.drop j).length (xs.drop j) ∧ (xs.drop j).length ≤ c - j := by
  obtain ⟨i5, hi5, hz5, hs5, hy5⟩ := info_parts info5b
  refine ⟨if c = j then A else A.map (·.add (j * 1)), fun W => ?_, Kd.C_drop h hj hc, by rw [List.length_drop]; omega⟩
  have h1 := cut_from (P := Try.prog) 38 5 .i64 Try.underlying38 hi5 1 hs5 A xs.length c (j : Int) (by omega) (by omega) W
  rw [Int.toNat_natCast] at h1
  rw [h1, List.length_drop]
theorem infoP : (Try.prog.info? 60).map (fun i => (i.zero, i.size, i.bytes)) = some (some (.agg #[.bool false, .bool false, .bool false, .bool false, .bool false, .int .u32 0, .int .i64 0, .int .i64 0, .int .i64 0]), 9, 40) := by kernel_rfl
theorem wp_put5 {ops : Array Oper} {rest : List Oper} {o : Oper} {a : Act} {Q : Exit → Act → World → Prop} {W : World} (hN : o.dst = none) (hgd : o.guard = none) (t : TypeId) (p x : Operand) (ho : o.op = .store t p x) {g : Nat} {cs : Array Value} {T : TypeId} (H : W.heap[g]? = some (.cells cs T (0, 0))) (hcs : cs.size = 5)
    {a0 a1 a2 a3 a4 : Value} (haddr : a.eval p = .pointer (some ⟨g, 0, none⟩)) (hx : a.eval x = .agg #[a0, a1, a2, a3, a4]) (ht : (Try.prog.info? t).map (·.size) = some 5) (h1 : ∀ q ∈ [a0, a1, a2, a3, a4], q.oneCell' = true)
    (h : ∀ W', W' = ((((W.setCell ⟨g, 0, none⟩ a0).setCell ⟨g, 1, none⟩ a1).setCell ⟨g, 2, none⟩ a2).setCell ⟨g, 3, none⟩ a3).setCell ⟨g, 4, none⟩ a4 → W'.heap[g]? = some (.cells #[a0, a1, a2, a3, a4] T (0, 0)) → wpList Try.prog ops Q rest a W') : wpList Try.prog ops Q (o :: rest) a W := by
  refine wpList_plain hgd fun K hK => ?_
  have hrun : (Instr.storeAt t (.pointer (some ⟨g, 0, none⟩)) (.agg #[a0, a1, a2, a3, a4])).run Try.prog W = .ok () (W.setCells g 0 [a0, a1, a2, a3, a4]) :=
    run_store_run t (.agg #[a0, a1, a2, a3, a4]) [a0, a1, a2, a3, a4] H rfl ht (by simp; omega) h1
  unfold Oper.wp execOp
  simp only [ho, haddr, hx, Sem.run_bind, Sem.run_pure, Result.andThen_ok, hrun]
  show K (a.put o.dst undef) _
  rw [hN]
  refine hK a _ (h _ rfl ?_)
  have e := Mem.blk_set (Mem.blk_set (Mem.blk_set (Mem.blk_set (Mem.blk_set H 0 a0) 1 a1) 2 a2) 3 a3) 4 a4
  have q : ((((cs.setIfInBounds 0 a0).setIfInBounds 1 a1).setIfInBounds 2 a2).setIfInBounds 3 a3).setIfInBounds 4 a4 = #[a0, a1, a2, a3, a4] := by
    apply Array.ext_getElem?
    intro i
    simp only [Array.getElem?_setIfInBounds, Array.size_setIfInBounds, hcs]
    rcases (show i = 0 ∨ i = 1 ∨ i = 2 ∨ i = 3 ∨ i = 4 ∨ 5 ≤ i by omega) with rfl | rfl | rfl | rfl | rfl | h
    · simp
    · simp
    · simp
    · simp
    · simp
    · rw [if_neg (by omega), if_neg (by omega), if_neg (by omega), if_neg (by omega), if_neg (by omega), Array.getElem?_eq_none (by omega), Array.getElem?_eq_none (by simp; omega)]
  rw [q] at e
  exact e
theorem bel5 {B : Nat} {w W : World} (h : Below B w W) {g : Nat} (hg : B ≤ g) (a0 a1 a2 a3 a4 : Value) : Below B w (((((W.setCell ⟨g, 0, none⟩ a0).setCell ⟨g, 1, none⟩ a1).setCell ⟨g, 2, none⟩ a2).setCell ⟨g, 3, none⟩ a3).setCell ⟨g, 4, none⟩ a4) :=
  ((((h.setCell hg _).setCell hg _).setCell hg _).setCell hg _).setCell hg _
theorem far5 {d : Kd S60} {W : World} {B g : Nat} {ok : Nat → Prop} {v : Value} {xs : List S60} (h : Kd.R d 60 W B ok v xs) (hg : ∀ k, ok k → k ≠ g) (a0 a1 a2 a3 a4 : Value) : Kd.R d 60 (((((W.setCell ⟨g, 0, none⟩ a0).setCell ⟨g, 1, none⟩ a1).setCell ⟨g, 2, none⟩ a2).setCell ⟨g, 3, none⟩ a3).setCell ⟨g, 4, none⟩ a4) B ok v xs :=
  Kd.R_far (Kd.R_far (Kd.R_far (Kd.R_far (Kd.R_far h hg _) hg _) hg _) hg _) hg _
set_option maxRecDepth 100000 in
set_option maxHeartbeats 4000000 in
theorem take_any (w : World) (A : Option Addr) (c : Nat) (b : List Int) (hr : Kd.C (Kd.int .u8) w A b.length b) (hc : b.length ≤ c) (hb : ∀ x ∈ b, 0 ≤ x ∧ x ≤ 255) :
    Calls Try.prog 25 #[.slice A b.length c] w (TakePost w (takeB b)) := by
  have hu44 := Try.underlying44
  have hu60 := Try.underlying60
  have hmax := Kd.C_max hr
  have HR := Lib.hid hr
  have HC := Lib.hid hc
  have HB := Lib.hid hb
  clear hr hc hb
  obtain ⟨r, hrr⟩ : ∃ r, takeB b = r := ⟨_, rfl⟩
  rw [hrr]
  have HRR := Lib.hid hrr
  clear hrr
  by_cases h7 : (b.length : Int) < 7
  · have hd : decide ((b.length : Int) < 7) = true := decide_eq_true h7
    go_enter Try.func25, Try.ntmps25
    go_wp2_with (first
      | ((with_reducible refine gate_dst (N := 2) rfl ?_); refine box_event ?hg (N := 2) ?hd (cs := #[.int .i64 0, .int .i64 0, .int .i64 0, .int .i64 0, .slice none 0 0]) (t := 44) ?hr ?_; (case hd => rfl); (case hg => rfl); (case hr => first | (go_simp; done) | (go_simp; rfl)); intro g hge w1 BK hb1; subst hge)
      | fail)
    refine wp_scope_fwd 0 rfl ?_
    go_wp2
    go_step3
    refine ⟨rfl, ?_⟩
    go_wp2_with (first
      | ((with_reducible refine gate_ (.store 44 (.tmp 2) (.tmp 110)) rfl ?_); refine wp_put5 rfl rfl 44 (.tmp 2) (.tmp 110) rfl BK rfl rfl rfl (by kernel_rfl) (by simp [Value.oneCell']) ?_; intro W2 hW2 BK2)
      | fail)
    (try rw [Exit.noGoto_ret])
    refine bodyPost_ret (results_ct rfl _ _ w.heap.size 44 _ (0, 0) _ rfl BK2 Try.underlying44 rfl (by kernel_rfl)) rfl ?_
    refine ⟨.slice none 0 0, ?_, ?_, ?_⟩
    · rw [← HRR.out]; unfold takeB; rw [if_neg (by omega)]; rfl
    · rw [← HRR.out]; unfold takeB; rw [if_neg (by omega)]; exact Kd.R_nil _ _ _ _ _
    · rw [hW2]; exact bel5 hb1 (Nat.le_refl _) _ _ _ _ _
  · have hd : decide ((b.length : Int) < 7) = false := decide_eq_false h7
    have r2 := byte_rd HB.out 2
    have r3 := byte_rd HB.out 3
    have r4 := byte_rd HB.out 4
    have r5 := byte_rd HB.out 5
    obtain ⟨ad, e2, c2⟩ := Kd.at_int HR.out 2 (by decide) (by omega)
    cases e2
    obtain ⟨_, e3, c3⟩ := Kd.at_int HR.out 3 (by decide) (by omega)
    cases e3
    obtain ⟨_, e4, c4⟩ := Kd.at_int HR.out 4 (by decide) (by omega)
    cases e4
    obtain ⟨_, e5, c5⟩ := Kd.at_int HR.out 5 (by decide) (by omega)
    cases e5
    obtain ⟨_, e6, c6⟩ := Kd.at_int HR.out 6 (by decide) (by omega)
    cases e6
    go_enter Try.func25, Try.ntmps25
    go_wp2_with (first
      | ((with_reducible refine gate_dst (N := 2) rfl ?_); refine box_event ?hg (N := 2) ?hd (cs := #[.int .i64 0, .int .i64 0, .int .i64 0, .int .i64 0, .slice none 0 0]) (t := 44) ?hr ?_; (case hd => rfl); (case hg => rfl); (case hr => first | (go_simp; done) | (go_simp; rfl)); intro g hge w1 BK hb1; subst hge)
      | fail)
    replace c2 : w1.cell? ⟨ad.block, ad.off + 2, none⟩ = some (.int .u8 (rd b 2)) := by rw [← add_pos ad 2 (by decide)]; exact (hb1.cell (World.block_lt_of_cell? w _ c2)).trans c2
    replace c3 : w1.cell? ⟨ad.block, ad.off + 3, none⟩ = some (.int .u8 (rd b 3)) := by rw [← add_pos ad 3 (by decide)]; exact (hb1.cell (World.block_lt_of_cell? w _ c3)).trans c3
    replace c4 : w1.cell? ⟨ad.block, ad.off + 4, none⟩ = some (.int .u8 (rd b 4)) := by rw [← add_pos ad 4 (by decide)]; exact (hb1.cell (World.block_lt_of_cell? w _ c4)).trans c4
    replace c5 : w1.cell? ⟨ad.block, ad.off + 5, none⟩ = some (.int .u8 (rd b 5)) := by rw [← add_pos ad 5 (by decide)]; exact (hb1.cell (World.block_lt_of_cell? w _ c5)).trans c5
    have k0 : (0 : Int) ≤ 2 := by decide
    have k2 : (2 : Int) < (b.length : Int) := by omega
    have k3 : (3 : Int) < (b.length : Int) := by omega
    have k4 : (4 : Int) < (b.length : Int) := by omega
    have k5 : (5 : Int) < (b.length : Int) := by omega
    refine wp_scope_back 1 (fun a' w' => ∃ (k : Nat) (pv : Value) (RA : Option Addr) (rn rc : Nat) (L : List S60), TS w w' w.heap.size b pv RA rn rc k L ∧ ∃ (u1 u6 u7 u8 u9 u10 u11 u12 u13 u14 u15 u16 u17 u18 u19 u20 u21 u22 u23 u24 u25 u26 u27 u28 u29 u30 u31 u32 u33 u34 u35 u36 u37 u38 u39 u40 u41 u42 u43 u44 u45 u46 u47 u48 u49 u50 u51 u52 u53 u54 u55 u56 u57 u58 u59 u60 u61 u62 u63 u64 u65 u66 u67 u68 u69 u70 u71 u72 u73 u74 u75 u76 u77 u78 u79 u80 u81 u82 u83 u84 u85 u86 u87 u88 u89 u90 u91 u92 u93 u94 u95 u96 u97 u98 u99 u100 u101 u102 u103 u104 u105 u106 u107 u108 u109 u110 : Value), a' = { tmps := #[(.slice (some ad) b.length c), u1, .pointer (some ⟨w.heap.size, 0, none⟩), .int .i64 0, .int .i64 k, .slice RA rn rc, u6, u7, u8, u9, u10, u11, u12, u13, u14, u15, u16, u17, u18, u19, u20, u21, u22, u23, u24, u25, u26, u27, u28, u29, u30, u31, u32, u33, u34, u35, u36, u37, u38, u39, u40, u41, u42, u43, u44, u45, u46, u47, u48, u49, u50, u51, u52, u53, u54, u55, u56, u57, u58, u59, u60, u61, u62, u63, u64, u65, u66, u67, u68, u69, u70, u71, u72, u73, u74, u75, u76, u77, u78, u79, u80, u81, u82, u83, u84, u85, u86, u87, u88, u89, u90, u91, u92, u93, u94, u95, u96, u97, u98, u99, u100, u101, u102, u103, u104, u105, u106, u107, u108, u109, u110], defers := [] })
      (fun a' _ => (rd b 6).toNat - (intOf (a'.tmps.getD 4 undef)).toNat) rfl ?_ ?_
    · intro a' w' hJ
      obtain ⟨k, pv, RA, rn, rc, L, T, hJ⟩ := hJ
      obtain ⟨u1, hJ⟩ := hJ
      obtain ⟨u6, hJ⟩ := hJ
      obtain ⟨u7, hJ⟩ := hJ
      obtain ⟨u8, hJ⟩ := hJ
      obtain ⟨u9, hJ⟩ := hJ
      obtain ⟨u10, hJ⟩ := hJ
      obtain ⟨u11, hJ⟩ := hJ
      obtain ⟨u12, hJ⟩ := hJ
      obtain ⟨u13, hJ⟩ := hJ
      obtain ⟨u14, hJ⟩ := hJ
      obtain ⟨u15, hJ⟩ := hJ
      obtain ⟨u16, hJ⟩ := hJ
      obtain ⟨u17, hJ⟩ := hJ
      obtain ⟨u18, hJ⟩ := hJ
      obtain ⟨u19, hJ⟩ := hJ
      obtain ⟨u20, hJ⟩ := hJ
      obtain ⟨u21, hJ⟩ := hJ
      obtain ⟨u22, hJ⟩ := hJ
      obtain ⟨u23, hJ⟩ := hJ
      obtain ⟨u24, hJ⟩ := hJ
      obtain ⟨u25, hJ⟩ := hJ
      obtain ⟨u26, hJ⟩ := hJ
      obtain ⟨u27, hJ⟩ := hJ
      obtain ⟨u28, hJ⟩ := hJ
      obtain ⟨u29, hJ⟩ := hJ
      obtain ⟨u30, hJ⟩ := hJ
      obtain ⟨u31, hJ⟩ := hJ
      obtain ⟨u32, hJ⟩ := hJ
      obtain ⟨u33, hJ⟩ := hJ
      obtain ⟨u34, hJ⟩ := hJ
      obtain ⟨u35, hJ⟩ := hJ
      obtain ⟨u36, hJ⟩ := hJ
      obtain ⟨u37, hJ⟩ := hJ
      obtain ⟨u38, hJ⟩ := hJ
      obtain ⟨u39, hJ⟩ := hJ
      obtain ⟨u40, hJ⟩ := hJ
      obtain ⟨u41, hJ⟩ := hJ
      obtain ⟨u42, hJ⟩ := hJ
      obtain ⟨u43, hJ⟩ := hJ
      obtain ⟨u44, hJ⟩ := hJ
      obtain ⟨u45, hJ⟩ := hJ
      obtain ⟨u46, hJ⟩ := hJ
      obtain ⟨u47, hJ⟩ := hJ
      obtain ⟨u48, hJ⟩ := hJ
      obtain ⟨u49, hJ⟩ := hJ
      obtain ⟨u50, hJ⟩ := hJ
      obtain ⟨u51, hJ⟩ := hJ
      obtain ⟨u52, hJ⟩ := hJ
      obtain ⟨u53, hJ⟩ := hJ
      obtain ⟨u54, hJ⟩ := hJ
      obtain ⟨u55, hJ⟩ := hJ
      obtain ⟨u56, hJ⟩ := hJ
      obtain ⟨u57, hJ⟩ := hJ
      obtain ⟨u58, hJ⟩ := hJ
      obtain ⟨u59, hJ⟩ := hJ
      obtain ⟨u60, hJ⟩ := hJ
      obtain ⟨u61, hJ⟩ := hJ
      obtain ⟨u62, hJ⟩ := hJ
      obtain ⟨u63, hJ⟩ := hJ
      obtain ⟨u64, hJ⟩ := hJ
      obtain ⟨u65, hJ⟩ := hJ
      obtain ⟨u66, hJ⟩ := hJ
      obtain ⟨u67, hJ⟩ := hJ
      obtain ⟨u68, hJ⟩ := hJ
      obtain ⟨u69, hJ⟩ := hJ
      obtain ⟨u70, hJ⟩ := hJ
      obtain ⟨u71, hJ⟩ := hJ
      obtain ⟨u72, hJ⟩ := hJ
      obtain ⟨u73, hJ⟩ := hJ
      obtain ⟨u74, hJ⟩ := hJ
      obtain ⟨u75, hJ⟩ := hJ
      obtain ⟨u76, hJ⟩ := hJ
      obtain ⟨u77, hJ⟩ := hJ
      obtain ⟨u78, hJ⟩ := hJ
      obtain ⟨u79, hJ⟩ := hJ
      obtain ⟨u80, hJ⟩ := hJ
      obtain ⟨u81, hJ⟩ := hJ
      obtain ⟨u82, hJ⟩ := hJ
      obtain ⟨u83, hJ⟩ := hJ
      obtain ⟨u84, hJ⟩ := hJ
      obtain ⟨u85, hJ⟩ := hJ
      obtain ⟨u86, hJ⟩ := hJ
      obtain ⟨u87, hJ⟩ := hJ
      obtain ⟨u88, hJ⟩ := hJ
      obtain ⟨u89, hJ⟩ := hJ
      obtain ⟨u90, hJ⟩ := hJ
      obtain ⟨u91, hJ⟩ := hJ
      obtain ⟨u92, hJ⟩ := hJ
      obtain ⟨u93, hJ⟩ := hJ
      obtain ⟨u94, hJ⟩ := hJ
      obtain ⟨u95, hJ⟩ := hJ
      obtain ⟨u96, hJ⟩ := hJ
      obtain ⟨u97, hJ⟩ := hJ
      obtain ⟨u98, hJ⟩ := hJ
      obtain ⟨u99, hJ⟩ := hJ
      obtain ⟨u100, hJ⟩ := hJ
      obtain ⟨u101, hJ⟩ := hJ
      obtain ⟨u102, hJ⟩ := hJ
      obtain ⟨u103, hJ⟩ := hJ
      obtain ⟨u104, hJ⟩ := hJ
      obtain ⟨u105, hJ⟩ := hJ
      obtain ⟨u106, hJ⟩ := hJ
      obtain ⟨u107, hJ⟩ := hJ
      obtain ⟨u108, hJ⟩ := hJ
      obtain ⟨u109, hJ⟩ := hJ
      obtain ⟨u110, hJ⟩ := hJ
      subst hJ
      clear c2 c3 c4 c5 k0 k2 k3 k4 k5 BK hb1
      have hr6 := byte_rd HB.out 6
      have hkm := T.km
      have hnum := T.num
      replace c6 : w'.cell? ⟨ad.block, ad.off + 6, none⟩ = some (.int .u8 (rd b 6)) := by rw [← add_pos ad 6 (by decide)]; exact (T.bel.cell (World.block_lt_of_cell? w _ c6)).trans c6
      have x6 : IntKind.i64.wrap (rd b 6) = rd b 6 := IntWalk.i64_in _ (by omega)
      have HT := Lib.hid T
      clear T
      by_cases hcnd : (k : Int) < rd b 6 ∧ 8 ≤ rn
      · obtain ⟨q1, q2⟩ := hcnd
        have d1 : decide ((k : Int) < rd b 6) = true := decide_eq_true q1
        have d2 : decide ((rn : Int) < 8) = false := decide_eq_false (by omega)
        have d3 : decide (8 ≤ (rn : Int)) = true := decide_eq_true (by omega)
        obtain ⟨rl, hrl⟩ : ∃ r, b.drop (7 + 8 * k) = r := ⟨_, rfl⟩
        have hbl : ∀ x ∈ rl, 0 ≤ x ∧ x ≤ 255 := fun x hx => HB.out x (by rw [← hrl] at hx; exact List.mem_of_mem_drop hx)
        have HRL := Lib.hid hrl
        have hrest := HT.out.rest
        rw [hrl] at hrest
        have hBel := HT.out.bel
        have y0 := byte_rd hbl 0
        obtain ⟨bd, e0, z0⟩ := Kd.at_int hrest 0 (by decide) (by omega)
        cases e0
        have Z0 := Lib.hid (And.intro (show w.cell? bd = some (.int .u8 (rd rl 0)) from z0) (World.block_lt_of_cell? w _ z0))
        replace z0 : w'.cell? bd = some (.int .u8 (rd rl 0)) := (hBel.cell (World.block_lt_of_cell? w _ z0)).trans z0
        have y1 := byte_rd hbl 1
        obtain ⟨_, e1, z1⟩ := Kd.at_int hrest 1 (by decide) (by omega)
        cases e1
        replace z1 : w'.cell? ⟨bd.block, bd.off + 1, none⟩ = some (.int .u8 (rd rl 1)) := by rw [← add_pos bd 1 (by decide)]; exact (hBel.cell (World.block_lt_of_cell? w _ z1)).trans z1
        have y2 := byte_rd hbl 2
        obtain ⟨_, e2, z2⟩ := Kd.at_int hrest 2 (by decide) (by omega)
        cases e2
        replace z2 : w'.cell? ⟨bd.block, bd.off + 2, none⟩ = some (.int .u8 (rd rl 2)) := by rw [← add_pos bd 2 (by decide)]; exact (hBel.cell (World.block_lt_of_cell? w _ z2)).trans z2
        have y3 := byte_rd hbl 3
        obtain ⟨_, e3, z3⟩ := Kd.at_int hrest 3 (by decide) (by omega)
        cases e3
        replace z3 : w'.cell? ⟨bd.block, bd.off + 3, none⟩ = some (.int .u8 (rd rl 3)) := by rw [← add_pos bd 3 (by decide)]; exact (hBel.cell (World.block_lt_of_cell? w _ z3)).trans z3
        have y4 := byte_rd hbl 4
        obtain ⟨_, e4, z4⟩ := Kd.at_int hrest 4 (by decide) (by omega)
        cases e4
        replace z4 : w'.cell? ⟨bd.block, bd.off + 4, none⟩ = some (.int .u8 (rd rl 4)) := by rw [← add_pos bd 4 (by decide)]; exact (hBel.cell (World.block_lt_of_cell? w _ z4)).trans z4
        have y5 := byte_rd hbl 5
        obtain ⟨_, e5, z5⟩ := Kd.at_int hrest 5 (by decide) (by omega)
        cases e5
        replace z5 : w'.cell? ⟨bd.block, bd.off + 5, none⟩ = some (.int .u8 (rd rl 5)) := by rw [← add_pos bd 5 (by decide)]; exact (hBel.cell (World.block_lt_of_cell? w _ z5)).trans z5
        have y6 := byte_rd hbl 6
        obtain ⟨_, e6, z6⟩ := Kd.at_int hrest 6 (by decide) (by omega)
        cases e6
        replace z6 : w'.cell? ⟨bd.block, bd.off + 6, none⟩ = some (.int .u8 (rd rl 6)) := by rw [← add_pos bd 6 (by decide)]; exact (hBel.cell (World.block_lt_of_cell? w _ z6)).trans z6
        have y7 := byte_rd hbl 7
        obtain ⟨_, e7, z7⟩ := Kd.at_int hrest 7 (by decide) (by omega)
        cases e7
        replace z7 : w'.cell? ⟨bd.block, bd.off + 7, none⟩ = some (.int .u8 (rd rl 7)) := by rw [← add_pos bd 7 (by decide)]; exact (hBel.cell (World.block_lt_of_cell? w _ z7)).trans z7
        have u1_ : IntKind.u32.wrap (rd rl 1) = rd rl 1 := IntWalk.u32_in _ (by omega)
        have u2_ : IntKind.u32.wrap (rd rl 2) = rd rl 2 := IntWalk.u32_in _ (by omega)
        have u3_ : IntKind.u32.wrap (rd rl 3) = rd rl 3 := IntWalk.u32_in _ (by omega)
        have u4_ : IntKind.u32.wrap (rd rl 4) = rd rl 4 := IntWalk.u32_in _ (by omega)
        have v1_ : IntKind.u32.wrap (rd rl 1 * 16777216) = rd rl 1 * 16777216 := IntWalk.u32_in _ (by omega)
        have v2_ : IntKind.u32.wrap (rd rl 2 * 65536) = rd rl 2 * 65536 := IntWalk.u32_in _ (by omega)
        have v3_ : IntKind.u32.wrap (rd rl 3 * 256) = rd rl 3 * 256 := IntWalk.u32_in _ (by omega)
        have u5_ : IntKind.i64.wrap (rd rl 5) = rd rl 5 := IntWalk.i64_in _ (by omega)
        have u6_ : IntKind.i64.wrap (rd rl 6) = rd rl 6 := IntWalk.i64_in _ (by omega)
        have u7_ : IntKind.i64.wrap (rd rl 7) = rd rl 7 := IntWalk.i64_in _ (by omega)
        have g0_ : (0 : Int) < (rn : Int) := by omega
        have g1_ : (1 : Int) < (rn : Int) := by omega
        have g2_ : (2 : Int) < (rn : Int) := by omega
        have g3_ : (3 : Int) < (rn : Int) := by omega
        have g4_ : (4 : Int) < (rn : Int) := by omega
        have g5_ : (5 : Int) < (rn : Int) := by omega
        have g6_ : (6 : Int) < (rn : Int) := by omega
        have g7_ : (7 : Int) < (rn : Int) := by omega
        clear hrl hbl hrest hBel
        have hc5 := Mem.cells5 HT.out.out
        have n1_ := World.new_ne w' ⟨bd.block, bd.off + 1, none⟩ z1
        have n2_ := World.new_ne w' ⟨bd.block, bd.off + 2, none⟩ z2
        have n3_ := World.new_ne w' ⟨bd.block, bd.off + 3, none⟩ z3
        have n4_ := World.new_ne w' ⟨bd.block, bd.off + 4, none⟩ z4
        have n5_ := World.new_ne w' ⟨bd.block, bd.off + 5, none⟩ z5
        have n6_ := World.new_ne w' ⟨bd.block, bd.off + 6, none⟩ z6
        have n7_ := World.new_ne w' ⟨bd.block, bd.off + 7, none⟩ z7
        go_wp2
        go_region_held3 (fun W' => W'.cell? ⟨bd.block, bd.off + 1, none⟩ = some (.int .u8 (rd rl 1)) ∧ W'.cell? ⟨bd.block, bd.off + 2, none⟩ = some (.int .u8 (rd rl 2)) ∧ W'.cell? ⟨bd.block, bd.off + 3, none⟩ = some (.int .u8 (rd rl 3)) ∧ W'.cell? ⟨bd.block, bd.off + 4, none⟩ = some (.int .u8 (rd rl 4)) ∧ W'.cell? ⟨bd.block, bd.off + 5, none⟩ = some (.int .u8 (rd rl 5)) ∧ W'.cell? ⟨bd.block, bd.off + 6, none⟩ = some (.int .u8 (rd rl 6)) ∧ W'.cell? ⟨bd.block, bd.off + 7, none⟩ = some (.int .u8 (rd rl 7))) (go_keep) (fail)
        have hsd : ∀ o : Obj, (w'.alloc o).drew.heap.size = w'.heap.size + 1 := fun o => sz w' o
        have HSD := Lib.hid hsd
        clear hsd z1 z2 z3 z4 z5 z6 z7 n1_ n2_ n3_ n4_ n5_ n6_ n7_ hc5 u1_ u2_ u3_ u4_ v1_ v2_ v3_ u5_ u6_ u7_ y1 y2 y3 y4 y5 y6 y7 c6 x6
        go_wp2_with (first
          | (go_at_call 39; refine (bits_any (p := partJ rl 0) (g := w'.heap.size) (w'.alloc (.cells #[.bool (partJ rl 0).f0, .bool (partJ rl 0).f1, .bool (partJ rl 0).f2, .bool (partJ rl 0).f3, .bool (partJ rl 0).f4, .int .u32 (partJ rl 0).f5, .int .i64 (partJ rl 0).f6, .int .i64 (partJ rl 0).f7, .int .i64 (partJ rl 0).f8] 60)).drew (Mem.blk_new w' _)).mono ?_; rintro e w2 ⟨nd, rfl, hw2⟩; rw [HSD.out]; obtain ⟨⟨l1, l2⟩, l3, l4, l5, l6, l7⟩ := take_laid (nd := nd) HT.out (partJ rl 0); have hw3 := (show w2 = (((w'.alloc (.cells #[.bool (partJ rl 0).f0, .bool (partJ rl 0).f1, .bool (partJ rl 0).f2, .bool (partJ rl 0).f3, .bool (partJ rl 0).f4, .int .u32 (partJ rl 0).f5, .int .i64 (partJ rl 0).f6, .int .i64 (partJ rl 0).f7, .int .i64 (partJ rl 0).f8] 60)).drew.alloc (.cells #[.pointer (some ⟨w'.heap.size, 0, none⟩), .pointer (some ⟨w'.heap.size, 1, none⟩), .pointer (some ⟨w'.heap.size, 2, none⟩), .pointer (some ⟨w'.heap.size, 3, none⟩), .pointer (some ⟨w'.heap.size, 4, none⟩)] 79)).drewN nd) from hw2); rw [← hw3] at l1 l2 l3 l4 l5; have L1 := Lib.hid l1; have L2 := Lib.hid l2; have L3 := Lib.hid l3; have L4 := Lib.hid l4; have L5 := Lib.hid l5; clear hw2 hw3 l1 l2 l3 l4 l5 z0)
          | fail)
        go_loopw [80] (fun i wr => ∃ j : Nat, j ≤ 5 ∧ i = .int .i64 j ∧ Hid (wr.heap[w'.heap.size]? = some (.cells #[.bool (partJ rl j).f0, .bool (partJ rl j).f1, .bool (partJ rl j).f2, .bool (partJ rl j).f3, .bool (partJ rl j).f4, .int .u32 (partJ rl j).f5, .int .i64 (partJ rl j).f6, .int .i64 (partJ rl j).f7, .int .i64 (partJ rl j).f8] 60 (0, 0))) ∧ Hid (wr.heap[w'.heap.size + 1]? = some (.cells #[.pointer (some ⟨w'.heap.size, 0, none⟩), .pointer (some ⟨w'.heap.size, 1, none⟩), .pointer (some ⟨w'.heap.size, 2, none⟩), .pointer (some ⟨w'.heap.size, 3, none⟩), .pointer (some ⟨w'.heap.size, 4, none⟩)] 79 (0, 0))) ∧ Hid (wr.heap[w.heap.size]? = some (.cells #[.int .i64 (rd b 2), .int .i64 (rd b 3), .int .i64 (rd b 4), .int .i64 (rd b 5), pv] 44 (0, 0))) ∧ Hid (Below w.heap.size w wr) ∧ Hid (Kd.R k60 60 wr w.heap.size (fun x => x ≠ w.heap.size ∧ x ≠ w'.heap.size) pv L)) (fun i _ => 5 - (intOf i).toNat)
        case atStart => exact ⟨0, by omega, rfl, L1, L2, L3, L4, L5⟩
        case round =>
          obtain ⟨j, hj, rfl, M1, M2, M3, M4, M5⟩ := hrel
          clear L1 L2 L3 L4 L5
          obtain ⟨a0, a1, a2, a3, a4⟩ := Mem.cells5 M2.out
          have hfz := Mem.blk_free M1.out
          have hdd := Mem.cells9 M1.out
          have zz : wr.cell? bd = some (.int .u8 (rd rl 0)) := (M4.out.cell Z0.out.2).trans Z0.out.1
          rcases (show j = 0 ∨ j = 1 ∨ j = 2 ∨ j = 3 ∨ j = 4 ∨ j = 5 by omega) with rfl | rfl | rfl | rfl | rfl | rfl
          · replace hfz := hfz 0
            have hdj : wr.cell? ⟨w'.heap.size, 0, none⟩ = some (.bool false) := hdd.1
            clear hdd a1 a2 a3 a4
            go_wp2
            go_roundw
            case rel => exact ⟨1, by omega, by go_num, Lib.hid (Mem.blk_set M1.out 0 _), Lib.hid (Mem.blk_far M2.out (by show w'.heap.size + 1 ≠ w'.heap.size; omega) _), Lib.hid (Mem.blk_far M3.out (by show w.heap.size ≠ w'.heap.size; omega) _), Lib.hid (M4.out.setCell l7 _), Lib.hid (Kd.R_far M5.out (fun k hk => hk.2) _)⟩
            case measure => simp [intOf]
          · replace hfz := hfz 1
            have hdj : wr.cell? ⟨w'.heap.size, 1, none⟩ = some (.bool false) := hdd.2.1
            clear hdd a0 a2 a3 a4
            go_wp2
            go_roundw
            case rel => exact ⟨2, by omega, by go_num, Lib.hid (Mem.blk_set M1.out 1 _), Lib.hid (Mem.blk_far M2.out (by show w'.heap.size + 1 ≠ w'.heap.size; omega) _), Lib.hid (Mem.blk_far M3.out (by show w.heap.size ≠ w'.heap.size; omega) _), Lib.hid (M4.out.setCell l7 _), Lib.hid (Kd.R_far M5.out (fun k hk => hk.2) _)⟩
            case measure => simp [intOf]
          · replace hfz := hfz 2
            have hdj : wr.cell? ⟨w'.heap.size, 2, none⟩ = some (.bool false) := hdd.2.2.1
            clear hdd a0 a1 a3 a4
            go_wp2
            go_roundw
            case rel => exact ⟨3, by omega, by go_num, Lib.hid (Mem.blk_set M1.out 2 _), Lib.hid (Mem.blk_far M2.out (by show w'.heap.size + 1 ≠ w'.heap.size; omega) _), Lib.hid (Mem.blk_far M3.out (by show w.heap.size ≠ w'.heap.size; omega) _), Lib.hid (M4.out.setCell l7 _), Lib.hid (Kd.R_far M5.out (fun k hk => hk.2) _)⟩
            case measure => simp [intOf]
          · replace hfz := hfz 3
            have hdj : wr.cell? ⟨w'.heap.size, 3, none⟩ = some (.bool false) := hdd.2.2.2.1
            clear hdd a0 a1 a2 a4
            go_wp2
            go_roundw
            case rel => exact ⟨4, by omega, by go_num, Lib.hid (Mem.blk_set M1.out 3 _), Lib.hid (Mem.blk_far M2.out (by show w'.heap.size + 1 ≠ w'.heap.size; omega) _), Lib.hid (Mem.blk_far M3.out (by show w.heap.size ≠ w'.heap.size; omega) _), Lib.hid (M4.out.setCell l7 _), Lib.hid (Kd.R_far M5.out (fun k hk => hk.2) _)⟩
            case measure => simp [intOf]
          · replace hfz := hfz 4
            have hdj : wr.cell? ⟨w'.heap.size, 4, none⟩ = some (.bool false) := hdd.2.2.2.2.1
            clear hdd a0 a1 a2 a3
            go_wp2
            go_roundw
            case rel => exact ⟨5, by omega, by go_num, Lib.hid (Mem.blk_set M1.out 4 _), Lib.hid (Mem.blk_far M2.out (by show w'.heap.size + 1 ≠ w'.heap.size; omega) _), Lib.hid (Mem.blk_far M3.out (by show w.heap.size ≠ w'.heap.size; omega) _), Lib.hid (M4.out.setCell l7 _), Lib.hid (Kd.R_far M5.out (fun k hk => hk.2) _)⟩
            case measure => simp [intOf]
          · clear hfz hdd a0 a1 a2 a3 a4 zz
            rw [show ((5 : Nat) : Int) = 5 from rfl]
            have m1 := M1.out
            rw [partJ_5] at m1
            have hp9 := Mem.cells9 m1
            have hq5 := Mem.cells5 M3.out
            have lt1 := Mem.blk_lt M3.out
            have lt2 := Mem.blk_lt m1
            have hLl : L.length ≤ 255 := by rw [HT.out.len]; omega
            have hle := HT.out.le
            obtain ⟨p, hp⟩ : ∃ p, partO rl = p := ⟨_, rfl⟩
            rw [hp] at hp9
            have HP9 := Lib.hid hp
            clear m1 hp
            have erl : rl.length = rn := by rw [← HRL.out, List.length_drop]; omega
            have hre := HT.out.rest
            rw [HRL.out, ← erl] at hre
            obtain ⟨RA2, hcut, hC2, hroom2⟩ := cutB (c := rc) hre (by rw [erl]; exact HT.out.room) 8 (by omega)
            have HC2 := Lib.hid (And.intro hC2 hroom2)
            rw [List.length_drop, erl] at hcut
            replace hcut : ∀ W, (Instr.slice 38 (.slice (some bd) rn rc) (some (.int .i64 8)) none none).run Try.prog W = .ok (.slice RA2 (rn - 8) (rc - 8)) W := hcut
            have HERL := Lib.hid erl
            clear hre hC2 hroom2 erl
            have xk : IntKind.i64.wrap ((k : Int) + 1) = (k : Int) + 1 := IntWalk.i64_in _ (by omega)
            have k8 : (8 : Int) ≤ (rn : Int) := by omega
            go_wp2_with (first
              | (at_builtin; refine Kd.R_append k60 (w0 := w) w.heap.size rfl (.tmp 96) (.tmp 98) 42 60 _ 40 rfl Try.underlying42 infoP rfl (by decide) (by decide) pv L p [.bool p.f0, .bool p.f1, .bool p.f2, .bool p.f3, .bool p.f4, .int .u32 p.f5, .int .i64 p.f6, .int .i64 p.f7, .int .i64 p.f8] (fun x => x ≠ w.heap.size ∧ x ≠ w'.heap.size) (fun _ => False) rfl rfl (k60_mkM _ _ _ p) (fun _ hk => hk.elim) (fun k hk => ⟨by omega, by omega⟩) M5.out M4.out M4.out.size (by omega) ?_; intro v9 W9 O9 B9 G9 _; obtain ⟨A9, c9, rfl⟩ := Kd.R_slice O9; rw [List.length_append, List.length_singleton] at O9 ⊢; have BK9 := (G9.block w.heap.size lt1 (fun e => (M5.out.1 _ e.symm).1 rfl)).trans M3.out; have hx5 := Mem.blk_free BK9 4; have hy5 := (Mem.cells5 BK9).2.2.2.2; have HBK9 := Lib.hid BK9; have HO9 := Lib.hid O9; have HB9 := Lib.hid B9; clear hp9 hq5 O9 B9 G9 BK9)
              | fail)
            go_quiet (fail)
            go_wp2
            go_step3
            refine ⟨rfl, ⟨k + 1, .slice A9 (L.length + 1) c9, RA2, rn - 8, rc - 8, L ++ [p], ⟨?_, ?_, ?_, ?_, ?_, ?_, ?_, ?_, ?_, ?_, ?_⟩, _, _, _, _, _, _, _, _, _, _, _, _, _, _, _, _, _, _, _, _, _, _, _, _, _, _, _, _, _, _, _, _, _, _, _, _, _, _, _, _, _, _, _, _, _, _, _, _, _, _, _, _, _, _, _, _, _, _, _, _, _, _, _, _, _, _, _, _, _, _, _, _, _, _, _, _, _, _, _, _, _, _, _, _, _, _, _, _, _, _, _, _, _, _, _, _, _, _, _, _, _, _, _, _, _, _, rfl⟩, ?_⟩
            · exact Mem.bel_drewN (HB9.out.setCell (Nat.le_refl _) _) _
            · exact Mem.blk_set HBK9.out 4 _
            · exact Kd.R_drewN (Kd.R_mono (Kd.R_far HO9.out (fun k hk => hk.1) _) (fun k hk => hk.1)) _
            · have h := HC2.out.1
              rw [List.length_drop, HERL.out] at h
              rw [show 7 + 8 * (k + 1) = 7 + 8 * k + 8 by omega, ← List.drop_drop, HRL.out]
              exact h
            · omega
            · have h := HC2.out.2
              rw [List.length_drop, HERL.out] at h
              exact h
            · rw [List.length_append, HT.out.len]; rfl
            · omega
            · omega
            · have h := HT.out.sum
              rw [parts_more (by omega) (by rw [HRL.out, HERL.out]; omega), HRL.out, HP9.out] at h
              rw [← h, show 7 + 8 * (k + 1) = 7 + 8 * k + 8 by omega, ← List.drop_drop, HRL.out, List.append_assoc, show (rd b 6).toNat - (k + 1) = (rd b 6).toNat - k - 1 by omega]
              rfl
            · intro q hq
              rcases List.mem_append.1 hq with hq | hq
              · exact HT.out.wf q hq
              · rw [List.mem_singleton.1 hq, ← HP9.out]
                exact bits_u32 _ _
            · show (rd b 6).toNat - (intOf (Value.int .i64 ((k : Int) + 1))).toNat < (rd b 6).toNat - (intOf (Value.int .i64 (k : Int))).toNat
              simp [intOf]
              omega
      · have hend : partsO ((rd b 6).toNat - k) (b.drop (7 + 8 * k)) = [] := parts_end (by rw [List.length_drop]; omega)
        have hL := HT.out.sum
        rw [hend, List.append_nil] at hL
        subst hL
        clear hend
        obtain ⟨Ap, cp, rfl⟩ := Kd.R_slice HT.out.own
        have hc5 := Mem.cells5 HT.out.out
        have hg : w.heap.size < w'.heap.size := Mem.blk_lt HT.out.out
        have d1 : decide ((k : Int) < rd b 6 ∧ 8 ≤ (rn : Int)) = false := decide_eq_false (by omega)
        have hsp : (decide ((k : Int) < rd b 6) = false) ∨ (decide ((k : Int) < rd b 6) = true ∧ decide (8 ≤ (rn : Int)) = false ∧ decide ((rn : Int) < 8) = true) := by
          by_cases q : (k : Int) < rd b 6
          · exact Or.inr ⟨decide_eq_true q, decide_eq_false (by omega), decide_eq_true (by omega)⟩
          · exact Or.inl (decide_eq_false q)
        have hWf := putB_bytes (rd b 2) (rd b 3) (rd b 4) (rd b 5) HT.out.wf
        have HWf := Lib.hid hWf
        clear hWf d1 hcnd
        by_cases hq : putB (rd b 2) (rd b 3) (rd b 4) (rd b 5) (billL b) = b
        · have HQ := Lib.hid (show bytes_Equal.f (putB (rd b 2) (rd b 3) (rd b 4) (rd b 5) (billL b)) b = some true by rw [str_eq HWf.out HB.out, decide_eq_true hq])
          have HQ2 := Lib.hid hq
          clear hq
          rcases hsp with y1 | ⟨y1, y2, y3⟩
          all_goals
            go_wp2_with (first
              | (go_at_call 27; refine (put_any _ (rd b 2) (rd b 3) (rd b 4) (rd b 5) Ap cp (billL b) (Kd.R_reads' HT.out.own).2.2 (Kd.R_reads' HT.out.own).2.1 HT.out.wf).mono ?_; rintro e w5 ⟨v5, rfl, R5, B5⟩; obtain ⟨A5, c9, rfl⟩ := Kd.R_slice R5; have HR5 := Lib.hid R5; have HB5 := Lib.hid B5; clear R5 B5)
              | (go_at_call 40; refine (bytes_Equal.calls A5 c9 _ (some ad) c b true w5 (Kd.R_reads' HR5.out).2.2 (Kd.R_reads' HR5.out).2.1 (Kd.C_below (Kd.C_below HR.out HT.out.bel) HB5.out) HC.out HQ.out).mono ?_; rintro e w6 ⟨rfl, ⟨nd, rfl⟩⟩; have BK6 := (show (w5.drewN nd).heap[w.heap.size]? = _ from (HB5.out.block w.heap.size hg).trans HT.out.out); have hc6 := Mem.cells5 BK6; clear hc5)
              | ((with_reducible refine gate_ (.store 44 (.tmp 2) (.tmp 109)) rfl ?_); refine wp_put5 (W := w5.drewN nd) rfl rfl 44 (.tmp 2) (.tmp 109) rfl BK6 rfl rfl rfl (by kernel_rfl) (by simp [Value.oneCell']) ?_; intro W7 hW7 BK7; have HW7 := Lib.hid hW7; clear hW7 hc6)
              | fail)
            simp only [Exit.jump]
            refine bodyPost_ret (results_ct rfl _ _ w.heap.size 44 _ (0, 0) _ rfl BK7 Try.underlying44 rfl (by kernel_rfl)) rfl ?_
            have hT : takeB b = (rd b 2, rd b 3, rd b 4, rd b 5, billL b, 0) := by unfold takeB; rw [if_pos ⟨by omega, HQ2.out⟩]
            rw [← HRR.out, hT]
            refine ⟨_, rfl, ?_, ?_⟩
            · rw [HW7.out]
              exact Kd.R_mono (far5 (Kd.R_drewN (Kd.R_below HT.out.own HB5.out) nd) (fun k h => h) _ _ _ _ _) (fun _ _ => trivial)
            · rw [HW7.out]
              exact bel5 (Mem.bel_drewN (Mem.bel_chain HT.out.bel HB5.out) nd) (Nat.le_refl _) _ _ _ _ _
        · have HQ := Lib.hid (show bytes_Equal.f (putB (rd b 2) (rd b 3) (rd b 4) (rd b 5) (billL b)) b = some false by rw [str_eq HWf.out HB.out, decide_eq_false hq])
          have HQ2 := Lib.hid hq
          clear hq
          rcases hsp with y1 | ⟨y1, y2, y3⟩
          all_goals
            go_wp2_with (first
              | (go_at_call 27; refine (put_any _ (rd b 2) (rd b 3) (rd b 4) (rd b 5) Ap cp (billL b) (Kd.R_reads' HT.out.own).2.2 (Kd.R_reads' HT.out.own).2.1 HT.out.wf).mono ?_; rintro e w5 ⟨v5, rfl, R5, B5⟩; obtain ⟨A5, c9, rfl⟩ := Kd.R_slice R5; have HR5 := Lib.hid R5; have HB5 := Lib.hid B5; clear R5 B5)
              | (go_at_call 40; refine (bytes_Equal.calls A5 c9 _ (some ad) c b false w5 (Kd.R_reads' HR5.out).2.2 (Kd.R_reads' HR5.out).2.1 (Kd.C_below (Kd.C_below HR.out HT.out.bel) HB5.out) HC.out HQ.out).mono ?_; rintro e w6 ⟨rfl, ⟨nd, rfl⟩⟩; have BK6 := (show (w5.drewN nd).heap[w.heap.size]? = _ from (HB5.out.block w.heap.size hg).trans HT.out.out); have hc6 := Mem.cells5 BK6; clear hc5)
              | fail)
            go_step3
            go_wp2_with (first
              | ((with_reducible refine gate_ (.store 44 (.tmp 2) (.tmp 110)) rfl ?_); refine wp_put5 (W := w5.drewN nd) rfl rfl 44 (.tmp 2) (.tmp 110) rfl BK6 rfl rfl rfl (by kernel_rfl) (by simp [Value.oneCell']) ?_; intro W7 hW7 BK7; have HW7 := Lib.hid hW7; clear hW7 hc6)
              | fail)
            simp only [Exit.jump]
            refine bodyPost_ret (results_ct rfl _ _ w.heap.size 44 _ (0, 0) _ rfl BK7 Try.underlying44 rfl (by kernel_rfl)) rfl ?_
            have hT : takeB b = (0, 0, 0, 0, [], -2) := by unfold takeB; rw [if_neg (fun h => HQ2.out h.2)]
            rw [← HRR.out, hT]
            refine ⟨_, rfl, Kd.R_nil _ _ _ _ _, ?_⟩
            rw [HW7.out]
            exact bel5 (Mem.bel_drewN (Mem.bel_chain HT.out.bel HB5.out) nd) (Nat.le_refl _) _ _ _ _ _
    · intro HP
      have x2 : IntKind.i64.wrap (rd b 2) = rd b 2 := IntWalk.i64_in _ (by omega)
      have x3 : IntKind.i64.wrap (rd b 3) = rd b 3 := IntWalk.i64_in _ (by omega)
      have x4 : IntKind.i64.wrap (rd b 4) = rd b 4 := IntWalk.i64_in _ (by omega)
      have x5 : IntKind.i64.wrap (rd b 5) = rd b 5 := IntWalk.i64_in _ (by omega)
      go_wp2
      refine wp_region_still_tail 17 (by kernel_rfl) (by kernel_rfl) ?_
      simp only [List.take_succ_cons, List.take_zero, List.drop_succ_cons, List.drop_zero]
      repeat still_step
      refine wpStill_nil ?_
      clear x2 x3 x4 x5
      obtain ⟨RA0, hcut, hC0, hroom0⟩ := cutB HR.out HC.out 7 (by omega)
      replace hcut : ∀ W, (Instr.slice 38 (.slice (some ad) b.length c) (some (.int .i64 7)) none none).run Try.prog W = .ok (.slice RA0 (b.drop 7).length (c - 7)) W := hcut
      have HC0 := Lib.hid (And.intro hC0 hroom0)
      have HBb := Lib.hid hb1
      clear hC0 hroom0 hb1
      go_wp2_with (first
        | ((with_reducible refine gate_ (.store 44 (.tmp 2) (.tmp 29)) rfl ?_); refine wp_put5 (W := w1.drew) rfl rfl 44 (.tmp 2) (.tmp 29) rfl BK rfl rfl rfl (by kernel_rfl) (by simp [Value.oneCell']) ?_; intro W2 hW2 BK2; have hb2 := Lib.hid (show Below w.heap.size w W2 by rw [hW2]; exact bel5 (Mem.bel_drew HBb.out) (Nat.le_refl _) _ _ _ _ _); have HK2 := Lib.hid BK2; clear hW2 BK2)
        | fail)
      go_step3
      rename_i K9 hK9
      exact hK9 _ _ (HP _ _ ⟨0, .slice none 0 0, RA0, b.length - 7, c - 7, [], ⟨hb2.out, HK2.out, Kd.R_nil _ _ _ _ _, (by have h := HC0.out.1; rw [List.length_drop] at h; exact h), (by omega), (by have h := HC0.out.2; rw [List.length_drop] at h; exact h), rfl, by omega, Nat.zero_le _, rfl, fun p hp => by cases hp⟩, _, _, _, _, _, _, _, _, _, _, _, _, _, _, _, _, _, _, _, _, _, _, _, _, _, _, _, _, _, _, _, _, _, _, _, _, _, _, _, _, _, _, _, _, _, _, _, _, _, _, _, _, _, _, _, _, _, _, _, _, _, _, _, _, _, _, _, _, _, _, _, _, _, _, _, _, _, _, _, _, _, _, _, _, _, _, _, _, _, _, _, _, _, _, _, _, _, _, _, _, _, _, _, _, _, _, rfl⟩)
end Go.Proofs.Ytmhglfidggjfdaa.Bill
