/- What bill is made out of numbers: walked. -/
import Derived.Test.YtmhglfidggjfdaaPBillBackx2
import Derived.Test.YtmhglfidggjfdaaKept
import Derived.IntWalk
import Derived.Deep.DeepCutAuto
namespace Go.Proofs.Ytmhglfidggjfdaa.Pick
open Go.RowKit Go.Proofs.Ytmhglfidggjfdaa.PBillBack Go.Proofs.YtmhglfidggjfdaaW.PrintWords
set_option linter.unusedVariables false
set_option linter.unusedSimpArgs false

theorem results_c {P : Program} {fn : Func} {p : Tmp} {ty : TypeId} (h : fn.results = #[.cell p ty]) (tmps : Array Value) (w : World) (g : Nat) (t : TypeId) (cs : Array Value) (fr : Nat × Nat) (d : TypeDesc)
    (hp : tmps.getD p undef = .pointer (some ⟨g, 0, none⟩)) (hg : w.heap[g]? = some (.cells cs t fr))
    (hu : P.underlying ty = some d) (hd : (match d with | .struct _ | .array _ _ => true | _ => false) = true) (hi : (P.info? ty).map (·.size) = some cs.size) :
    (results fn tmps).run P w = .ok (.agg cs) w := by
  have hp' : tmps[p]?.getD undef = .pointer (some ⟨g, 0, none⟩) := by simpa using hp
  simp [results, h, hp', asAddr, run_loadVar_row w g t ty cs fr d hg hu hd hi]
/-- The n-th number, below m; none left: 0. -/
def pk (l : List Int) (n : Nat) (m : Int) : Int := l.getD n 0 % m
theorem pk_in (l : List Int) (n : Nat) {m : Int} (h : 0 < m) : 0 ≤ pk l n m ∧ pk l n m < m := ⟨Int.emod_nonneg _ (by omega), Int.emod_lt_of_pos _ h⟩
def posI (l : List Int) (n : Nat) : Int := ((min n l.length : Nat) : Int)
theorem num_f {l : List Int} (hl : ∀ x ∈ l, 0 ≤ x ∧ x ≤ 255) (hlen : l.length ≤ 1000) (n : Nat) {m : Int} (hm : 0 < m) : presidioplay_Picks_Num.f l (posI l n) m = some (pk l n m, posI l (n + 1)) := by
  unfold presidioplay_Picks_Num.f posI pk
  by_cases h : n < l.length
  · rw [Nat.min_eq_left (by omega), Nat.min_eq_left (by omega), if_neg (by omega)]
    have e1 : wrap64 ((n : Int) + 1) = n + 1 := by unfold wrap64; omega
    have e2 : wrap64 ((n : Int) + 1 - 1) = n := by unfold wrap64; omega
    have e3 : rd l (n : Int) = l.getD n 0 := by unfold rd; rw [Int.toNat_natCast]
    have hx : 0 ≤ l.getD n 0 ∧ l.getD n 0 ≤ 255 := by
      rw [List.getD_eq_getElem?_getD, List.getElem?_eq_getElem h]; exact hl _ (List.getElem_mem h)
    have e4 : wrap64 (l.getD n 0) = l.getD n 0 := by unfold wrap64; omega
    rw [e1, e2, e3, e4, if_pos (by omega), if_pos (by omega), if_neg (by omega), Int.tmod_eq_emod_of_nonneg hx.1]
    push_cast
    rfl
  · rw [Nat.min_eq_right (by omega), Nat.min_eq_right (by omega), if_pos (by omega)]
    rw [List.getD_eq_getElem?_getD, List.getElem?_eq_none (by omega)]
    simp

def cnt5 (x : Int) : Int := if x = 0 then 4 else if x = 1 then 5 else if x = 2 then 6 else if x = 3 then 17 else 18
def min12 (c : Int) : Int := if 12 < c then 12 else c
theorem cnt5_in (x : Int) : 4 ≤ cnt5 x ∧ cnt5 x ≤ 18 := by unfold cnt5; (repeat' split) <;> omega
/-- The first part; another one; what is left behind it of both worlds. -/
def part0 (l : List Int) (n : Nat) (sec nrm : Int) : S60 × Int × Int :=
  (⟨false, decide (0 < pk l n 6), decide (0 < pk l (n + 1) 6), decide (0 < pk l (n + 2) 6), decide (0 < pk l (n + 3) 6), 1 + pk l (n + 4) 2, nrm, 18, 0⟩, sec, nrm + 18)
def dev1 (l : List Int) (n k : Nat) : Int := if pk l (n + 7) 2 = 0 ∧ k < 5 then (k : Int) else 0
def part1 (l : List Int) (n k : Nat) (T sec nrm : Int) : S60 × Int × Int :=
  if pk l n 2 = 0 ∧ sec + cnt5 (pk l (n + 6) 5) ≤ T + 60 then
    (⟨true, decide (0 < pk l (n + 1) 6), decide (0 < pk l (n + 2) 6), decide (0 < pk l (n + 3) 6), decide (0 < pk l (n + 4) 6), 1 + pk l (n + 5) 2, sec, cnt5 (pk l (n + 6) 5), dev1 l n k⟩, sec + cnt5 (pk l (n + 6) 5), nrm)
  else (⟨false, decide (0 < pk l (n + 1) 6), decide (0 < pk l (n + 2) 6), decide (0 < pk l (n + 3) 6), decide (0 < pk l (n + 4) 6), 1 + pk l (n + 5) 2, nrm, min12 (cnt5 (pk l (n + 6) 5)), dev1 l n k⟩, sec, nrm + min12 (cnt5 (pk l (n + 6) 5)))
theorem part1_fit {l : List Int} {n k : Nat} {T sec nrm c ix : Int} {PP : S60} (h0 : pk l n 2 = 0) (h : sec + c ≤ T + 60) (hx : pk l (n + 6) 5 = ix) (hc : cnt5 ix = c) (hd : dev1 l n k = PP.f8)
    (hP : PP = ⟨(pk l n 2 == 0), decide (0 < pk l (n + 1) 6), decide (0 < pk l (n + 1 + 1) 6), decide (0 < pk l (n + 1 + 1 + 1) 6), decide (0 < pk l (n + 1 + 1 + 1 + 1) 6), 1 + pk l (n + 1 + 1 + 1 + 1 + 1) 2, sec, c, PP.f8⟩) :
    part1 l n k T sec nrm = (PP, sec + c, nrm) := by
  unfold part1
  rw [hx, hc, if_pos ⟨h0, h⟩, hd]
  rw [h0] at hP
  exact congrArg (fun p => (p, sec + c, nrm)) hP.symm
theorem part1_no {l : List Int} {n k : Nat} {T sec nrm c ix m : Int} {PP : S60} (h : ¬ (pk l n 2 = 0 ∧ sec + c ≤ T + 60)) (hx : pk l (n + 6) 5 = ix) (hc : cnt5 ix = c) (hd : dev1 l n k = PP.f8) (hm : min12 c = m)
    (hP : PP = ⟨false, decide (0 < pk l (n + 1) 6), decide (0 < pk l (n + 1 + 1) 6), decide (0 < pk l (n + 1 + 1 + 1) 6), decide (0 < pk l (n + 1 + 1 + 1 + 1) 6), 1 + pk l (n + 1 + 1 + 1 + 1 + 1) 2, nrm, m, PP.f8⟩) :
    part1 l n k T sec nrm = (PP, sec, nrm + m) := by
  unfold part1
  rw [hx, hc, if_neg h, hd, hm]
  exact congrArg (fun p => (p, sec, nrm + m)) hP.symm
def posn (n0 k : Nat) : Nat := if k = 0 then n0 + 2 else n0 + 8 * k
/-- The parts of a bill, and what is left of both worlds, behind k of them. -/
def bst (l : List Int) (n0 : Nat) (T : Int) : Nat → List S60 × Int × Int
  | 0 => ([], T, T + 60)
  | k + 1 =>
    let s := bst l n0 T k
    let p := if k = 0 then part0 l (n0 + 2) s.2.1 s.2.2 else part1 l (n0 + 8 * k) k T s.2.1 s.2.2
    (s.1 ++ [p.1], p.2)
def bT (l : List Int) (n0 P : Nat) : Int := P * (5 + pk l (n0 + 1) 3)
theorem bst_len (l : List Int) (n0 : Nat) (T : Int) : ∀ k, (bst l n0 T k).1.length = k
  | 0 => rfl
  | k + 1 => by show ((bst l n0 T k).1 ++ [_]).length = _; rw [List.length_append, bst_len l n0 T k]; rfl
theorem bst_in (l : List Int) (n0 : Nat) (T : Int) (k : Nat) : T ≤ (bst l n0 T k).2.1 ∧ (bst l n0 T k).2.1 ≤ T + 60 ∧ T + 60 ≤ (bst l n0 T k).2.2 ∧ (bst l n0 T k).2.2 ≤ T + 60 + (if k = 0 then 0 else 6 + 12 * k) := by
  induction k with
  | zero => simp [bst]; omega
  | succ k ih =>
    have hc := cnt5_in (pk l (n0 + 8 * k + 6) 5)
    have hm : 4 ≤ min12 (cnt5 (pk l (n0 + 8 * k + 6) 5)) ∧ min12 (cnt5 (pk l (n0 + 8 * k + 6) 5)) ≤ 12 := by unfold min12; split <;> omega
    unfold bst
    by_cases h0 : k = 0
    · subst h0
      simp [bst, part0]; omega
    · simp only [if_neg h0, if_neg (Nat.succ_ne_zero k)] at ih ⊢
      unfold part1
      split
      · rename_i h; refine ⟨?_, ?_, ?_, ?_⟩ <;> simp only <;> omega
      · refine ⟨?_, ?_, ?_, ?_⟩ <;> simp only <;> omega

theorem made_any (A : Option Addr) (c : Nat) (l : List Int) (w : World) (hr : Kd.C (Kd.int .u8) w A l.length l) (hc : l.length ≤ c) :
    Calls Try.prog 32 #[.slice A l.length c] w fun e w' => ∃ g : Nat, e = .returned (.pointer (some ⟨g, 0, none⟩)) ∧ IsS84 w w' g l (posI l 0) ∧ Below w.heap.size w w' := by
  refine (presidioplay_Made.calls A c l l 0 w w (Below.refl _ _) hr hc rfl).mono ?_
  rintro e w' ⟨g, h1, h2, h3, h4⟩
  exact ⟨g, h1, by unfold posI; simpa using h2, h4⟩
theorem num_any {w0 w : World} {g : Nat} {l : List Int} (hl : ∀ x ∈ l, 0 ≤ x ∧ x ≤ 255) (hlen : l.length ≤ 1000) {n : Nat} (h : IsS84 w0 w g l (posI l n)) (hB : Below w0.heap.size w0 w) {m : Int} (hm : 0 < m) :
    Calls Try.prog 34 #[.pointer (some ⟨g, 0, none⟩), .int .i64 m] w fun e w' => e = .returned (.int .i64 (pk l n m)) ∧ IsS84 w0 w' g l (posI l (n + 1)) ∧ Below w0.heap.size w0 w' ∧ KeepBut w w' g none :=
  presidioplay_Picks_Num.calls g l (posI l n) m _ _ w0 w h hB (num_f hl hlen n hm)

/-- The state of Bill's call: the numbers, the two boxes, the parts so far; x: the box of a part. -/
structure BS (w0 w wr : World) (g g4 g5 x : Nat) (l : List Int) (n : Nat) (F T C : Int) (v : Value) (ps : List S60) : Prop where
  pk : IsS84 w0 wr g l (posI l n)
  b0 : Below w0.heap.size w0 wr
  kb : KeepBut w wr g none
  sz : w0.heap.size ≤ w.heap.size
  h4 : wr.heap[g4]? = some (.cells #[.int .i64 0, .int .i64 0, .int .i64 0, .int .i64 0, .slice none 0 0] 44 (0, 0))
  h5 : wr.heap[g5]? = some (.cells #[.int .i64 F, .int .i64 T, .int .i64 60, .int .i64 C, v] 44 (0, 0))
  n4 : w.heap.size ≤ g4
  n5 : w.heap.size ≤ g5
  n45 : g4 ≠ g5
  ho : Kd.R k60 60 wr w.heap.size (fun k => k ≠ g ∧ k ≠ x) v ps
section
variable {w0 w wr w1 : World} {g g4 g5 x : Nat} {l : List Int} {n : Nat} {F T C : Int} {v : Value} {ps : List S60}
theorem BS.ne (h : BS w0 w wr g g4 g5 x l n F T C v ps) : g ≠ g4 ∧ g ≠ g5 := ⟨h.pk.ne_blk h.h4 (by decide), h.pk.ne_blk h.h5 (by decide)⟩
theorem BS.num (h : BS w0 w wr g g4 g5 x l n F T C v ps) (h1 : IsS84 w0 w1 g l (posI l (n + 1))) (h2 : Below w0.heap.size w0 w1) (h3 : KeepBut wr w1 g none) : BS w0 w w1 g g4 g5 x l (n + 1) F T C v ps :=
  ⟨h1, h2, h.kb.trans h3 (.inl rfl), h.sz, h3.blk h.h4 (fun e => h.ne.1 e.symm) (by simp), h3.blk h.h5 (fun e => h.ne.2 e.symm) (by simp), h.n4, h.n5, h.n45, Kd.R_keep h.ho h3 (fun _ hk => hk.1)⟩
theorem BS.below (h : BS w0 w wr g g4 g5 x l n F T C v ps) (hb : Below wr.heap.size wr w1) : BS w0 w w1 g g4 g5 x l n F T C v ps :=
  ⟨h.pk.below hb, h.b0.trans (hb.mono h.b0.size), h.kb.trans (KeepBut.of_below hb g none) (.inl rfl), h.sz, Mem.blk_below h.h4 hb, Mem.blk_below h.h5 hb, h.n4, h.n5, h.n45, Kd.R_below h.ho hb⟩
theorem BS.alloc (h : BS w0 w wr g g4 g5 x l n F T C v ps) (o : Obj) : BS w0 w (wr.alloc o) g g4 g5 x l n F T C v ps := h.below (Mem.bel_alloc (Below.refl _ _) o)
/-- A new box for a part. -/
theorem BS.box (h : BS w0 w wr g g4 g5 g l n F T C v ps) (o : Obj) : BS w0 w (wr.alloc o) g g4 g5 wr.heap.size l n F T C v ps := by
  have h' := h.alloc o
  refine ⟨h'.pk, h'.b0, h'.kb, h'.sz, h'.h4, h'.h5, h'.n4, h'.n5, h'.n45, ?_⟩
  exact Kd.R_below (Kd.R_mono (Kd.R_bound h.ho) (fun k hk => ⟨hk.1.1, by have := hk.2.2.1; omega⟩)) (Mem.bel_alloc (Below.refl _ _) o)
theorem BS.set (h : BS w0 w wr g g4 g5 x l n F T C v ps) (h1 : x ≠ g) (h2 : x ≠ g4) (h3 : x ≠ g5) (h4 : w.heap.size ≤ x) (j : Nat) (u : Value) : BS w0 w (wr.setCell ⟨x, j, none⟩ u) g g4 g5 x l n F T C v ps :=
  ⟨h.pk.far (fun e => h1 e.symm) u, h.b0.setCell (p := ⟨x, j, none⟩) (by have := h.sz; show _ ≤ x; omega) u, keep_far h.kb (p := ⟨x, j, none⟩) h4 u, h.sz, Mem.blk_far h.h4 (fun e => h2 e.symm) u, Mem.blk_far h.h5 (fun e => h3 e.symm) u, h.n4, h.n5, h.n45, Kd.R_far (p := ⟨x, j, none⟩) h.ho (fun k hk => hk.2) u⟩
theorem infoP : (Try.prog.info? 60).map (fun i => (i.zero, i.size, i.bytes)) = some (some (.agg #[.bool false, .bool false, .bool false, .bool false, .bool false, .int .u32 0, .int .i64 0, .int .i64 0, .int .i64 0]), 9, 40) := by kernel_rfl
theorem blk_cell5 {w : World} {g : Nat} {t : TypeId} (h : w.heap[g]? = some (.cells #[.int .i64 4, .int .i64 5, .int .i64 6, .int .i64 17, .int .i64 18] t (0, 0))) {ix : Nat} (hi : ix < 5) : w.cell? ⟨g, ix, none⟩ = some (.int .i64 (cnt5 ix)) := by
  rw [Mem.blk_cell h]
  rcases (show ix = 0 ∨ ix = 1 ∨ ix = 2 ∨ ix = 3 ∨ ix = 4 by omega) with rfl | rfl | rfl | rfl | rfl <;> rfl
theorem blk_setN {w : World} {g : Nat} {t : TypeId} {cs : Array Value} (h : w.heap[g]? = some (.cells cs t (0, 0))) (i : Nat) (u : Value) {cs' : Array Value} (e : cs.setIfInBounds i u = cs') : (w.setCell ⟨g, i, none⟩ u).heap[g]? = some (.cells cs' t (0, 0)) := e ▸ Mem.blk_set h i u
theorem BS.fin (h : BS w0 w wr g g4 g5 g l n F T C v ps) : ∃ V, ((((wr.setCell ⟨g4, 0, none⟩ (.int .i64 F)).setCell ⟨g4, 1, none⟩ (.int .i64 T)).setCell ⟨g4, 2, none⟩ (.int .i64 60)).setCell ⟨g4, 3, none⟩ (.int .i64 C)).setCell ⟨g4, 4, none⟩ v = V ∧
    V.heap[g4]? = some (.cells #[.int .i64 F, .int .i64 T, .int .i64 60, .int .i64 C, v] 44 (0, 0)) ∧ IsS84 w0 V g l (posI l n) ∧ Below w0.heap.size w0 V ∧ KeepBut w V g none ∧ Kd.R k60 60 V w.heap.size (fun _ => True) v ps := by
  have hn := h.ne.1
  have hle : w0.heap.size ≤ g4 := by have := h.sz; have := h.n4; omega
  have b0 := blk_setN h.h4 0 (.int .i64 F) rfl
  have b1 := blk_setN b0 1 (.int .i64 T) rfl
  have b2 := blk_setN b1 2 (.int .i64 60) rfl
  have b3 := blk_setN b2 3 (.int .i64 C) rfl
  have b4 := blk_setN b3 4 v rfl
  refine ⟨_, rfl, b4, ((((h.pk.far hn _).far hn _).far hn _).far hn _).far hn _, ((((h.b0.setCell hle _).setCell hle _).setCell hle _).setCell hle _).setCell hle _, keep_far (keep_far (keep_far (keep_far (keep_far h.kb h.n4 _) h.n4 _) h.n4 _) h.n4 _) h.n4 _, ?_⟩
  exact Kd.R_mono (Kd.R_set (Kd.R_set (Kd.R_set (Kd.R_set (Kd.R_set h.ho h.h4 (by decide) 0 _) b0 (by decide) 1 _) b1 (by decide) 2 _) b2 (by decide) 3 _) b3 (by decide) 4 _) (fun _ _ => trivial)
/-- A part has been appended. -/
theorem BS.app (h : BS w0 w wr g g4 g5 x l n F T C v ps) {v1 : Value} {p : S60} (ho : Kd.R k60 60 w1 w.heap.size (fun k => k ≠ g ∧ k ≠ x) v1 (ps ++ [p])) (hg : wr.grownBy w1 v.ownBlock) :
    BS w0 w (w1.setCell ⟨g5, 4, none⟩ v1) g g4 g5 g l n F T C v1 (ps ++ [p]) := by
  have hrow : v.ownBlock = none ∨ ∃ b, v.ownBlock = some b ∧ w.heap.size ≤ b := by
    obtain ⟨inner, hown⟩ := Kd.R_own h.ho
    rcases hv : v.ownBlock with _ | b
    · exact .inl rfl
    · exact .inr ⟨b, rfl, own_base hown b hv⟩
  have hgn : some g ≠ v.ownBlock := fun e => (h.ho.1 g e.symm).1 rfl
  have h4n : some g4 ≠ v.ownBlock := Kd.R_ne h.ho h.h4 (by decide)
  have h5n : some g5 ≠ v.ownBlock := Kd.R_ne h.ho h.h5 (by decide)
  have p1 := h.pk.grown hg hgn
  have b1 : Below w0.heap.size w0 w1 := h.b0.grown hg h.b0.size (fun k hk => by
    rcases hrow with e | ⟨b, e, hb⟩
    · rw [e] at hk; cases hk
    · rw [e] at hk; injection hk with hk; have := h.sz; omega)
  have k1 : KeepBut w w1 g none := h.kb.trans (KeepBut.of_grown hg g) (by rcases hrow with e | e; exact .inl e; exact .inr e)
  have q4 : w1.heap[g4]? = _ := (hg.block g4 (Mem.blk_lt h.h4) h4n).trans h.h4
  have q5 : w1.heap[g5]? = _ := (hg.block g5 (Mem.blk_lt h.h5) h5n).trans h.h5
  exact ⟨p1.far h.ne.2 v1, b1.setCell (p := ⟨g5, 4, none⟩) (by have := h.sz; have := h.n5; show _ ≤ g5; omega) v1, keep_far k1 (p := ⟨g5, 4, none⟩) h.n5 v1, h.sz, Mem.blk_far q4 h.n45 v1, blk_setN q5 4 v1 rfl, h.n4, h.n5, h.n45,
    Kd.R_set (Kd.R_mono ho (fun k hk => ⟨hk.1, hk.1⟩)) q5 (by decide) 4 v1⟩
end

set_option maxRecDepth 100000 in
set_option maxHeartbeats 8000000 in
theorem bill_any {w0 w : World} {g : Nat} {l : List Int} (hl : ∀ x ∈ l, 0 ≤ x ∧ x ≤ 255) (hlen : l.length ≤ 1000) (n0 P : Nat) (hP : P ≤ 6) (h : IsS84 w0 w g l (posI l n0)) (hB : Below w0.heap.size w0 w) :
    Calls Try.prog 33 #[.pointer (some ⟨g, 0, none⟩), .int .i64 P] w fun e w' => ∃ v, e = .returned (.agg #[.int .i64 (bT l n0 P + 140), .int .i64 (bT l n0 P), .int .i64 60, .int .i64 (1 + pk l n0 3), v]) ∧ Kd.R k60 60 w' w.heap.size (fun _ => True) v (bst l n0 (bT l n0 P) P).1 ∧ Below w0.heap.size w0 w' ∧ KeepBut w w' g none ∧ IsS84 w0 w' g l (posI l (posn n0 P)) := by
  have hu41 := Try.underlying44
  have hu56 := Try.underlying60
  obtain ⟨r0, hr0⟩ : ∃ r, pk l n0 3 = r := ⟨_, rfl⟩
  obtain ⟨r1, hr1⟩ : ∃ r, pk l (n0 + 1) 3 = r := ⟨_, rfl⟩
  have b0 := pk_in l n0 (m := 3) (by decide)
  have b1 := pk_in l (n0 + 1) (m := 3) (by decide)
  rw [hr0] at b0
  rw [hr1] at b1
  unfold bT
  rw [hr0, hr1]
  obtain ⟨T, hT⟩ : ∃ T : Int, (P : Int) * (5 + r1) = T := ⟨_, rfl⟩
  have bT : 0 ≤ T ∧ T ≤ 42 := by
    rw [← hT]
    obtain ⟨q, rfl⟩ : ∃ q : Nat, r1 = (q : Int) := ⟨r1.toNat, by omega⟩
    have := Nat.mul_le_mul hP (show 5 + q ≤ 7 by omega)
    constructor
    · exact Int.mul_nonneg (by omega) (by omega)
    · exact_mod_cast this
  rw [hT]
  have hw : wrap64 ((P : Int) * (5 + r1)) = T := by rw [hT]; unfold wrap64; omega
  have HL := Lib.hid hl
  have HN := Lib.hid hlen
  have HI := Lib.hid h
  have HB := Lib.hid hB
  have HR0 := Lib.hid hr0
  have HR1 := Lib.hid hr1
  clear hl hlen h hB hr0 hr1 hT
  go_enter Try.func33, Try.ntmps33
  go_wp2_with (first
    | (go_at_call 34; (with_reducible refine (num_any HL.out HN.out (HI.out.alloc _) (below_alloc HB.out _) (by decide)).mono ?_); rw [HR0.out]; rintro e w2 ⟨rfl, h2, h3, h4⟩)
    | (go_at_call 34; (with_reducible refine (num_any HL.out HN.out h2 h3 (by decide)).mono ?_); rw [HR1.out]; rintro e w3 ⟨rfl, h5, h6, h7⟩))
  have S0 : BS w0 w (w3.alloc (.cells #[.int .i64 (T + 60 + 80), .int .i64 T, .int .i64 60, .int .i64 (1 + r0), .slice none 0 0] 44)) g w.heap.size w3.heap.size g l (n0 + 2) (T + 60 + 80) T (1 + r0) (.slice none 0 0) [] := by
    have hg : g ≠ w.heap.size := by have := HI.out.lt; omega
    have z := h7.1
    have z2 := h4.1
    have e : (w.alloc (.cells #[.int .i64 0, .int .i64 0, .int .i64 0, .int .i64 0, .slice none 0 0] 44)).heap.size = w.heap.size + 1 := by show (w.heap.push _).size = _; simp
    rw [e] at z2
    exact ⟨h5.alloc _, below_alloc h6 _, keep_alloc (((keep_alloc (KeepBut.refl w g none) _).trans h4 (.inl rfl)).trans h7 (.inl rfl)) _, HB.out.size, Mem.blk_alloc (h7.blk (h4.blk (Mem.blk_new w _) (fun e => hg e.symm) (by simp)) (fun e => hg e.symm) (by simp)) _, Mem.blk_new _ _, Nat.le_refl _, by omega, by omega, Kd.R_nil _ _ _ _ _⟩
  obtain ⟨g4, hg4⟩ : ∃ x, w.heap.size = x := ⟨_, rfl⟩
  obtain ⟨g5, hg5⟩ : ∃ x, w3.heap.size = x := ⟨_, rfl⟩
  rw [hg4, hg5] at S0
  rw [hg5, hg4]
  have HG4 := Lib.hid hg4
  clear hg4 hg5 hw h2 h3 h4 h5 h6 h7
  have hc5 := Mem.cells5 S0.h5
  go_quiet (fail)
  obtain ⟨W0, hW0⟩ : ∃ W0, World.drewN (w3.alloc (.cells #[.int .i64 (T + 60 + 80), .int .i64 T, .int .i64 60, .int .i64 (1 + r0), .slice none 0 0] 44)) nq = W0 := ⟨_, rfl⟩
  rw [hW0]
  have S1 := S0.below (Mem.bel_drewN (Below.refl _ _) nq)
  rw [hW0] at S1
  clear S0 hW0 hc5
  go_wp2
  go_loopw [6, 7, 8] (fun t6 t7 t8 wr => ∃ (k : Nat) (v : Value), k ≤ P ∧ t8 = .int .i64 k ∧ t6 = .int .i64 (bst l n0 T k).2.1 ∧ t7 = .int .i64 (bst l n0 T k).2.2 ∧ BS w0 w wr g g4 g5 g l (posn n0 k) (T + 60 + 80) T (1 + r0) v (bst l n0 T k).1) (fun _ _ t8 _ => P - (intOf t8).toNat)
  case atStart => exact ⟨0, _, by omega, rfl, rfl, rfl, S1⟩
  case round =>
    obtain ⟨k, v, hk, rfl, rfl, rfl, S⟩ := hrel
    clear S1
    obtain ⟨A, cv, rfl⟩ := Kd.R_slice S.ho
    have hlen := bst_len l n0 T k
    have hst : bst l n0 T (k + 1) = ((bst l n0 T k).1 ++ [(if k = 0 then part0 l (n0 + 2) (bst l n0 T k).2.1 (bst l n0 T k).2.2 else part1 l (n0 + 8 * k) k T (bst l n0 T k).2.1 (bst l n0 T k).2.2).1], (if k = 0 then part0 l (n0 + 2) (bst l n0 T k).2.1 (bst l n0 T k).2.2 else part1 l (n0 + 8 * k) k T (bst l n0 T k).2.1 (bst l n0 T k).2.2).2) := rfl
    have hin := bst_in l n0 T k
    obtain ⟨ps, hps⟩ : ∃ x, (bst l n0 T k).1 = x := ⟨_, rfl⟩
    obtain ⟨sec, hsec⟩ : ∃ x, (bst l n0 T k).2.1 = x := ⟨_, rfl⟩
    obtain ⟨nrm, hnrm⟩ : ∃ x, (bst l n0 T k).2.2 = x := ⟨_, rfl⟩
    rw [hps] at hlen hst S
    rw [hsec, hnrm] at hst hin
    rw [hsec, hnrm]
    have hlp : ps.length ≤ 6 := by omega
    have HST := Lib.hid hst
    have HPS := Lib.hid hps
    clear hst hsec hnrm hps hlen
    by_cases hkP : k < P
    · rcases Nat.eq_zero_or_pos k with rfl | hk0
      · simp only [if_true] at hin
        have h0 : bst l n0 T (0 + 1) = (ps ++ [(part0 l (n0 + 2) sec nrm).1], (part0 l (n0 + 2) sec nrm).2) := by
          have := HST.out
          rw [if_pos rfl] at this
          exact this
        have HST0 := Lib.hid h0
        clear HST h0
        have S0 : BS w0 w wr g g4 g5 g l (n0 + 2) (T + 60 + 80) T (1 + r0) (.slice A ps.length cv) ps := S
        clear S
        obtain ⟨ix, hix, hix5⟩ : ∃ ix : Nat, Hid (pk l (n0 + 2 + 5) 5 = (ix : Int)) ∧ ix < 5 := by
          have hb7 := pk_in l (n0 + 2 + 5) (m := 5) (by decide)
          exact ⟨(pk l (n0 + 2 + 5) 5).toNat, Lib.hid (by omega), by omega⟩
        have hid := pk_in l (n0 + 2 + 1 + 1 + 1 + 1) (m := 2) (by decide)
        have hix0 : (0 : Int) ≤ (ix : Int) := by omega
        have hix1 : (ix : Int) < 5 := by omega
        have hb6 := pk_in l (n0 + 2 + 4) (m := 2) (by decide)
        go_wp2_with (first
        | (go_at_call 34; (with_reducible refine (num_any HL.out HN.out S0.pk S0.b0 (by decide)).mono ?_); rintro e w1 ⟨rfl, p0, q0, r0⟩; have S1 := S0.num p0 q0 r0; clear p0 q0 S0 r0)
        | (go_at_call 34; (with_reducible refine (num_any HL.out HN.out S1.pk S1.b0 (by decide)).mono ?_); rintro e w2 ⟨rfl, p1, q1, r1⟩; have S2 := S1.num p1 q1 r1; clear p1 q1 S1 r1)
        | (go_at_call 34; (with_reducible refine (num_any HL.out HN.out S2.pk S2.b0 (by decide)).mono ?_); rintro e w3 ⟨rfl, p2, q2, r2⟩; have S3 := S2.num p2 q2 r2; clear p2 q2 S2 r2)
        | (go_at_call 34; (with_reducible refine (num_any HL.out HN.out S3.pk S3.b0 (by decide)).mono ?_); rintro e w4 ⟨rfl, p3, q3, r3⟩; have S4 := S3.num p3 q3 r3; clear p3 q3 S3 r3)
        | (go_at_call 34; (with_reducible refine (num_any HL.out HN.out S4.pk S4.b0 (by decide)).mono ?_); rintro e w5 ⟨rfl, p4, q4, r4⟩; have S5 := S4.num p4 q4 r4; clear p4 q4 S4 r4)
        | (go_at_call 34; have S5a := S5.alloc (.cells #[.int .i64 4, .int .i64 5, .int .i64 6, .int .i64 17, .int .i64 18] 3); (with_reducible refine (num_any HL.out HN.out S5a.pk S5a.b0 (by decide)).mono ?_); rw [hix.out]; rintro e w6 ⟨rfl, p5, q5, r5⟩; have S6 := S5a.num p5 q5 r5; have hcell := (blk_cell5 (r5.blk (Mem.blk_new w5 (.cells #[.int .i64 4, .int .i64 5, .int .i64 6, .int .i64 17, .int .i64 18] 3)) (by have := S5.pk.lt; omega) (by simp)) hix5); have hc5 := Mem.cells5a S6.h5; clear p5 q5 S5a S5 r5)
        | (at_builtin; have e7 : (w6.alloc (.cells #[.bool false, .bool (decide (0 < pk l (n0 + 2) 6)), .bool (decide (0 < pk l (n0 + 2 + 1) 6)), .bool (decide (0 < pk l (n0 + 2 + 1 + 1) 6)), .bool (decide (0 < pk l (n0 + 2 + 1 + 1 + 1) 6)), .int .u32 (1 + pk l (n0 + 2 + 1 + 1 + 1 + 1) 2), .int .i64 nrm, .int .i64 18, .int .i64 0] 60)).heap.size = w6.heap.size + 1 := (by show (w6.heap.push _).size = _; simp); have S7 := S6.box (.cells #[.bool false, .bool (decide (0 < pk l (n0 + 2) 6)), .bool (decide (0 < pk l (n0 + 2 + 1) 6)), .bool (decide (0 < pk l (n0 + 2 + 1 + 1) 6)), .bool (decide (0 < pk l (n0 + 2 + 1 + 1 + 1) 6)), .int .u32 (1 + pk l (n0 + 2 + 1 + 1 + 1 + 1) 2), .int .i64 nrm, .int .i64 18, .int .i64 0] 60); refine Kd.R_append k60 (w0 := w6.alloc (.cells #[.bool false, .bool (decide (0 < pk l (n0 + 2) 6)), .bool (decide (0 < pk l (n0 + 2 + 1) 6)), .bool (decide (0 < pk l (n0 + 2 + 1 + 1) 6)), .bool (decide (0 < pk l (n0 + 2 + 1 + 1 + 1) 6)), .int .u32 (1 + pk l (n0 + 2 + 1 + 1 + 1 + 1) 2), .int .i64 nrm, .int .i64 18, .int .i64 0] 60)) w.heap.size rfl (.tmp 109) (.tmp 111) 42 60 _ 40 rfl Try.underlying42 infoP rfl (by decide) (by decide) (.slice A ps.length cv) ps (⟨false, decide (0 < pk l (n0 + 2) 6), decide (0 < pk l (n0 + 2 + 1) 6), decide (0 < pk l (n0 + 2 + 1 + 1) 6), decide (0 < pk l (n0 + 2 + 1 + 1 + 1) 6), 1 + pk l (n0 + 2 + 1 + 1 + 1 + 1) 2, nrm, 18, 0⟩ : S60) [.bool false, .bool (decide (0 < pk l (n0 + 2) 6)), .bool (decide (0 < pk l (n0 + 2 + 1) 6)), .bool (decide (0 < pk l (n0 + 2 + 1 + 1) 6)), .bool (decide (0 < pk l (n0 + 2 + 1 + 1 + 1) 6)), .int .u32 (1 + pk l (n0 + 2 + 1 + 1 + 1 + 1) 2), .int .i64 nrm, .int .i64 18, .int .i64 0] (fun k => k ≠ g ∧ k ≠ w6.heap.size) (fun _ => False) rfl (by rw [e7]; rfl) (k60_mkM _ _ _ (⟨false, decide (0 < pk l (n0 + 2) 6), decide (0 < pk l (n0 + 2 + 1) 6), decide (0 < pk l (n0 + 2 + 1 + 1) 6), decide (0 < pk l (n0 + 2 + 1 + 1 + 1) 6), 1 + pk l (n0 + 2 + 1 + 1 + 1 + 1) 2, nrm, 18, 0⟩ : S60)) (fun _ hk => hk.elim) (fun k hk => (by have := S6.pk.lt; omega)) S7.ho (Below.refl _ _) S7.kb.1 (by omega) ?_; intro v1 w9 ho1 _ hg9 _; have SE := BS.app S7 ho1 hg9; have hx5 := Mem.blk_free ((hg9.block g5 (Mem.blk_lt S7.h5) (Kd.R_ne S7.ho S7.h5 (by decide))).trans S7.h5) 4; have hy5 := Mem.cells5 ((hg9.block g5 (Mem.blk_lt S7.h5) (Kd.R_ne S7.ho S7.h5 (by decide))).trans S7.h5); obtain ⟨A1, c1, rfl⟩ := Kd.R_slice ho1; simp only [List.length_append, List.length_cons, List.length_nil, Nat.zero_add] at SE; clear ho1 hg9 S7 hc5 e7)
        | fail)
        all_goals
          go_roundw
          case measure => simp [intOf]; omega
          case rel => exact ⟨1, _, by omega, rfl, by rw [HST0.out]; rfl, by rw [HST0.out]; rfl, by rw [HST0.out]; exact SE⟩
      · have h0 : bst l n0 T (k + 1) = (ps ++ [(part1 l (n0 + 8 * k) k T sec nrm).1], (part1 l (n0 + 8 * k) k T sec nrm).2) := by
          have := HST.out
          rw [if_neg (by omega)] at this
          exact this
        have HST0 := Lib.hid h0
        clear HST h0
        rw [if_neg (by omega)] at hin
        have S0 : BS w0 w wr g g4 g5 g l (n0 + 8 * k) (T + 60 + 80) T (1 + r0) (.slice A ps.length cv) ps := by
          have := S
          unfold posn at this
          rwa [if_neg (by omega)] at this
        clear S
        obtain ⟨ix, hix, hix5⟩ : ∃ ix : Nat, Hid (pk l (n0 + 8 * k + 6) 5 = (ix : Int)) ∧ ix < 5 := by
          have hb7 := pk_in l (n0 + 8 * k + 6) (m := 5) (by decide)
          exact ⟨(pk l (n0 + 8 * k + 6) 5).toNat, Lib.hid (by omega), by omega⟩
        have hid := pk_in l (n0 + 8 * k + 1 + 1 + 1 + 1 + 1) (m := 2) (by decide)
        have hcn := cnt5_in ix
        have hix0 : (0 : Int) ≤ (ix : Int) := by omega
        have hix1 : (ix : Int) < 5 := by omega
        obtain ⟨x0, hx0⟩ : ∃ x, pk l (n0 + 8 * k) 2 = x := ⟨_, rfl⟩
        obtain ⟨x7, hx7⟩ : ∃ x, pk l (n0 + 8 * k + 7) 2 = x := ⟨_, rfl⟩
        have Hx0 := Lib.hid hx0
        have Hx7 := Lib.hid hx7
        clear hx0 hx7
        have hkp : (0 : Int) < (k : Int) := by omega
        obtain ⟨c, hcc⟩ : ∃ c, cnt5 ix = c := ⟨_, rfl⟩
        rw [hcc] at hcn
        have Hcc := Lib.hid hcc
        clear hcc
        go_upto_region 8 with (first
          | (go_at_call 34; (with_reducible refine (num_any HL.out HN.out S0.pk S0.b0 (by decide)).mono ?_); rw [Hx0.out]; rintro e w1 ⟨rfl, p0, q0, r0⟩; have S1 := S0.num p0 q0 r0; clear p0 q0 S0 r0)
          | (go_at_call 34; (with_reducible refine (num_any HL.out HN.out S1.pk S1.b0 (by decide)).mono ?_); rintro e w2 ⟨rfl, p1, q1, r1⟩; have S2 := S1.num p1 q1 r1; clear p1 q1 S1 r1)
          | (go_at_call 34; (with_reducible refine (num_any HL.out HN.out S2.pk S2.b0 (by decide)).mono ?_); rintro e w3 ⟨rfl, p2, q2, r2⟩; have S3 := S2.num p2 q2 r2; clear p2 q2 S2 r2)
          | (go_at_call 34; (with_reducible refine (num_any HL.out HN.out S3.pk S3.b0 (by decide)).mono ?_); rintro e w4 ⟨rfl, p3, q3, r3⟩; have S4 := S3.num p3 q3 r3; clear p3 q3 S3 r3)
          | (go_at_call 34; (with_reducible refine (num_any HL.out HN.out S4.pk S4.b0 (by decide)).mono ?_); rintro e w5 ⟨rfl, p4, q4, r4⟩; have S5 := S4.num p4 q4 r4; clear p4 q4 S4 r4)
          | (go_at_call 34; (with_reducible refine (num_any HL.out HN.out S5.pk S5.b0 (by decide)).mono ?_); rintro e w6 ⟨rfl, p5, q5, r5⟩; have S6 := S5.num p5 q5 r5; clear p5 q5 S5 r5)
          | (go_at_call 34; have S6a := S6.alloc (.cells #[.int .i64 4, .int .i64 5, .int .i64 6, .int .i64 17, .int .i64 18] 3); (with_reducible refine (num_any HL.out HN.out S6a.pk S6a.b0 (by decide)).mono ?_); rw [hix.out]; rintro e w7 ⟨rfl, p6, q6, r6⟩; have S7 := S6a.num p6 q6 r6; have hcell := (blk_cell5 (r6.blk (Mem.blk_new w6 (.cells #[.int .i64 4, .int .i64 5, .int .i64 6, .int .i64 17, .int .i64 18] 3)) (by have := S6.pk.lt; omega) (by simp)) hix5); rw [Hcc.out] at hcell; have hc5 := Mem.cells5a S7.h5; clear p6 q6 S6a S6 r6)
          | fail)
        have S8 := S7.box (.cells #[.bool (x0 == 0), .bool (decide (0 < pk l (n0 + 8 * k + 1) 6)), .bool (decide (0 < pk l (n0 + 8 * k + 1 + 1) 6)), .bool (decide (0 < pk l (n0 + 8 * k + 1 + 1 + 1) 6)), .bool (decide (0 < pk l (n0 + 8 * k + 1 + 1 + 1 + 1) 6)), .int .u32 (1 + pk l (n0 + 8 * k + 1 + 1 + 1 + 1 + 1) 2), .int .i64 0, .int .i64 c, .int .i64 0] 60)
        have hgx := (show w7.heap.size ≠ g ∧ w7.heap.size ≠ g4 ∧ w7.heap.size ≠ g5 ∧ w.heap.size ≤ w7.heap.size from ⟨by have := S7.pk.lt; omega, by have := Mem.blk_lt S7.h4; omega, by have := Mem.blk_lt S7.h5; omega, S7.kb.1⟩)
        have B8 := Mem.blk_new w7 (.cells #[.bool (x0 == 0), .bool (decide (0 < pk l (n0 + 8 * k + 1) 6)), .bool (decide (0 < pk l (n0 + 8 * k + 1 + 1) 6)), .bool (decide (0 < pk l (n0 + 8 * k + 1 + 1 + 1) 6)), .bool (decide (0 < pk l (n0 + 8 * k + 1 + 1 + 1 + 1) 6)), .int .u32 (1 + pk l (n0 + 8 * k + 1 + 1 + 1 + 1 + 1) 2), .int .i64 0, .int .i64 c, .int .i64 0] 60)
        obtain ⟨W8, hW8⟩ : ∃ W, w7.alloc (.cells #[.bool (x0 == 0), .bool (decide (0 < pk l (n0 + 8 * k + 1) 6)), .bool (decide (0 < pk l (n0 + 8 * k + 1 + 1) 6)), .bool (decide (0 < pk l (n0 + 8 * k + 1 + 1 + 1) 6)), .bool (decide (0 < pk l (n0 + 8 * k + 1 + 1 + 1 + 1) 6)), .int .u32 (1 + pk l (n0 + 8 * k + 1 + 1 + 1 + 1 + 1) 2), .int .i64 0, .int .i64 c, .int .i64 0] 60) = W := ⟨_, rfl⟩
        obtain ⟨gx, hgxe⟩ : ∃ gx, w7.heap.size = gx := ⟨_, rfl⟩
        rw [hW8] at S8 B8
        rw [hgxe] at S8 B8 hgx
        rw [hW8, hgxe]
        clear hW8 hgxe S7 hc5 hcell
        obtain ⟨dv, hdv⟩ : ∃ dv, dev1 l (n0 + 8 * k) k = dv := ⟨_, rfl⟩
        have Hdv := Lib.hid hdv
        obtain ⟨DB, hDB⟩ : ∃ b, decide (x7 = 0 ∧ k < 5) = b := ⟨_, rfl⟩
        have HDB := Lib.hid hDB
        obtain ⟨FB, hFB⟩ : ∃ b, decide (x0 = 0 ∧ sec + c ≤ T + 60) = b := ⟨_, rfl⟩
        have HFB := Lib.hid hFB
        clear hdv hDB hFB
        go_cut [73] (fun v73 wc => v73 = .bool DB ∧ BS w0 w wc g g4 g5 gx l (n0 + 8 * k + 1 + 1 + 1 + 1 + 1 + 1 + 1 + 1) (T + 60 + 80) T (1 + r0) (.slice A ps.length cv) ps ∧ wc.heap[gx]? = some (.cells #[.bool (x0 == 0), .bool (decide (0 < pk l (n0 + 8 * k + 1) 6)), .bool (decide (0 < pk l (n0 + 8 * k + 1 + 1) 6)), .bool (decide (0 < pk l (n0 + 8 * k + 1 + 1 + 1) 6)), .bool (decide (0 < pk l (n0 + 8 * k + 1 + 1 + 1 + 1) 6)), .int .u32 (1 + pk l (n0 + 8 * k + 1 + 1 + 1 + 1 + 1) 2), .int .i64 0, .int .i64 c, .int .i64 0] 60 (0, 0)))
        case first =>
          by_cases h7 : x7 = 0
          · have e7 : (x7 == 0) = true := by rw [h7]; rfl
            by_cases h5 : k < 5
            · have hD : DB = true := by rw [← HDB.out]; exact decide_eq_true ⟨h7, h5⟩
              have HD := Lib.hid hD
              have h5' : decide ((k : Int) < 5) = true := decide_eq_true (by omega)
              clear h7 hD h5
              go_wp2_with (first | (go_at_call 34; (with_reducible refine (num_any HL.out HN.out S8.pk S8.b0 (by decide)).mono ?_); rw [Hx7.out]; rintro e w8 ⟨rfl, p8, q8, r8⟩; have S9 := S8.num p8 q8 r8; have B9 := r8.blk B8 hgx.1 (by simp); clear p8 q8 r8 S8 B8) | fail)
              go_meet
              case rel => exact ⟨by rw [HD.out], S9, B9⟩
            · have hD : DB = false := by rw [← HDB.out]; exact decide_eq_false (fun h => h5 h.2)
              have HD := Lib.hid hD
              have h5' : decide ((k : Int) < 5) = false := decide_eq_false (by omega)
              clear h7 hD h5
              go_wp2_with (first | (go_at_call 34; (with_reducible refine (num_any HL.out HN.out S8.pk S8.b0 (by decide)).mono ?_); rw [Hx7.out]; rintro e w8 ⟨rfl, p8, q8, r8⟩; have S9 := S8.num p8 q8 r8; have B9 := r8.blk B8 hgx.1 (by simp); clear p8 q8 r8 S8 B8) | fail)
              go_meet
              case rel => exact ⟨by rw [HD.out], S9, B9⟩
          · have e7 : (x7 == 0) = false := by simpa using h7
            have hD : DB = false := by rw [← HDB.out]; exact decide_eq_false (fun h => h7 h.1)
            have HD := Lib.hid hD
            clear h7 hD
            go_wp2_with (first | (go_at_call 34; (with_reducible refine (num_any HL.out HN.out S8.pk S8.b0 (by decide)).mono ?_); rw [Hx7.out]; rintro e w8 ⟨rfl, p8, q8, r8⟩; have S9 := S8.num p8 q8 r8; have B9 := r8.blk B8 hgx.1 (by simp); clear p8 q8 r8 S8 B8) | fail)
            go_meet
            case rel => exact ⟨by rw [HD.out], S9, B9⟩
        case rest =>
        obtain ⟨rfl, S9, B9⟩ := hcut
        clear S8 B8
        go_upto_if 73 with (fail)
        go_cut [] (fun wc => BS w0 w wc g g4 g5 gx l (n0 + 8 * k + 1 + 1 + 1 + 1 + 1 + 1 + 1 + 1) (T + 60 + 80) T (1 + r0) (.slice A ps.length cv) ps ∧ wc.heap[gx]? = some (.cells #[.bool (x0 == 0), .bool (decide (0 < pk l (n0 + 8 * k + 1) 6)), .bool (decide (0 < pk l (n0 + 8 * k + 1 + 1) 6)), .bool (decide (0 < pk l (n0 + 8 * k + 1 + 1 + 1) 6)), .bool (decide (0 < pk l (n0 + 8 * k + 1 + 1 + 1 + 1) 6)), .int .u32 (1 + pk l (n0 + 8 * k + 1 + 1 + 1 + 1 + 1) 2), .int .i64 0, .int .i64 c, .int .i64 dv] 60 (0, 0)))
        case first =>
          have hf9 := Mem.blk_free B9
          have hc9 := Mem.cells9 B9
          cases DB
          · have hd0 : dv = 0 := by
              rw [← Hdv.out]; unfold dev1
              rw [if_neg (by rw [Hx7.out]; have := HDB.out; simpa using this)]
            have HD := Lib.hid hd0
            clear hd0
            go_wp2
            go_meet
            case rel => exact ⟨S9, by rw [HD.out]; exact B9⟩
          · have hd0 : dv = k := by
              rw [← Hdv.out]; unfold dev1
              rw [if_pos (by rw [Hx7.out]; have := HDB.out; simpa using this)]
            have HD := Lib.hid hd0
            clear hd0
            go_wp2
            go_meet
            case rel => exact ⟨S9.set hgx.1 hgx.2.1 hgx.2.2.1 hgx.2.2.2 8 (.int .i64 k), by rw [HD.out]; exact blk_setN B9 8 (.int .i64 k) rfl⟩
        case rest =>
        obtain ⟨S10, B10⟩ := hcut
        clear S9 B9
        have hc5 := Mem.cells5 S10.h5
        have hc9 := Mem.cells9 B10
        have hf9 := Mem.blk_free B10
        go_upto_region 10 with (fail)
        obtain ⟨W10, hW10⟩ : ∃ W, wc = W := ⟨_, rfl⟩
        subst hW10
        go_cut [87] (fun v87 wd => v87 = .bool FB ∧ wd = wc)
        case first =>
          by_cases h0 : x0 = 0
          · have e0 : (x0 == 0) = true := by rw [h0]; rfl
            have hle : FB = decide (sec + c ≤ T + 60) := by rw [← HFB.out]; simp [h0]
            have HD := Lib.hid hle
            clear h0 hle
            go_wp2
            go_meet
            case rel => exact ⟨by rw [HD.out], rfl⟩
          · have e0 : (x0 == 0) = false := by simpa using h0
            have hle : FB = false := by rw [← HFB.out]; simp [h0]
            have HD := Lib.hid hle
            clear h0 hle
            go_wp2
            go_meet
            case rel => exact ⟨by rw [HD.out], rfl⟩
        case rest =>
        obtain ⟨rfl, rfl⟩ := hcut
        go_upto_if 87 with (fail)
        go_cut [6, 7] (fun v6 v7 wc => ∃ (PP : S60) (sx nx : Int), v6 = .int .i64 sx ∧ v7 = .int .i64 nx ∧ Hid (part1 l (n0 + 8 * k) k T sec nrm = (PP, sx, nx)) ∧ BS w0 w wc g g4 g5 gx l (n0 + 8 * k + 1 + 1 + 1 + 1 + 1 + 1 + 1 + 1) (T + 60 + 80) T (1 + r0) (.slice A ps.length cv) ps ∧ wc.heap[gx]? = some (.cells #[.bool PP.f0, .bool PP.f1, .bool PP.f2, .bool PP.f3, .bool PP.f4, .int .u32 PP.f5, .int .i64 PP.f6, .int .i64 PP.f7, .int .i64 PP.f8] 60 (0, 0)))
        case first =>
          cases FB
          · have hno : ¬ (pk l (n0 + 8 * k) 2 = 0 ∧ sec + c ≤ T + 60) := by have := HFB.out; rw [Hx0.out]; simpa using this
            have HNO := Lib.hid hno
            clear hno
            go_wp2
            all_goals
              go_meet
              case rel =>
                first
                  | exact ⟨(⟨false, decide (0 < pk l (n0 + 8 * k + 1) 6), decide (0 < pk l (n0 + 8 * k + 1 + 1) 6), decide (0 < pk l (n0 + 8 * k + 1 + 1 + 1) 6), decide (0 < pk l (n0 + 8 * k + 1 + 1 + 1 + 1) 6), 1 + pk l (n0 + 8 * k + 1 + 1 + 1 + 1 + 1) 2, nrm, c, dv⟩ : S60), _, _, rfl, rfl, Lib.hid (part1_no HNO.out hix.out Hcc.out Hdv.out (show min12 c = _ from if_neg (by omega)) rfl), (S10.set hgx.1 hgx.2.1 hgx.2.2.1 hgx.2.2.2 0 (.bool false)).set hgx.1 hgx.2.1 hgx.2.2.1 hgx.2.2.2 6 (.int .i64 nrm), blk_setN (blk_setN B10 0 (.bool false) rfl) 6 (.int .i64 nrm) rfl⟩
                  | exact ⟨(⟨false, decide (0 < pk l (n0 + 8 * k + 1) 6), decide (0 < pk l (n0 + 8 * k + 1 + 1) 6), decide (0 < pk l (n0 + 8 * k + 1 + 1 + 1) 6), decide (0 < pk l (n0 + 8 * k + 1 + 1 + 1 + 1) 6), 1 + pk l (n0 + 8 * k + 1 + 1 + 1 + 1 + 1) 2, nrm, 12, dv⟩ : S60), _, _, rfl, rfl, Lib.hid (part1_no HNO.out hix.out Hcc.out Hdv.out (show min12 c = _ from if_pos (by omega)) rfl), ((S10.set hgx.1 hgx.2.1 hgx.2.2.1 hgx.2.2.2 0 (.bool false)).set hgx.1 hgx.2.1 hgx.2.2.1 hgx.2.2.2 6 (.int .i64 nrm)).set hgx.1 hgx.2.1 hgx.2.2.1 hgx.2.2.2 7 (.int .i64 12), blk_setN (blk_setN (blk_setN B10 0 (.bool false) rfl) 6 (.int .i64 nrm) rfl) 7 (.int .i64 12) rfl⟩
          · have hyes : pk l (n0 + 8 * k) 2 = 0 ∧ sec + c ≤ T + 60 := by have := HFB.out; rw [Hx0.out]; simpa using this
            have HYES := Lib.hid hyes
            have hb9 := hyes.2
            clear hyes
            go_wp2
            go_meet
            case rel => exact ⟨(⟨(x0 == 0), decide (0 < pk l (n0 + 8 * k + 1) 6), decide (0 < pk l (n0 + 8 * k + 1 + 1) 6), decide (0 < pk l (n0 + 8 * k + 1 + 1 + 1) 6), decide (0 < pk l (n0 + 8 * k + 1 + 1 + 1 + 1) 6), 1 + pk l (n0 + 8 * k + 1 + 1 + 1 + 1 + 1) 2, sec, c, dv⟩ : S60), _, _, rfl, rfl, Lib.hid (part1_fit HYES.out.1 HYES.out.2 hix.out Hcc.out Hdv.out (by rw [Hx0.out])), S10.set hgx.1 hgx.2.1 hgx.2.2.1 hgx.2.2.2 6 (.int .i64 sec), blk_setN B10 6 (.int .i64 sec) rfl⟩
        case rest =>
        obtain ⟨PP, sx, nx, rfl, rfl, hpp, SV, BV⟩ := hcut
        clear S10 B10 hc5 hc9 hf9
        have hc5 := Mem.cells5 SV.h5
        have hc9 := Mem.cells9 BV
        go_wp2_with (first
          | (at_builtin; refine Kd.R_append k60 (w0 := wc) w.heap.size rfl (.tmp 109) (.tmp 111) 42 60 _ 40 rfl Try.underlying42 infoP rfl (by decide) (by decide) (.slice A ps.length cv) ps PP [.bool PP.f0, .bool PP.f1, .bool PP.f2, .bool PP.f3, .bool PP.f4, .int .u32 PP.f5, .int .i64 PP.f6, .int .i64 PP.f7, .int .i64 PP.f8] (fun k => k ≠ g ∧ k ≠ gx) (fun _ => False) rfl rfl (k60_mkM _ _ _ PP) (fun _ hk => hk.elim) (fun k hk => (by have := SV.pk.lt; have := Mem.blk_lt BV; omega)) SV.ho (Below.refl _ _) SV.kb.1 (by omega) ?_; intro v1 w9 ho1 _ hg9 _; have SE := BS.app SV ho1 hg9; have hx5 := Mem.blk_free ((hg9.block g5 (Mem.blk_lt SV.h5) (Kd.R_ne SV.ho SV.h5 (by decide))).trans SV.h5) 4; have hy5 := Mem.cells5 ((hg9.block g5 (Mem.blk_lt SV.h5) (Kd.R_ne SV.ho SV.h5 (by decide))).trans SV.h5); obtain ⟨A1, c1, rfl⟩ := Kd.R_slice ho1; simp only [List.length_append, List.length_cons, List.length_nil, Nat.zero_add] at SE; clear ho1 hg9 SV BV hc5 hc9)
          | fail)
        go_roundw
        case measure => simp [intOf]; omega
        case rel => exact ⟨k + 1, _, by omega, by go_num, by rw [HST0.out, hpp.out], by rw [HST0.out, hpp.out], by rw [HST0.out, hpp.out]; exact SE⟩
    · have hkP2 : k = P := by omega
      subst hkP2
      have hc4 := Mem.cells5 S.h4
      have hc5 := Mem.cells5 S.h5
      have hf4 := Mem.blk_free S.h4
      go_wp2
      obtain ⟨V, hV, BV, vp, vb, vk, vr⟩ := S.fin
      rw [hV]
      rw [show T + 60 + 80 = T + 140 by omega] at BV
      refine bodyPost_ret (results_c rfl _ _ g4 44 _ (0, 0) _ rfl BV Try.underlying44 rfl (by kernel_rfl)) rfl ?_
      exact ⟨_, rfl, by rw [HPS.out]; exact vr, vb, vk, vp⟩
end Go.Proofs.Ytmhglfidggjfdaa.Pick
