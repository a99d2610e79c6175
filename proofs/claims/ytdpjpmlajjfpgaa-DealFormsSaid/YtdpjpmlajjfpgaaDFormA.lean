/- What stands while DealForms' deals are laid out. -/
import Derived.Test.YtdpjpmlajjfpgaaDealR
import Derived.Deep.DeepCutAuto
import Derived.Laws.MakeOwn
namespace Go.Proofs.Ytdpjpmlajjfpgaa.Deal
open Go Go.RowKit Go.Proofs.Ytdpjpmlajjfpgaa.Mem Go.Proofs.Ytdpjpmlajjfpgaa.Kept Go.Proofs.Ytdpjpmlajjfpgaa.PDealK Go.Proofs.Ytdpjpmlajjfpgaa.PDealQ
open Go.Proofs.YtdpjpmlajjfpgaaW.PrintWords hiding add_at blk_alloc blk_below blk_cell blk_drewN blk_far blk_lt blk_new blk_set
set_option linter.unusedVariables false
set_option linter.unusedSimpArgs false

def z65 : Array Value := (List.replicate 13 [Value.int .i64 0, .int .i64 0, .bool false, .slice none 0 0, .slice none 0 0]).flatten.toArray
def okR : List RV := [⟨0, 7⟩, ⟨2, 1⟩]
def okS : List SP := [⟨9, 2⟩]
theorem made13 (w : World) : (Instr.makeSlice 43 (.int .i64 13) (.int .i64 13)).run Try.prog w = .ok (.slice (some ⟨w.heap.size, 0, none⟩) 13 13) (w.alloc (.cells z65 25)) := by kernel_rfl
/-- Block g is a table of 65 cells that reads as b. -/
def BArr (Y : World) (g : Nat) (b : Nat → Value) : Prop := ∃ cs : Array Value, Y.heap[g]? = some (.cells cs 25 (0, 0)) ∧ cs.size = 65 ∧ ∀ i : Nat, i < 65 → cs[i]? = some (b i)
theorem BArr.at {Y : World} {g : Nat} {b : Nat → Value} (h : BArr Y g b) {i : Nat} (hi : i < 65) : Y.cell? ⟨g, i, none⟩ = some (b i) := by
  obtain ⟨cs, h1, h2, h3⟩ := h
  rw [Mem.blk_cell h1]; exact h3 i hi
theorem BArr.free {Y : World} {g : Nat} {b : Nat → Value} (h : BArr Y g b) (i : Nat) : Y.frozen? ⟨g, i, none⟩ = false := by
  obtain ⟨cs, h1, h2, h3⟩ := h
  exact Mem.blk_free h1 i
theorem BArr.lt {Y : World} {g : Nat} {b : Nat → Value} (h : BArr Y g b) : g < Y.heap.size := by
  obtain ⟨cs, h1, h2, h3⟩ := h
  exact Mem.blk_lt h1
theorem BArr.same {Y Z : World} {g : Nat} {b : Nat → Value} (h : BArr Y g b) (e : Z.heap[g]? = Y.heap[g]?) : BArr Z g b := by
  obtain ⟨cs, h1, h2, h3⟩ := h
  exact ⟨cs, e.trans h1, h2, h3⟩
theorem BArr.below {Y Z : World} {g : Nat} {b : Nat → Value} (h : BArr Y g b) (hb : Below Y.heap.size Y Z) : BArr Z g b := h.same (hb.block g h.lt)
theorem BArr.put {Y : World} {g : Nat} {b : Nat → Value} (h : BArr Y g b) (i : Nat) (v : Value) : BArr (Y.setCell ⟨g, i, none⟩ v) g (fun j => if j = i then v else b j) := by
  obtain ⟨cs, h1, h2, h3⟩ := h
  refine ⟨cs.setIfInBounds i v, Mem.blk_set h1 i _, by simp [h2], fun j hj => ?_⟩
  show _ = some (if j = i then v else b j)
  rw [Array.getElem?_setIfInBounds]
  by_cases e : i = j
  · subst e
    rw [if_pos rfl, if_pos (by omega), if_pos rfl]
  · rw [if_neg e, if_neg (by omega)]
    exact h3 j hj
theorem BArr.new (Y : World) : BArr (Y.alloc (.cells z65 25)) Y.heap.size (fun i => z65.getD i undef) :=
  ⟨z65, Mem.blk_new _ _, rfl, fun i hi => by
    have h : i < z65.size := hi
    simp [Array.getD, h]⟩
theorem row_own40 {Y : World} {base g n c : Nat} {ok : Nat → Prop} {xs : List RV} (h : Kd.R k40 40 Y base ok (.slice (some ⟨g, 0, none⟩) n c) xs) : Kd.R k40 40 Y base (fun x => x = g) (.slice (some ⟨g, 0, none⟩) n c) xs :=
  ⟨fun k hk => by simp [Value.ownBlock] at hk; exact hk.symm, h.2.imp_ (fun p cs hp => by rw [k40_openM hp]; exact k40_mkM _ _ _ _)⟩
theorem row_own42 {Y : World} {base g n c : Nat} {ok : Nat → Prop} {xs : List SP} (h : Kd.R k42 42 Y base ok (.slice (some ⟨g, 0, none⟩) n c) xs) : Kd.R k42 42 Y base (fun x => x = g) (.slice (some ⟨g, 0, none⟩) n c) xs :=
  ⟨fun k hk => by simp [Value.ownBlock] at hk; exact hk.symm, h.2.imp_ (fun p cs hp => by rw [k42_openM hp]; exact k42_mkM _ _ _ _)⟩
/-- A deal's two rows. -/
structure BD where
  ra : Nat
  rc : Nat
  rv : List RV
  sa : Nat
  sc : Nat
  sp : List SP
/-- What stands while the deals are laid out: k of 13, with j spans' rows of them. -/
structure FI (w Y : World) (g1 gp gs gb k m : Nat) (D : Nat → BD) (tag : Nat → Nat) (b : Nat → Value) : Prop where
  bel : Below w.heap.size w Y
  box : Y.heap[g1]? = some (.cells #[.int .i64 2, .int .i64 1, .bool true, .slice (some ⟨gp, 0, none⟩) 2 2, .slice (some ⟨gs, 0, none⟩) 1 1] 25 (0, 0))
  prt : Y.heap[gp]? = some (.cells #[.int .i64 0, .int .i64 7, .int .i64 2, .int .i64 1] 40 (0, 0))
  spt : Y.heap[gs]? = some (.cells #[.int .i64 9, .int .i64 2] 42 (0, 0))
  arr : BArr Y gb b
  row : ∀ i, i < k → Kd.R k40 40 Y w.heap.size (fun x => x = (D i).ra) (.slice (some ⟨(D i).ra, 0, none⟩) 2 (D i).rc) (D i).rv
  row2 : ∀ i, i < m → Kd.R k42 42 Y w.heap.size (fun x => x = (D i).sa) (.slice (some ⟨(D i).sa, 0, none⟩) 1 (D i).sc) (D i).sp
  t1 : ∀ i, i < k → tag (D i).ra = 2 * i + 1
  t2 : ∀ i, i < m → tag (D i).sa = 2 * i + 2
  t0 : tag g1 = 0 ∧ tag gp = 0 ∧ tag gs = 0 ∧ tag gb = 0
section
variable {w Y Z : World} {g1 gp gs gb k m : Nat} {D : Nat → BD} {tag : Nat → Nat} {b : Nat → Value}
theorem FI.below (H : FI w Y g1 gp gs gb k m D tag b) (hb : Below Y.heap.size Y Z) : FI w Z g1 gp gs gb k m D tag b :=
  ⟨bel_chain H.bel hb, Mem.blk_below H.box hb, Mem.blk_below H.prt hb, Mem.blk_below H.spt hb, H.arr.below hb, fun j hj => Kd.R_below (H.row j hj) hb, fun j hj => Kd.R_below (H.row2 j hj) hb, H.t1, H.t2, H.t0⟩
theorem FI.put (H : FI w Y g1 gp gs gb k m D tag b) (e1 : g1 ≠ gb) (e2 : gp ≠ gb) (e4 : gs ≠ gb) (e3 : w.heap.size ≤ gb) (i : Nat) (v : Value) :
    FI w (Y.setCell ⟨gb, i, none⟩ v) g1 gp gs gb k m D tag (fun j => if j = i then v else b j) :=
  ⟨H.bel.setCell e3 _, Mem.blk_far H.box e1 _, Mem.blk_far H.prt e2 _, Mem.blk_far H.spt e4 _, H.arr.put i v,
    fun j hj => Kd.R_far (H.row j hj) (fun x hx => by rw [hx]; intro e; have := H.t1 j hj; rw [e, H.t0.2.2.2] at this; omega) v,
    fun j hj => Kd.R_far (H.row2 j hj) (fun x hx => by rw [hx]; intro e; have := H.t2 j hj; rw [e, H.t0.2.2.2] at this; omega) v, H.t1, H.t2, H.t0⟩
theorem FI.put5 (H : FI w Y g1 gp gs gb k m D tag b) (e1 : g1 ≠ gb) (e2 : gp ≠ gb) (e4 : gs ≠ gb) (e3 : w.heap.size ≤ gb) (n : Nat) (a0 a1 a2 a3 a4 : Value) :
    FI w (Y.setCells gb n [a0, a1, a2, a3, a4]) g1 gp gs gb k m D tag (fun j => if j = n + 4 then a4 else if j = n + 3 then a3 else if j = n + 2 then a2 else if j = n + 1 then a1 else if j = n then a0 else b j) :=
  ((((H.put e1 e2 e4 e3 n a0).put e1 e2 e4 e3 (n + 1) a1).put e1 e2 e4 e3 (n + 2) a2).put e1 e2 e4 e3 (n + 3) a3).put e1 e2 e4 e3 (n + 4) a4
/-- One receivers' row has been written. -/
theorem FI.rcv (H : FI w Y g1 gp gs gb k m D tag b) (e3 : w.heap.size ≤ Y.heap.size) {i : Nat} (hi : i < k) {l' : List RV} (hb : w.heap.size ≤ (D i).ra)
    (hr : Kd.R k40 40 Z w.heap.size (fun x => x = (D i).ra) (.slice (some ⟨(D i).ra, 0, none⟩) 2 (D i).rc) l') (hg : Y.grownBy Z (some (D i).ra)) :
    FI w Z g1 gp gs gb k m (fun j => if j = i then { D i with rv := l' } else D j) tag b := by
  have hx := H.t1 i hi
  have hne : ∀ g, tag g ≠ 2 * i + 1 → some g ≠ some (D i).ra := fun g h e => by injection e with e; rw [e] at h; exact h hx
  refine ⟨H.bel.grown hg e3 (fun x hx => by injection hx with hx; omega), (hg.block g1 (Mem.blk_lt H.box) (hne _ (by rw [H.t0.1]; omega))).trans H.box, (hg.block gp (Mem.blk_lt H.prt) (hne _ (by rw [H.t0.2.1]; omega))).trans H.prt,
    (hg.block gs (Mem.blk_lt H.spt) (hne _ (by rw [H.t0.2.2.1]; omega))).trans H.spt, H.arr.same (hg.block gb H.arr.lt (hne _ (by rw [H.t0.2.2.2]; omega))), fun j hj => ?_, fun j hj => ?_, fun j hj => ?_, fun j hj => ?_, H.t0⟩
  · by_cases e : j = i
    · subst e; simp only [if_true]; exact hr
    · simp only [if_neg e]
      exact Kd.R_grown (H.row j hj) hg (fun x hx => by rw [hx]; exact hne _ (by rw [H.t1 j hj]; omega))
  · have := Kd.R_grown (H.row2 j hj) hg (fun x hx => by rw [hx]; exact hne _ (by rw [H.t2 j hj]; omega))
    by_cases e : j = i
    · subst e; simp only [if_true]; exact this
    · simp only [if_neg e]; exact this
  · by_cases e : j = i
    · subst e; simp only [if_true]; exact H.t1 j hj
    · simp only [if_neg e]; exact H.t1 j hj
  · by_cases e : j = i
    · subst e; simp only [if_true]; exact H.t2 j hj
    · simp only [if_neg e]; exact H.t2 j hj
/-- One spans' row has been written. -/
theorem FI.spn (H : FI w Y g1 gp gs gb k m D tag b) (e3 : w.heap.size ≤ Y.heap.size) {i : Nat} (hi : i < m) {l' : List SP} (hb : w.heap.size ≤ (D i).sa)
    (hr : Kd.R k42 42 Z w.heap.size (fun x => x = (D i).sa) (.slice (some ⟨(D i).sa, 0, none⟩) 1 (D i).sc) l') (hg : Y.grownBy Z (some (D i).sa)) :
    FI w Z g1 gp gs gb k m (fun j => if j = i then { D i with sp := l' } else D j) tag b := by
  have hx := H.t2 i hi
  have hne : ∀ g, tag g ≠ 2 * i + 2 → some g ≠ some (D i).sa := fun g h e => by injection e with e; rw [e] at h; exact h hx
  refine ⟨H.bel.grown hg e3 (fun x hx => by injection hx with hx; omega), (hg.block g1 (Mem.blk_lt H.box) (hne _ (by rw [H.t0.1]; omega))).trans H.box, (hg.block gp (Mem.blk_lt H.prt) (hne _ (by rw [H.t0.2.1]; omega))).trans H.prt,
    (hg.block gs (Mem.blk_lt H.spt) (hne _ (by rw [H.t0.2.2.1]; omega))).trans H.spt, H.arr.same (hg.block gb H.arr.lt (hne _ (by rw [H.t0.2.2.2]; omega))), fun j hj => ?_, fun j hj => ?_, fun j hj => ?_, fun j hj => ?_, H.t0⟩
  · have := Kd.R_grown (H.row j hj) hg (fun x hx => by rw [hx]; exact hne _ (by rw [H.t1 j hj]; omega))
    by_cases e : j = i
    · subst e; simp only [if_true]; exact this
    · simp only [if_neg e]; exact this
  · by_cases e : j = i
    · subst e; simp only [if_true]; exact hr
    · simp only [if_neg e]
      exact Kd.R_grown (H.row2 j hj) hg (fun x hx => by rw [hx]; exact hne _ (by rw [H.t2 j hj]; omega))
  · by_cases e : j = i
    · subst e; simp only [if_true]; exact H.t1 j hj
    · simp only [if_neg e]; exact H.t1 j hj
  · by_cases e : j = i
    · subst e; simp only [if_true]; exact H.t2 j hj
    · simp only [if_neg e]; exact H.t2 j hj
/-- One receivers' row more. -/
theorem FI.more (H : FI w Y g1 gp gs gb k k D tag b) (hb : Below Y.heap.size Y Z) {gr c : Nat} {l : List RV} (hgr : Y.heap.size ≤ gr) (hr : Kd.R k40 40 Z w.heap.size (fun x => x = gr) (.slice (some ⟨gr, 0, none⟩) 2 c) l) :
    FI w Z g1 gp gs gb (k + 1) k (fun j => if j = k then { D k with ra := gr, rc := c, rv := l } else D j) (fun x => if x = gr then 2 * k + 1 else tag x) b := by
  have H2 := H.below hb
  have hlt : ∀ j, j < k → (D j).ra < Y.heap.size := fun j hj => Kd.R_lt (H.row j hj) _ rfl
  have hlt2 : ∀ j, j < k → (D j).sa < Y.heap.size := fun j hj => Kd.R_lt (H.row2 j hj) _ rfl
  have a1 := Mem.blk_lt H.box
  have a2 := Mem.blk_lt H.prt
  have a3 := Mem.blk_lt H.spt
  have a4 := H.arr.lt
  refine ⟨H2.bel, H2.box, H2.prt, H2.spt, H2.arr, fun j hj => ?_, fun j hj => ?_, fun j hj => ?_, fun j hj => ?_, ?_⟩
  · by_cases e : j = k
    · subst e; simp only [if_true]; exact hr
    · simp only [if_neg e]; exact H2.row j (by omega)
  · have e : j ≠ k := by omega
    simp only [if_neg e]; exact H2.row2 j hj
  · by_cases e : j = k
    · subst e; simp only [if_true]
    · simp only [if_neg e]
      have := hlt j (by omega)
      rw [if_neg (by omega)]; exact H.t1 j (by omega)
  · have e : j ≠ k := by omega
    simp only [if_neg e]
    have := hlt2 j hj
    rw [if_neg (by omega)]; exact H.t2 j hj
  · refine ⟨?_, ?_, ?_, ?_⟩ <;> rw [if_neg (by omega)]
    · exact H.t0.1
    · exact H.t0.2.1
    · exact H.t0.2.2.1
    · exact H.t0.2.2.2
/-- One spans' row more. -/
theorem FI.span (H : FI w Y g1 gp gs gb (k + 1) k D tag b) (hb : Below Y.heap.size Y Z) {gr c : Nat} {l : List SP} (hgr : Y.heap.size ≤ gr) (hr : Kd.R k42 42 Z w.heap.size (fun x => x = gr) (.slice (some ⟨gr, 0, none⟩) 1 c) l) :
    FI w Z g1 gp gs gb (k + 1) (k + 1) (fun j => if j = k then { D k with sa := gr, sc := c, sp := l } else D j) (fun x => if x = gr then 2 * k + 2 else tag x) b := by
  have H2 := H.below hb
  have hlt : ∀ j, j < k + 1 → (D j).ra < Y.heap.size := fun j hj => Kd.R_lt (H.row j hj) _ rfl
  have hlt2 : ∀ j, j < k → (D j).sa < Y.heap.size := fun j hj => Kd.R_lt (H.row2 j hj) _ rfl
  have a1 := Mem.blk_lt H.box
  have a2 := Mem.blk_lt H.prt
  have a3 := Mem.blk_lt H.spt
  have a4 := H.arr.lt
  refine ⟨H2.bel, H2.box, H2.prt, H2.spt, H2.arr, fun j hj => ?_, fun j hj => ?_, fun j hj => ?_, fun j hj => ?_, ?_⟩
  · by_cases e : j = k
    · subst e; simp only [if_true]; exact H2.row j hj
    · simp only [if_neg e]; exact H2.row j hj
  · by_cases e : j = k
    · subst e; simp only [if_true]; exact hr
    · simp only [if_neg e]; exact H2.row2 j (by omega)
  · have := hlt j hj
    by_cases e : j = k
    · subst e; simp only [if_true]; rw [if_neg (by omega)]; exact H.t1 j hj
    · simp only [if_neg e]; rw [if_neg (by omega)]; exact H.t1 j hj
  · by_cases e : j = k
    · subst e; simp only [if_true]
    · simp only [if_neg e]
      have := hlt2 j (by omega)
      rw [if_neg (by omega)]; exact H.t2 j (by omega)
  · refine ⟨?_, ?_, ?_, ?_⟩ <;> rw [if_neg (by omega)]
    · exact H.t0.1
    · exact H.t0.2.1
    · exact H.t0.2.2.1
    · exact H.t0.2.2.2
end
theorem wp_store5 {ops : Array Oper} {rest : List Oper} {o : Oper} {a : Act} {Q : Exit → Act → World → Prop} {W : World} (hN : o.dst = none) (hgd : o.guard = none) (t : TypeId) (p x : Operand) (ho : o.op = .store t p x) {g n : Nat} {b : Nat → Value} (H : BArr W g b) (hn : n + 5 ≤ 65)
    {a0 a1 a2 a3 a4 : Value} (haddr : a.eval p = .pointer (some ⟨g, n, none⟩)) (hx : a.eval x = .agg #[a0, a1, a2, a3, a4]) (ht : (Try.prog.info? t).map (·.size) = some 5) (h1 : ∀ q ∈ [a0, a1, a2, a3, a4], q.oneCell' = true)
    (h : wpList Try.prog ops Q rest a (W.setCells g n [a0, a1, a2, a3, a4])) : wpList Try.prog ops Q (o :: rest) a W := by
  refine wpList_plain hgd fun K hK => ?_
  obtain ⟨cs, hb, hs, _⟩ := H
  have hrun : (Instr.storeAt t (.pointer (some ⟨g, n, none⟩)) (.agg #[a0, a1, a2, a3, a4])).run Try.prog W = .ok () (W.setCells g n [a0, a1, a2, a3, a4]) :=
    Go.Proofs.YtdpjpmlajjfpgaaW.PrintWords.run_store_run t (.agg #[a0, a1, a2, a3, a4]) [a0, a1, a2, a3, a4] hb rfl ht (by simp; omega) h1
  unfold Oper.wp execOp
  simp only [ho, haddr, hx, Sem.run_bind, Sem.run_pure, Result.andThen_ok, hrun]
  show K (a.put o.dst undef) _
  rw [hN]
  exact hK a _ h
theorem row_empty40 (W : World) (base : Nat) (hb : base ≤ W.heap.size) : Kd.R k40 40 (W.alloc (.cells #[] 40)) base (fun _ => True) (.slice (some ⟨W.heap.size, 0, none⟩) 0 0) [] :=
  ⟨fun _ _ => trivial, [], World.ownsRow_lit (base := base) (e := 40) (size := k40.sz) W #[] 0 hb (by decide) (by rfl), Reps.none _ _⟩
theorem row_empty42 (W : World) (base : Nat) (hb : base ≤ W.heap.size) : Kd.R k42 42 (W.alloc (.cells #[] 42)) base (fun _ => True) (.slice (some ⟨W.heap.size, 0, none⟩) 0 0) [] :=
  ⟨fun _ _ => trivial, [], World.ownsRow_lit (base := base) (e := 42) (size := k42.sz) W #[] 0 hb (by decide) (by rfl), Reps.none _ _⟩
theorem c_okR {Y : World} {gp : Nat} (h : Y.heap[gp]? = some (.cells #[.int .i64 0, .int .i64 7, .int .i64 2, .int .i64 1] 40 (0, 0))) : Kd.C k40 Y (some ⟨gp, 0, none⟩) 2 okR :=
  ⟨rfl, by decide, fun _ => ⟨_, rfl, fun j p hj => by
    rcases j with _ | _ | j
    · injection hj with hj; subst hj
      exact ⟨_, rfl, k40_mk _ _, fun i u hi => by
        rw [Kept.add_at, Mem.blk_cell h]
        rcases i with _ | _ | i
        · exact hi
        · exact hi
        · simp at hi⟩
    · injection hj with hj; subst hj
      exact ⟨_, rfl, k40_mk _ _, fun i u hi => by
        rw [Kept.add_at, Mem.blk_cell h]
        rcases i with _ | _ | i
        · exact hi
        · exact hi
        · simp at hi⟩
    · simp [okR] at hj⟩⟩
theorem c_okS {Y : World} {gs : Nat} (h : Y.heap[gs]? = some (.cells #[.int .i64 9, .int .i64 2] 42 (0, 0))) : Kd.C k42 Y (some ⟨gs, 0, none⟩) 1 okS := c_sp h
theorem reads_f {w : World} {A : Option Addr} {n : Nat} {l : List Int} (hn : l.length = n) (h : Kd.C (Kd.int .u8) w A n l) : ReadsInt w .u8 A n l := by
  subst hn
  exact reads_c h
theorem own_row12 {w : World} {B : Nat} {v : Value} {l : List Int} (ho : w.ownsRow B 5 1 v l.length (nums .u8 l)) (hl : l.length = 12) : ∃ g c, v = .slice (some ⟨g, 0, none⟩) 12 c ∧ B ≤ g ∧ g < w.heap.size ∧ 12 ≤ c := by
  obtain ⟨g, c, rfl, h2, h3⟩ := ho.form (by omega)
  have hc := own_le ho
  exact ⟨g, c, by rw [hl], h2, h3, by omega⟩
theorem own_c12 {w : World} {B g c : Nat} {l : List Int} (ho : w.ownsRow B 5 1 (.slice (some ⟨g, 0, none⟩) 12 c) 12 (nums .u8 l)) : l.length = 12 ∧ Kd.C (Kd.int .u8) w (some ⟨g, 0, none⟩) 12 l := by
  have hl : l.length = 12 := by have := ho.1; simp [nums] at this; exact this
  have ho' : w.ownsRow B 5 1 (.slice (some ⟨g, 0, none⟩) 12 c) l.length (nums .u8 l) := by rw [hl]; exact ho
  obtain ⟨A', c', h1, h2, h3⟩ := r_open (Kd.R_of_own (ok := fun _ => True) ho' (fun _ _ => trivial)) hl
  injection h1 with h4 h5 h6
  subst h4
  exact ⟨hl, h3⟩
def okB (b : List Int) : Bool := decide (5 + 2 * nR b ≤ b.length ∧ 4 ≤ b.length ∧ mayD (rd b 0) (rd b 1) (rd b 2 == 1) (rvO b) (spO b) = true ∧ putD (rd b 0) (rd b 1) (rd b 2 == 1) (rvO b) (spO b) = b)
theorem takeD_no {b : List Int} (h : okB b = false) : takeD b = (0, 0, false, [], [], -2) := by
  unfold takeD
  rw [if_neg (of_decide_eq_false h)]
  rfl
theorem own_ge {gr n c n2 c2 G S : Nat} (h : (Value.slice (some ⟨gr, 0, none⟩) n c).ownBlock = (Value.slice (some ⟨G, 0, none⟩) n2 c2).ownBlock ∨ ∃ b, (Value.slice (some ⟨gr, 0, none⟩) n c).ownBlock = some b ∧ S ≤ b) (hs : G ≤ S) : G ≤ gr := by
  rcases h with h | ⟨b, h, hb⟩
  · injection h with h
    have h : gr = G := h
    omega
  · injection h with h
    have h : gr = b := h
    omega
end Go.Proofs.Ytdpjpmlajjfpgaa.Deal
