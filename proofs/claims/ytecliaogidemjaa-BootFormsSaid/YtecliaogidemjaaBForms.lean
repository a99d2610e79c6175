/- Which bills may be: the closed statement walked. -/
import Derived.Test.YtecliaogidemjaaBTurn
namespace Go.Proofs.Ytecliaogidemjaa.Boot
open Go.RowKit Go.Proofs.Ytecliaogidemjaa.Mem Go.Proofs.Ytecliaogidemjaa.Kept Go.Proofs.Ytecliaogidemjaa.PBootAll Go.Proofs.Ytecliaogidemjaa.Pick Go.Proofs.Ytecliaogidemjaa.BillO
set_option linter.unusedVariables false
set_option linter.unusedSimpArgs false

def zb : Array Value := #[.int .i64 0, .int .i64 0, .int .i64 0, .int .i64 0, .slice none 0 0]
def z90 : Array Value := (List.replicate 18 [Value.int .i64 0, .int .i64 0, .int .i64 0, .int .i64 0, .slice none 0 0]).flatten.toArray
def okP : List S56 := [⟨false, false, false, false, false, 0, 30, 4, 0⟩, ⟨true, false, false, false, false, 0, 10, 4, 2⟩]
def okC : Array Value := #[.bool false, .bool false, .bool false, .bool false, .bool false, .int .u32 0, .int .i64 30, .int .i64 4, .int .i64 0, .bool true, .bool false, .bool false, .bool false, .bool false, .int .u32 0, .int .i64 10, .int .i64 4, .int .i64 2]
theorem made18 (w : World) : (Instr.makeSlice 60 (.int .i64 18) (.int .i64 18)).run Try.prog w = .ok (.slice (some ⟨w.heap.size, 0, none⟩) 18 18) (w.alloc (.cells z90 41)) := by kernel_rfl
/-- Block g is a table of 90 cells that reads as b. -/
def BArr (Y : World) (g : Nat) (b : Nat → Value) : Prop := ∃ cs : Array Value, Y.heap[g]? = some (.cells cs 41 (0, 0)) ∧ cs.size = 90 ∧ ∀ i : Nat, i < 90 → cs[i]? = some (b i)
theorem BArr.at {Y : World} {g : Nat} {b : Nat → Value} (h : BArr Y g b) {i : Nat} (hi : i < 90) : Y.cell? ⟨g, i, none⟩ = some (b i) := by
  obtain ⟨cs, h1, h2, h3⟩ := h
  rw [blk_cell h1]; exact h3 i hi
theorem BArr.free {Y : World} {g : Nat} {b : Nat → Value} (h : BArr Y g b) (i : Nat) : Y.frozen? ⟨g, i, none⟩ = false := by
  obtain ⟨cs, h1, h2, h3⟩ := h
  exact blk_free h1 i
theorem BArr.lt {Y : World} {g : Nat} {b : Nat → Value} (h : BArr Y g b) : g < Y.heap.size := by
  obtain ⟨cs, h1, h2, h3⟩ := h
  exact blk_lt h1
theorem BArr.same {Y Z : World} {g : Nat} {b : Nat → Value} (h : BArr Y g b) (e : Z.heap[g]? = Y.heap[g]?) : BArr Z g b := by
  obtain ⟨cs, h1, h2, h3⟩ := h
  exact ⟨cs, e.trans h1, h2, h3⟩
theorem BArr.below {Y Z : World} {g : Nat} {b : Nat → Value} (h : BArr Y g b) (hb : Below Y.heap.size Y Z) : BArr Z g b := h.same (hb.block g h.lt)
theorem BArr.put {Y : World} {g : Nat} {b : Nat → Value} (h : BArr Y g b) (i : Nat) (v : Value) : BArr (Y.setCell ⟨g, i, none⟩ v) g (fun j => if j = i then v else b j) := by
  obtain ⟨cs, h1, h2, h3⟩ := h
  refine ⟨cs.setIfInBounds i v, blk_set h1 i _, by simp [h2], fun j hj => ?_⟩
  show _ = some (if j = i then v else b j)
  rw [Array.getElem?_setIfInBounds]
  by_cases e : i = j
  · subst e
    rw [if_pos rfl, if_pos (by omega), if_pos rfl]
  · rw [if_neg e, if_neg (by omega)]
    exact h3 j hj
theorem BArr.new (Y : World) : BArr (Y.alloc (.cells z90 41)) Y.heap.size (fun i => z90.getD i undef) :=
  ⟨z90, blk_new _ _, rfl, fun i hi => by
    have h : i < z90.size := hi
    simp [Array.getD, h]⟩
theorem row_own {Y : World} {base g n c : Nat} {ok : Nat → Prop} {xs : List S56} (h : Go.Proofs.YtecliaogidemjaaW.PrintWords.Kd.R k56 56 Y base ok (.slice (some ⟨g, 0, none⟩) n c) xs) : Go.Proofs.YtecliaogidemjaaW.PrintWords.Kd.R k56 56 Y base (fun x => x = g) (.slice (some ⟨g, 0, none⟩) n c) xs :=
  ⟨fun k hk => by simp [Value.ownBlock] at hk; exact hk.symm, h.2.imp_ (fun p cs hp => by rw [k56_openM hp]; exact k56_mkM _ _ _ _)⟩
/-- What stands while the bills are laid out: k of 18. -/
structure FI (w Y : World) (g1 gp gb k : Nat) (h cp : Nat → Nat) (b : Nat → Value) (l : Nat → List S56) : Prop where
  bel : Below w.heap.size w Y
  box : Y.heap[g1]? = some (.cells #[.int .i64 60, .int .i64 10, .int .i64 20, .int .i64 1, .slice (some ⟨gp, 0, none⟩) 2 2] 41 (0, 0))
  prt : Y.heap[gp]? = some (.cells okC 56 (0, 0))
  arr : BArr Y gb b
  row : ∀ i, i < k → Go.Proofs.YtecliaogidemjaaW.PrintWords.Kd.R k56 56 Y w.heap.size (fun x => x = h i) (.slice (some ⟨h i, 0, none⟩) 2 (cp i)) (l i)
  inj : ∀ i, i < k → ∀ j, j < k → h i = h j → i = j
  far : ∀ i, i < k → h i ≠ gb ∧ h i ≠ g1 ∧ h i ≠ gp
theorem FI.put {w Y : World} {g1 gp gb k : Nat} {h cp : Nat → Nat} {b : Nat → Value} {l : Nat → List S56} (H : FI w Y g1 gp gb k h cp b l) (e1 : g1 ≠ gb) (e2 : gp ≠ gb) (e3 : w.heap.size ≤ gb) (i : Nat) (v : Value) :
    FI w (Y.setCell ⟨gb, i, none⟩ v) g1 gp gb k h cp (fun j => if j = i then v else b j) l :=
  ⟨H.bel.setCell e3 _, blk_far H.box e1 _, blk_far H.prt e2 _, H.arr.put i v, fun j hj => Go.Proofs.YtecliaogidemjaaW.PrintWords.Kd.R_far (H.row j hj) (fun x hx => by rw [hx]; exact (H.far j hj).1) v, H.inj, H.far⟩
theorem FI.prt2 {w Y Z : World} {g1 gp gb k : Nat} {h cp : Nat → Nat} {b : Nat → Value} {l : Nat → List S56} (H : FI w Y g1 gp gb k h cp b l) (hg1 : g1 < Y.heap.size) (hgp : gp < Y.heap.size) (e3 : w.heap.size ≤ Y.heap.size) {i : Nat} (hi : i < k) {l' : List S56} (hb : w.heap.size ≤ h i)
    (hr : Go.Proofs.YtecliaogidemjaaW.PrintWords.Kd.R k56 56 Z w.heap.size (fun x => x = h i) (.slice (some ⟨h i, 0, none⟩) 2 (cp i)) l') (hg : Y.grownBy Z (some (h i))) : FI w Z g1 gp gb k h cp b (fun j => if j = i then l' else l j) :=
  ⟨H.bel.grown hg e3 (fun x hx => by injection hx with hx; omega), (hg.block g1 hg1 (fun e => by injection e with e; exact (H.far i hi).2.1 e.symm)).trans H.box, (hg.block gp hgp (fun e => by injection e with e; exact (H.far i hi).2.2 e.symm)).trans H.prt,
    H.arr.same (hg.block gb H.arr.lt (fun e => by injection e with e; exact (H.far i hi).1 e.symm)), fun j hj => by
      by_cases e : j = i
      · subst e; simp only [if_true]; exact hr
      · simp only [if_neg e]
        exact Go.Proofs.YtecliaogidemjaaW.PrintWords.Kd.R_grown (H.row j hj) hg (fun x hx he => by rw [hx] at he; injection he with he; exact e (H.inj j hj i hi he)), H.inj, H.far⟩
theorem FI.below {w Y Z : World} {g1 gp gb k : Nat} {h cp : Nat → Nat} {b : Nat → Value} {l : Nat → List S56} (H : FI w Y g1 gp gb k h cp b l) (hb : Below Y.heap.size Y Z) : FI w Z g1 gp gb k h cp b l :=
  ⟨bel_chain H.bel hb, blk_below H.box hb, blk_below H.prt hb, H.arr.below hb, fun j hj => Go.Proofs.YtecliaogidemjaaW.PrintWords.Kd.R_below (H.row j hj) hb, H.inj, H.far⟩
theorem FI.put5 {w Y : World} {g1 gp gb k : Nat} {h cp : Nat → Nat} {b : Nat → Value} {l : Nat → List S56} (H : FI w Y g1 gp gb k h cp b l) (e1 : g1 ≠ gb) (e2 : gp ≠ gb) (e3 : w.heap.size ≤ gb) (n : Nat) (a0 a1 a2 a3 a4 : Value) :
    FI w (Y.setCells gb n [a0, a1, a2, a3, a4]) g1 gp gb k h cp (fun j => if j = n + 4 then a4 else if j = n + 3 then a3 else if j = n + 2 then a2 else if j = n + 1 then a1 else if j = n then a0 else b j) l :=
  ((((H.put e1 e2 e3 n a0).put e1 e2 e3 (n + 1) a1).put e1 e2 e3 (n + 2) a2).put e1 e2 e3 (n + 3) a3).put e1 e2 e3 (n + 4) a4
theorem wp_store5 {ops : Array Oper} {rest : List Oper} {o : Oper} {a : Act} {Q : Exit → Act → World → Prop} {W : World} (hN : o.dst = none) (hgd : o.guard = none) (t : TypeId) (p x : Operand) (ho : o.op = .store t p x) {g n : Nat} {b : Nat → Value} (H : BArr W g b) (hn : n + 5 ≤ 90)
    {a0 a1 a2 a3 a4 : Value} (haddr : a.eval p = .pointer (some ⟨g, n, none⟩)) (hx : a.eval x = .agg #[a0, a1, a2, a3, a4]) (ht : (Try.prog.info? t).map (·.size) = some 5) (h1 : ∀ q ∈ [a0, a1, a2, a3, a4], q.oneCell' = true)
    (h : wpList Try.prog ops Q rest a (W.setCells g n [a0, a1, a2, a3, a4])) : wpList Try.prog ops Q (o :: rest) a W := by
  refine wpList_plain hgd fun K hK => ?_
  obtain ⟨cs, hb, hs, _⟩ := H
  have hrun : (Instr.storeAt t (.pointer (some ⟨g, n, none⟩)) (.agg #[a0, a1, a2, a3, a4])).run Try.prog W = .ok () (W.setCells g n [a0, a1, a2, a3, a4]) :=
    Go.Proofs.YtecliaogidemjaaW.PrintWords.run_store_run t (.agg #[a0, a1, a2, a3, a4]) [a0, a1, a2, a3, a4] hb rfl ht (by simp; omega) h1
  unfold Oper.wp execOp
  simp only [ho, haddr, hx, Sem.run_bind, Sem.run_pure, Result.andThen_ok, hrun]
  show K (a.put o.dst undef) _
  rw [hN]
  exact hK a _ h
theorem row_empty (W : World) (base : Nat) (hb : base ≤ W.heap.size) : Go.Proofs.YtecliaogidemjaaW.PrintWords.Kd.R k56 56 (W.alloc (.cells #[] 56)) base (fun _ => True) (.slice (some ⟨W.heap.size, 0, none⟩) 0 0) [] :=
  ⟨fun _ _ => trivial, [], World.ownsRow_lit (base := base) (e := 56) (size := k56.sz) W #[] 0 hb (by decide) (by rfl), Go.Proofs.YtecliaogidemjaaW.PrintWords.Reps.none _ _⟩
theorem row_okP {Y : World} {gp : Nat} (h : Y.heap[gp]? = some (.cells okC 56 (0, 0))) : Go.Proofs.YtecliaogidemjaaW.PrintWords.Kd.R k56 56 Y 0 (fun _ => True) (.slice (some ⟨gp, 0, none⟩) 2 2) okP :=
  ⟨fun _ _ => trivial, okC.toList, ⟨by rfl, Or.inr ⟨gp, 2, okC, rfl, Nat.zero_le _, h, Nat.le_refl _, by decide, by rfl, by rfl⟩⟩, by rfl, fun j p hj => by
    rcases j with _ | _ | j
    · injection hj with hj; subst hj; exact k56_mkM _ _ _ _
    · injection hj with hj; subst hj; exact k56_mkM _ _ _ _
    · simp [okP] at hj⟩
theorem FI.snoc {w Z : World} {g1 gp gb k : Nat} {h cp : Nat → Nat} {b : Nat → Value} {l : Nat → List S56} (H : FI w Z g1 gp gb k h cp b l) {G gr c : Nat} {l2 : List S56} (hG : ∀ i, i < k → h i < G) (hgr : G ≤ gr) (e1 : g1 < G) (e2 : gp < G) (e3 : gb < G)
    (hr : Go.Proofs.YtecliaogidemjaaW.PrintWords.Kd.R k56 56 Z w.heap.size (fun x => x = gr) (.slice (some ⟨gr, 0, none⟩) 2 c) l2) : FI w Z g1 gp gb (k + 1) (fun i => if i = k then gr else h i) (fun i => if i = k then c else cp i) b (fun i => if i = k then l2 else l i) := by
  refine ⟨H.bel, H.box, H.prt, H.arr, fun i hi => ?_, fun i hi j hj he => ?_, fun i hi => ?_⟩
  · by_cases e : i = k
    · simp only [if_pos e]; exact hr
    · simp only [if_neg e]; exact H.row i (by omega)
  · by_cases e : i = k
    · by_cases e' : j = k
      · omega
      · simp only [if_pos e, if_neg e'] at he
        have := hG j (by omega); omega
    · by_cases e' : j = k
      · simp only [if_neg e, if_pos e'] at he
        have := hG i (by omega); omega
      · simp only [if_neg e, if_neg e'] at he
        exact H.inj i (by omega) j (by omega) he
  · by_cases e : i = k
    · simp only [if_pos e]; omega
    · simp only [if_neg e]; exact H.far i (by omega)
theorem R_eq {Y : World} {base : Nat} {ok : Nat → Prop} {v : Value} {xs ys : List S56} (h : Go.Proofs.YtecliaogidemjaaW.PrintWords.Kd.R k56 56 Y base ok v xs) (e : xs = ys) : Go.Proofs.YtecliaogidemjaaW.PrintWords.Kd.R k56 56 Y base ok v ys := e ▸ h
theorem own_ge {gr n c n2 c2 G S : Nat} (h : (Value.slice (some ⟨gr, 0, none⟩) n c).ownBlock = (Value.slice (some ⟨G, 0, none⟩) n2 c2).ownBlock ∨ ∃ b, (Value.slice (some ⟨gr, 0, none⟩) n c).ownBlock = some b ∧ S ≤ b) (hs : G ≤ S) : G ≤ gr := by
  rcases h with h | ⟨b, h, hb⟩
  · injection h with h
    have h : gr = G := h
    omega
  · injection h with h
    have h : gr = b := h
    omega
theorem six_far {b : Nat → Value} {n m : Nat} (h : m < n ∨ n + 5 ≤ m) (v a0 a1 a2 a3 a4 : Value) : (if m = n + 4 then v else if m = n + 4 then a4 else if m = n + 3 then a3 else if m = n + 2 then a2 else if m = n + 1 then a1 else if m = n then a0 else b m) = b m := by
  rw [if_neg (by omega), if_neg (by omega), if_neg (by omega), if_neg (by omega), if_neg (by omega), if_neg (by omega)]
set_option maxRecDepth 100000 in
set_option maxHeartbeats 16000000 in
theorem boot_forms (w : World) :
    Calls Try.prog 9 #[] w fun e w' => e = .returned (.bool true) ∧ Below w.heap.size w w' := by
  have hu41 := Try.underlying41
  have hu56 := Try.underlying56
  have hm18 := made18
  suffices hgoal : True from ?_
  · go_enter Try.func9, Try.ntmps9
    go_upto_region 6 with (first
      | (go_at_call 18; (with_reducible refine (begun8 _).mono ?_); rintro e W ⟨rfl, hb1⟩; have HB1 := Lib.hid hb1; clear hb1)
      | fail)
    obtain ⟨gp, hgp⟩ : ∃ g, W.heap.size = g := ⟨_, rfl⟩
    have es1 : ∀ o, (W.alloc o).heap.size = gp + 1 := fun o => by rw [← hgp]; show (W.heap.push _).size = _; simp
    have es2 : ∀ o o', ((W.alloc o).alloc o').heap.size = gp + 2 := fun o o' => by show ((W.alloc o).heap.push _).size = _; rw [Array.size_push, es1]
    have HI0 := (show FI w (((W.alloc (.cells okC 56)).alloc (.cells #[.int .i64 60, .int .i64 10, .int .i64 20, .int .i64 1, .slice (some ⟨gp, 0, none⟩) 2 2] 41)).alloc (.cells z90 41)) (gp + 1) gp (gp + 2) 0 (fun _ => 0) (fun _ => 0) (fun i => z90.getD i undef) (fun _ => []) from
      ⟨bel_alloc (bel_alloc (bel_alloc HB1.out _) _) _, blk_alloc (by have h := blk_new (W.alloc (.cells okC 56)) (.cells #[.int .i64 60, .int .i64 10, .int .i64 20, .int .i64 1, .slice (some ⟨gp, 0, none⟩) 2 2] 41); rw [es1] at h; exact h) _,
        blk_alloc (blk_alloc (by have h := blk_new W (.cells okC 56); rw [hgp] at h; exact h) _) _, by have h := BArr.new ((W.alloc (.cells okC 56)).alloc (.cells #[.int .i64 60, .int .i64 10, .int .i64 20, .int .i64 1, .slice (some ⟨gp, 0, none⟩) 2 2] 41)); rw [es2] at h; exact h,
        fun i hi => by omega, fun i hi => by omega, fun i hi => by omega⟩)
    unfold okC at HI0
    have hwp : w.heap.size ≤ gp := by rw [← hgp]; exact HB1.out.size
    simp only [es1, es2, hgp, Nat.add_assoc, Nat.reduceAdd]
    obtain ⟨Y0, hY0⟩ : ∃ Y, (((W.alloc (.cells #[.bool false, .bool false, .bool false, .bool false, .bool false, .int .u32 0, .int .i64 30, .int .i64 4, .int .i64 0, .bool true, .bool false, .bool false, .bool false, .bool false, .int .u32 0, .int .i64 10, .int .i64 4, .int .i64 2] 56)).alloc (.cells #[.int .i64 60, .int .i64 10, .int .i64 20, .int .i64 1, .slice (some ⟨gp, 0, none⟩) 2 2] 41)).alloc (.cells z90 41)) = Y := ⟨_, rfl⟩
    rw [hY0] at HI0 ⊢
    have HI := Lib.hid HI0
    clear hY0 HI0 es1 es2 hm18 hgp HB1 W
    go_loopw [3] (fun i wr => ∃ k : Nat, k ≤ 18 ∧ i = .int .i64 k ∧ ∃ h cp b l, FI w wr (gp + 1) gp (gp + 2) k h cp b l ∧ ∀ j, j < k → l j = okP ∧ b (5 * j) = .int .i64 60 ∧ b (5 * j + 1) = .int .i64 10 ∧ b (5 * j + 2) = .int .i64 20 ∧ b (5 * j + 3) = .int .i64 1 ∧ b (5 * j + 4) = .slice (some ⟨h j, 0, none⟩) 2 (cp j)) (fun i _ => 18 - (intOf i).toNat)
    case atStart => exact ⟨0, by omega, rfl, _, _, _, _, HI.out, fun j hj => by omega⟩
    case round =>
      obtain ⟨k, hk, rfl, h, cp, b, l, RI, RB⟩ := hrel
      clear HI
      by_cases hkt : k < 18
      · have hc5 := cells5 RI.box
        have hfr := RI.arr.free
        have HRI := Lib.hid RI
        have HRB := Lib.hid RB
        clear RI RB hfr
        go_wp2_with (first
          | ((with_reducible refine Go.Proofs.YtecliaogidemjaaW.PrintWords.gate_ (.store 41 (.tmp 21) (.tmp 20)) rfl ?_); refine wp_store5 rfl rfl 41 (.tmp 21) (.tmp 20) rfl HRI.out.arr (n := k * 5) (by omega) rfl rfl (by kernel_rfl) (by simp [Value.oneCell']) ?_; obtain ⟨W1, hW1⟩ : ∃ W1, World.setCells wr (gp + 2) (k * 5) [.int .i64 60, .int .i64 10, .int .i64 20, .int .i64 1, .slice (some ⟨gp, 0, none⟩) 2 2] = W1 := ⟨_, rfl⟩; have R1 := HRI.out.put5 (by omega) (by omega) (by omega) (k * 5) (.int .i64 60) (.int .i64 10) (.int .i64 20) (.int .i64 1) (.slice (some ⟨gp, 0, none⟩) 2 2); rw [hW1] at R1 ⊢; clear hW1 hc5; have hc5 := cells5a R1.box; have hsz1 : gp + 2 < W1.heap.size := R1.arr.lt; have HR1 := Lib.hid R1; clear R1)
          | (at_builtin; refine Go.Proofs.YtecliaogidemjaaW.PrintWords.Kd.R_append_rows k56 (w0 := w) w.heap.size rfl (.tmp 24) (.tmp 26) 39 56 (.agg #[.bool false, .bool false, .bool false, .bool false, .bool false, .int .u32 0, .int .i64 0, .int .i64 0, .int .i64 0]) 40 rfl Try.underlying39 (by kernel_rfl) rfl (by decide) (by omega) _ [] okP (some ⟨gp, 0, none⟩) 2 2 (fun _ => True) (fun _ => False) rfl rfl (row_empty W1 w.heap.size (by omega)) (Go.Proofs.YtecliaogidemjaaW.PrintWords.Kd.R_reads' (row_okP (blk_alloc HR1.out.prt _))).2.2 (fun x cs h => by rw [k56_open h]; exact k56_mkM _ _ _ _) (fun _ h => h.elim) (fun _ _ => trivial) (bel_alloc HR1.out.bel _) (by have := bel_alloc HR1.out.bel (.cells #[] 56); exact this.size) (by decide) ?_; intro v2 W2 R2 B2 G2 A2; obtain ⟨gr, cp2, rfl, hgr0, hgr1, _⟩ := Go.Proofs.YtecliaogidemjaaW.PrintWords.Kd.R_form R2 (by decide); rw [show (([] : List S56) ++ okP).length = 2 from rfl] at R2 ⊢; have hgr := own_ge A2 (bel_alloc (Below.refl W1.heap.size W1) (.cells #[] 56)).size; have R3 := HR1.out.below ((bel_alloc (Below.refl W1.heap.size W1) (.cells #[] 56)).grown G2 (bel_alloc (Below.refl W1.heap.size W1) (.cells #[] 56)).size (fun x hx => by injection hx with hx; have hx : W1.heap.size = x := hx; omega)); have hcell := R3.arr.at (i := k * 5 + 4) (by omega); have hfr := R3.arr.free (k * 5 + 4); have HR3 := Lib.hid R3; have HR2 := Lib.hid (row_own R2); clear R3 R2 B2 G2 A2 hc5)
          | fail)
        go_roundw
        case measure => simp [intOf]; omega
        case rel =>
          refine ⟨k + 1, by omega, by go_num, _, _, _, _, (HR3.out.snoc (fun i hi => Go.Proofs.YtecliaogidemjaaW.PrintWords.Kd.R_lt (HR1.out.row i hi) _ rfl) hgr (by omega) (by omega) hsz1 HR2.out).put (by omega) (by omega) (by omega) (k * 5 + 4) (.slice (some ⟨gr, 0, none⟩) 2 cp2), fun j hj => ?_⟩
          by_cases e : j = k
          · subst e
            rw [show 5 * j = j * 5 by omega]
            simp
          · obtain ⟨b0, b1, b2, b3, b4, b5⟩ := HRB.out j (by omega)
            simp only [if_neg e]
            exact ⟨b0, (six_far (by omega) _ _ _ _ _ _).trans b1, (six_far (by omega) _ _ _ _ _ _).trans b2, (six_far (by omega) _ _ _ _ _ _).trans b3, (six_far (by omega) _ _ _ _ _ _).trans b4, (six_far (by omega) _ _ _ _ _ _).trans b5⟩
      · have hkt2 : k = 18 := by omega
        subst hkt2
        rw [show ((18 : Nat) : Int) = 18 from rfl]
        obtain ⟨Y, hY⟩ : ∃ Y, wr = Y := ⟨_, rfl⟩
        rw [hY] at RI ⊢
        clear hY
        have HRB := Lib.hid RB
        clear RB
        have c0 := RI.arr.at (i := 0) (by decide)
        have f0 := RI.arr.free 0
        have HRI := Lib.hid RI
        clear RI
        go_upto_region 11 with (fail)
        have RI := HRI.out.put (by omega) (by omega) (by omega) 0 (.int .i64 33)
        obtain ⟨Y10, hY⟩ : ∃ Z, Y.setCell ⟨gp + 2, 0, none⟩ (.int .i64 33) = Z := ⟨_, rfl⟩
        rw [hY] at RI ⊢
        clear hY HRI c0 f0
        have c0 := RI.arr.at (i := 6) (by decide)
        have f0 := RI.arr.free 6
        have HRI := Lib.hid RI
        clear RI
        go_upto_region 12 with (fail)
        have RI := HRI.out.put (by omega) (by omega) (by omega) 6 (.int .i64 9)
        obtain ⟨Y11, hY⟩ : ∃ Z, Y10.setCell ⟨gp + 2, 6, none⟩ (.int .i64 9) = Z := ⟨_, rfl⟩
        rw [hY] at RI ⊢
        clear hY HRI c0 f0
        have c0 := RI.arr.at (i := 11) (by decide)
        have f0 := RI.arr.free 11
        have HRI := Lib.hid RI
        clear RI
        go_upto_region 13 with (fail)
        have RI := HRI.out.put (by omega) (by omega) (by omega) 11 (.int .i64 11)
        obtain ⟨Y12, hY⟩ : ∃ Z, Y11.setCell ⟨gp + 2, 11, none⟩ (.int .i64 11) = Z := ⟨_, rfl⟩
        rw [hY] at RI ⊢
        clear hY HRI c0 f0
        have c0 := RI.arr.at (i := 17) (by decide)
        have f0 := RI.arr.free 17
        have HRI := Lib.hid RI
        clear RI
        go_upto_region 14 with (fail)
        have RI := HRI.out.put (by omega) (by omega) (by omega) 17 (.int .i64 21)
        obtain ⟨Y13, hY⟩ : ∃ Z, Y12.setCell ⟨gp + 2, 17, none⟩ (.int .i64 21) = Z := ⟨_, rfl⟩
        rw [hY] at RI ⊢
        clear hY HRI c0 f0
        have c0 := RI.arr.at (i := 23) (by decide)
        have f0 := RI.arr.free 23
        have HRI := Lib.hid RI
        clear RI
        go_upto_region 15 with (fail)
        have RI := HRI.out.put (by omega) (by omega) (by omega) 23 (.int .i64 0)
        obtain ⟨Y14, hY⟩ : ∃ Z, Y13.setCell ⟨gp + 2, 23, none⟩ (.int .i64 0) = Z := ⟨_, rfl⟩
        rw [hY] at RI ⊢
        clear hY HRI c0 f0
        have c0 := RI.arr.at (i := 28) (by decide)
        have f0 := RI.arr.free 28
        have HRI := Lib.hid RI
        clear RI
        go_upto_region 16 with (fail)
        have RI := HRI.out.put (by omega) (by omega) (by omega) 28 (.int .i64 4)
        obtain ⟨Y15, hY⟩ : ∃ Z, Y14.setCell ⟨gp + 2, 28, none⟩ (.int .i64 4) = Z := ⟨_, rfl⟩
        rw [hY] at RI ⊢
        clear hY HRI c0 f0
        have c0 := RI.arr.at (i := 34) (by decide)
        have f0 := RI.arr.free 34
        have HRI := Lib.hid RI
        clear RI
        go_upto_region 17 with (fail)
        have RI := HRI.out.put (by omega) (by omega) (by omega) 34 (.slice none 0 0)
        obtain ⟨Y16, hY⟩ : ∃ Z, Y15.setCell ⟨gp + 2, 34, none⟩ (.slice none 0 0) = Z := ⟨_, rfl⟩
        rw [hY] at RI ⊢
        clear hY HRI c0 f0
        obtain ⟨lx, _, _, _, _, qx⟩ := HRB.out 7 (by decide)
        have hv : Y16.cell? ⟨gp + 2, 39, none⟩ = some (.slice (some ⟨h 7, 0, none⟩) 2 (cp 7)) := (RI.arr.at (i := 39) (by decide)).trans (congrArg some qx)
        have hR : Go.Proofs.YtecliaogidemjaaW.PrintWords.Kd.R k56 56 Y16 w.heap.size (fun x => x = h 7) (.slice (some ⟨h 7, 0, none⟩) 2 (cp 7)) (l 7) := RI.row 7 (by decide)
        rw [lx] at hR
        obtain ⟨c9, hcl, hM, hcc, hfz⟩ := Go.Proofs.YtecliaogidemjaaW.PrintWords.Kd.R_elem hR z56 0 (by decide) (by decide)
        obtain rfl := k56_openM hM
        have HRI := Lib.hid RI
        have HRc := Lib.hid hR
        have HCC := Lib.hid hcc
        clear RI hR hcc hM hfz lx qx
        go_upto_region 18 with (first
          | ((with_reducible refine Go.Proofs.YtecliaogidemjaaW.PrintWords.gate_ (.store 4 (.tmp 56) (.const (.bool true))) rfl ?_); refine Go.Proofs.YtecliaogidemjaaW.PrintWords.Kd.R_store k56 (w0 := Y16) w.heap.size rfl rfl 4 (.tmp 56) (.const (.bool true)) rfl 56 (0 : Int) 0 okP (⟨true, false, false, false, false, 0, 30, 4, 0⟩ : S56) (.bool true) [.bool true] _ (fun x => x = h 7) (fun _ => False) rfl rfl rfl rfl (by kernel_rfl) (fun q hq => by rw [List.mem_singleton.1 hq]; rfl) HRc.out (by decide) (by decide) hcl HCC.out (by decide) (k56_mkM _ _ _ (⟨true, false, false, false, false, 0, 30, 4, 0⟩ : S56)) (fun _ h => h.elim) (Below.refl _ _) ?_; intro Y17 R1 _ G1)
          | fail)
        have RI := HRI.out.prt2 (blk_lt HRI.out.box) (blk_lt HRI.out.prt) HRI.out.bel.size (i := 7) (by decide) (Go.Proofs.YtecliaogidemjaaW.PrintWords.Kd.R_base HRc.out _ rfl) R1 G1
        clear HRI HRc HCC hcl hv R1 G1
        obtain ⟨lx, _, _, _, _, qx⟩ := HRB.out 8 (by decide)
        have hv : Y17.cell? ⟨gp + 2, 44, none⟩ = some (.slice (some ⟨h 8, 0, none⟩) 2 (cp 8)) := (RI.arr.at (i := 44) (by decide)).trans (congrArg some qx)
        have hR : Go.Proofs.YtecliaogidemjaaW.PrintWords.Kd.R k56 56 Y17 w.heap.size (fun x => x = h 8) (.slice (some ⟨h 8, 0, none⟩) 2 (cp 8)) (l 8) := RI.row 8 (by decide)
        rw [lx] at hR
        obtain ⟨c9, hcl, hM, hcc, hfz⟩ := Go.Proofs.YtecliaogidemjaaW.PrintWords.Kd.R_elem hR z56 0 (by decide) (by decide)
        obtain rfl := k56_openM hM
        have HRI := Lib.hid RI
        have HRc := Lib.hid hR
        have HCC := Lib.hid hcc
        clear RI hR hcc hM hfz lx qx
        go_upto_region 19 with (first
          | ((with_reducible refine Go.Proofs.YtecliaogidemjaaW.PrintWords.gate_ (.store 3 (.tmp 62) (.const (.int .i64 1))) rfl ?_); refine Go.Proofs.YtecliaogidemjaaW.PrintWords.Kd.R_store k56 (w0 := Y17) w.heap.size rfl rfl 3 (.tmp 62) (.const (.int .i64 1)) rfl 56 (0 : Int) 8 okP (⟨false, false, false, false, false, 0, 30, 4, 1⟩ : S56) (.int .i64 1) [.int .i64 1] _ (fun x => x = h 8) (fun _ => False) rfl rfl rfl rfl (by kernel_rfl) (fun q hq => by rw [List.mem_singleton.1 hq]; rfl) HRc.out (by decide) (by decide) hcl HCC.out (by decide) (k56_mkM _ _ _ (⟨false, false, false, false, false, 0, 30, 4, 1⟩ : S56)) (fun _ h => h.elim) (Below.refl _ _) ?_; intro Y18 R1 _ G1)
          | fail)
        have RI := HRI.out.prt2 (blk_lt HRI.out.box) (blk_lt HRI.out.prt) HRI.out.bel.size (i := 8) (by decide) (Go.Proofs.YtecliaogidemjaaW.PrintWords.Kd.R_base HRc.out _ rfl) R1 G1
        clear HRI HRc HCC hcl hv R1 G1
        obtain ⟨lx, _, _, _, _, qx⟩ := HRB.out 9 (by decide)
        have hv : Y18.cell? ⟨gp + 2, 49, none⟩ = some (.slice (some ⟨h 9, 0, none⟩) 2 (cp 9)) := (RI.arr.at (i := 49) (by decide)).trans (congrArg some qx)
        have hR : Go.Proofs.YtecliaogidemjaaW.PrintWords.Kd.R k56 56 Y18 w.heap.size (fun x => x = h 9) (.slice (some ⟨h 9, 0, none⟩) 2 (cp 9)) (l 9) := RI.row 9 (by decide)
        rw [lx] at hR
        obtain ⟨c9, hcl, hM, hcc, hfz⟩ := Go.Proofs.YtecliaogidemjaaW.PrintWords.Kd.R_elem hR z56 0 (by decide) (by decide)
        obtain rfl := k56_openM hM
        have HRI := Lib.hid RI
        have HRc := Lib.hid hR
        have HCC := Lib.hid hcc
        clear RI hR hcc hM hfz lx qx
        go_upto_region 20 with (first
          | ((with_reducible refine Go.Proofs.YtecliaogidemjaaW.PrintWords.gate_ (.store 3 (.tmp 68) (.const (.int .i64 0))) rfl ?_); refine Go.Proofs.YtecliaogidemjaaW.PrintWords.Kd.R_store k56 (w0 := Y18) w.heap.size rfl rfl 3 (.tmp 68) (.const (.int .i64 0)) rfl 56 (0 : Int) 7 okP (⟨false, false, false, false, false, 0, 30, 0, 0⟩ : S56) (.int .i64 0) [.int .i64 0] _ (fun x => x = h 9) (fun _ => False) rfl rfl rfl rfl (by kernel_rfl) (fun q hq => by rw [List.mem_singleton.1 hq]; rfl) HRc.out (by decide) (by decide) hcl HCC.out (by decide) (k56_mkM _ _ _ (⟨false, false, false, false, false, 0, 30, 0, 0⟩ : S56)) (fun _ h => h.elim) (Below.refl _ _) ?_; intro Y19 R1 _ G1)
          | fail)
        have RI := HRI.out.prt2 (blk_lt HRI.out.box) (blk_lt HRI.out.prt) HRI.out.bel.size (i := 9) (by decide) (Go.Proofs.YtecliaogidemjaaW.PrintWords.Kd.R_base HRc.out _ rfl) R1 G1
        clear HRI HRc HCC hcl hv R1 G1
        obtain ⟨lx, _, _, _, _, qx⟩ := HRB.out 10 (by decide)
        have hv : Y19.cell? ⟨gp + 2, 54, none⟩ = some (.slice (some ⟨h 10, 0, none⟩) 2 (cp 10)) := (RI.arr.at (i := 54) (by decide)).trans (congrArg some qx)
        have hR : Go.Proofs.YtecliaogidemjaaW.PrintWords.Kd.R k56 56 Y19 w.heap.size (fun x => x = h 10) (.slice (some ⟨h 10, 0, none⟩) 2 (cp 10)) (l 10) := RI.row 10 (by decide)
        rw [lx] at hR
        obtain ⟨c9, hcl, hM, hcc, hfz⟩ := Go.Proofs.YtecliaogidemjaaW.PrintWords.Kd.R_elem hR z56 0 (by decide) (by decide)
        obtain rfl := k56_openM hM
        have HRI := Lib.hid RI
        have HRc := Lib.hid hR
        have HCC := Lib.hid hcc
        clear RI hR hcc hM hfz lx qx
        go_upto_region 21 with (first
          | ((with_reducible refine Go.Proofs.YtecliaogidemjaaW.PrintWords.gate_ (.store 3 (.tmp 74) (.const (.int .i64 33))) rfl ?_); refine Go.Proofs.YtecliaogidemjaaW.PrintWords.Kd.R_store k56 (w0 := Y19) w.heap.size rfl rfl 3 (.tmp 74) (.const (.int .i64 33)) rfl 56 (0 : Int) 7 okP (⟨false, false, false, false, false, 0, 30, 33, 0⟩ : S56) (.int .i64 33) [.int .i64 33] _ (fun x => x = h 10) (fun _ => False) rfl rfl rfl rfl (by kernel_rfl) (fun q hq => by rw [List.mem_singleton.1 hq]; rfl) HRc.out (by decide) (by decide) hcl HCC.out (by decide) (k56_mkM _ _ _ (⟨false, false, false, false, false, 0, 30, 33, 0⟩ : S56)) (fun _ h => h.elim) (Below.refl _ _) ?_; intro Y20 R1 _ G1)
          | fail)
        have RI := HRI.out.prt2 (blk_lt HRI.out.box) (blk_lt HRI.out.prt) HRI.out.bel.size (i := 10) (by decide) (Go.Proofs.YtecliaogidemjaaW.PrintWords.Kd.R_base HRc.out _ rfl) R1 G1
        clear HRI HRc HCC hcl hv R1 G1
        obtain ⟨lx, _, _, _, _, qx⟩ := HRB.out 11 (by decide)
        have hv : Y20.cell? ⟨gp + 2, 59, none⟩ = some (.slice (some ⟨h 11, 0, none⟩) 2 (cp 11)) := (RI.arr.at (i := 59) (by decide)).trans (congrArg some qx)
        have hR : Go.Proofs.YtecliaogidemjaaW.PrintWords.Kd.R k56 56 Y20 w.heap.size (fun x => x = h 11) (.slice (some ⟨h 11, 0, none⟩) 2 (cp 11)) (l 11) := RI.row 11 (by decide)
        rw [lx] at hR
        obtain ⟨c9, hcl, hM, hcc, hfz⟩ := Go.Proofs.YtecliaogidemjaaW.PrintWords.Kd.R_elem hR z56 0 (by decide) (by decide)
        obtain rfl := k56_openM hM
        have HRI := Lib.hid RI
        have HRc := Lib.hid hR
        have HCC := Lib.hid hcc
        clear RI hR hcc hM hfz lx qx
        go_upto_region 22 with (first
          | ((with_reducible refine Go.Proofs.YtecliaogidemjaaW.PrintWords.gate_ (.store 3 (.tmp 80) (.const (.int .i64 29))) rfl ?_); refine Go.Proofs.YtecliaogidemjaaW.PrintWords.Kd.R_store k56 (w0 := Y20) w.heap.size rfl rfl 3 (.tmp 80) (.const (.int .i64 29)) rfl 56 (0 : Int) 6 okP (⟨false, false, false, false, false, 0, 29, 4, 0⟩ : S56) (.int .i64 29) [.int .i64 29] _ (fun x => x = h 11) (fun _ => False) rfl rfl rfl rfl (by kernel_rfl) (fun q hq => by rw [List.mem_singleton.1 hq]; rfl) HRc.out (by decide) (by decide) hcl HCC.out (by decide) (k56_mkM _ _ _ (⟨false, false, false, false, false, 0, 29, 4, 0⟩ : S56)) (fun _ h => h.elim) (Below.refl _ _) ?_; intro Y21 R1 _ G1)
          | fail)
        have RI := HRI.out.prt2 (blk_lt HRI.out.box) (blk_lt HRI.out.prt) HRI.out.bel.size (i := 11) (by decide) (Go.Proofs.YtecliaogidemjaaW.PrintWords.Kd.R_base HRc.out _ rfl) R1 G1
        clear HRI HRc HCC hcl hv R1 G1
        obtain ⟨lx, _, _, _, _, qx⟩ := HRB.out 12 (by decide)
        have hv : Y21.cell? ⟨gp + 2, 64, none⟩ = some (.slice (some ⟨h 12, 0, none⟩) 2 (cp 12)) := (RI.arr.at (i := 64) (by decide)).trans (congrArg some qx)
        have hR : Go.Proofs.YtecliaogidemjaaW.PrintWords.Kd.R k56 56 Y21 w.heap.size (fun x => x = h 12) (.slice (some ⟨h 12, 0, none⟩) 2 (cp 12)) (l 12) := RI.row 12 (by decide)
        rw [lx] at hR
        obtain ⟨c9, hcl, hM, hcc, hfz⟩ := Go.Proofs.YtecliaogidemjaaW.PrintWords.Kd.R_elem hR z56 1 (by decide) (by decide)
        obtain rfl := k56_openM hM
        have HRI := Lib.hid RI
        have HRc := Lib.hid hR
        have HCC := Lib.hid hcc
        clear RI hR hcc hM hfz lx qx
        go_upto_region 23 with (first
          | ((with_reducible refine Go.Proofs.YtecliaogidemjaaW.PrintWords.gate_ (.store 3 (.tmp 86) (.const (.int .i64 27))) rfl ?_); refine Go.Proofs.YtecliaogidemjaaW.PrintWords.Kd.R_store k56 (w0 := Y21) w.heap.size rfl rfl 3 (.tmp 86) (.const (.int .i64 27)) rfl 56 (1 : Int) 6 okP (⟨true, false, false, false, false, 0, 27, 4, 2⟩ : S56) (.int .i64 27) [.int .i64 27] _ (fun x => x = h 12) (fun _ => False) rfl rfl rfl rfl (by kernel_rfl) (fun q hq => by rw [List.mem_singleton.1 hq]; rfl) HRc.out (by decide) (by decide) hcl HCC.out (by decide) (k56_mkM _ _ _ (⟨true, false, false, false, false, 0, 27, 4, 2⟩ : S56)) (fun _ h => h.elim) (Below.refl _ _) ?_; intro Y22 R1 _ G1)
          | fail)
        have RI := HRI.out.prt2 (blk_lt HRI.out.box) (blk_lt HRI.out.prt) HRI.out.bel.size (i := 12) (by decide) (Go.Proofs.YtecliaogidemjaaW.PrintWords.Kd.R_base HRc.out _ rfl) R1 G1
        clear HRI HRc HCC hcl hv R1 G1
        obtain ⟨lx, _, _, _, _, qx⟩ := HRB.out 13 (by decide)
        have hv : Y22.cell? ⟨gp + 2, 69, none⟩ = some (.slice (some ⟨h 13, 0, none⟩) 2 (cp 13)) := (RI.arr.at (i := 69) (by decide)).trans (congrArg some qx)
        have hR : Go.Proofs.YtecliaogidemjaaW.PrintWords.Kd.R k56 56 Y22 w.heap.size (fun x => x = h 13) (.slice (some ⟨h 13, 0, none⟩) 2 (cp 13)) (l 13) := RI.row 13 (by decide)
        rw [lx] at hR
        obtain ⟨c9, hcl, hM, hcc, hfz⟩ := Go.Proofs.YtecliaogidemjaaW.PrintWords.Kd.R_elem hR z56 1 (by decide) (by decide)
        obtain rfl := k56_openM hM
        have HRI := Lib.hid RI
        have HRc := Lib.hid hR
        have HCC := Lib.hid hcc
        clear RI hR hcc hM hfz lx qx
        go_upto_region 24 with (first
          | ((with_reducible refine Go.Proofs.YtecliaogidemjaaW.PrintWords.gate_ (.store 3 (.tmp 92) (.const (.int .i64 9))) rfl ?_); refine Go.Proofs.YtecliaogidemjaaW.PrintWords.Kd.R_store k56 (w0 := Y22) w.heap.size rfl rfl 3 (.tmp 92) (.const (.int .i64 9)) rfl 56 (1 : Int) 6 okP (⟨true, false, false, false, false, 0, 9, 4, 2⟩ : S56) (.int .i64 9) [.int .i64 9] _ (fun x => x = h 13) (fun _ => False) rfl rfl rfl rfl (by kernel_rfl) (fun q hq => by rw [List.mem_singleton.1 hq]; rfl) HRc.out (by decide) (by decide) hcl HCC.out (by decide) (k56_mkM _ _ _ (⟨true, false, false, false, false, 0, 9, 4, 2⟩ : S56)) (fun _ h => h.elim) (Below.refl _ _) ?_; intro Y23 R1 _ G1)
          | fail)
        have RI := HRI.out.prt2 (blk_lt HRI.out.box) (blk_lt HRI.out.prt) HRI.out.bel.size (i := 13) (by decide) (Go.Proofs.YtecliaogidemjaaW.PrintWords.Kd.R_base HRc.out _ rfl) R1 G1
        clear HRI HRc HCC hcl hv R1 G1
        obtain ⟨lx, _, _, _, _, qx⟩ := HRB.out 14 (by decide)
        have hv : Y23.cell? ⟨gp + 2, 74, none⟩ = some (.slice (some ⟨h 14, 0, none⟩) 2 (cp 14)) := (RI.arr.at (i := 74) (by decide)).trans (congrArg some qx)
        have hR : Go.Proofs.YtecliaogidemjaaW.PrintWords.Kd.R k56 56 Y23 w.heap.size (fun x => x = h 14) (.slice (some ⟨h 14, 0, none⟩) 2 (cp 14)) (l 14) := RI.row 14 (by decide)
        rw [lx] at hR
        obtain ⟨c9, hcl, hM, hcc, hfz⟩ := Go.Proofs.YtecliaogidemjaaW.PrintWords.Kd.R_elem hR z56 1 (by decide) (by decide)
        obtain rfl := k56_openM hM
        have HRI := Lib.hid RI
        have HRc := Lib.hid hR
        have HCC := Lib.hid hcc
        clear RI hR hcc hM hfz lx qx
        go_upto_region 25 with (first
          | ((with_reducible refine Go.Proofs.YtecliaogidemjaaW.PrintWords.gate_ (.store 3 (.tmp 98) (.const (.int .i64 5))) rfl ?_); refine Go.Proofs.YtecliaogidemjaaW.PrintWords.Kd.R_store k56 (w0 := Y23) w.heap.size rfl rfl 3 (.tmp 98) (.const (.int .i64 5)) rfl 56 (1 : Int) 8 okP (⟨true, false, false, false, false, 0, 10, 4, 5⟩ : S56) (.int .i64 5) [.int .i64 5] _ (fun x => x = h 14) (fun _ => False) rfl rfl rfl rfl (by kernel_rfl) (fun q hq => by rw [List.mem_singleton.1 hq]; rfl) HRc.out (by decide) (by decide) hcl HCC.out (by decide) (k56_mkM _ _ _ (⟨true, false, false, false, false, 0, 10, 4, 5⟩ : S56)) (fun _ h => h.elim) (Below.refl _ _) ?_; intro Y24 R1 _ G1)
          | fail)
        have RI := HRI.out.prt2 (blk_lt HRI.out.box) (blk_lt HRI.out.prt) HRI.out.bel.size (i := 14) (by decide) (Go.Proofs.YtecliaogidemjaaW.PrintWords.Kd.R_base HRc.out _ rfl) R1 G1
        clear HRI HRc HCC hcl hv R1 G1
        obtain ⟨lx, _, _, _, _, qx⟩ := HRB.out 15 (by decide)
        have hv : Y24.cell? ⟨gp + 2, 79, none⟩ = some (.slice (some ⟨h 15, 0, none⟩) 2 (cp 15)) := (RI.arr.at (i := 79) (by decide)).trans (congrArg some qx)
        have hR : Go.Proofs.YtecliaogidemjaaW.PrintWords.Kd.R k56 56 Y24 w.heap.size (fun x => x = h 15) (.slice (some ⟨h 15, 0, none⟩) 2 (cp 15)) (l 15) := RI.row 15 (by decide)
        rw [lx] at hR
        obtain ⟨c9, hcl, hM, hcc, hfz⟩ := Go.Proofs.YtecliaogidemjaaW.PrintWords.Kd.R_elem hR z56 1 (by decide) (by decide)
        obtain rfl := k56_openM hM
        have HRI := Lib.hid RI
        have HRc := Lib.hid hR
        have HCC := Lib.hid hcc
        clear RI hR hcc hM hfz lx qx
        go_upto_region 26 with (first
          | ((with_reducible refine Go.Proofs.YtecliaogidemjaaW.PrintWords.gate_ (.store 56 (.tmp 104) (.tmp 103)) rfl ?_); refine Go.Proofs.YtecliaogidemjaaW.PrintWords.Kd.R_store k56 (w0 := Y24) w.heap.size rfl rfl 56 (.tmp 104) (.tmp 103) rfl 56 (1 : Int) 0 okP (⟨false, false, false, false, false, 0, 33, 1, 0⟩ : S56) (.agg #[.bool false, .bool false, .bool false, .bool false, .bool false, .int .u32 0, .int .i64 33, .int .i64 1, .int .i64 0]) [.bool false, .bool false, .bool false, .bool false, .bool false, .int .u32 0, .int .i64 33, .int .i64 1, .int .i64 0] _ (fun x => x = h 15) (fun _ => False) rfl rfl rfl rfl (by kernel_rfl) (by simp [Value.oneCell']) HRc.out (by decide) (by decide) hcl HCC.out (by decide) (k56_mkM _ _ _ (⟨false, false, false, false, false, 0, 33, 1, 0⟩ : S56)) (fun _ h => h.elim) (Below.refl _ _) ?_; intro Y25 R1 _ G1)
          | fail)
        have RI := HRI.out.prt2 (blk_lt HRI.out.box) (blk_lt HRI.out.prt) HRI.out.bel.size (i := 15) (by decide) (Go.Proofs.YtecliaogidemjaaW.PrintWords.Kd.R_base HRc.out _ rfl) R1 G1
        clear HRI HRc HCC hcl hv R1 G1
        have c0 := RI.arr.at (i := 80) (by decide)
        have f0 := RI.arr.free 80
        have HRI := Lib.hid RI
        clear RI
        go_upto_region 27 with (fail)
        have RI := HRI.out.put (by omega) (by omega) (by omega) 80 (.int .i64 241)
        obtain ⟨Y26, hY⟩ : ∃ Z, Y25.setCell ⟨gp + 2, 80, none⟩ (.int .i64 241) = Z := ⟨_, rfl⟩
        rw [hY] at RI ⊢
        clear hY HRI c0 f0
        have c0 := RI.arr.at (i := 87) (by decide)
        have f0 := RI.arr.free 87
        have HRI := Lib.hid RI
        clear RI
        go_upto_region 28 with (fail)
        have RI := HRI.out.put (by omega) (by omega) (by omega) 87 (.int .i64 (-1))
        obtain ⟨Y27, hY⟩ : ∃ Z, Y26.setCell ⟨gp + 2, 87, none⟩ (.int .i64 (-1)) = Z := ⟨_, rfl⟩
        rw [hY] at RI ⊢
        clear hY HRI c0 f0
        have HT : ∀ i, i < 18 → ∃ (F T S C : Int) (A : Option Addr) (c : Nat) (ll : List S56), Y27.cell? ⟨gp + 2, i * 5, none⟩ = some (.int .i64 F) ∧ Y27.cell? ⟨gp + 2, i * 5 + 1, none⟩ = some (.int .i64 T) ∧ Y27.cell? ⟨gp + 2, i * 5 + 2, none⟩ = some (.int .i64 S) ∧ Y27.cell? ⟨gp + 2, i * 5 + 3, none⟩ = some (.int .i64 C) ∧ Y27.cell? ⟨gp + 2, i * 5 + 4, none⟩ = some (.slice A ll.length c) ∧
            Go.Proofs.YtecliaogidemjaaW.PrintWords.Kd.C k56 Y27 A ll.length ll ∧ ll.length ≤ c ∧ chkE F T S C ll = -2 ∧ (∀ k, k < ll.length → (Lit.int .i64 (rd_T56 ll k).f8).wf = true) := by
          intro i hi
          rcases (show i = 0 ∨ i = 1 ∨ i = 2 ∨ i = 3 ∨ i = 4 ∨ i = 5 ∨ i = 6 ∨ i = 7 ∨ i = 8 ∨ i = 9 ∨ i = 10 ∨ i = 11 ∨ i = 12 ∨ i = 13 ∨ i = 14 ∨ i = 15 ∨ i = 16 ∨ i = 17 by omega) with rfl | rfl | rfl | rfl | rfl | rfl | rfl | rfl | rfl | rfl | rfl | rfl | rfl | rfl | rfl | rfl | rfl | rfl
          · obtain ⟨lx, q0, q1, q2, q3, q4⟩ := HRB.out 0 (by decide)
            refine ⟨(33), (10), (20), (1), (some ⟨h 0, 0, none⟩), (cp 0), okP, ?_, ?_, ?_, ?_, ?_, ?_, ?_, by decide +kernel, by decide⟩
            · exact (RI.arr.at (i := 0) (by decide)).trans (congrArg some (by simp))
            · exact (RI.arr.at (i := 1) (by decide)).trans (congrArg some (by simp; exact q1))
            · exact (RI.arr.at (i := 2) (by decide)).trans (congrArg some (by simp; exact q2))
            · exact (RI.arr.at (i := 3) (by decide)).trans (congrArg some (by simp; exact q3))
            · exact (RI.arr.at (i := 4) (by decide)).trans (congrArg some (by simp; exact q4))
            · exact (Go.Proofs.YtecliaogidemjaaW.PrintWords.Kd.R_reads' (R_eq (RI.row 0 (by decide)) (show _ = okP by simp; exact lx))).2.2
            · exact (Go.Proofs.YtecliaogidemjaaW.PrintWords.Kd.R_reads' (R_eq (RI.row 0 (by decide)) (show _ = okP by simp; exact lx))).2.1
          · obtain ⟨lx, q0, q1, q2, q3, q4⟩ := HRB.out 1 (by decide)
            refine ⟨(60), (9), (20), (1), (some ⟨h 1, 0, none⟩), (cp 1), okP, ?_, ?_, ?_, ?_, ?_, ?_, ?_, by decide +kernel, by decide⟩
            · exact (RI.arr.at (i := 5) (by decide)).trans (congrArg some (by simp; exact q0))
            · exact (RI.arr.at (i := 6) (by decide)).trans (congrArg some (by simp))
            · exact (RI.arr.at (i := 7) (by decide)).trans (congrArg some (by simp; exact q2))
            · exact (RI.arr.at (i := 8) (by decide)).trans (congrArg some (by simp; exact q3))
            · exact (RI.arr.at (i := 9) (by decide)).trans (congrArg some (by simp; exact q4))
            · exact (Go.Proofs.YtecliaogidemjaaW.PrintWords.Kd.R_reads' (R_eq (RI.row 1 (by decide)) (show _ = okP by simp; exact lx))).2.2
            · exact (Go.Proofs.YtecliaogidemjaaW.PrintWords.Kd.R_reads' (R_eq (RI.row 1 (by decide)) (show _ = okP by simp; exact lx))).2.1
          · obtain ⟨lx, q0, q1, q2, q3, q4⟩ := HRB.out 2 (by decide)
            refine ⟨(60), (11), (20), (1), (some ⟨h 2, 0, none⟩), (cp 2), okP, ?_, ?_, ?_, ?_, ?_, ?_, ?_, by decide +kernel, by decide⟩
            · exact (RI.arr.at (i := 10) (by decide)).trans (congrArg some (by simp; exact q0))
            · exact (RI.arr.at (i := 11) (by decide)).trans (congrArg some (by simp))
            · exact (RI.arr.at (i := 12) (by decide)).trans (congrArg some (by simp; exact q2))
            · exact (RI.arr.at (i := 13) (by decide)).trans (congrArg some (by simp; exact q3))
            · exact (RI.arr.at (i := 14) (by decide)).trans (congrArg some (by simp; exact q4))
            · exact (Go.Proofs.YtecliaogidemjaaW.PrintWords.Kd.R_reads' (R_eq (RI.row 2 (by decide)) (show _ = okP by simp; exact lx))).2.2
            · exact (Go.Proofs.YtecliaogidemjaaW.PrintWords.Kd.R_reads' (R_eq (RI.row 2 (by decide)) (show _ = okP by simp; exact lx))).2.1
          · obtain ⟨lx, q0, q1, q2, q3, q4⟩ := HRB.out 3 (by decide)
            refine ⟨(60), (10), (21), (1), (some ⟨h 3, 0, none⟩), (cp 3), okP, ?_, ?_, ?_, ?_, ?_, ?_, ?_, by decide +kernel, by decide⟩
            · exact (RI.arr.at (i := 15) (by decide)).trans (congrArg some (by simp; exact q0))
            · exact (RI.arr.at (i := 16) (by decide)).trans (congrArg some (by simp; exact q1))
            · exact (RI.arr.at (i := 17) (by decide)).trans (congrArg some (by simp))
            · exact (RI.arr.at (i := 18) (by decide)).trans (congrArg some (by simp; exact q3))
            · exact (RI.arr.at (i := 19) (by decide)).trans (congrArg some (by simp; exact q4))
            · exact (Go.Proofs.YtecliaogidemjaaW.PrintWords.Kd.R_reads' (R_eq (RI.row 3 (by decide)) (show _ = okP by simp; exact lx))).2.2
            · exact (Go.Proofs.YtecliaogidemjaaW.PrintWords.Kd.R_reads' (R_eq (RI.row 3 (by decide)) (show _ = okP by simp; exact lx))).2.1
          · obtain ⟨lx, q0, q1, q2, q3, q4⟩ := HRB.out 4 (by decide)
            refine ⟨(60), (10), (20), (0), (some ⟨h 4, 0, none⟩), (cp 4), okP, ?_, ?_, ?_, ?_, ?_, ?_, ?_, by decide +kernel, by decide⟩
            · exact (RI.arr.at (i := 20) (by decide)).trans (congrArg some (by simp; exact q0))
            · exact (RI.arr.at (i := 21) (by decide)).trans (congrArg some (by simp; exact q1))
            · exact (RI.arr.at (i := 22) (by decide)).trans (congrArg some (by simp; exact q2))
            · exact (RI.arr.at (i := 23) (by decide)).trans (congrArg some (by simp))
            · exact (RI.arr.at (i := 24) (by decide)).trans (congrArg some (by simp; exact q4))
            · exact (Go.Proofs.YtecliaogidemjaaW.PrintWords.Kd.R_reads' (R_eq (RI.row 4 (by decide)) (show _ = okP by simp; exact lx))).2.2
            · exact (Go.Proofs.YtecliaogidemjaaW.PrintWords.Kd.R_reads' (R_eq (RI.row 4 (by decide)) (show _ = okP by simp; exact lx))).2.1
          · obtain ⟨lx, q0, q1, q2, q3, q4⟩ := HRB.out 5 (by decide)
            refine ⟨(60), (10), (20), (4), (some ⟨h 5, 0, none⟩), (cp 5), okP, ?_, ?_, ?_, ?_, ?_, ?_, ?_, by decide +kernel, by decide⟩
            · exact (RI.arr.at (i := 25) (by decide)).trans (congrArg some (by simp; exact q0))
            · exact (RI.arr.at (i := 26) (by decide)).trans (congrArg some (by simp; exact q1))
            · exact (RI.arr.at (i := 27) (by decide)).trans (congrArg some (by simp; exact q2))
            · exact (RI.arr.at (i := 28) (by decide)).trans (congrArg some (by simp))
            · exact (RI.arr.at (i := 29) (by decide)).trans (congrArg some (by simp; exact q4))
            · exact (Go.Proofs.YtecliaogidemjaaW.PrintWords.Kd.R_reads' (R_eq (RI.row 5 (by decide)) (show _ = okP by simp; exact lx))).2.2
            · exact (Go.Proofs.YtecliaogidemjaaW.PrintWords.Kd.R_reads' (R_eq (RI.row 5 (by decide)) (show _ = okP by simp; exact lx))).2.1
          · obtain ⟨lx, q0, q1, q2, q3, q4⟩ := HRB.out 6 (by decide)
            refine ⟨(60), (10), (20), (1), none, 0, [], ?_, ?_, ?_, ?_, ?_, ?_, ?_, by decide +kernel, by decide⟩
            · exact (RI.arr.at (i := 30) (by decide)).trans (congrArg some (by simp; exact q0))
            · exact (RI.arr.at (i := 31) (by decide)).trans (congrArg some (by simp; exact q1))
            · exact (RI.arr.at (i := 32) (by decide)).trans (congrArg some (by simp; exact q2))
            · exact (RI.arr.at (i := 33) (by decide)).trans (congrArg some (by simp; exact q3))
            · exact (RI.arr.at (i := 34) (by decide)).trans (congrArg some (by simp))
            · exact Go.Proofs.YtecliaogidemjaaW.PrintWords.Kd.C_nil _ _
            · exact Nat.le_refl _
          · obtain ⟨lx, q0, q1, q2, q3, q4⟩ := HRB.out 7 (by decide)
            refine ⟨(60), (10), (20), (1), (some ⟨h 7, 0, none⟩), (cp 7), (okP.set (0 : Int).toNat (⟨true, false, false, false, false, 0, 30, 4, 0⟩ : S56)), ?_, ?_, ?_, ?_, ?_, ?_, ?_, by decide +kernel, by decide⟩
            · exact (RI.arr.at (i := 35) (by decide)).trans (congrArg some (by simp; exact q0))
            · exact (RI.arr.at (i := 36) (by decide)).trans (congrArg some (by simp; exact q1))
            · exact (RI.arr.at (i := 37) (by decide)).trans (congrArg some (by simp; exact q2))
            · exact (RI.arr.at (i := 38) (by decide)).trans (congrArg some (by simp; exact q3))
            · exact (RI.arr.at (i := 39) (by decide)).trans (congrArg some (by simp; exact q4))
            · exact (Go.Proofs.YtecliaogidemjaaW.PrintWords.Kd.R_reads' (R_eq (RI.row 7 (by decide)) (show _ = (okP.set (0 : Int).toNat (⟨true, false, false, false, false, 0, 30, 4, 0⟩ : S56)) by simp))).2.2
            · exact (Go.Proofs.YtecliaogidemjaaW.PrintWords.Kd.R_reads' (R_eq (RI.row 7 (by decide)) (show _ = (okP.set (0 : Int).toNat (⟨true, false, false, false, false, 0, 30, 4, 0⟩ : S56)) by simp))).2.1
          · obtain ⟨lx, q0, q1, q2, q3, q4⟩ := HRB.out 8 (by decide)
            refine ⟨(60), (10), (20), (1), (some ⟨h 8, 0, none⟩), (cp 8), (okP.set (0 : Int).toNat (⟨false, false, false, false, false, 0, 30, 4, 1⟩ : S56)), ?_, ?_, ?_, ?_, ?_, ?_, ?_, by decide +kernel, by decide⟩
            · exact (RI.arr.at (i := 40) (by decide)).trans (congrArg some (by simp; exact q0))
            · exact (RI.arr.at (i := 41) (by decide)).trans (congrArg some (by simp; exact q1))
            · exact (RI.arr.at (i := 42) (by decide)).trans (congrArg some (by simp; exact q2))
            · exact (RI.arr.at (i := 43) (by decide)).trans (congrArg some (by simp; exact q3))
            · exact (RI.arr.at (i := 44) (by decide)).trans (congrArg some (by simp; exact q4))
            · exact (Go.Proofs.YtecliaogidemjaaW.PrintWords.Kd.R_reads' (R_eq (RI.row 8 (by decide)) (show _ = (okP.set (0 : Int).toNat (⟨false, false, false, false, false, 0, 30, 4, 1⟩ : S56)) by simp))).2.2
            · exact (Go.Proofs.YtecliaogidemjaaW.PrintWords.Kd.R_reads' (R_eq (RI.row 8 (by decide)) (show _ = (okP.set (0 : Int).toNat (⟨false, false, false, false, false, 0, 30, 4, 1⟩ : S56)) by simp))).2.1
          · obtain ⟨lx, q0, q1, q2, q3, q4⟩ := HRB.out 9 (by decide)
            refine ⟨(60), (10), (20), (1), (some ⟨h 9, 0, none⟩), (cp 9), (okP.set (0 : Int).toNat (⟨false, false, false, false, false, 0, 30, 0, 0⟩ : S56)), ?_, ?_, ?_, ?_, ?_, ?_, ?_, by decide +kernel, by decide⟩
            · exact (RI.arr.at (i := 45) (by decide)).trans (congrArg some (by simp; exact q0))
            · exact (RI.arr.at (i := 46) (by decide)).trans (congrArg some (by simp; exact q1))
            · exact (RI.arr.at (i := 47) (by decide)).trans (congrArg some (by simp; exact q2))
            · exact (RI.arr.at (i := 48) (by decide)).trans (congrArg some (by simp; exact q3))
            · exact (RI.arr.at (i := 49) (by decide)).trans (congrArg some (by simp; exact q4))
            · exact (Go.Proofs.YtecliaogidemjaaW.PrintWords.Kd.R_reads' (R_eq (RI.row 9 (by decide)) (show _ = (okP.set (0 : Int).toNat (⟨false, false, false, false, false, 0, 30, 0, 0⟩ : S56)) by simp))).2.2
            · exact (Go.Proofs.YtecliaogidemjaaW.PrintWords.Kd.R_reads' (R_eq (RI.row 9 (by decide)) (show _ = (okP.set (0 : Int).toNat (⟨false, false, false, false, false, 0, 30, 0, 0⟩ : S56)) by simp))).2.1
          · obtain ⟨lx, q0, q1, q2, q3, q4⟩ := HRB.out 10 (by decide)
            refine ⟨(60), (10), (20), (1), (some ⟨h 10, 0, none⟩), (cp 10), (okP.set (0 : Int).toNat (⟨false, false, false, false, false, 0, 30, 33, 0⟩ : S56)), ?_, ?_, ?_, ?_, ?_, ?_, ?_, by decide +kernel, by decide⟩
            · exact (RI.arr.at (i := 50) (by decide)).trans (congrArg some (by simp; exact q0))
            · exact (RI.arr.at (i := 51) (by decide)).trans (congrArg some (by simp; exact q1))
            · exact (RI.arr.at (i := 52) (by decide)).trans (congrArg some (by simp; exact q2))
            · exact (RI.arr.at (i := 53) (by decide)).trans (congrArg some (by simp; exact q3))
            · exact (RI.arr.at (i := 54) (by decide)).trans (congrArg some (by simp; exact q4))
            · exact (Go.Proofs.YtecliaogidemjaaW.PrintWords.Kd.R_reads' (R_eq (RI.row 10 (by decide)) (show _ = (okP.set (0 : Int).toNat (⟨false, false, false, false, false, 0, 30, 33, 0⟩ : S56)) by simp))).2.2
            · exact (Go.Proofs.YtecliaogidemjaaW.PrintWords.Kd.R_reads' (R_eq (RI.row 10 (by decide)) (show _ = (okP.set (0 : Int).toNat (⟨false, false, false, false, false, 0, 30, 33, 0⟩ : S56)) by simp))).2.1
          · obtain ⟨lx, q0, q1, q2, q3, q4⟩ := HRB.out 11 (by decide)
            refine ⟨(60), (10), (20), (1), (some ⟨h 11, 0, none⟩), (cp 11), (okP.set (0 : Int).toNat (⟨false, false, false, false, false, 0, 29, 4, 0⟩ : S56)), ?_, ?_, ?_, ?_, ?_, ?_, ?_, by decide +kernel, by decide⟩
            · exact (RI.arr.at (i := 55) (by decide)).trans (congrArg some (by simp; exact q0))
            · exact (RI.arr.at (i := 56) (by decide)).trans (congrArg some (by simp; exact q1))
            · exact (RI.arr.at (i := 57) (by decide)).trans (congrArg some (by simp; exact q2))
            · exact (RI.arr.at (i := 58) (by decide)).trans (congrArg some (by simp; exact q3))
            · exact (RI.arr.at (i := 59) (by decide)).trans (congrArg some (by simp; exact q4))
            · exact (Go.Proofs.YtecliaogidemjaaW.PrintWords.Kd.R_reads' (R_eq (RI.row 11 (by decide)) (show _ = (okP.set (0 : Int).toNat (⟨false, false, false, false, false, 0, 29, 4, 0⟩ : S56)) by simp))).2.2
            · exact (Go.Proofs.YtecliaogidemjaaW.PrintWords.Kd.R_reads' (R_eq (RI.row 11 (by decide)) (show _ = (okP.set (0 : Int).toNat (⟨false, false, false, false, false, 0, 29, 4, 0⟩ : S56)) by simp))).2.1
          · obtain ⟨lx, q0, q1, q2, q3, q4⟩ := HRB.out 12 (by decide)
            refine ⟨(60), (10), (20), (1), (some ⟨h 12, 0, none⟩), (cp 12), (okP.set (1 : Int).toNat (⟨true, false, false, false, false, 0, 27, 4, 2⟩ : S56)), ?_, ?_, ?_, ?_, ?_, ?_, ?_, by decide +kernel, by decide⟩
            · exact (RI.arr.at (i := 60) (by decide)).trans (congrArg some (by simp; exact q0))
            · exact (RI.arr.at (i := 61) (by decide)).trans (congrArg some (by simp; exact q1))
            · exact (RI.arr.at (i := 62) (by decide)).trans (congrArg some (by simp; exact q2))
            · exact (RI.arr.at (i := 63) (by decide)).trans (congrArg some (by simp; exact q3))
            · exact (RI.arr.at (i := 64) (by decide)).trans (congrArg some (by simp; exact q4))
            · exact (Go.Proofs.YtecliaogidemjaaW.PrintWords.Kd.R_reads' (R_eq (RI.row 12 (by decide)) (show _ = (okP.set (1 : Int).toNat (⟨true, false, false, false, false, 0, 27, 4, 2⟩ : S56)) by simp))).2.2
            · exact (Go.Proofs.YtecliaogidemjaaW.PrintWords.Kd.R_reads' (R_eq (RI.row 12 (by decide)) (show _ = (okP.set (1 : Int).toNat (⟨true, false, false, false, false, 0, 27, 4, 2⟩ : S56)) by simp))).2.1
          · obtain ⟨lx, q0, q1, q2, q3, q4⟩ := HRB.out 13 (by decide)
            refine ⟨(60), (10), (20), (1), (some ⟨h 13, 0, none⟩), (cp 13), (okP.set (1 : Int).toNat (⟨true, false, false, false, false, 0, 9, 4, 2⟩ : S56)), ?_, ?_, ?_, ?_, ?_, ?_, ?_, by decide +kernel, by decide⟩
            · exact (RI.arr.at (i := 65) (by decide)).trans (congrArg some (by simp; exact q0))
            · exact (RI.arr.at (i := 66) (by decide)).trans (congrArg some (by simp; exact q1))
            · exact (RI.arr.at (i := 67) (by decide)).trans (congrArg some (by simp; exact q2))
            · exact (RI.arr.at (i := 68) (by decide)).trans (congrArg some (by simp; exact q3))
            · exact (RI.arr.at (i := 69) (by decide)).trans (congrArg some (by simp; exact q4))
            · exact (Go.Proofs.YtecliaogidemjaaW.PrintWords.Kd.R_reads' (R_eq (RI.row 13 (by decide)) (show _ = (okP.set (1 : Int).toNat (⟨true, false, false, false, false, 0, 9, 4, 2⟩ : S56)) by simp))).2.2
            · exact (Go.Proofs.YtecliaogidemjaaW.PrintWords.Kd.R_reads' (R_eq (RI.row 13 (by decide)) (show _ = (okP.set (1 : Int).toNat (⟨true, false, false, false, false, 0, 9, 4, 2⟩ : S56)) by simp))).2.1
          · obtain ⟨lx, q0, q1, q2, q3, q4⟩ := HRB.out 14 (by decide)
            refine ⟨(60), (10), (20), (1), (some ⟨h 14, 0, none⟩), (cp 14), (okP.set (1 : Int).toNat (⟨true, false, false, false, false, 0, 10, 4, 5⟩ : S56)), ?_, ?_, ?_, ?_, ?_, ?_, ?_, by decide +kernel, by decide⟩
            · exact (RI.arr.at (i := 70) (by decide)).trans (congrArg some (by simp; exact q0))
            · exact (RI.arr.at (i := 71) (by decide)).trans (congrArg some (by simp; exact q1))
            · exact (RI.arr.at (i := 72) (by decide)).trans (congrArg some (by simp; exact q2))
            · exact (RI.arr.at (i := 73) (by decide)).trans (congrArg some (by simp; exact q3))
            · exact (RI.arr.at (i := 74) (by decide)).trans (congrArg some (by simp; exact q4))
            · exact (Go.Proofs.YtecliaogidemjaaW.PrintWords.Kd.R_reads' (R_eq (RI.row 14 (by decide)) (show _ = (okP.set (1 : Int).toNat (⟨true, false, false, false, false, 0, 10, 4, 5⟩ : S56)) by simp))).2.2
            · exact (Go.Proofs.YtecliaogidemjaaW.PrintWords.Kd.R_reads' (R_eq (RI.row 14 (by decide)) (show _ = (okP.set (1 : Int).toNat (⟨true, false, false, false, false, 0, 10, 4, 5⟩ : S56)) by simp))).2.1
          · obtain ⟨lx, q0, q1, q2, q3, q4⟩ := HRB.out 15 (by decide)
            refine ⟨(60), (10), (20), (1), (some ⟨h 15, 0, none⟩), (cp 15), (okP.set (1 : Int).toNat (⟨false, false, false, false, false, 0, 33, 1, 0⟩ : S56)), ?_, ?_, ?_, ?_, ?_, ?_, ?_, by decide +kernel, by decide⟩
            · exact (RI.arr.at (i := 75) (by decide)).trans (congrArg some (by simp; exact q0))
            · exact (RI.arr.at (i := 76) (by decide)).trans (congrArg some (by simp; exact q1))
            · exact (RI.arr.at (i := 77) (by decide)).trans (congrArg some (by simp; exact q2))
            · exact (RI.arr.at (i := 78) (by decide)).trans (congrArg some (by simp; exact q3))
            · exact (RI.arr.at (i := 79) (by decide)).trans (congrArg some (by simp; exact q4))
            · exact (Go.Proofs.YtecliaogidemjaaW.PrintWords.Kd.R_reads' (R_eq (RI.row 15 (by decide)) (show _ = (okP.set (1 : Int).toNat (⟨false, false, false, false, false, 0, 33, 1, 0⟩ : S56)) by simp))).2.2
            · exact (Go.Proofs.YtecliaogidemjaaW.PrintWords.Kd.R_reads' (R_eq (RI.row 15 (by decide)) (show _ = (okP.set (1 : Int).toNat (⟨false, false, false, false, false, 0, 33, 1, 0⟩ : S56)) by simp))).2.1
          · obtain ⟨lx, q0, q1, q2, q3, q4⟩ := HRB.out 16 (by decide)
            refine ⟨(241), (10), (20), (1), (some ⟨h 16, 0, none⟩), (cp 16), okP, ?_, ?_, ?_, ?_, ?_, ?_, ?_, by decide +kernel, by decide⟩
            · exact (RI.arr.at (i := 80) (by decide)).trans (congrArg some (by simp))
            · exact (RI.arr.at (i := 81) (by decide)).trans (congrArg some (by simp; exact q1))
            · exact (RI.arr.at (i := 82) (by decide)).trans (congrArg some (by simp; exact q2))
            · exact (RI.arr.at (i := 83) (by decide)).trans (congrArg some (by simp; exact q3))
            · exact (RI.arr.at (i := 84) (by decide)).trans (congrArg some (by simp; exact q4))
            · exact (Go.Proofs.YtecliaogidemjaaW.PrintWords.Kd.R_reads' (R_eq (RI.row 16 (by decide)) (show _ = okP by simp; exact lx))).2.2
            · exact (Go.Proofs.YtecliaogidemjaaW.PrintWords.Kd.R_reads' (R_eq (RI.row 16 (by decide)) (show _ = okP by simp; exact lx))).2.1
          · obtain ⟨lx, q0, q1, q2, q3, q4⟩ := HRB.out 17 (by decide)
            refine ⟨(60), (10), (-1), (1), (some ⟨h 17, 0, none⟩), (cp 17), okP, ?_, ?_, ?_, ?_, ?_, ?_, ?_, by decide +kernel, by decide⟩
            · exact (RI.arr.at (i := 85) (by decide)).trans (congrArg some (by simp; exact q0))
            · exact (RI.arr.at (i := 86) (by decide)).trans (congrArg some (by simp; exact q1))
            · exact (RI.arr.at (i := 87) (by decide)).trans (congrArg some (by simp))
            · exact (RI.arr.at (i := 88) (by decide)).trans (congrArg some (by simp; exact q3))
            · exact (RI.arr.at (i := 89) (by decide)).trans (congrArg some (by simp; exact q4))
            · exact (Go.Proofs.YtecliaogidemjaaW.PrintWords.Kd.R_reads' (R_eq (RI.row 17 (by decide)) (show _ = okP by simp; exact lx))).2.2
            · exact (Go.Proofs.YtecliaogidemjaaW.PrintWords.Kd.R_reads' (R_eq (RI.row 17 (by decide)) (show _ = okP by simp; exact lx))).2.1
        have HT2 := Lib.hid HT
        have HBX := Lib.hid RI.box
        have HPR := Lib.hid RI.prt
        have HBL := Lib.hid RI.bel
        have hsz : gp + 2 < Y27.heap.size := RI.arr.lt
        clear HRB HT RI
        have hokw : ∀ k, k < okP.length → (Lit.int .i64 (rd_T56 okP k).f8).wf = true := by decide
        have hrow : ∀ w', Below Y27.heap.size Y27 w' → Go.Proofs.YtecliaogidemjaaW.PrintWords.Kd.C k56 w' (some ⟨gp, 0, none⟩) okP.length okP := fun w' hb => (Go.Proofs.YtecliaogidemjaaW.PrintWords.Kd.R_reads' (row_okP (blk_below HPR.out hb))).2.2
        have hK19 : ∀ w', Below Y27.heap.size Y27 w' → Calls Try.prog 19 #[.agg #[.int .i64 60, .int .i64 10, .int .i64 20, .int .i64 1, .slice (some ⟨gp, 0, none⟩) 2 2]] w' fun e w'' => e = .returned (.int .i64 0) ∧ Below w'.heap.size w' w'' := fun w' hb => by
          have h := check_any w' 60 10 20 1 (some ⟨gp, 0, none⟩) okP 2 (hrow w' hb) (Nat.le_refl _) hokw
          rw [show chkE 60 10 20 1 okP = 0 by decide +kernel] at h
          exact h
        have hK21 : ∀ w', Below Y27.heap.size Y27 w' → Calls Try.prog 21 #[.agg #[.int .i64 60, .int .i64 10, .int .i64 20, .int .i64 1, .slice (some ⟨gp, 0, none⟩) 2 2]] w' fun e w'' => e = .returned (.int .i64 5) ∧ Below w'.heap.size w' w'' := fun w' hb =>
          boot_Quota.calls 60 10 20 1 (some ⟨gp, 0, none⟩) 2 okP 5 w' (hrow w' hb) (Nat.le_refl _) (by decide +kernel)
        have hK21b : ∀ w', Calls Try.prog 21 #[.agg #[.int .i64 0, .int .i64 9, .int .i64 0, .int .i64 0, .slice none 0 0]] w' fun e w'' => e = .returned (.int .i64 0) ∧ Below w'.heap.size w' w'' := fun w' =>
          boot_Quota.calls 0 9 0 0 none 0 [] 0 w' (Go.Proofs.YtecliaogidemjaaW.PrintWords.Kd.C_nil _ _) (Nat.le_refl _) (by decide +kernel)
        have hK24 : ∀ (p : Int) (n : Nat), (lvP okP p).length = n → ∀ w', Below Y27.heap.size Y27 w' → Calls Try.prog 24 #[.agg #[.int .i64 60, .int .i64 10, .int .i64 20, .int .i64 1, .slice (some ⟨gp, 0, none⟩) 2 2], .int .i64 p] w' fun e w'' => ∃ a c, e = .returned (.slice a n c) ∧ Below w'.heap.size w' w'' := fun p n hn w' hb => by
          refine (boot_First.calls 1002 60 10 20 1 (some ⟨gp, 0, none⟩) 2 okP p _ w' (hrow w' hb) (Nat.le_refl _) (first_f 60 10 20 1 okP p (chk_lv (F := 60) (T := 10) (S := 20) (C := 1) (by decide +kernel) p))).mono ?_
          rintro e w2 ⟨v, rfl, hr, hb⟩
          obtain ⟨A3, c3, rfl, _, h3⟩ := Go.Proofs.YtecliaogidemjaaW.PrintWords.Kd.R_reads hr
          rw [hn]
          exact ⟨A3, c3, rfl, hb⟩
        have HK19 := Lib.hid hK19
        have HK21 := Lib.hid hK21
        have HK21b := Lib.hid hK21b
        have HK24a := Lib.hid (hK24 1 4 (by decide +kernel))
        have HK24b := Lib.hid (hK24 2 0 (by decide +kernel))
        have HK24c := Lib.hid (hK24 (-1) 0 (by decide +kernel))
        clear hokw hrow hK19 hK21 hK21b hK24
        go_wp2
        go_loopw [4] (fun i wr => ∃ k : Nat, k ≤ 18 ∧ i = .int .i64 k ∧ Below Y27.heap.size Y27 wr) (fun i _ => 18 - (intOf i).toNat)
        case atStart => exact ⟨0, by omega, rfl, Below.refl _ _⟩
        case round =>
          obtain ⟨k, hk, rfl, RB2⟩ := hrel
          have HB2 := Lib.hid RB2
          clear RB2
          by_cases hkt : k < 18
          · obtain ⟨F, T, S, C, A, c, ll, q0, q1, q2, q3, q4, qC, ql, qE, qW⟩ := HT2.out k hkt
            replace q0 := (HB2.out.cell (p := ⟨gp + 2, k * 5, none⟩) hsz).trans q0
            replace q1 := (HB2.out.cell (p := ⟨gp + 2, k * 5 + 1, none⟩) hsz).trans q1
            replace q2 := (HB2.out.cell (p := ⟨gp + 2, k * 5 + 2, none⟩) hsz).trans q2
            replace q3 := (HB2.out.cell (p := ⟨gp + 2, k * 5 + 3, none⟩) hsz).trans q3
            replace q4 := (HB2.out.cell (p := ⟨gp + 2, k * 5 + 4, none⟩) hsz).trans q4
            have hKE : Calls Try.prog 19 #[.agg #[.int .i64 F, .int .i64 T, .int .i64 S, .int .i64 C, .slice A ll.length c]] wr fun e w'' => e = .returned (.int .i64 (-2)) ∧ Below wr.heap.size wr w'' := by
              have h := check_any wr F T S C A ll c (Go.Proofs.YtecliaogidemjaaW.PrintWords.Kd.C_below qC HB2.out) ql qW
              rw [qE] at h
              exact h
            have HKE := Lib.hid hKE
            clear hKE qC ql qE qW
            go_wp2_with (first
              | (go_at_call 19; (with_reducible refine HKE.out.mono ?_); rintro e w5 ⟨rfl, hb5⟩)
              | fail)
            go_roundw
            case measure => simp [intOf]; omega
            case rel => exact ⟨k + 1, by omega, by go_num, bel_then HB2.out HB2.out.size hb5⟩
          · have hkt2 : k = 18 := by omega
            subst hkt2
            have hc5 := cells5 (blk_below HBX.out HB2.out)
            go_wp2_with (first
              | (go_at_call 19; (with_reducible refine (HK19.out _ HB2.out).mono ?_); rintro e w1 ⟨rfl, hb1⟩; have HB3 := Lib.hid (bel_then HB2.out HB2.out.size hb1); clear hb1 hc5; have hc5 := cells5 (blk_below HBX.out HB3.out))
              | (go_at_call 21; (with_reducible refine (HK21.out _ HB3.out).mono ?_); rintro e w2 ⟨rfl, hb2⟩; have HB4 := Lib.hid (bel_then HB3.out HB3.out.size hb2); clear hb2 hc5; have hc5 := cells5 (blk_below HBX.out HB4.out))
              | (go_at_call 21; (with_reducible refine (HK21b.out _).mono ?_); rintro e w3 ⟨rfl, hb3⟩; have HB5 := Lib.hid (bel_then HB4.out HB4.out.size hb3); clear hb3 hc5; have hc5 := cells5 (blk_below HBX.out HB5.out))
              | (go_at_call 24; (with_reducible refine (HK24a.out _ HB5.out).mono ?_); rintro e w4 ⟨a4, c4, rfl, hb4⟩; have HB6 := Lib.hid (bel_then HB5.out HB5.out.size hb4); clear hb4 hc5; have hc5 := cells5 (blk_below HBX.out HB6.out))
              | (go_at_call 24; (with_reducible refine (HK24b.out _ HB6.out).mono ?_); rintro e w5 ⟨a5, c5, rfl, hb5⟩; have HB7 := Lib.hid (bel_then HB6.out HB6.out.size hb5); clear hb5 hc5; have hc5 := cells5 (blk_below HBX.out HB7.out))
              | (go_at_call 24; (with_reducible refine (HK24c.out _ HB7.out).mono ?_); rintro e w6 ⟨a6, c6, rfl, hb6⟩; have HB8 := Lib.hid (bel_then HB7.out HB7.out.size hb6); clear hb6 hc5)
              | fail)
            go_ret
            exact ⟨rfl, bel_then HBL.out HBL.out.size HB8.out⟩
  · trivial
end Go.Proofs.Ytecliaogidemjaa.Boot
