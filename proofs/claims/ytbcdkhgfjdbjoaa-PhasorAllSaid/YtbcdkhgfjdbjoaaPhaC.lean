/- The reference's Phasor: pairs of whole numbers: Load, times. -/
import Derived.Test.YtbcdkhgfjdbjoaaPhaB
namespace Go.Proofs.Ytbcdkhgfjdbjoaa.Pha
open Go Go.RowKit Go.Proofs.Ytbcdkhgfjdbjoaa.Mem Go.Proofs.Ytbcdkhgfjdbjoaa.Kept Go.Proofs.Ytbcdkhgfjdbjoaa.Flt
set_option linter.unusedVariables false
set_option linter.unusedSimpArgs false

/-- The reference's device at block g. -/
def RIs (w : World) (g : Nat) (s : PS) : Prop := w.heap[g]? = some (.cells #[.int .i64 s.a0, .int .i64 s.a1, .int .i64 s.b0, .int .i64 s.b1, .int .i64 s.r0, .int .i64 s.r1] 30 (0, 0)) ∧ s.In
theorem RIs.kept {w w' : World} {S : Nat → Prop} {g : Nat} {s : PS} (h : RIs w g s) (hk : Kept w w' S) (hg : ¬ S g) : RIs w' g s := ⟨hk.blk h.1 hg, h.2⟩
theorem RIs.below {w w' : World} {g : Nat} {s : PS} (h : RIs w g s) (hb : Below w.heap.size w w') : RIs w' g s := h.kept (S := fun _ => False) (kept_below hb) (fun h => h)
theorem load_0 (s : PS) : loadF s 0 = s.a0 := rfl
theorem load_1 (s : PS) : loadF s 1 = s.a1 := rfl
theorem load_2 (s : PS) : loadF s 2 = s.b0 := rfl
theorem load_3 (s : PS) : loadF s 3 = s.b1 := rfl
theorem load_5 (s : PS) : loadF s 5 = s.r0 := rfl
theorem load_6 (s : PS) : loadF s 6 = s.r1 := rfl
set_option maxHeartbeats 4000000 in
theorem rload_any {w : World} {g : Nat} {s : PS} (h : RIs w g s) (k : Int) : Calls Try.prog 20 #[.pointer (some ⟨g, 0, none⟩), .int .i64 k] w fun e w' => e = .returned (.int .u64 (IntKind.u64.wrap (loadF s k))) ∧ w' = w := by
  obtain ⟨x0, x1, x2, x3, x4, x5⟩ := cells6 h.1
  clear h
  by_cases h0 : k = 0
  · subst h0
    rw [load_0]
    go_enter Try.func20, Try.ntmps20
    go_wp2
    go_ret
    exact ⟨rfl, rfl⟩
  by_cases h1 : k = 1
  · subst h1
    rw [load_1]
    go_enter Try.func20, Try.ntmps20
    go_wp2
    go_ret
    exact ⟨rfl, rfl⟩
  by_cases h2 : k = 2
  · subst h2
    rw [load_2]
    go_enter Try.func20, Try.ntmps20
    go_wp2
    go_ret
    exact ⟨rfl, rfl⟩
  by_cases h3 : k = 3
  · subst h3
    rw [load_3]
    go_enter Try.func20, Try.ntmps20
    go_wp2
    go_ret
    exact ⟨rfl, rfl⟩
  by_cases h5 : k = 5
  · subst h5
    rw [load_5]
    go_enter Try.func20, Try.ntmps20
    go_wp2
    go_ret
    exact ⟨rfl, rfl⟩
  by_cases h6 : k = 6
  · subst h6
    rw [load_6]
    go_enter Try.func20, Try.ntmps20
    go_wp2
    go_ret
    exact ⟨rfl, rfl⟩
  have e : loadF s k = 0 := by unfold loadF; simp only [h0, h1, h2, h3, h5, h6, if_false]
  rw [e]
  have g0 : (k == 0) = false := by simpa using h0
  have g1 : (k == 1) = false := by simpa using h1
  have g2 : (k == 2) = false := by simpa using h2
  have g3 : (k == 3) = false := by simpa using h3
  have g5 : (k == 5) = false := by simpa using h5
  have g6 : (k == 6) = false := by simpa using h6
  clear h0 h1 h2 h3 h5 h6 e
  go_enter Try.func20, Try.ntmps20
  go_wp2
  go_ret
  exact ⟨rfl, rfl⟩
theorem blk_new3 (w : World) (o1 o2 o3 : Obj) : (((w.alloc o1).alloc o2).alloc o3).heap[w.heap.size + 1 + 1]? = some o3 := by
  show (((w.alloc o1).alloc o2).heap.push o3)[_]? = _
  rw [Array.getElem?_push, if_pos (by simp)]
theorem results_c {P : Program} {fn : Func} {p : Tmp} {ty : TypeId} (h : fn.results = #[.cell p ty]) (tmps : Array Value) (w : World) (g : Nat) (t : TypeId) (cs : Array Value) (fr : Nat × Nat) (d : TypeDesc)
    (hp : tmps.getD p undef = .pointer (some ⟨g, 0, none⟩)) (hg : w.heap[g]? = some (.cells cs t fr))
    (hu : P.underlying ty = some d) (hd : (match d with | .struct _ | .array _ _ => true | _ => false) = true) (hi : (P.info? ty).map (·.size) = some cs.size) :
    (results fn tmps).run P w = .ok (.agg cs) w := by
  have hp' : tmps[p]?.getD undef = .pointer (some ⟨g, 0, none⟩) := by simpa using hp
  simp [results, h, hp', asAddr, run_loadVar_row w g t ty cs fr d hg hu hd hi]
set_option maxHeartbeats 4000000 in
theorem times_any (w : World) (a0 a1 b0 b1 : Int) (h0 : -1048576 ≤ a0 ∧ a0 ≤ 1048576) (h1 : -1048576 ≤ a1 ∧ a1 ≤ 1048576) (h2 : -1048576 ≤ b0 ∧ b0 ≤ 1048576) (h3 : -1048576 ≤ b1 ∧ b1 ≤ 1048576) :
    Calls Try.prog 51 #[.agg #[.int .i64 a0, .int .i64 a1], .agg #[.int .i64 b0, .int .i64 b1]] w fun e w' => e = .returned (.agg #[.int .i64 (a0 * b0 - a1 * b1), .int .i64 (a0 * b1 + a1 * b0)]) ∧ Below w.heap.size w w' := by
  have m0 := mul_in h0 h2
  have m1 := mul_in h1 h3
  have m2 := mul_in h0 h3
  have m3 := mul_in h1 h2
  have e0 : IntKind.i64.wrap (a0 * b0) = a0 * b0 := IntWalk.i64_in _ (by omega)
  have e1 : IntKind.i64.wrap (a1 * b1) = a1 * b1 := IntWalk.i64_in _ (by omega)
  have e2 : IntKind.i64.wrap (a0 * b1) = a0 * b1 := IntWalk.i64_in _ (by omega)
  have e3 : IntKind.i64.wrap (a1 * b0) = a1 * b0 := IntWalk.i64_in _ (by omega)
  have e4 : IntKind.i64.wrap (a0 * b0 - a1 * b1) = a0 * b0 - a1 * b1 := IntWalk.i64_in _ (by omega)
  have e5 : IntKind.i64.wrap (a0 * b1 + a1 * b0) = a0 * b1 + a1 * b0 := IntWalk.i64_in _ (by omega)
  clear m0 m1 m2 m3 h0 h1 h2 h3
  go_enter Try.func51, Try.ntmps51
  go_wp2
  (try simp only [Exit.inBlock, Exit.then])
  refine bodyPost_ret (results_c rfl _ _ (w.heap.size + 1 + 1) 28 _ (0, 0) _ rfl (blk_new3 _ _ _ _) Try.underlying28 rfl (by kernel_rfl)) rfl ?_
  exact ⟨rfl, bel_alloc (bel_alloc (bel_alloc (Below.refl _ _) _) _) _⟩
end Go.Proofs.Ytbcdkhgfjdbjoaa.Pha
