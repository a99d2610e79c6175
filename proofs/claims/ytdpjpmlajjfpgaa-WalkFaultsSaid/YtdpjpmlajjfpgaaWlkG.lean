/- A walk that finds no page where one is wanted is a fault, at each of its looks: the loop. -/
import Derived.Test.YtdpjpmlajjfpgaaWlkF
import Derived.Deep.RegionHeld3
namespace Go.Proofs.Ytdpjpmlajjfpgaa.Ram
open Go.RowKit Go.Proofs.Ytdpjpmlajjfpgaa.Mem Go.Proofs.Ytdpjpmlajjfpgaa.Kept Go.Proofs.Ytdpjpmlajjfpgaa.Slo Go.Proofs.Ytdpjpmlajjfpgaa.Bits
open Go.Proofs.YtdpjpmlajjfpgaaW.PrintWords (nums ReadsInt results_ct results_ctt gate_dst box_event)
set_option linter.unusedVariables false
set_option linter.unusedSimpArgs false

/-- The frames, and the rows of slots, places and numbers. -/
structure FS (w0 w : World) (g bb : Nat) (F : List Int) (sb ab fb : Nat) (k0 f0 q0 k1 f1 q1 k2 f2 q2 a b c : Int) : Prop where
  p : Is w w0.heap.size g bb 30 F 30
  bel : Below w0.heap.size w0 w
  sl : w.heap[sb]? = some (.cells #[.int .i64 k0, .int .i64 f0, .int .i64 q0, .int .i64 k1, .int .i64 f1, .int .i64 q1, .int .i64 k2, .int .i64 f2, .int .i64 q2] 51 (0, 0))
  al : w.heap[ab]? = some (.cells #[.int .i64 a, .int .i64 b, .int .i64 c] 3 (0, 0))
  fl : w.heap[fb]? = some (.cells #[.int .i64 3, .int .i64 4, .int .i64 5] 3 (0, 0))
  ne : bb ≠ sb ∧ bb ≠ ab ∧ bb ≠ fb
  ng : g ≠ sb ∧ sb ≠ ab ∧ sb ≠ fb
  lo : w0.heap.size ≤ sb
section
variable {w0 w w1 : World} {g bb : Nat} {F F2 : List Int} {sb ab fb : Nat} {k0 f0 q0 k1 f1 q1 k2 f2 q2 a b c : Int}
theorem FS.below (h : FS w0 w g bb F sb ab fb k0 f0 q0 k1 f1 q1 k2 f2 q2 a b c) (hb : Below w.heap.size w w1) : FS w0 w1 g bb F sb ab fb k0 f0 q0 k1 f1 q1 k2 f2 q2 a b c :=
  ⟨h.p.below hb, bel_chain h.bel hb, blk_below h.sl hb, blk_below h.al hb, blk_below h.fl hb, h.ne, h.ng, h.lo⟩
theorem FS.set (h : FS w0 w g bb F sb ab fb k0 f0 q0 k1 f1 q1 k2 f2 q2 a b c) (hk : Kept w w1 (fun j => 0 < 30 ∧ j = bb)) (hp : Is w1 w0.heap.size g bb 30 F2 30) : FS w0 w1 g bb F2 sb ab fb k0 f0 q0 k1 f1 q1 k2 f2 q2 a b c :=
  ⟨hp, bel_own h.bel h.p (Nat.le_refl _) hk, hk.blk h.sl (fun e => h.ne.1 e.2.symm), hk.blk h.al (fun e => h.ne.2.1 e.2.symm), hk.blk h.fl (fun e => h.ne.2.2 e.2.symm), h.ne, h.ng, h.lo⟩
theorem FS.drew (h : FS w0 w g bb F sb ab fb k0 f0 q0 k1 f1 q1 k2 f2 q2 a b c) : FS w0 w.drew g bb F sb ab fb k0 f0 q0 k1 f1 q1 k2 f2 q2 a b c := h.below (bel_drew (Below.refl _ _))
theorem FS.s0 (h : FS w0 w g bb F sb ab fb k0 f0 q0 k1 f1 q1 k2 f2 q2 a b c) : w.cell? ⟨sb, 0, none⟩ = some (.int .i64 k0) := blk_cell h.sl 0
theorem FS.s1 (h : FS w0 w g bb F sb ab fb k0 f0 q0 k1 f1 q1 k2 f2 q2 a b c) : w.cell? ⟨sb, 1, none⟩ = some (.int .i64 f0) := blk_cell h.sl 1
theorem FS.s2 (h : FS w0 w g bb F sb ab fb k0 f0 q0 k1 f1 q1 k2 f2 q2 a b c) : w.cell? ⟨sb, 2, none⟩ = some (.int .i64 q0) := blk_cell h.sl 2
theorem FS.s3 (h : FS w0 w g bb F sb ab fb k0 f0 q0 k1 f1 q1 k2 f2 q2 a b c) : w.cell? ⟨sb, 3, none⟩ = some (.int .i64 k1) := blk_cell h.sl 3
theorem FS.s4 (h : FS w0 w g bb F sb ab fb k0 f0 q0 k1 f1 q1 k2 f2 q2 a b c) : w.cell? ⟨sb, 4, none⟩ = some (.int .i64 f1) := blk_cell h.sl 4
theorem FS.s5 (h : FS w0 w g bb F sb ab fb k0 f0 q0 k1 f1 q1 k2 f2 q2 a b c) : w.cell? ⟨sb, 5, none⟩ = some (.int .i64 q1) := blk_cell h.sl 5
theorem FS.s6 (h : FS w0 w g bb F sb ab fb k0 f0 q0 k1 f1 q1 k2 f2 q2 a b c) : w.cell? ⟨sb, 6, none⟩ = some (.int .i64 k2) := blk_cell h.sl 6
theorem FS.s7 (h : FS w0 w g bb F sb ab fb k0 f0 q0 k1 f1 q1 k2 f2 q2 a b c) : w.cell? ⟨sb, 7, none⟩ = some (.int .i64 f2) := blk_cell h.sl 7
theorem FS.s8 (h : FS w0 w g bb F sb ab fb k0 f0 q0 k1 f1 q1 k2 f2 q2 a b c) : w.cell? ⟨sb, 8, none⟩ = some (.int .i64 q2) := blk_cell h.sl 8
theorem FS.a0 (h : FS w0 w g bb F sb ab fb k0 f0 q0 k1 f1 q1 k2 f2 q2 a b c) : w.cell? ⟨ab, 0, none⟩ = some (.int .i64 a) := blk_cell h.al 0
theorem FS.c3 (h : FS w0 w g bb F sb ab fb k0 f0 q0 k1 f1 q1 k2 f2 q2 a b c) : w.cell? ⟨fb, 0, none⟩ = some (.int .i64 3) := blk_cell h.fl 0
theorem FS.a1 (h : FS w0 w g bb F sb ab fb k0 f0 q0 k1 f1 q1 k2 f2 q2 a b c) : w.cell? ⟨ab, 1, none⟩ = some (.int .i64 b) := blk_cell h.al 1
theorem FS.c4 (h : FS w0 w g bb F sb ab fb k0 f0 q0 k1 f1 q1 k2 f2 q2 a b c) : w.cell? ⟨fb, 1, none⟩ = some (.int .i64 4) := blk_cell h.fl 1
theorem FS.a2 (h : FS w0 w g bb F sb ab fb k0 f0 q0 k1 f1 q1 k2 f2 q2 a b c) : w.cell? ⟨ab, 2, none⟩ = some (.int .i64 c) := blk_cell h.al 2
theorem FS.c5 (h : FS w0 w g bb F sb ab fb k0 f0 q0 k1 f1 q1 k2 f2 q2 a b c) : w.cell? ⟨fb, 2, none⟩ = some (.int .i64 5) := blk_cell h.fl 2
theorem FS.put0 (h : FS w0 w g bb F sb ab fb k0 f0 q0 k1 f1 q1 k2 f2 q2 a b c) (x : Int) : FS w0 (w.setCell ⟨sb, 0, none⟩ (.int .i64 x)) g bb F sb ab fb x f0 q0 k1 f1 q1 k2 f2 q2 a b c := by
  have hk : Kept w (w.setCell ⟨sb, 0, none⟩ (.int .i64 x)) (fun j => j = sb) := kept_set (S := fun j => j = sb) (kept_refl _ _) rfl _ _
  exact ⟨h.p.kept hk (fun e => h.ng.1 e) (fun _ e => h.ne.1 e), h.bel.setCell h.lo _, blk_set h.sl 0 _, hk.blk h.al (fun e => h.ng.2.1 e.symm), hk.blk h.fl (fun e => h.ng.2.2 e.symm), h.ne, h.ng, h.lo⟩
theorem FS.put1 (h : FS w0 w g bb F sb ab fb k0 f0 q0 k1 f1 q1 k2 f2 q2 a b c) (x : Int) : FS w0 (w.setCell ⟨sb, 1, none⟩ (.int .i64 x)) g bb F sb ab fb k0 x q0 k1 f1 q1 k2 f2 q2 a b c := by
  have hk : Kept w (w.setCell ⟨sb, 1, none⟩ (.int .i64 x)) (fun j => j = sb) := kept_set (S := fun j => j = sb) (kept_refl _ _) rfl _ _
  exact ⟨h.p.kept hk (fun e => h.ng.1 e) (fun _ e => h.ne.1 e), h.bel.setCell h.lo _, blk_set h.sl 1 _, hk.blk h.al (fun e => h.ng.2.1 e.symm), hk.blk h.fl (fun e => h.ng.2.2 e.symm), h.ne, h.ng, h.lo⟩
theorem FS.put2 (h : FS w0 w g bb F sb ab fb k0 f0 q0 k1 f1 q1 k2 f2 q2 a b c) (x : Int) : FS w0 (w.setCell ⟨sb, 2, none⟩ (.int .i64 x)) g bb F sb ab fb k0 f0 x k1 f1 q1 k2 f2 q2 a b c := by
  have hk : Kept w (w.setCell ⟨sb, 2, none⟩ (.int .i64 x)) (fun j => j = sb) := kept_set (S := fun j => j = sb) (kept_refl _ _) rfl _ _
  exact ⟨h.p.kept hk (fun e => h.ng.1 e) (fun _ e => h.ne.1 e), h.bel.setCell h.lo _, blk_set h.sl 2 _, hk.blk h.al (fun e => h.ng.2.1 e.symm), hk.blk h.fl (fun e => h.ng.2.2 e.symm), h.ne, h.ng, h.lo⟩
theorem FS.put3 (h : FS w0 w g bb F sb ab fb k0 f0 q0 k1 f1 q1 k2 f2 q2 a b c) (x : Int) : FS w0 (w.setCell ⟨sb, 3, none⟩ (.int .i64 x)) g bb F sb ab fb k0 f0 q0 x f1 q1 k2 f2 q2 a b c := by
  have hk : Kept w (w.setCell ⟨sb, 3, none⟩ (.int .i64 x)) (fun j => j = sb) := kept_set (S := fun j => j = sb) (kept_refl _ _) rfl _ _
  exact ⟨h.p.kept hk (fun e => h.ng.1 e) (fun _ e => h.ne.1 e), h.bel.setCell h.lo _, blk_set h.sl 3 _, hk.blk h.al (fun e => h.ng.2.1 e.symm), hk.blk h.fl (fun e => h.ng.2.2 e.symm), h.ne, h.ng, h.lo⟩
theorem FS.put4 (h : FS w0 w g bb F sb ab fb k0 f0 q0 k1 f1 q1 k2 f2 q2 a b c) (x : Int) : FS w0 (w.setCell ⟨sb, 4, none⟩ (.int .i64 x)) g bb F sb ab fb k0 f0 q0 k1 x q1 k2 f2 q2 a b c := by
  have hk : Kept w (w.setCell ⟨sb, 4, none⟩ (.int .i64 x)) (fun j => j = sb) := kept_set (S := fun j => j = sb) (kept_refl _ _) rfl _ _
  exact ⟨h.p.kept hk (fun e => h.ng.1 e) (fun _ e => h.ne.1 e), h.bel.setCell h.lo _, blk_set h.sl 4 _, hk.blk h.al (fun e => h.ng.2.1 e.symm), hk.blk h.fl (fun e => h.ng.2.2 e.symm), h.ne, h.ng, h.lo⟩
theorem FS.put5 (h : FS w0 w g bb F sb ab fb k0 f0 q0 k1 f1 q1 k2 f2 q2 a b c) (x : Int) : FS w0 (w.setCell ⟨sb, 5, none⟩ (.int .i64 x)) g bb F sb ab fb k0 f0 q0 k1 f1 x k2 f2 q2 a b c := by
  have hk : Kept w (w.setCell ⟨sb, 5, none⟩ (.int .i64 x)) (fun j => j = sb) := kept_set (S := fun j => j = sb) (kept_refl _ _) rfl _ _
  exact ⟨h.p.kept hk (fun e => h.ng.1 e) (fun _ e => h.ne.1 e), h.bel.setCell h.lo _, blk_set h.sl 5 _, hk.blk h.al (fun e => h.ng.2.1 e.symm), hk.blk h.fl (fun e => h.ng.2.2 e.symm), h.ne, h.ng, h.lo⟩
theorem FS.put6 (h : FS w0 w g bb F sb ab fb k0 f0 q0 k1 f1 q1 k2 f2 q2 a b c) (x : Int) : FS w0 (w.setCell ⟨sb, 6, none⟩ (.int .i64 x)) g bb F sb ab fb k0 f0 q0 k1 f1 q1 x f2 q2 a b c := by
  have hk : Kept w (w.setCell ⟨sb, 6, none⟩ (.int .i64 x)) (fun j => j = sb) := kept_set (S := fun j => j = sb) (kept_refl _ _) rfl _ _
  exact ⟨h.p.kept hk (fun e => h.ng.1 e) (fun _ e => h.ne.1 e), h.bel.setCell h.lo _, blk_set h.sl 6 _, hk.blk h.al (fun e => h.ng.2.1 e.symm), hk.blk h.fl (fun e => h.ng.2.2 e.symm), h.ne, h.ng, h.lo⟩
theorem FS.put7 (h : FS w0 w g bb F sb ab fb k0 f0 q0 k1 f1 q1 k2 f2 q2 a b c) (x : Int) : FS w0 (w.setCell ⟨sb, 7, none⟩ (.int .i64 x)) g bb F sb ab fb k0 f0 q0 k1 f1 q1 k2 x q2 a b c := by
  have hk : Kept w (w.setCell ⟨sb, 7, none⟩ (.int .i64 x)) (fun j => j = sb) := kept_set (S := fun j => j = sb) (kept_refl _ _) rfl _ _
  exact ⟨h.p.kept hk (fun e => h.ng.1 e) (fun _ e => h.ne.1 e), h.bel.setCell h.lo _, blk_set h.sl 7 _, hk.blk h.al (fun e => h.ng.2.1 e.symm), hk.blk h.fl (fun e => h.ng.2.2 e.symm), h.ne, h.ng, h.lo⟩
theorem FS.put8 (h : FS w0 w g bb F sb ab fb k0 f0 q0 k1 f1 q1 k2 f2 q2 a b c) (x : Int) : FS w0 (w.setCell ⟨sb, 8, none⟩ (.int .i64 x)) g bb F sb ab fb k0 f0 q0 k1 f1 q1 k2 f2 x a b c := by
  have hk : Kept w (w.setCell ⟨sb, 8, none⟩ (.int .i64 x)) (fun j => j = sb) := kept_set (S := fun j => j = sb) (kept_refl _ _) rfl _ _
  exact ⟨h.p.kept hk (fun e => h.ng.1 e) (fun _ e => h.ne.1 e), h.bel.setCell h.lo _, blk_set h.sl 8 _, hk.blk h.al (fun e => h.ng.2.1 e.symm), hk.blk h.fl (fun e => h.ng.2.2 e.symm), h.ne, h.ng, h.lo⟩
end
theorem fs_new {w w2 : World} {g bb : Nat} {F : List Int} (h : Is w2 w.heap.size g bb 30 F 30) (hb : Below w.heap.size w w2) (k0 f0 q0 k1 f1 q1 k2 f2 q2 a b c : Int) {W : World}
    (hW : ((w2.alloc (.cells #[.int .i64 k0, .int .i64 f0, .int .i64 q0, .int .i64 k1, .int .i64 f1, .int .i64 q1, .int .i64 k2, .int .i64 f2, .int .i64 q2] 51 (0, 0))).alloc (.cells #[.int .i64 a, .int .i64 b, .int .i64 c] 3 (0, 0))).alloc (.cells #[.int .i64 3, .int .i64 4, .int .i64 5] 3 (0, 0)) = W) :
    FS w W g bb F w2.heap.size (w2.heap.size + 1) (w2.heap.size + 1 + 1) k0 f0 q0 k1 f1 q1 k2 f2 q2 a b c := by
  subst hW
  have z := h.row (by decide)
  have zg := h.lt
  have e1 : ∀ (x : World) (o : Obj), (x.alloc o).heap.size = x.heap.size + 1 := fun x o => by show (x.heap.push o).size = _; simp
  refine ⟨?_, ?_, ?_, ?_, ?_, ⟨by omega, by omega, by omega⟩, ⟨by omega, by omega, by omega⟩, hb.size⟩
  · exact ((h.below (bel_alloc (Below.refl _ _) _)).below (bel_alloc (Below.refl _ _) _)).below (bel_alloc (Below.refl _ _) _)
  · exact bel_alloc (bel_alloc (bel_alloc hb _) _) _
  · exact blk_alloc (blk_alloc (blk_new _ _) _) _
  · have := blk_new (w2.alloc (.cells #[.int .i64 k0, .int .i64 f0, .int .i64 q0, .int .i64 k1, .int .i64 f1, .int .i64 q1, .int .i64 k2, .int .i64 f2, .int .i64 q2] 51 (0, 0))) (.cells #[.int .i64 a, .int .i64 b, .int .i64 c] 3 (0, 0))
    rw [e1] at this
    exact blk_alloc this _
  · have := blk_new ((w2.alloc (.cells #[.int .i64 k0, .int .i64 f0, .int .i64 q0, .int .i64 k1, .int .i64 f1, .int .i64 q1, .int .i64 k2, .int .i64 f2, .int .i64 q2] 51 (0, 0))).alloc (.cells #[.int .i64 a, .int .i64 b, .int .i64 c] 3 (0, 0))) (.cells #[.int .i64 3, .int .i64 4, .int .i64 5] 3 (0, 0))
    rw [e1, e1] at this
    exact this
/-- The frames behind so many rounds. -/
def fltR (a b c v0 v1 v2 : Int) : Nat → List Int
  | 0 => List.replicate (30 * 128) 0
  | 1 => swF 30 30 (List.replicate (30 * 128) 0) true 3 a v0
  | 2 => swF 30 30 (swF 30 30 (List.replicate (30 * 128) 0) true 3 a v0) true 4 b v1
  | _ => fltF a b c v0 v1 v2
end Go.Proofs.Ytdpjpmlajjfpgaa.Ram
