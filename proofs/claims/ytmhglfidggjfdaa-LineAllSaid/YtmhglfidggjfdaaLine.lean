/- Contracts of package line: of, Raise, Tick, Enable, of processors' lines at block g, in all states, and of none. -/
import Derived.Test.YtmhglfidggjfdaaKept
import Derived.Test.YtmhglfidggjfdaaRows
import Derived.WalkKit
import Derived.WalkSpells
import Derived.WalkLawsBesides
import Derived.Below
import Derived.OneCell
import Derived.Outline
namespace Go.Proofs.Ytmhglfidggjfdaa.Line
open Go.RowKit Go.Proofs.Ytmhglfidggjfdaa.Mem Go.Proofs.Ytmhglfidggjfdaa.Kept
set_option linter.unusedVariables false
set_option linter.unusedSimpArgs false

/-- What waits for a processor: its raised lines, those that are on, whether a tick waits. -/
structure C where
  r : Nat
  o : Nat
  t : Bool
def C.val (c : C) : List Value := [.int .u8 c.r, .int .u8 c.o, .bool c.t]
def flat : List C → List Value
  | [] => []
  | c :: s => .int .u8 c.r :: .int .u8 c.o :: .bool c.t :: flat s
theorem flat_at : ∀ (s : List C) (i : Nat) (c : C), s[i]? = some c → (flat s)[i * 3]? = some (.int .u8 c.r) ∧ (flat s)[i * 3 + 1]? = some (.int .u8 c.o) ∧ (flat s)[i * 3 + 2]? = some (.bool c.t)
  | [], i, c, h => by simp at h
  | d :: s, 0, c, h => by simp at h; subst h; simp [flat]
  | d :: s, i + 1, c, h => by
    have := flat_at s i c (by simpa using h)
    simpa [flat, Nat.add_mul, show i * 3 + 1 * 3 = i * 3 + 3 from by omega, show i * 3 + 3 + 1 = i * 3 + 1 + 3 from by omega, show i * 3 + 3 + 2 = i * 3 + 2 + 3 from by omega] using this
theorem flat_set_r : ∀ (s : List C) (i : Nat) (c : C) (v : Nat), s[i]? = some c → (flat s).set (i * 3) (.int .u8 v) = flat (s.set i ⟨v, c.o, c.t⟩)
  | [], i, c, v, h => by simp at h
  | d :: s, 0, c, v, h => by simp at h; subst h; simp [flat]
  | d :: s, i + 1, c, v, h => by
    have := flat_set_r s i c v (by simpa using h)
    simp [flat, Nat.add_mul, this]
theorem flat_set_o : ∀ (s : List C) (i : Nat) (c : C) (v : Nat), s[i]? = some c → (flat s).set (i * 3 + 1) (.int .u8 v) = flat (s.set i ⟨c.r, v, c.t⟩)
  | [], i, c, v, h => by simp at h
  | d :: s, 0, c, v, h => by simp at h; subst h; simp [flat]
  | d :: s, i + 1, c, v, h => by
    have := flat_set_o s i c v (by simpa using h)
    simp [flat, Nat.add_mul, show i * 3 + 3 + 1 = i * 3 + 1 + 3 from by omega, this]
theorem flat_set_t : ∀ (s : List C) (i : Nat) (c : C) (v : Bool), s[i]? = some c → (flat s).set (i * 3 + 2) (.bool v) = flat (s.set i ⟨c.r, c.o, v⟩)
  | [], i, c, v, h => by simp at h
  | d :: s, 0, c, v, h => by simp at h; subst h; simp [flat]
  | d :: s, i + 1, c, v, h => by
    have := flat_set_t s i c v (by simpa using h)
    simp [flat, Nat.add_mul, show i * 3 + 3 + 2 = i * 3 + 2 + 3 from by omega, this]

/-- States that may be. -/
def Wf (s : List C) : Prop := s.length ≤ 3 ∧ ∀ c ∈ s, c.r < 16 ∧ c.o < 256
theorem Wf.set {s : List C} (h : Wf s) (i : Nat) (c : C) (hc : c.r < 16 ∧ c.o < 256) : Wf (s.set i c) := by
  refine ⟨by simpa using h.1, fun x hx => ?_⟩
  rcases List.mem_or_eq_of_mem_set hx with h1 | h1
  · exact h.2 x h1
  · subst h1; exact hc
theorem Wf.get {s : List C} (h : Wf s) {i : Nat} {c : C} (hc : s[i]? = some c) : c.r < 16 ∧ c.o < 256 ∧ i < s.length ∧ s.length ≤ 3 :=
  ⟨(h.2 c (List.mem_of_getElem? hc)).1, (h.2 c (List.mem_of_getElem? hc)).2, (List.getElem?_eq_some_iff.1 hc).1, h.1⟩

/-- Lines at block g, their processors at block b. -/
structure Is (w : World) (B g b : Nat) (s : List C) : Prop where
  hd : w.heap[g]? = some (.cells #[.slice (some ⟨b, 0, none⟩) s.length s.length] 67 (0, 0))
  bk : w.heap[b]? = some (.cells (flat s).toArray 65 (0, 0))
  geg : B ≤ g
  geb : B ≤ b
theorem Is.lt {w : World} {B g b : Nat} {s : List C} (h : Is w B g b s) : B ≤ g ∧ B ≤ b ∧ g < w.heap.size ∧ b < w.heap.size ∧ g ≠ b := by
  refine ⟨h.geg, h.geb, blk_lt h.hd, blk_lt h.bk, fun e => ?_⟩
  have h1 := h.hd
  rw [e, h.bk] at h1
  injection h1 with h1
  injection h1 with _ h1
  exact absurd h1 (by decide)
theorem Is.kept {w w' : World} {S : Nat → Prop} {B g b : Nat} {s : List C} (h : Is w B g b s) (hk : Kept w w' S) (hg : ¬ S g) (hb : ¬ S b) : Is w' B g b s :=
  ⟨hk.blk h.hd hg, hk.blk h.bk hb, h.geg, h.geb⟩
theorem Is.below {w w' : World} {B g b : Nat} {s : List C} (h : Is w B g b s) (hb : Below w.heap.size w w') : Is w' B g b s :=
  h.kept (S := fun _ => False) (kept_below hb) (fun h => h) (fun h => h)
theorem Is.cell {w : World} {B g b : Nat} {s : List C} (h : Is w B g b s) {i : Nat} {c : C} (hc : s[i]? = some c) :
    w.cell? ⟨b, i * 3, none⟩ = some (.int .u8 c.r) ∧ w.cell? ⟨b, i * 3 + 1, none⟩ = some (.int .u8 c.o) ∧ w.cell? ⟨b, i * 3 + 2, none⟩ = some (.bool c.t) ∧
    w.frozen? ⟨b, i * 3, none⟩ = false ∧ w.frozen? ⟨b, i * 3 + 1, none⟩ = false ∧ w.frozen? ⟨b, i * 3 + 2, none⟩ = false := by
  obtain ⟨h1, h2, h3⟩ := flat_at s i c hc
  exact ⟨by rw [blk_cell h.bk]; simpa using h1, by rw [blk_cell h.bk]; simpa using h2, by rw [blk_cell h.bk]; simpa using h3, blk_free h.bk _, blk_free h.bk _, blk_free h.bk _⟩
theorem Is.drewN {w : World} {B g b : Nat} {s : List C} (h : Is w B g b s) (n : Nat) : Is (w.drewN n) B g b s := ⟨h.hd, h.bk, h.geg, h.geb⟩
theorem Is.set {w : World} {B g b : Nat} {s s' : List C} (h : Is w B g b s) (j : Nat) (v : Value) (hl : s'.length = s.length) (hs : (flat s).set j v = flat s') : Is (w.setCell ⟨b, j, none⟩ v) B g b s' := by
  refine ⟨?_, ?_, h.geg, h.geb⟩
  · rw [hl]; exact blk_far h.hd h.lt.2.2.2.2 v
  · have := blk_set h.bk j v
    rw [this]
    simp [hs]

theorem of_nil (w : World) (i : Int) : Calls Try.prog 35 #[.pointer none, .int .i64 i] w fun e w' => e = .returned (.pointer none) ∧ w = w' := by
  go_enter Try.func35, Try.ntmps35
  go_wp2
  go_ret
  exact ⟨rfl, rfl⟩
set_option maxHeartbeats 1000000 in
theorem of_no {w : World} {B g b : Nat} {s : List C} (h : Is w B g b s) (hw : Wf s) (i : Int) (hi : i < 0 ∨ (s.length : Int) ≤ i) : Calls Try.prog 35 #[.pointer (some ⟨g, 0, none⟩), .int .i64 i] w fun e w' => e = .returned (.pointer none) ∧ w = w' := by
  have x0 := cells1 h.hd
  have hl := hw.1
  clear h hw
  generalize s.length = n at *
  rcases hi with h1 | h1
  all_goals
    go_enter Try.func35, Try.ntmps35
    go_wp2
    all_goals go_ret
    all_goals exact ⟨rfl, rfl⟩
set_option maxHeartbeats 1000000 in
theorem of_ok {w : World} {B g b : Nat} {s : List C} (h : Is w B g b s) (hw : Wf s) (i : Nat) (hi : i < s.length) : Calls Try.prog 35 #[.pointer (some ⟨g, 0, none⟩), .int .i64 (i : Int)] w fun e w' => e = .returned (.pointer (some ⟨b, i * 3, none⟩)) ∧ w = w' := by
  have x0 := cells1 h.hd
  have hl := hw.1
  clear h hw
  have q1 : (i : Int) < (s.length : Int) := by omega
  have q2 : (0 : Int) ≤ (i : Int) := by omega
  generalize s.length = n at *
  go_enter Try.func35, Try.ntmps35
  go_wp2
  go_ret
  exact ⟨rfl, rfl⟩
end Go.Proofs.Ytmhglfidggjfdaa.Line
