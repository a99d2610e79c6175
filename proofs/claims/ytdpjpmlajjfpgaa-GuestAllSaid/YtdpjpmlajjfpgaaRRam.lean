/- Contracts of the reference's frames: may, Read, of a memory at block g, each frame a text. -/
import Derived.Test.YtdpjpmlajjfpgaaRamG
import Derived.Lib.ConvBytes
import Derived.Lib.Strings
import Derived.Lib.SmallJoins
namespace Go.Proofs.Ytdpjpmlajjfpgaa.Ram
open Go.RowKit Go.Proofs.Ytdpjpmlajjfpgaa.Mem Go.Proofs.Ytdpjpmlajjfpgaa.Kept
open Go.Proofs.YtdpjpmlajjfpgaaW.PrintWords (nums ReadsInt own_reads own_reads' own_le own_lit print_append_row)
set_option linter.unusedVariables false
set_option linter.unusedSimpArgs false

/-- A frame as a text. -/
def fs (F : List Int) (f : Nat) : ByteArray := strOfNums (part F f 0 128)
def strs (n : Nat) (F : List Int) : List Value := (List.range n).map fun f => .string (fs F f)
theorem strs_len (n : Nat) (F : List Int) : (strs n F).length = n := by simp [strs]
theorem strs_at {n f : Nat} (F : List Int) (h : f < n) : (strs n F)[f]? = some (.string (fs F f)) := by simp [strs, h]
theorem str_size (l : List Int) : (strOfNums l).size = l.length := by
  show (l.map fun n => UInt8.ofNat n.toNat).toArray.size = _
  simp
theorem fs_size {F : List Int} {n f : Nat} (hF : F.length = n * 128) (h : f < n) : (fs F f).size = 128 := by rw [fs, str_size, part_len hF h (by omega)]
theorem str_extract (l : List Int) (a b : Nat) : (strOfNums l).extract a b = strOfNums ((l.drop a).take (b - a)) := by
  rw [Lib.extract_eq]
  simp [strOfNums, List.map_drop, List.map_take]
theorem str_append (a b : List Int) : strOfNums a ++ strOfNums b = strOfNums (a ++ b) := by
  apply ByteArray.ext
  apply Array.ext'
  rw [Go.Joins.data_append]
  simp [strOfNums]
theorem part_part {F : List Int} {n f o k : Nat} (hF : F.length = n * 128) (h : f < n) (ho : o + k ≤ 128) : ((part F f 0 128).drop o).take k = part F f o k := by
  rw [part, part, List.drop_take, List.drop_drop, List.take_take, Nat.min_eq_left (by omega), Nat.add_zero]
theorem fs_extract {F : List Int} {n f o k : Nat} (hF : F.length = n * 128) (h : f < n) (ho : o + k ≤ 128) : (fs F f).extract o (o + k) = strOfNums (part F f o k) := by
  rw [fs, str_extract, Nat.add_sub_cancel_left, part_part hF h ho]

/-- The reference's memory at block g. -/
def RIs (w : World) (B g : Nat) (R : Option Nat) (n : Nat) (F : List Int) (s : Int) : Prop :=
  ∃ A c, w.heap[g]? = some (.cells #[.slice A n c, .int .i64 s] 92 (0, 0)) ∧ B ≤ g ∧ n ≤ 240 ∧ F.length = n * 128 ∧ w.ownsRow B 9 1 (.slice A n c) n (strs n F) ∧ (Value.slice A n c).ownBlock = R
theorem own_lt {w : World} {B n c k : Nat} {t : TypeId} {A : Option Addr} {xs : List Value} (ho : w.ownsRow B t 1 (.slice A n c) n xs) (hk : (Value.slice A n c).ownBlock = some k) : B ≤ k ∧ k < w.heap.size ∧ ∃ cs, w.heap[k]? = some (.cells cs t (0, 0)) := by
  rcases ho.2 with ⟨h, _⟩ | ⟨g, cap, cur, he, hb, hg, _⟩
  · rw [h] at hk; simp [Value.ownBlock] at hk
  · rw [he] at hk
    have : g = k := by simpa [Value.ownBlock] using hk
    subst this
    exact ⟨hb, blk_lt hg, cur, hg⟩
theorem own_kept {w w' : World} {S : Nat → Prop} {B n c : Nat} {t : TypeId} {A : Option Addr} {xs : List Value} (h : Kept w w' S) (ho : w.ownsRow B t 1 (.slice A n c) n xs) (hS : ∀ k, (Value.slice A n c).ownBlock = some k → ¬ S k) : w'.ownsRow B t 1 (.slice A n c) n xs := by
  refine ⟨ho.1, ho.2.imp id ?_⟩
  rintro ⟨g, cap, cur, he, hb, hg, h1, h2, h3, h4⟩
  refine ⟨g, cap, cur, he, hb, ?_, h1, h2, h3, h4⟩
  exact h.blk hg (hS g (by rw [he]; simp [Value.ownBlock]))
theorem RIs.lt {w : World} {B g : Nat} {R : Option Nat} {n : Nat} {F : List Int} {s : Int} (h : RIs w B g R n F s) : B ≤ g ∧ g < w.heap.size := by
  obtain ⟨A, c, hg, hB, _⟩ := h
  exact ⟨hB, blk_lt hg⟩
theorem RIs.len {w : World} {B g : Nat} {R : Option Nat} {n : Nat} {F : List Int} {s : Int} (h : RIs w B g R n F s) : F.length = n * 128 ∧ n ≤ 240 := by
  obtain ⟨A, c, hg, hB, h1, h2, _⟩ := h
  exact ⟨h2, h1⟩
theorem RIs.row {w : World} {B g k : Nat} {R : Option Nat} {n : Nat} {F : List Int} {s : Int} (h : RIs w B g R n F s) (hk : R = some k) : B ≤ k ∧ k < w.heap.size ∧ k ≠ g := by
  obtain ⟨A, c, hg, hB, _, _, ho, rfl⟩ := h
  obtain ⟨h1, h2, cs, h3⟩ := own_lt ho hk
  refine ⟨h1, h2, fun e => ?_⟩
  subst e
  rw [hg] at h3
  injection h3 with h3
  injection h3 with _ h3 _
  exact absurd h3 (by decide)
theorem RIs.kept {w w' : World} {S : Nat → Prop} {B g : Nat} {R : Option Nat} {n : Nat} {F : List Int} {s : Int} (h : RIs w B g R n F s) (hk : Kept w w' S) (hg : ¬ S g) (hR : ∀ k, R = some k → ¬ S k) : RIs w' B g R n F s := by
  obtain ⟨A, c, h1, h2, h3, h4, ho, rfl⟩ := h
  exact ⟨A, c, hk.blk h1 hg, h2, h3, h4, own_kept hk ho hR, rfl⟩
theorem RIs.below {w w' : World} {B g : Nat} {R : Option Nat} {n : Nat} {F : List Int} {s : Int} (h : RIs w B g R n F s) (hb : Below w.heap.size w w') : RIs w' B g R n F s :=
  h.kept (S := fun _ => False) (kept_below hb) (fun h => h) (fun _ _ h => h)
/-- A frame's cell. -/
theorem own_cell {w : World} {B n : Nat} {F : List Int} {A : Option Addr} {c : Nat} (ho : w.ownsRow B 9 1 (.slice A n c) n (strs n F)) {f : Nat} (hf : f < n) : ∃ b, A = some ⟨b, 0, none⟩ ∧ (Value.slice A n c).ownBlock = some b ∧ w.cell? ⟨b, f, none⟩ = some (.string (fs F f)) ∧ w.frozen? ⟨b, f, none⟩ = false := by
  rcases ho.2 with ⟨h, h0⟩ | ⟨b, cap, cur, he, hb, hg, h1, h2, h3, h4⟩
  · omega
  · injection he with he
    subst he
    refine ⟨b, rfl, by simp [Value.ownBlock], ?_, blk_free hg f⟩
    have := ho.cells (g := b) rfl f (.string (fs F f)) (strs_at F hf)
    rwa [add_at, Nat.zero_add] at this
set_option maxHeartbeats 4000000 in
theorem rmay_any {w : World} {B g : Nat} {R : Option Nat} {n : Nat} {F : List Int} {s : Int} (h : RIs w B g R n F s) (sec : Bool) (f : Int) :
    Calls Try.prog 62 #[.pointer (some ⟨g, 0, none⟩), .bool sec, .int .i64 f] w fun e w' => e = .returned (.bool (decide (0 ≤ f) && decide (f < n) && (sec || decide (s ≤ f)))) ∧ w = w' := by
  obtain ⟨A, c, hg, _, hn, _⟩ := h
  obtain ⟨x0, x1⟩ := cells2 hg
  have hN : (n : Int) ≤ 240 := by omega
  clear hg hn
  by_cases h0 : 0 ≤ f
  · by_cases h1 : f < n
    · cases sec with
      | true =>
        go_enter Try.func62, Try.ntmps62
        go_wp2
        go_ret
        exact ⟨by simp [h0, h1], rfl⟩
      | false =>
        by_cases h2 : s ≤ f
        all_goals
          go_enter Try.func62, Try.ntmps62
          go_wp2
          go_ret
          exact ⟨by simp [h0, h1, h2], rfl⟩
    · cases sec
      all_goals
        go_enter Try.func62, Try.ntmps62
        go_wp2
        all_goals go_ret
        all_goals exact ⟨by simp [h0, h1] <;> omega, rfl⟩
  · cases sec
    all_goals
      go_enter Try.func62, Try.ntmps62
      go_wp2
      all_goals go_ret
      all_goals exact ⟨by simp [h0] <;> omega, rfl⟩
end Go.Proofs.Ytdpjpmlajjfpgaa.Ram
