/- Contracts of package ram: New, Write, Clear. -/
import Derived.Test.YtdpjpmlajjfpgaaRamB
namespace Go.Proofs.Ytdpjpmlajjfpgaa.Ram
open Go.RowKit Go.Proofs.Ytdpjpmlajjfpgaa.Mem Go.Proofs.Ytdpjpmlajjfpgaa.Kept
open Go.Proofs.YtdpjpmlajjfpgaaW.PrintWords (nums ReadsInt own_reads own_reads' own_le own_lit print_append_row)
set_option linter.unusedVariables false
set_option linter.unusedSimpArgs false

/-- How many frames there are. -/
def cl (n : Int) : Int := if n < 0 then 0 else if 240 < n then 240 else n
def frames (n : Int) : Nat := (cl n).toNat
def secures (n s : Int) : Int := if s < 0 then 0 else if cl n < s then cl n else s
theorem cl_in (n : Int) : 0 ≤ cl n ∧ cl n ≤ 240 := by unfold cl; by_cases h : n < 0 <;> by_cases h2 : 240 < n <;> simp [h, h2] <;> omega
theorem frames_in (n : Int) : ((frames n : Nat) : Int) = cl n ∧ frames n ≤ 240 := by have := cl_in n; unfold frames; omega
theorem made_f (n : Nat) : (madeCells (Value.agg (Array.replicate 128 (.int .u8 0))).cells (n * 128)).toList = nums .u8 (List.replicate (n * 128) 0) := by
  have hz : (Value.agg (Array.replicate 128 (.int .u8 0))).cells = Array.replicate 128 (.int .u8 0) := rfl
  rw [hz]
  apply List.ext_getElem
  · simp [madeCells, nums]
  · intro i h1 h2
    simp [madeCells, nums]
    rw [getElem!_pos _ _ (by simp; exact Nat.mod_lt _ (by decide))]
    simp
theorem make_f {ops : Array Oper} {rest : List Oper} {o : Oper} {a : Act} {Q : Exit → Act → World → Prop} (W : World) (hgd : o.guard = none) (x y : Operand)
    (ho : o.op = .makeSlice 87 x y) (z : Int) (n : Nat) (hx : a.eval x = .int .i64 z) (hy : a.eval y = .int .i64 z) (hz : z = (n : Int)) (hn : n ≤ 240)
    (h : ∀ w1, w1.ownsRow W.heap.size 113 128 (.slice (some ⟨W.heap.size, 0, none⟩) n n) n (nums .u8 (List.replicate (n * 128) 0)) → Below W.heap.size W w1 → W.heap.size < w1.heap.size → wpList Try.prog ops Q rest (a.put o.dst (.slice (some ⟨W.heap.size, 0, none⟩) n n)) w1) :
    wpList Try.prog ops Q (o :: rest) a W := by
  obtain ⟨i0, hi, hz0, hz1, hz2⟩ := info_parts infoF
  refine wpList_make_full W hgd x y 87 ho W.heap.size 113 i0 _ 128 underF hi hz0 hz1 .i64 .i64 z z n hx hy hz hz (by rw [hz2]; omega) (by unfold maxLen; omega) (Nat.le_refl _) ?_
  intro w1 hown hg
  rw [made_f] at hown
  refine h w1 hown ((Below.refl _ _).grown hg (Nat.le_refl _) (fun k hk => by cases hk)) ?_
  rcases hown.2 with ⟨e, _⟩ | ⟨g, cap, cur, e, _, hg, _⟩
  · cases e
  · injection e with e
    injection e with e
    injection e with e
    rw [e]; exact blk_lt hg
/-- What a row of its own and a block of two make. -/
theorem is_of {w1 : World} {B n : Nat} {A : Option Addr} {c : Nat} {F : List Int} {s : Int} (ho : w1.ownsRow B 113 128 (.slice A n c) n (nums .u8 F)) (hF : F.length = n * 128) (hn : n ≤ 240) (hB : B ≤ w1.heap.size) :
    ∃ b, Is (w1.alloc (.cells #[.slice A n c, .int .i64 s] 89)) B w1.heap.size b n F s ∧ B ≤ b := by
  rcases ho.2 with ⟨e, h0⟩ | ⟨b, cap, cur, e, hb, hg, hnc, hx, hcs, ht⟩
  · injection e with e1 e2 e3
    subst e1 h0 e3
    refine ⟨w1.heap.size, ⟨none, 0, #[], blk_new _ _, hB, hn, hF, fun _ => rfl, Nat.le_refl _, by omega, fun h => absurd h (by omega)⟩, hB⟩
  · injection e with e1 _ e3
    subst e1 e3
    refine ⟨b, ⟨some ⟨b, 0, none⟩, c, cur, blk_new _ _, hB, hn, hF, (fun h => by cases h), hnc, (by unfold maxLen at hx; omega), fun _ => ⟨rfl, hb, blk_alloc hg _, ht, ?_⟩⟩, hb⟩
    rw [hcs]; exact Nat.mul_le_mul_right _ hnc
theorem new_cases (n : Int) : (n < 0 ∧ cl n = ((0 : Nat) : Int) ∧ frames n = 0) ∨ (∃ m : Nat, n = m ∧ m ≤ 240 ∧ cl n = m ∧ frames n = m) ∨ (240 < n ∧ cl n = ((240 : Nat) : Int) ∧ frames n = 240) := by
  unfold frames
  by_cases h : n < 0
  · have : cl n = 0 := by unfold cl; rw [if_pos h]
    exact .inl ⟨h, this, by rw [this]; rfl⟩
  · by_cases h2 : 240 < n
    · have : cl n = 240 := by unfold cl; rw [if_neg h, if_pos h2]
      exact .inr (.inr ⟨h2, this, by rw [this]; rfl⟩)
    · have : cl n = n := by unfold cl; rw [if_neg h, if_neg h2]
      exact .inr (.inl ⟨n.toNat, by omega, by omega, by omega, by omega⟩)
theorem sec_cases (c : Nat) (s : Int) : (s < 0 ∧ (if s < 0 then 0 else if (c : Int) < s then (c : Int) else s) = 0) ∨ (0 ≤ s ∧ s ≤ c ∧ (if s < 0 then 0 else if (c : Int) < s then (c : Int) else s) = s) ∨ ((c : Int) < s ∧ (if s < 0 then 0 else if (c : Int) < s then (c : Int) else s) = c) := by
  by_cases h : s < 0
  · exact .inl ⟨h, by rw [if_pos h]⟩
  · by_cases h2 : (c : Int) < s
    · exact .inr (.inr ⟨h2, by rw [if_neg h, if_pos h2]⟩)
    · exact .inr (.inl ⟨by omega, by omega, by rw [if_neg h, if_neg h2]⟩)
def New (f s : Int) (w : World) (e : Ending) (w' : World) : Prop :=
  ∃ g b, e = .returned (.pointer (some ⟨g, 0, none⟩)) ∧ Is w' w.heap.size g b (frames f) (List.replicate (frames f * 128) 0) (secures f s) ∧ Below w.heap.size w w' ∧ w.heap.size ≤ b
theorem new_end {w w1 : World} {f s S : Int} {N : Nat} (hN : frames f = N) (hS : secures f s = S) (hn : N ≤ 240) (ho : w1.ownsRow w.heap.size 113 128 (.slice (some ⟨w.heap.size, 0, none⟩) N N) N (nums .u8 (List.replicate (N * 128) 0))) (hb : Below w.heap.size w w1) :
    New f s w (.returned (.pointer (some ⟨w1.heap.size, 0, none⟩))) (w1.alloc (.cells #[.slice (some ⟨w.heap.size, 0, none⟩) N N, .int .i64 S] 89)) := by
  subst hN hS
  obtain ⟨b, h1, h2⟩ := is_of (s := secures f s) ho (by simp) hn hb.size
  exact ⟨_, b, rfl, h1, bel_alloc hb _, h2⟩
set_option maxRecDepth 100000 in
set_option maxHeartbeats 4000000 in
theorem new_any (w : World) (f s : Int) : Calls Try.prog 26 #[.int .i64 f, .int .i64 s] w (New f s w) := by
  rcases new_cases f with ⟨hf, hc, hN⟩ | ⟨m, rfl, hm, hc, hN⟩ | ⟨hf, hc, hN⟩
  · have hS0 : ∀ S, (if s < 0 then 0 else if ((0 : Nat) : Int) < s then ((0 : Nat) : Int) else s) = S → secures f s = S := fun S h => by unfold secures; rw [hc]; exact h
    clear hc
    have HN := Lib.hid hN
    have HS := Lib.hid hS0
    clear hN hS0
    rcases sec_cases 0 s with ⟨hs, he⟩ | ⟨hs, hs', he⟩ | ⟨hs, he⟩
    all_goals
      have HE := Lib.hid he
      clear he
      go_enter Try.func26, Try.ntmps26
      go_wp2_with (first
        | (at_make; refine make_f w rfl (.tmp 9) (.tmp 9) rfl _ 0 rfl rfl rfl (by omega) ?_; intro w1 ho hb hlt; have HO := Lib.hid ho; have HB := Lib.hid hb; clear ho hb)
        | fail)
      all_goals go_ret
      all_goals exact new_end HN.out (HS.out _ HE.out) (by omega) HO.out HB.out
  · have hS0 : ∀ S, (if s < 0 then 0 else if ((m : Nat) : Int) < s then ((m : Nat) : Int) else s) = S → secures m s = S := fun S h => by unfold secures; rw [hc]; exact h
    clear hc
    have HN := Lib.hid hN
    have HS := Lib.hid hS0
    have hm' : (m : Int) ≤ 240 := by omega
    clear hN hS0
    rcases sec_cases m s with ⟨hs, he⟩ | ⟨hs, hs', he⟩ | ⟨hs, he⟩
    all_goals
      have HE := Lib.hid he
      clear he
      go_enter Try.func26, Try.ntmps26
      go_wp2_with (first
        | (at_make; refine make_f w rfl (.tmp 9) (.tmp 9) rfl _ m rfl rfl rfl hm ?_; intro w1 ho hb hlt; have HO := Lib.hid ho; have HB := Lib.hid hb; clear ho hb)
        | fail)
      all_goals go_ret
      all_goals exact new_end HN.out (HS.out _ HE.out) hm HO.out HB.out
  · have hS0 : ∀ S, (if s < 0 then 0 else if ((240 : Nat) : Int) < s then ((240 : Nat) : Int) else s) = S → secures f s = S := fun S h => by unfold secures; rw [hc]; exact h
    clear hc
    have HN := Lib.hid hN
    have HS := Lib.hid hS0
    clear hN hS0
    rcases sec_cases 240 s with ⟨hs, he⟩ | ⟨hs, hs', he⟩ | ⟨hs, he⟩
    all_goals
      have HE := Lib.hid he
      clear he
      go_enter Try.func26, Try.ntmps26
      go_wp2_with (first
        | (at_make; refine make_f w rfl (.tmp 9) (.tmp 9) rfl _ 240 rfl rfl rfl (by omega) ?_; intro w1 ho hb hlt; have HO := Lib.hid ho; have HB := Lib.hid hb; clear ho hb)
        | fail)
      all_goals go_ret
      all_goals exact new_end HN.out (HS.out _ HE.out) (by omega) HO.out HB.out

theorem splice_take (cur : List Value) (n o : Nat) (vs : List Value) (h : o + vs.length ≤ n) : (splice cur o vs).take n = splice (cur.take n) o vs := by
  unfold splice
  rw [List.take_append, List.take_append, List.take_take, List.drop_take]
  by_cases hl : o ≤ cur.length
  · rw [List.length_take, Nat.min_eq_left hl, Nat.min_eq_right (show o ≤ n by omega), List.take_take, Nat.min_eq_left (show o ≤ n by omega), List.take_of_length_le (show vs.length ≤ n - o by omega)]
    congr 3
    omega
  · rw [List.take_of_length_le (show cur.length ≤ o by omega), List.take_of_length_le (show cur.length ≤ n by omega), List.take_of_length_le (show cur.length ≤ o by omega), List.drop_eq_nil_of_le (show cur.length ≤ o + vs.length by omega)]
    rw [List.take_of_length_le (show vs.length ≤ n - cur.length by omega)]
    simp
    exact List.take_of_length_le (by omega)
/-- Behind a store of a row of bytes. -/
theorem is_splice {w w' : World} {B g b n : Nat} {F l : List Int} {s : Int} {o : Nat} {cur : Array Value} (h : Is w B g b n F s) (hn : 0 < n) (hc : w.heap[b]? = some (.cells cur 113 (0, 0))) (hk : Kept w w' (fun k => k = b))
    (hb : w'.heap[b]? = some (.cells (splice cur.toList o (nums .u8 l)).toArray 113 (0, 0))) (ho : o + l.length ≤ n * 128) : Is w' B g b n (splice F o l) s := by
  have hrow := h.row hn
  obtain ⟨A, c, cur', h1, h2, h3, h4, h5, h6, h7, h8⟩ := h
  obtain ⟨h9, h10, h11, h12, h13⟩ := h8 hn
  rw [hc] at h11
  injection h11 with h11
  injection h11 with h11 _ _
  subst h11
  refine ⟨A, c, _, hk.blk h1 (fun e => hrow.2.2 e.symm), h2, h3, ?_, h5, h6, h7, fun _ => ⟨h9, h10, hb, ?_, ?_⟩⟩
  · rw [splice_len (by omega), h4]
  · rw [List.toList_toArray, splice_take _ _ _ _ (by simpa [nums] using ho), h12, nums_splice]
  · have : (splice cur.toList o (nums .u8 l)).length = cur.size := by simp [splice, nums]; omega
    simpa [this] using h13
theorem hsz5 : (Try.prog.info? 5).map (·.size) = some 1 := by
  obtain ⟨i0, hi, hz0, hz1, hz2⟩ := info_parts info5
  rw [hi]; simp [hz1]
theorem splice_nil {F : List Int} (o : Nat) : splice F o [] = F := by simp [splice]
end Go.Proofs.Ytdpjpmlajjfpgaa.Ram
