/- Contracts of package ram by whole numbers that are told to be such; plain laws on frames' bytes. -/
import Derived.Test.YtdpjpmlajjfpgaaRamF
namespace Go.Proofs.Ytdpjpmlajjfpgaa.Ram
open Go.RowKit Go.Proofs.Ytdpjpmlajjfpgaa.Mem Go.Proofs.Ytdpjpmlajjfpgaa.Kept
open Go.Proofs.YtdpjpmlajjfpgaaW.PrintWords (nums ReadsInt own_reads own_reads' own_le own_lit print_append_row)
set_option linter.unusedVariables false
set_option linter.unusedSimpArgs false

theorem mem_splice {F l : List Int} {o : Nat} (h : ∀ x ∈ F, 0 ≤ x ∧ x ≤ 255) (hl : ∀ x ∈ l, 0 ≤ x ∧ x ≤ 255) : ∀ x ∈ splice F o l, 0 ≤ x ∧ x ≤ 255 := by
  intro x hx
  simp only [splice, List.mem_append] at hx
  rcases hx with hx | hx | hx
  · exact h x (List.mem_of_mem_take hx)
  · exact hl x hx
  · exact h x (List.mem_of_mem_drop hx)
theorem mem_zero {n : Nat} : ∀ x ∈ List.replicate n (0 : Int), 0 ≤ x ∧ x ≤ 255 := by intro x hx; have := List.eq_of_mem_replicate hx; omega
theorem mem_low8 (v : Int) (hv : 0 ≤ v) : ∀ x ∈ low8 v, 0 ≤ x ∧ x ≤ 255 := by
  intro x hx
  simp only [low8, List.mem_cons, List.not_mem_nil, or_false] at hx
  rcases hx with h | h | h | h | h | h | h | h <;> (subst h; omega)
theorem num_low (v : Int) (h0 : 0 ≤ v) (h1 : v ≤ 18446744073709551615) : num8 (low8 v) = v := by
  simp only [num8, low8, List.getD_cons_zero, List.getD_cons_succ]
  omega
/-- One byte of what was spliced. -/
theorem splice_at (F l : List Int) (o i : Nat) (h : o + l.length ≤ F.length) : (splice F o l).getD i 0 = if o ≤ i ∧ i < o + l.length then l.getD (i - o) 0 else F.getD i 0 := by
  have e1 : (F.take o).length = o := by rw [List.length_take]; omega
  rw [List.getD_eq_getElem?_getD, splice]
  by_cases h1 : i < o
  · rw [if_neg (by omega), List.getElem?_append_left (by omega), List.getElem?_take, if_pos h1, List.getD_eq_getElem?_getD]
  · rw [List.getElem?_append_right (by omega), e1]
    by_cases h2 : i < o + l.length
    · rw [if_pos (by omega), List.getElem?_append_left (by omega), List.getD_eq_getElem?_getD]
    · rw [if_neg (by omega), List.getElem?_append_right (by omega), List.getElem?_drop, List.getD_eq_getElem?_getD]
      congr 2
      omega
theorem part_at (F : List Int) (f o k i : Nat) (hi : i < k) : (part F f o k).getD i 0 = F.getD (f * 128 + o + i) 0 := by
  rw [part, List.getD_eq_getElem?_getD, List.getElem?_take, if_pos hi, List.getElem?_drop, List.getD_eq_getElem?_getD]
theorem list_ext {a b : List Int} (hl : a.length = b.length) (h : ∀ i, i < a.length → a.getD i 0 = b.getD i 0) : a = b := by
  apply List.ext_getElem hl
  intro i h1 h2
  have := h i h1
  rwa [List.getD_eq_getElem?_getD, List.getD_eq_getElem?_getD, List.getElem?_eq_getElem h1, List.getElem?_eq_getElem h2] at this
theorem part_same {F l : List Int} {n f o k : Nat} (hF : F.length = n * 128) (h1 : f < n) (h3 : o + k ≤ 128) (hl : l.length = k) : part (splice F (f * 128 + o) l) f o k = l := by
  have hfit : f * 128 + o + l.length ≤ F.length := by omega
  have hlen := part_len (F := splice F (f * 128 + o) l) (n := n) (by rw [splice_len hfit, hF]) h1 h3
  refine list_ext (by rw [hlen, hl]) (fun i hi => ?_)
  rw [hlen] at hi
  rw [part_at _ _ _ _ _ hi, splice_at _ _ _ _ hfit, if_pos (by omega), Nat.add_sub_cancel_left]
theorem part_other {F l : List Int} {n f o f' o' k' : Nat} (hF : F.length = n * 128) (h1 : f < n) (h3 : o + l.length ≤ 128) (h1' : f' < n) (h3' : o' + k' ≤ 128) (hne : f ≠ f' ∨ o + l.length ≤ o' ∨ o' + k' ≤ o) : part (splice F (f * 128 + o) l) f' o' k' = part F f' o' k' := by
  have hfit : f * 128 + o + l.length ≤ F.length := by omega
  have hlen := part_len (F := splice F (f * 128 + o) l) (n := n) (by rw [splice_len hfit, hF]) h1' h3'
  have hlen' := part_len hF h1' h3'
  refine list_ext (by rw [hlen, hlen']) (fun i hi => ?_)
  rw [hlen] at hi
  rw [part_at _ _ _ _ _ hi, part_at _ _ _ _ _ hi, splice_at _ _ _ _ hfit, if_neg (by omega)]
theorem part_zero {n f o k : Nat} (h1 : f < n) (h3 : o + k ≤ 128) : part (List.replicate (n * 128) 0) f o k = List.replicate k 0 := by
  rw [part, List.drop_replicate, List.take_replicate, Nat.min_eq_left (by omega)]

/-- Behind a turn of the frames alone, the outer world's part is as it was. -/
theorem bel_row {w w1 w2 : World} {B g b n : Nat} {F : List Int} {s : Int} (hb : Below w.heap.size w w1) (H : Is w1 B g b n F s) (hB : w.heap.size ≤ B) (hn : 0 < n) (hk : Kept w1 w2 (fun k => k = b)) : Below w.heap.size w w2 :=
  hk.below hb hb.size (fun k h => by have := H.row hn; omega)
theorem new_i (w : World) (f s : Int) (N : Nat) (S : Int) (hN : frames f = N) (hS : secures f s = S) : Calls Try.prog 26 #[.int .i64 f, .int .i64 s] w fun e w' => ∃ g b, e = .returned (.pointer (some ⟨g, 0, none⟩)) ∧ Is w' w.heap.size g b N (List.replicate (N * 128) 0) S ∧ Below w.heap.size w w' := by
  subst hN hS
  exact (new_any w f s).mono fun e w' ⟨g, b, h1, h2, h3, h4⟩ => ⟨g, b, h1, h2, h3⟩
theorem read_i {w : World} {B g b n : Nat} {F L : List Int} {s : Int} (h : Is w B g b n F s) (sec : Bool) (fi oi ki : Int) (f o k : Nat) (hf : fi = f) (ho : oi = o) (hk : ki = k) (h1 : f < n) (h2 : sec = true ∨ s ≤ fi) (h3 : o + k ≤ 128) (hL : part F f o k = L) :
    Calls Try.prog 42 #[.pointer (some ⟨g, 0, none⟩), .bool sec, .int .i64 fi, .int .i64 oi, .int .i64 ki] w fun e w' => ∃ A c, e = .returned (.tuple #[.slice A k c, .int .i64 0]) ∧ k ≤ c ∧ ReadsInt w' .u8 A k L ∧ Below w.heap.size w w' ∧ Fresh w.heap.size A := by
  subst hf ho hk hL; exact read_ok h sec f o k h1 h2 h3
theorem setWord_i {w : World} {B g b n : Nat} {F : List Int} {s : Int} (h : Is w B g b n F s) (sec : Bool) (fi ki : Int) (f k : Nat) (v : Int) (hf : fi = f) (hk' : ki = k) (h1 : f < n) (h2 : sec = true ∨ s ≤ fi) (hk : k < 16) (hv : 0 ≤ v ∧ v ≤ 18446744073709551615) :
    Calls Try.prog 29 #[.pointer (some ⟨g, 0, none⟩), .bool sec, .int .i64 fi, .int .i64 ki, .int .u64 v] w fun e w' => e = .returned (.int .i64 0) ∧ Is w' B g b n (splice F (f * 128 + k * 8) (low8 v)) s ∧ Kept w w' (fun j => j = b) := by
  subst hf hk'; exact setWord_ok h sec f k v h1 h2 hk hv
theorem get_i {w : World} {B g b n : Nat} {F : List Int} {s : Int} (h : Is w B g b n F s) (sec : Bool) (fi ki : Int) (f k : Nat) (x : Int) (hf : fi = f) (hk' : ki = k) (h1 : f < n) (h2 : sec = true ∨ s ≤ fi) (hk : k < 16) (hF : ∀ x ∈ F, 0 ≤ x ∧ x ≤ 255) (hx : num8 (part F f (k * 8) 8) = x) :
    Calls Try.prog 39 #[.pointer (some ⟨g, 0, none⟩), .bool sec, .int .i64 fi, .int .i64 ki] w fun e w' => e = .returned (.tuple #[.int .u64 x, .int .i64 0]) ∧ w = w' := by
  subst hf hk' hx; exact get_ok h sec f k h1 h2 hk hF
theorem frames_i {w : World} {B g b n : Nat} {F : List Int} {s : Int} (h : Is w B g b n F s) (z : Int) (hz : (n : Int) = z) : Calls Try.prog 56 #[.pointer (some ⟨g, 0, none⟩)] w fun e w' => e = .returned (.int .i64 z) ∧ w = w' := by
  subst hz; exact frames_any h
end Go.Proofs.Ytdpjpmlajjfpgaa.Ram
