/- Contracts of package ram and of the reference's frames in one piece: whatever is asked. -/
import Derived.Test.YtdpjpmlajjfpgaaRRamE
namespace Go.Proofs.Ytdpjpmlajjfpgaa.Ram
open Go.RowKit Go.Proofs.Ytdpjpmlajjfpgaa.Mem Go.Proofs.Ytdpjpmlajjfpgaa.Kept
open Go.Proofs.YtdpjpmlajjfpgaaW.PrintWords (nums ReadsInt own_reads own_reads' own_le own_lit own_nil print_append_num)
set_option linter.unusedVariables false
set_option linter.unusedSimpArgs false

/-- What is read, where one may; and the answer. -/
def rdL (n : Nat) (s : Int) (F : List Int) (sec : Bool) (f o k : Int) : List Int := if may n s sec f o k = true then part F f.toNat o.toNat k.toNat else []
def rdE (n : Nat) (s : Int) (sec : Bool) (f o k : Int) : Int := if may n s sec f o k = true then 0 else -20
/-- What is there behind a write; of a word. -/
def wrF (n : Nat) (s : Int) (F : List Int) (sec : Bool) (f o : Int) (l : List Int) : List Int := if may n s sec f o l.length = true then splice F (f.toNat * 128 + o.toNat) l else F
def mayW (n : Nat) (s : Int) (sec : Bool) (f k : Int) : Bool := decide (0 ≤ f) && decide (f < n) && (sec || decide (s ≤ f)) && decide (0 ≤ k) && decide (k < 16)
def wdV (n : Nat) (s : Int) (F : List Int) (sec : Bool) (f k : Int) : Int := if mayW n s sec f k = true then num8 (part F f.toNat (k.toNat * 8) 8) else 0
def wdE (n : Nat) (s : Int) (sec : Bool) (f k : Int) : Int := if mayW n s sec f k = true then 0 else -20
def swF (n : Nat) (s : Int) (F : List Int) (sec : Bool) (f k v : Int) : List Int := if mayW n s sec f k = true then splice F (f.toNat * 128 + k.toNat * 8) (low8 v) else F
def clF (n : Nat) (F : List Int) (f : Int) : List Int := if 0 ≤ f ∧ f < n then splice F (f.toNat * 128) (List.replicate 128 0) else F
def clE (n : Nat) (f : Int) : Int := if 0 ≤ f ∧ f < n then 0 else -20
theorem mayW_yes {n : Nat} {s : Int} {sec : Bool} {f k : Int} (h : mayW n s sec f k = true) : 0 ≤ f ∧ f < n ∧ (sec = true ∨ s ≤ f) ∧ 0 ≤ k ∧ k < 16 := by
  unfold mayW at h
  simp only [Bool.and_eq_true, Bool.or_eq_true, decide_eq_true_eq] at h
  obtain ⟨⟨⟨⟨h1, h2⟩, h3⟩, h4⟩, h5⟩ := h
  exact ⟨h1, h2, h3, h4, h5⟩
theorem mayW_no {n : Nat} {s : Int} {sec : Bool} {f k : Int} (h : mayW n s sec f k = false) : f < 0 ∨ (n : Int) ≤ f ∨ (sec = false ∧ f < s) ∨ k < 0 ∨ 16 ≤ k := by
  unfold mayW at h
  cases sec <;> simp only [Bool.and_eq_false_iff, Bool.or_eq_false_iff, decide_eq_false_iff_not, Bool.false_or, Bool.true_or, reduceCtorEq, false_and, or_false, true_and] at h <;> simp only [reduceCtorEq, false_and, false_or, true_and] <;> omega
theorem wrF_len {n : Nat} {s : Int} {F l : List Int} {sec : Bool} {f o : Int} (hF : F.length = n * 128) : (wrF n s F sec f o l).length = n * 128 := by
  unfold wrF
  by_cases h : may n s sec f o l.length = true
  · obtain ⟨h1, h2, _, h3, _, h4, h5⟩ := may_yes h
    rw [if_pos h, splice_len (by omega), hF]
  · rw [if_neg h, hF]
theorem wrF_mem {n : Nat} {s : Int} {F l : List Int} {sec : Bool} {f o : Int} (hF : ∀ x ∈ F, 0 ≤ x ∧ x ≤ 255) (hl : ∀ x ∈ l, 0 ≤ x ∧ x ≤ 255) : ∀ x ∈ wrF n s F sec f o l, 0 ≤ x ∧ x ≤ 255 := by
  unfold wrF
  by_cases h : may n s sec f o l.length = true
  · rw [if_pos h]; exact mem_splice hF hl
  · rw [if_neg h]; exact hF
theorem swF_mem {n : Nat} {s : Int} {F : List Int} {sec : Bool} {f k v : Int} (hF : ∀ x ∈ F, 0 ≤ x ∧ x ≤ 255) (hv : 0 ≤ v) : ∀ x ∈ swF n s F sec f k v, 0 ≤ x ∧ x ≤ 255 := by
  unfold swF
  by_cases h : mayW n s sec f k = true
  · rw [if_pos h]; exact mem_splice hF (mem_low8 v hv)
  · rw [if_neg h]; exact hF
theorem clF_mem {n : Nat} {F : List Int} {f : Int} (hF : ∀ x ∈ F, 0 ≤ x ∧ x ≤ 255) : ∀ x ∈ clF n F f, 0 ≤ x ∧ x ≤ 255 := by
  unfold clF
  by_cases h : 0 ≤ f ∧ f < n
  · rw [if_pos h]; exact mem_splice hF mem_zero
  · rw [if_neg h]; exact hF

theorem get_any {w : World} {B g b n : Nat} {F : List Int} {s : Int} (h : Is w B g b n F s) (sec : Bool) (f k : Int) (hF : ∀ x ∈ F, 0 ≤ x ∧ x ≤ 255) :
    Calls Try.prog 39 #[.pointer (some ⟨g, 0, none⟩), .bool sec, .int .i64 f, .int .i64 k] w fun e w' => e = .returned (.tuple #[.int .u64 (wdV n s F sec f k), .int .i64 (wdE n s sec f k)]) ∧ w = w' := by
  unfold wdV wdE
  by_cases hm : mayW n s sec f k = true
  · rw [if_pos hm, if_pos hm]
    obtain ⟨h1, h2, h3, h4, h5⟩ := mayW_yes hm
    obtain ⟨f, rfl⟩ : ∃ j : Nat, f = (j : Int) := ⟨f.toNat, by omega⟩
    obtain ⟨k, rfl⟩ : ∃ j : Nat, k = (j : Int) := ⟨k.toNat, by omega⟩
    exact get_ok h sec f k (by omega) h3 (by omega) hF
  · rw [if_neg hm, if_neg hm]
    exact get_no h sec f k (mayW_no (by simpa using hm))
theorem rget_any {w : World} {B g : Nat} {R : Option Nat} {n : Nat} {F : List Int} {s : Int} (h : RIs w B g R n F s) (sec : Bool) (f k : Int) (hF : ∀ x ∈ F, 0 ≤ x ∧ x ≤ 255) :
    Calls Try.prog 41 #[.pointer (some ⟨g, 0, none⟩), .bool sec, .int .i64 f, .int .i64 k] w fun e w' => e = .returned (.tuple #[.int .u64 (wdV n s F sec f k), .int .i64 (wdE n s sec f k)]) ∧ Below w.heap.size w w' := by
  unfold wdV wdE
  by_cases hm : mayW n s sec f k = true
  · rw [if_pos hm, if_pos hm]
    obtain ⟨h1, h2, h3, h4, h5⟩ := mayW_yes hm
    obtain ⟨f, rfl⟩ : ∃ j : Nat, f = (j : Int) := ⟨f.toNat, by omega⟩
    obtain ⟨k, rfl⟩ : ∃ j : Nat, k = (j : Int) := ⟨k.toNat, by omega⟩
    exact rget_ok h sec f k (by omega) h3 (by omega) hF
  · rw [if_neg hm, if_neg hm]
    exact (rget_no h sec f k (mayW_no (by simpa using hm))).mono fun e w' ⟨h1, h2⟩ => ⟨h1, by rw [← h2]; exact Below.refl _ _⟩
theorem setWord_any {w : World} {B g b n : Nat} {F : List Int} {s : Int} (h : Is w B g b n F s) (sec : Bool) (f k v : Int) (hv : 0 ≤ v ∧ v ≤ 18446744073709551615) :
    Calls Try.prog 29 #[.pointer (some ⟨g, 0, none⟩), .bool sec, .int .i64 f, .int .i64 k, .int .u64 v] w fun e w' => e = .returned (.int .i64 (wdE n s sec f k)) ∧ Is w' B g b n (swF n s F sec f k v) s ∧ Kept w w' (fun j => 0 < n ∧ j = b) := by
  unfold wdE swF
  by_cases hm : mayW n s sec f k = true
  · rw [if_pos hm, if_pos hm]
    obtain ⟨h1, h2, h3, h4, h5⟩ := mayW_yes hm
    obtain ⟨f, rfl⟩ : ∃ j : Nat, f = (j : Int) := ⟨f.toNat, by omega⟩
    obtain ⟨k, rfl⟩ : ∃ j : Nat, k = (j : Int) := ⟨k.toNat, by omega⟩
    exact (setWord_ok h sec f k v (by omega) h3 (by omega) hv).mono fun e w' ⟨a1, a2, a3⟩ => ⟨a1, a2, kept_wide a3 (fun k e => ⟨by omega, e⟩)⟩
  · rw [if_neg hm, if_neg hm]
    exact (setWord_no h sec f k v (mayW_no (by simpa using hm))).mono fun e w' ⟨h1, h2⟩ => ⟨h1, h2 ▸ h, h2 ▸ kept_refl _ _⟩
theorem rsetWord_any {w : World} {B g : Nat} {R : Option Nat} {n : Nat} {F : List Int} {s : Int} (h : RIs w B g R n F s) (sec : Bool) (f k v : Int) (hv : 0 ≤ v ∧ v ≤ 18446744073709551615) :
    Calls Try.prog 30 #[.pointer (some ⟨g, 0, none⟩), .bool sec, .int .i64 f, .int .i64 k, .int .u64 v] w fun e w' => e = .returned (.int .i64 (wdE n s sec f k)) ∧ RIs w' B g R n (swF n s F sec f k v) s ∧ Kept w w' (fun j => R = some j) := by
  unfold wdE swF
  by_cases hm : mayW n s sec f k = true
  · rw [if_pos hm, if_pos hm]
    obtain ⟨h1, h2, h3, h4, h5⟩ := mayW_yes hm
    obtain ⟨f, rfl⟩ : ∃ j : Nat, f = (j : Int) := ⟨f.toNat, by omega⟩
    obtain ⟨k, rfl⟩ : ∃ j : Nat, k = (j : Int) := ⟨k.toNat, by omega⟩
    exact (rsetWord_ok h sec f k v (by omega) h3 (by omega) hv).mono fun e w' ⟨a1, a2, b, hb, a3⟩ => ⟨a1, a2, kept_wide a3 (fun k e => by rw [e]; exact hb)⟩
  · rw [if_neg hm, if_neg hm]
    exact (rsetWord_no h sec f k v hv (mayW_no (by simpa using hm))).mono fun e w' ⟨h1, h2⟩ => ⟨h1, h.below h2, kept_below h2⟩
theorem read_any {w : World} {B g b n : Nat} {F : List Int} {s : Int} (h : Is w B g b n F s) (sec : Bool) (f o k : Int) :
    Calls Try.prog 42 #[.pointer (some ⟨g, 0, none⟩), .bool sec, .int .i64 f, .int .i64 o, .int .i64 k] w fun e w' => ∃ A m c, e = .returned (.tuple #[.slice A m c, .int .i64 (rdE n s sec f o k)]) ∧ ReadsInt w' .u8 A m (rdL n s F sec f o k) ∧ Below w.heap.size w w' ∧ Fresh w.heap.size A := by
  unfold rdL rdE
  by_cases hm : may n s sec f o k = true
  · rw [if_pos hm, if_pos hm]
    obtain ⟨h1, h2, h3, h4, h5, h6, h7⟩ := may_yes hm
    obtain ⟨f, rfl⟩ : ∃ j : Nat, f = (j : Int) := ⟨f.toNat, by omega⟩
    obtain ⟨o, rfl⟩ : ∃ j : Nat, o = (j : Int) := ⟨o.toNat, by omega⟩
    obtain ⟨k, rfl⟩ : ∃ j : Nat, k = (j : Int) := ⟨k.toNat, by omega⟩
    exact (read_ok h sec f o k (by omega) h3 (by omega)).mono fun e w' ⟨A, c, a1, _, a2, a3, a4⟩ => ⟨A, k, c, a1, a2, a3, a4⟩
  · rw [if_neg hm, if_neg hm]
    exact (read_no h sec f o k (by simpa using hm)).mono fun e w' ⟨h1, h2⟩ => ⟨none, 0, 0, h1, ⟨rfl, by omega, fun h => absurd h (by omega)⟩, h2 ▸ Below.refl _ _, fun ad h => by cases h⟩
theorem rread_any {w : World} {B g : Nat} {R : Option Nat} {n : Nat} {F : List Int} {s : Int} (h : RIs w B g R n F s) (sec : Bool) (f o k : Int) (hF : ∀ x ∈ F, 0 ≤ x ∧ x ≤ 255) :
    Calls Try.prog 43 #[.pointer (some ⟨g, 0, none⟩), .bool sec, .int .i64 f, .int .i64 o, .int .i64 k] w fun e w' => ∃ A m c, e = .returned (.tuple #[.slice A m c, .int .i64 (rdE n s sec f o k)]) ∧ ReadsInt w' .u8 A m (rdL n s F sec f o k) ∧ Below w.heap.size w w' ∧ Fresh w.heap.size A := by
  unfold rdL rdE
  by_cases hm : may n s sec f o k = true
  · rw [if_pos hm, if_pos hm]
    obtain ⟨h1, h2, h3, h4, h5, h6, h7⟩ := may_yes hm
    obtain ⟨f, rfl⟩ : ∃ j : Nat, f = (j : Int) := ⟨f.toNat, by omega⟩
    obtain ⟨o, rfl⟩ : ∃ j : Nat, o = (j : Int) := ⟨o.toNat, by omega⟩
    obtain ⟨k, rfl⟩ : ∃ j : Nat, k = (j : Int) := ⟨k.toNat, by omega⟩
    exact (rread_ok h sec f o k (by omega) h3 (by omega) hF).mono fun e w' ⟨A, c, a1, a2, a3, a4⟩ => ⟨A, k, c, a1, a2, a3, a4⟩
  · rw [if_neg hm, if_neg hm]
    exact (rread_no h sec f o k (by simpa using hm)).mono fun e w' ⟨h1, h2⟩ => ⟨none, 0, 0, h1, ⟨rfl, by omega, fun h => absurd h (by omega)⟩, h2 ▸ Below.refl _ _, fun ad h => by cases h⟩
theorem rwrite_any {w : World} {B g : Nat} {R : Option Nat} {n : Nat} {F l : List Int} {s : Int} (h : RIs w B g R n F s) (sec : Bool) (f o : Int) (A : Option Addr) (k c : Nat) (hr : ReadsInt w .u8 A k l) :
    Calls Try.prog 54 #[.pointer (some ⟨g, 0, none⟩), .bool sec, .int .i64 f, .int .i64 o, .slice A k c] w fun e w' => e = .returned (.int .i64 (rdE n s sec f o k)) ∧ RIs w' B g R n (wrF n s F sec f o l) s ∧ Kept w w' (fun j => R = some j) := by
  have hl := hr.1
  unfold rdE wrF
  rw [hl]
  by_cases hm : may n s sec f o k = true
  · rw [if_pos hm, if_pos hm]
    obtain ⟨h1, h2, h3, h4, h5, h6, h7⟩ := may_yes hm
    obtain ⟨f, rfl⟩ : ∃ j : Nat, f = (j : Int) := ⟨f.toNat, by omega⟩
    obtain ⟨o, rfl⟩ : ∃ j : Nat, o = (j : Int) := ⟨o.toNat, by omega⟩
    exact (rwrite_ok h sec f o A k c (by omega) h3 (by omega) hr).mono fun e w' ⟨a1, a2, b, hb, a3⟩ => ⟨a1, a2, kept_wide a3 (fun k e => by rw [e]; exact hb)⟩
  · rw [if_neg hm, if_neg hm]
    exact (rwrite_no h sec f o A k c (by simpa using hm)).mono fun e w' ⟨h1, h2⟩ => ⟨h1, h2 ▸ h, h2 ▸ kept_refl _ _⟩

/-- The program's and the reference's frames lie apart. -/
theorem ram_apart {w : World} {B g b n B' g' : Nat} {R : Option Nat} {n' : Nat} {F F' : List Int} {s s' : Int} (h : Is w B g b n F s) (h' : RIs w B' g' R n' F' s') : g ≠ g' ∧ R ≠ some g ∧ (0 < n → b ≠ g' ∧ R ≠ some b) := by
  obtain ⟨A, c, cur, h1, _, _, _, _, _, _, hr⟩ := h
  obtain ⟨A', c', h1', _, _, _, ho, hR⟩ := h'
  have key : ∀ {k : Nat} {cs : Array Value} {t : TypeId}, w.heap[k]? = some (.cells cs t (0, 0)) → t ≠ 9 → R ≠ some k := by
    intro k cs t hk ht e
    rw [← hR] at e
    obtain ⟨_, _, cs', h5⟩ := own_lt ho e
    rw [hk] at h5
    injection h5 with h5
    injection h5 with _ h5 _
    exact ht h5
  refine ⟨fun e => ?_, key h1 (by decide), fun hn => ⟨fun e => ?_, key (hr hn).2.2.1 (by decide)⟩⟩
  · subst e
    rw [h1] at h1'
    injection h1' with h5
    injection h5 with _ h5 _
    exact absurd h5 (by decide)
  · have h2 := (hr hn).2.2.1
    rw [e, h1'] at h2
    injection h2 with h5
    injection h5 with _ h5 _
    exact absurd h5 (by decide)
theorem ris_other {w w' : World} {B g b n B' g' : Nat} {R : Option Nat} {n' : Nat} {F F' : List Int} {s s' : Int} (h : Is w B g b n F s) (h' : RIs w B' g' R n' F' s') (hk : Kept w w' (fun j => 0 < n ∧ j = b)) : RIs w' B' g' R n' F' s' := by
  obtain ⟨a1, a2, a3⟩ := ram_apart h h'
  exact h'.kept hk (fun ⟨hn, e⟩ => (a3 hn).1 e.symm) (fun k hk ⟨hn, e⟩ => (a3 hn).2 (by rw [hk, e]))
theorem is_other {w w' : World} {B g b n B' g' : Nat} {R : Option Nat} {n' : Nat} {F F' : List Int} {s s' : Int} (h : Is w B g b n F s) (h' : RIs w B' g' R n' F' s') (hk : Kept w w' (fun j => R = some j)) : Is w' B g b n F s := by
  obtain ⟨a1, a2, a3⟩ := ram_apart h h'
  exact h.kept hk a2 (fun hn => (a3 hn).2)
theorem bel_own {w w1 w2 : World} {B g b n : Nat} {F : List Int} {s : Int} (hb : Below w.heap.size w w1) (H : Is w1 B g b n F s) (hB : w.heap.size ≤ B) (hk : Kept w1 w2 (fun k => 0 < n ∧ k = b)) : Below w.heap.size w w2 :=
  hk.below hb hb.size (fun k ⟨hn, h⟩ => by have := H.row hn; omega)
theorem bel_rown {w w1 w2 : World} {B g : Nat} {R : Option Nat} {n : Nat} {F : List Int} {s : Int} (hb : Below w.heap.size w w1) (H : RIs w1 B g R n F s) (hB : w.heap.size ≤ B) (hk : Kept w1 w2 (fun k => R = some k)) : Below w.heap.size w w2 :=
  hk.below hb hb.size (fun k h => by have := H.row h; omega)
theorem Is.lower {w : World} {B B' g b n : Nat} {F : List Int} {s : Int} (h : Is w B g b n F s) (hB : B' ≤ B) : Is w B' g b n F s := by
  obtain ⟨A, c, cur, h1, h2, h3, h4, h5, h6, h7, h8⟩ := h
  exact ⟨A, c, cur, h1, by omega, h3, h4, h5, h6, h7, fun hn => ⟨(h8 hn).1, Nat.le_trans hB (h8 hn).2.1, (h8 hn).2.2⟩⟩
end Go.Proofs.Ytdpjpmlajjfpgaa.Ram
