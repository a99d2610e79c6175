/- Where a page lies, through any words: the program's walk. -/
import Derived.Test.YtdpjpmlajjfpgaaRamH
import Derived.Test.YtdpjpmlajjfpgaaSlo
import Derived.BigQuiet
namespace Go.Proofs.Ytdpjpmlajjfpgaa.Ram
open Go.RowKit Go.Proofs.Ytdpjpmlajjfpgaa.Mem Go.Proofs.Ytdpjpmlajjfpgaa.Kept Go.Proofs.Ytdpjpmlajjfpgaa.Slo Go.Proofs.Ytdpjpmlajjfpgaa.Bits
open Go.Proofs.Ytdpjpmlajjfpgaa.PWalkAll
open Go.Proofs.YtdpjpmlajjfpgaaW.PrintWords (nums ReadsInt results_ct results_ctt gate_dst box_event)
set_option linter.unusedVariables false
set_option linter.unusedSimpArgs false

theorem mem_partB {F : List Int} {f o k : Nat} (hF : ∀ x ∈ F, 0 ≤ x ∧ x ≤ 255) : ∀ x ∈ part F f o k, 0 ≤ x ∧ x ≤ 255 := fun x hx => hF x (List.mem_of_mem_drop (List.mem_of_mem_take hx))
theorem byte_at {l : List Int} (h : ∀ x ∈ l, 0 ≤ x ∧ x ≤ 255) (i : Nat) : 0 ≤ l.getD i 0 ∧ l.getD i 0 ≤ 255 := by
  by_cases hi : i < l.length
  · rw [List.getD_eq_getElem?_getD, List.getElem?_eq_getElem hi]; exact h _ (List.getElem_mem hi)
  · rw [List.getD_eq_getElem?_getD, List.getElem?_eq_none (by omega)]; decide
theorem num8_in {l : List Int} (h : ∀ x ∈ l, 0 ≤ x ∧ x ≤ 255) : 0 ≤ num8 l ∧ num8 l ≤ 18446744073709551615 := by
  have h0 := byte_at h 0
  have h1 := byte_at h 1
  have h2 := byte_at h 2
  have h3 := byte_at h 3
  have h4 := byte_at h 4
  have h5 := byte_at h 5
  have h6 := byte_at h 6
  have h7 := byte_at h 7
  unfold num8
  omega
theorem wdV_in {n : Nat} {s : Int} {F : List Int} {sec : Bool} {f k : Int} (hF : ∀ x ∈ F, 0 ≤ x ∧ x ≤ 255) : 0 ≤ wdV n s F sec f k ∧ wdV n s F sec f k ≤ 18446744073709551615 := by
  unfold wdV
  split
  · exact num8_in (mem_partB hF)
  · decide
/-- An entry of a table; and the answer. -/
def ent (n : Nat) (s : Int) (F : List Int) (t k : Int) : Int × Int × Int × Int := if mayW n s true t k = true then tk (wdV n s F true t k) else (0, 0, 0, -20)
theorem tk_in (v : Int) : 0 ≤ (tk v).2.1 ∧ (tk v).2.1 ≤ 255 ∧ 0 ≤ (tk v).2.2.1 ∧ (tk v).2.2.1 ≤ 7 ∧ ((tk v).2.2.2 ≠ 0 → (tk v).1 = 0) := by
  unfold tk
  split <;> simp <;> omega
theorem ent_in (n : Nat) (s : Int) (F : List Int) (t k : Int) : 0 ≤ (ent n s F t k).2.1 ∧ (ent n s F t k).2.1 ≤ 255 ∧ 0 ≤ (ent n s F t k).2.2.1 ∧ (ent n s F t k).2.2.1 ≤ 7 ∧ ((ent n s F t k).2.2.2 ≠ 0 → (ent n s F t k).1 = 0) := by
  unfold ent
  split
  · exact tk_in _
  · simp
/-- Where a page lies: its frame, what one may, how deep it stood, and the answer. -/
def lf (n : Nat) (f p l : Int) : Int × Int × Int × Int := if f < n then (f, p, l, 0) else (0, 0, 0, -20)
def wk (n : Nat) (s : Int) (F : List Int) (root page : Int) : Int × Int × Int × Int :=
  if 0 ≤ page ∧ page < 4096 then
    if (ent n s F root (page / 256)).1 = 1 then
      let y := ent n s F (ent n s F root (page / 256)).2.1 (page / 16 % 16)
      if y.1 = 3 then lf n (y.2.1 + page % 16) y.2.2.1 2
      else if y.1 = 1 then
        let z := ent n s F y.2.1 (page % 16)
        if z.1 = 2 then lf n z.2.1 z.2.2.1 3 else (0, 0, 0, -20)
      else (0, 0, 0, -20)
    else (0, 0, 0, -20)
  else (0, 0, 0, -20)

theorem path_in (w : World) (p : Int) (h0 : 0 ≤ p) (h1 : p < 4096) : Calls Try.prog 33 #[.int .i64 p] w fun e w' => e = .returned (.tuple #[.int .i64 (p / 256), .int .i64 (p / 16 % 16), .int .i64 (p % 16), .bool true]) ∧ Below w.heap.size w w' := by
  have hf : walk_Path.f p = some (p / 256, p / 16 % 16, p % 16, true) := by
    unfold walk_Path.f
    rw [if_neg (by omega), if_neg (by omega), Int.tmod_eq_emod_of_nonneg (by omega), Int.tmod_eq_emod_of_nonneg h0]
  exact (walk_Path.calls p _ _ _ _ w hf).mono fun e w' h => ⟨h.1, h.2.below⟩
theorem path_out (w : World) (p : Int) (h : ¬ (0 ≤ p ∧ p < 4096)) : Calls Try.prog 33 #[.int .i64 p] w fun e w' => e = .returned (.tuple #[.int .i64 0, .int .i64 0, .int .i64 0, .bool false]) ∧ Below w.heap.size w w' := by
  have hf : walk_Path.f p = some (0, 0, 0, false) := by
    unfold walk_Path.f
    by_cases h0 : p < 0
    · rw [if_pos h0]
    · rw [if_neg h0, if_pos (by omega)]
  exact (walk_Path.calls p _ _ _ _ w hf).mono fun e w' h => ⟨h.1, h.2.below⟩
/-- A struct that is stored, of three parts; of two. -/
theorem store3 {w0 w : World} {g : Nat} {t : TypeId} {x y z : Value} (h : w.heap[g]? = some (.cells #[x, y, z] t (0, 0))) (hb : Below w0.heap.size w0 w) (hg : w0.heap.size ≤ g) (a b c : Value) :
    ∃ w', ((w.setCell ⟨g, 0, none⟩ a).setCell ⟨g, 1, none⟩ b).setCell ⟨g, 2, none⟩ c = w' ∧ w'.heap[g]? = some (.cells #[a, b, c] t (0, 0)) ∧ Below w0.heap.size w0 w' ∧ ∀ (j : Nat) (o : Obj), j ≠ g → w.heap[j]? = some o → w'.heap[j]? = some o :=
  ⟨_, rfl, blk_set (blk_set (blk_set h 0 a) 1 b) 2 c, ((hb.setCell hg _).setCell hg _).setCell hg _, fun j o hj hk => blk_far (blk_far (blk_far hk hj _) hj _) hj _⟩
theorem store2 {w0 w : World} {g : Nat} {t : TypeId} {x y : Value} (h : w.heap[g]? = some (.cells #[x, y] t (0, 0))) (hb : Below w0.heap.size w0 w) (hg : w0.heap.size ≤ g) (a b : Value) :
    ∃ w', (w.setCell ⟨g, 0, none⟩ a).setCell ⟨g, 1, none⟩ b = w' ∧ w'.heap[g]? = some (.cells #[a, b] t (0, 0)) ∧ Below w0.heap.size w0 w' ∧ ∀ (j : Nat) (o : Obj), j ≠ g → w.heap[j]? = some o → w'.heap[j]? = some o :=
  ⟨_, rfl, blk_set (blk_set h 0 a) 1 b, (hb.setCell hg _).setCell hg _, fun j o hj hk => blk_far (blk_far hk hj _) hj _⟩
theorem cells3 {w : World} {g : Nat} {t : TypeId} {x y z : Value} (h : w.heap[g]? = some (.cells #[x, y, z] t (0, 0))) : (w.cell? ⟨g, 0, none⟩ = some x ∧ w.cell? ⟨g, 1, none⟩ = some y ∧ w.cell? ⟨g, 2, none⟩ = some z) ∧ w.frozen? ⟨g, 0, none⟩ = false ∧ w.frozen? ⟨g, 1, none⟩ = false ∧ w.frozen? ⟨g, 2, none⟩ = false :=
  ⟨⟨blk_cell h 0, blk_cell h 1, blk_cell h 2⟩, blk_free h 0, blk_free h 1, blk_free h 2⟩
set_option maxRecDepth 100000 in
set_option maxHeartbeats 4000000 in
theorem entry_any {w : World} {B g b n : Nat} {F : List Int} {s : Int} (h : Is w B g b n F s) (hF : ∀ x ∈ F, 0 ≤ x ∧ x ≤ 255) (t k K f p E : Int) (o : Bool) (he : ent n s F t k = (K, f, p, E)) (ho : decide (E = 0) = o) :
    Calls Try.prog 55 #[.pointer (some ⟨g, 0, none⟩), .int .i64 t, .int .i64 k] w fun e w' => e = .returned (.tuple #[.agg #[.int .i64 K, .int .i64 f, .int .i64 p], .bool o]) ∧ Below w.heap.size w w' := by
  have hb := Below.refl w.heap.size w
  have hu51 := Try.underlying51
  have HI := Lib.hid h
  have HF := Lib.hid hF
  clear h hF
  unfold ent at he
  obtain ⟨v, hv⟩ : ∃ v, wdV n s F true t k = v := ⟨_, rfl⟩
  have vb := wdV_in (n := n) (s := s) (sec := true) (f := t) (k := k) HF.out
  rw [hv] at he vb
  have HV := Lib.hid hv
  clear hv
  by_cases hm : mayW n s true t k = true
  · rw [if_pos hm] at he
    obtain ⟨v0, v1⟩ := vb
    have HE := Lib.hid (show wdE n s true t k = 0 by unfold wdE; rw [if_pos hm])
    have HT := Lib.hid he
    clear he hm
    go_enter Try.func55, Try.ntmps55
    go_wp2_with (first
      | ((with_reducible refine gate_dst (N := 6) rfl ?_); refine box_event ?hg (N := 6) ?hd (cs := #[.int .i64 0, .int .i64 0, .int .i64 0]) (t := 51) ?hr ?_; (case hd => rfl); (case hg => rfl); (case hr => first | (go_simp; done) | (go_simp; rfl)); intro g1 hge w1 BK hb1; have hg : w.heap.size ≤ g1 := (by rw [hge]; exact Nat.le_refl _); clear hge; replace hb := bel_chain hb hb1; clear hb1; obtain ⟨⟨c0, c1, c2⟩, r0, r1, r2⟩ := cells3 BK)
      | (go_at_call 39; refine (get_any (HI.out.below hb) true t k HF.out).mono ?_; rw [HE.out, HV.out]; rintro e w2 ⟨rfl, rfl⟩)
      | (go_at_call 64; refine (take_any _ v v0 v1).mono ?_; rw [HT.out]; rintro e w3 ⟨rfl, hb3⟩; replace BK := blk_below BK hb3; replace hb := bel_chain hb hb3; clear hb3 c0 c1 c2 r0 r1 r2; obtain ⟨⟨c0, c1, c2⟩, r0, r1, r2⟩ := cells3 BK)
      | fail)
    obtain ⟨w4, e4, BK4, hb4, _⟩ := store3 BK hb hg (.int .i64 K) (.int .i64 f) (.int .i64 p)
    rw [e4]
    obtain ⟨w5, e5, BK5, hb5, _⟩ := store3 BK4 hb4 hg (.int .i64 K) (.int .i64 f) (.int .i64 p)
    rw [e5]
    refine bodyPost_ret (results_ct rfl _ _ g1 51 _ (0, 0) _ rfl BK5 Try.underlying51 rfl (by kernel_rfl)) rfl ?_
    refine ⟨?_, hb5⟩
    rw [← ho]
    congr
  · have HE := Lib.hid (show wdE n s true t k = -20 by unfold wdE; rw [if_neg hm])
    rw [if_neg hm] at he
    injection he with a1 he
    injection he with a2 he
    injection he with a3 a4
    subst a1 a2 a3 a4
    have ho' : o = false := by rw [← ho]; rfl
    subst ho'
    clear ho vb hm
    go_enter Try.func55, Try.ntmps55
    go_wp2_with (first
      | ((with_reducible refine gate_dst (N := 6) rfl ?_); refine box_event ?hg (N := 6) ?hd (cs := #[.int .i64 0, .int .i64 0, .int .i64 0]) (t := 51) ?hr ?_; (case hd => rfl); (case hg => rfl); (case hr => first | (go_simp; done) | (go_simp; rfl)); intro g1 hge w1 BK hb1; have hg : w.heap.size ≤ g1 := (by rw [hge]; exact Nat.le_refl _); clear hge; replace hb := bel_chain hb hb1; clear hb1; obtain ⟨⟨c0, c1, c2⟩, r0, r1, r2⟩ := cells3 BK)
      | (go_at_call 39; refine (get_any (HI.out.below hb) true t k HF.out).mono ?_; rw [HE.out, HV.out]; rintro e w2 ⟨rfl, rfl⟩)
      | fail)
    obtain ⟨w5, e5, BK5, hb5, _⟩ := store3 BK hb hg (.int .i64 0) (.int .i64 0) (.int .i64 0)
    rw [e5]
    refine bodyPost_ret (results_ct rfl _ _ g1 51 _ (0, 0) _ rfl BK5 Try.underlying51 rfl (by kernel_rfl)) rfl ?_
    exact ⟨rfl, hb5⟩
end Go.Proofs.Ytdpjpmlajjfpgaa.Ram
