/- Where a page lies, through any words: the program's walk. -/
import Derived.Test.YtdpjpmlajjfpgaaRamH
import Derived.Test.YtdpjpmlajjfpgaaSlo
import Derived.BigQuiet
import Derived.WalkMore
import Derived.ScopeJumps
namespace Go.Proofs.Ytdpjpmlajjfpgaa.Ram
open Go.RowKit Go.Proofs.Ytdpjpmlajjfpgaa.Mem Go.Proofs.Ytdpjpmlajjfpgaa.Kept Go.Proofs.Ytdpjpmlajjfpgaa.Slo Go.Proofs.Ytdpjpmlajjfpgaa.Bits
open Go.Proofs.Ytdpjpmlajjfpgaa.PWalkAll
open Go.Proofs.YtdpjpmlajjfpgaaW.PrintWords (nums ReadsInt results_ct results_ctt gate_dst box_event)
set_option linter.unusedVariables false
set_option linter.unusedSimpArgs false

theorem mem_partB {F : List Int} {f o k : Nat} (hF : ∀ x ∈ F, 0 ≤ x ∧ x ≤ 255) : ∀ x ∈ part F f o k, 0 ≤ x ∧ x ≤ 255 := fun x hx => hF x (List.mem_of_mem_drop (List.mem_of_mem_take hx))
theorem byte_at {l : List Int} (h : ∀ x ∈ l, 0 ≤ x ∧ x ≤ 255) (i : Nat) : 0 ≤ l.getD i 0 ∧ l.getD i 0 ≤ 255 := by
  by_cases hi : i < l.length
  · rw [List.getD_eq_getElem?_getD, List.getElem?_eq_getElem hi]; exact h _ (List.getElem_mem hi)
  · rw [List.getD_eq_getElem?_getD, List.getElem?_eq_none (by omega)]; decide
theorem num8_in {l : List Int} (h : ∀ x ∈ l, 0 ≤ x ∧ x ≤ 255) : 0 ≤ num8 l ∧ num8 l ≤ 18446744073709551615 := by
  have h0 := byte_at h 0
  have h1 := byte_at h 1
  have h2 := byte_at h 2
  have h3 := byte_at h 3
  have h4 := byte_at h 4
  have h5 := byte_at h 5
  have h6 := byte_at h 6
  have h7 := byte_at h 7
  unfold num8
  omega
theorem wdV_in {n : Nat} {s : Int} {F : List Int} {sec : Bool} {f k : Int} (hF : ∀ x ∈ F, 0 ≤ x ∧ x ≤ 255) : 0 ≤ wdV n s F sec f k ∧ wdV n s F sec f k ≤ 18446744073709551615 := by
  unfold wdV
  split
  · exact num8_in (mem_partB hF)
  · decide
/-- An entry of a table; and the answer. -/
def ent (n : Nat) (s : Int) (F : List Int) (t k : Int) : Int × Int × Int × Int := if mayW n s true t k = true then tk (wdV n s F true t k) else (0, 0, 0, -20)
theorem tk_in (v : Int) : 0 ≤ (tk v).2.1 ∧ (tk v).2.1 ≤ 255 ∧ 0 ≤ (tk v).2.2.1 ∧ (tk v).2.2.1 ≤ 7 ∧ ((tk v).2.2.2 ≠ 0 → (tk v).1 = 0) := by
  unfold tk
  split <;> simp <;> omega
theorem ent_in (n : Nat) (s : Int) (F : List Int) (t k : Int) : 0 ≤ (ent n s F t k).2.1 ∧ (ent n s F t k).2.1 ≤ 255 ∧ 0 ≤ (ent n s F t k).2.2.1 ∧ (ent n s F t k).2.2.1 ≤ 7 ∧ ((ent n s F t k).2.2.2 ≠ 0 → (ent n s F t k).1 = 0) := by
  unfold ent
  split
  · exact tk_in _
  · simp
/-- Where a page lies: its frame, what one may, how deep it stood, and the answer. -/
def lf (n : Nat) (f p l : Int) : Int × Int × Int × Int := if f < n then (f, p, l, 0) else (0, 0, 0, -20)
def wk (n : Nat) (s : Int) (F : List Int) (root page : Int) : Int × Int × Int × Int :=
  if 0 ≤ page ∧ page < 4096 then
    if (ent n s F root (page / 256)).1 = 1 then
      let y := ent n s F (ent n s F root (page / 256)).2.1 (page / 16 % 16)
      if y.1 = 3 then lf n (y.2.1 + page % 16) y.2.2.1 2
      else if y.1 = 1 then
        let z := ent n s F y.2.1 (page % 16)
        if z.1 = 2 then lf n z.2.1 z.2.2.1 3 else (0, 0, 0, -20)
      else (0, 0, 0, -20)
    else (0, 0, 0, -20)
  else (0, 0, 0, -20)

theorem path_in (w : World) (p : Int) (h0 : 0 ≤ p) (h1 : p < 4096) : Calls Try.prog 33 #[.int .i64 p] w fun e w' => e = .returned (.tuple #[.int .i64 (p / 256), .int .i64 (p / 16 % 16), .int .i64 (p % 16), .bool true]) ∧ Below w.heap.size w w' := by
  have hf : walk_Path.f p = some (p / 256, p / 16 % 16, p % 16, true) := by
    unfold walk_Path.f
    rw [if_neg (by omega), if_neg (by omega), Int.tmod_eq_emod_of_nonneg (by omega), Int.tmod_eq_emod_of_nonneg h0]
  exact (walk_Path.calls p _ _ _ _ w hf).mono fun e w' h => ⟨h.1, h.2.below⟩
theorem path_out (w : World) (p : Int) (h : ¬ (0 ≤ p ∧ p < 4096)) : Calls Try.prog 33 #[.int .i64 p] w fun e w' => e = .returned (.tuple #[.int .i64 0, .int .i64 0, .int .i64 0, .bool false]) ∧ Below w.heap.size w w' := by
  have hf : walk_Path.f p = some (0, 0, 0, false) := by
    unfold walk_Path.f
    by_cases h0 : p < 0
    · rw [if_pos h0]
    · rw [if_neg h0, if_pos (by omega)]
  exact (walk_Path.calls p _ _ _ _ w hf).mono fun e w' h => ⟨h.1, h.2.below⟩
/-- A struct that is stored, of three parts; of two. -/
theorem store3 {w0 w : World} {g : Nat} {t : TypeId} {x y z : Value} (h : w.heap[g]? = some (.cells #[x, y, z] t (0, 0))) (hb : Below w0.heap.size w0 w) (hg : w0.heap.size ≤ g) (a b c : Value) :
    ∃ w', ((w.setCell ⟨g, 0, none⟩ a).setCell ⟨g, 1, none⟩ b).setCell ⟨g, 2, none⟩ c = w' ∧ w'.heap[g]? = some (.cells #[a, b, c] t (0, 0)) ∧ Below w0.heap.size w0 w' ∧ ∀ (j : Nat) (o : Obj), j ≠ g → w.heap[j]? = some o → w'.heap[j]? = some o :=
  ⟨_, rfl, blk_set (blk_set (blk_set h 0 a) 1 b) 2 c, ((hb.setCell hg _).setCell hg _).setCell hg _, fun j o hj hk => blk_far (blk_far (blk_far hk hj _) hj _) hj _⟩
theorem store2 {w0 w : World} {g : Nat} {t : TypeId} {x y : Value} (h : w.heap[g]? = some (.cells #[x, y] t (0, 0))) (hb : Below w0.heap.size w0 w) (hg : w0.heap.size ≤ g) (a b : Value) :
    ∃ w', (w.setCell ⟨g, 0, none⟩ a).setCell ⟨g, 1, none⟩ b = w' ∧ w'.heap[g]? = some (.cells #[a, b] t (0, 0)) ∧ Below w0.heap.size w0 w' ∧ ∀ (j : Nat) (o : Obj), j ≠ g → w.heap[j]? = some o → w'.heap[j]? = some o :=
  ⟨_, rfl, blk_set (blk_set h 0 a) 1 b, (hb.setCell hg _).setCell hg _, fun j o hj hk => blk_far (blk_far hk hj _) hj _⟩
theorem cells3 {w : World} {g : Nat} {t : TypeId} {x y z : Value} (h : w.heap[g]? = some (.cells #[x, y, z] t (0, 0))) : (w.cell? ⟨g, 0, none⟩ = some x ∧ w.cell? ⟨g, 1, none⟩ = some y ∧ w.cell? ⟨g, 2, none⟩ = some z) ∧ w.frozen? ⟨g, 0, none⟩ = false ∧ w.frozen? ⟨g, 1, none⟩ = false ∧ w.frozen? ⟨g, 2, none⟩ = false :=
  ⟨⟨blk_cell h 0, blk_cell h 1, blk_cell h 2⟩, blk_free h 0, blk_free h 1, blk_free h 2⟩
set_option maxRecDepth 100000 in
set_option maxHeartbeats 4000000 in
theorem entry_any {w : World} {B g b n : Nat} {F : List Int} {s : Int} (h : Is w B g b n F s) (hF : ∀ x ∈ F, 0 ≤ x ∧ x ≤ 255) (t k K f p E : Int) (o : Bool) (he : ent n s F t k = (K, f, p, E)) (ho : decide (E = 0) = o) :
    Calls Try.prog 55 #[.pointer (some ⟨g, 0, none⟩), .int .i64 t, .int .i64 k] w fun e w' => e = .returned (.tuple #[.agg #[.int .i64 K, .int .i64 f, .int .i64 p], .bool o]) ∧ Below w.heap.size w w' := by
  have hb := Below.refl w.heap.size w
  have hu51 := Try.underlying51
  have HI := Lib.hid h
  have HF := Lib.hid hF
  clear h hF
  unfold ent at he
  obtain ⟨v, hv⟩ : ∃ v, wdV n s F true t k = v := ⟨_, rfl⟩
  have vb := wdV_in (n := n) (s := s) (sec := true) (f := t) (k := k) HF.out
  rw [hv] at he vb
  have HV := Lib.hid hv
  clear hv
  by_cases hm : mayW n s true t k = true
  · rw [if_pos hm] at he
    obtain ⟨v0, v1⟩ := vb
    have HE := Lib.hid (show wdE n s true t k = 0 by unfold wdE; rw [if_pos hm])
    have HT := Lib.hid he
    clear he hm
    go_enter Try.func55, Try.ntmps55
    go_wp2_with (first
      | ((with_reducible refine gate_dst (N := 6) rfl ?_); refine box_event ?hg (N := 6) ?hd (cs := #[.int .i64 0, .int .i64 0, .int .i64 0]) (t := 51) ?hr ?_; (case hd => rfl); (case hg => rfl); (case hr => first | (go_simp; done) | (go_simp; rfl)); intro g1 hge w1 BK hb1; have hg : w.heap.size ≤ g1 := (by rw [hge]; exact Nat.le_refl _); clear hge; replace hb := bel_chain hb hb1; clear hb1; obtain ⟨⟨c0, c1, c2⟩, r0, r1, r2⟩ := cells3 BK)
      | (go_at_call 39; refine (get_any (HI.out.below hb) true t k HF.out).mono ?_; rw [HE.out, HV.out]; rintro e w2 ⟨rfl, rfl⟩)
      | (go_at_call 64; refine (take_any _ v v0 v1).mono ?_; rw [HT.out]; rintro e w3 ⟨rfl, hb3⟩; replace BK := blk_below BK hb3; replace hb := bel_chain hb hb3; clear hb3 c0 c1 c2 r0 r1 r2; obtain ⟨⟨c0, c1, c2⟩, r0, r1, r2⟩ := cells3 BK)
      | fail)
    obtain ⟨w4, e4, BK4, hb4, _⟩ := store3 BK hb hg (.int .i64 K) (.int .i64 f) (.int .i64 p)
    rw [e4]
    obtain ⟨w5, e5, BK5, hb5, _⟩ := store3 BK4 hb4 hg (.int .i64 K) (.int .i64 f) (.int .i64 p)
    rw [e5]
    refine bodyPost_ret (results_ct rfl _ _ g1 51 _ (0, 0) _ rfl BK5 Try.underlying51 rfl (by kernel_rfl)) rfl ?_
    refine ⟨?_, hb5⟩
    rw [← ho]
    congr
  · have HE := Lib.hid (show wdE n s true t k = -20 by unfold wdE; rw [if_neg hm])
    rw [if_neg hm] at he
    injection he with a1 he
    injection he with a2 he
    injection he with a3 a4
    subst a1 a2 a3 a4
    have ho' : o = false := by rw [← ho]; rfl
    subst ho'
    clear ho vb hm
    go_enter Try.func55, Try.ntmps55
    go_wp2_with (first
      | ((with_reducible refine gate_dst (N := 6) rfl ?_); refine box_event ?hg (N := 6) ?hd (cs := #[.int .i64 0, .int .i64 0, .int .i64 0]) (t := 51) ?hr ?_; (case hd => rfl); (case hg => rfl); (case hr => first | (go_simp; done) | (go_simp; rfl)); intro g1 hge w1 BK hb1; have hg : w.heap.size ≤ g1 := (by rw [hge]; exact Nat.le_refl _); clear hge; replace hb := bel_chain hb hb1; clear hb1; obtain ⟨⟨c0, c1, c2⟩, r0, r1, r2⟩ := cells3 BK)
      | (go_at_call 39; refine (get_any (HI.out.below hb) true t k HF.out).mono ?_; rw [HE.out, HV.out]; rintro e w2 ⟨rfl, rfl⟩)
      | fail)
    obtain ⟨w5, e5, BK5, hb5, _⟩ := store3 BK hb hg (.int .i64 0) (.int .i64 0) (.int .i64 0)
    rw [e5]
    refine bodyPost_ret (results_ct rfl _ _ g1 51 _ (0, 0) _ rfl BK5 Try.underlying51 rfl (by kernel_rfl)) rfl ?_
    exact ⟨rfl, hb5⟩
end Go.Proofs.Ytdpjpmlajjfpgaa.Ram
/- Where a page lies, through any words: the program's walk, whole. -/
namespace Go.Proofs.Ytdpjpmlajjfpgaa.Ram
open Go.RowKit Go.Proofs.Ytdpjpmlajjfpgaa.Mem Go.Proofs.Ytdpjpmlajjfpgaa.Kept Go.Proofs.Ytdpjpmlajjfpgaa.Slo Go.Proofs.Ytdpjpmlajjfpgaa.Bits
open Go.Proofs.YtdpjpmlajjfpgaaW.PrintWords (nums ReadsInt results_ct results_ctt gate_dst box_event)
set_option linter.unusedVariables false
set_option linter.unusedSimpArgs false

/-- A scope that is left forward, to one label. -/
theorem wp_scope_fwd {P : Program} {Q : Exit → Act → World → Prop} {a : Act} {w : World} {c rest : Code} (l : Nat) (hf : findLabel c l = some rest) (h : c.wp P (Exit.jump l (fun a w => rest.wp P (Exit.noGoto Q) a w) Q) a w) : (Code.scope c).wp P Q a w :=
  wp_scope_jumps l (fun a w => rest.wp P (Exit.noGoto Q) a w) (fun _ _ => 0) hf h (fun a w hJ => Code.wp_mono (fun e a w hq => by cases e <;> first | exact hq | exact hq.elim) hJ)
theorem cells2f {w : World} {g : Nat} {t : TypeId} {x y : Value} (h : w.heap[g]? = some (.cells #[x, y] t (0, 0))) : w.cell? ⟨g, 0, none⟩ = some x ∧ w.cell? ⟨g, 1, none⟩ = some y ∧ w.frozen? ⟨g, 0, none⟩ = false ∧ w.frozen? ⟨g, 1, none⟩ = false :=
  ⟨blk_cell h 0, blk_cell h 1, blk_free h 0, blk_free h 1⟩
theorem frames_q {w : World} {B g b n : Nat} {F : List Int} {s : Int} (h : Is w B g b n F s) : Calls Try.prog 56 #[.pointer (some ⟨g, 0, none⟩)] w fun e w' => e = .returned (.int .i64 n) ∧ w' = w :=
  (frames_any h).mono fun _ _ ⟨h1, h2⟩ => ⟨h1, h2.symm⟩
/-- What a walk answers. -/
def WPost (w : World) (r : Int × Int × Int × Int) (e : Ending) (w' : World) : Prop := e = .returned (.tuple #[.agg #[.int .i64 r.1, .int .i64 r.2.1], .int .i64 r.2.2.1, .int .i64 r.2.2.2]) ∧ Below w.heap.size w w'

set_option maxRecDepth 100000 in
set_option maxHeartbeats 16000000 in
theorem walk_any {w : World} {B g b n : Nat} {F : List Int} {s : Int} (h : Is w B g b n F s) (hF : ∀ x ∈ F, 0 ≤ x ∧ x ≤ 255) (root page : Int) :
    Calls Try.prog 31 #[.pointer (some ⟨g, 0, none⟩), .int .i64 root, .int .i64 page] w (WPost w (wk n s F root page)) := by
  have hb := Below.refl w.heap.size w
  have hu51 := Try.underlying51
  have hu58 := Try.underlying58
  have HI := Lib.hid h
  have HF := Lib.hid hF
  clear h hF
  unfold wk
  by_cases hp : 0 ≤ page ∧ page < 4096
  · rw [if_pos hp]
    obtain ⟨hp0, hp1⟩ := hp
    obtain ⟨b1, b2, b3, b4, b5⟩ := ent_in n s F root (page / 256)
    obtain ⟨K1, f1, p1, E1, h1⟩ : ∃ K f p E, ent n s F root (page / 256) = (K, f, p, E) := ⟨_, _, _, _, rfl⟩
    rw [h1] at b1 b2 b3 b4 b5 ⊢
    have H1 := Lib.hid h1
    clear h1
    obtain ⟨o1, O1⟩ : ∃ o, Hid (decide (E1 = 0) = o) := ⟨_, Lib.hid rfl⟩
    dsimp only at b1 b2 b3 b4 b5 ⊢
    by_cases hK1 : K1 = 1
    · have hE1 : E1 = 0 := by by_cases hh : E1 = 0; exact hh; exact absurd (b5 hh) (by omega)
      have ho1 : o1 = true := by rw [← O1.out, hE1]; rfl
      subst hK1 ho1
      rw [if_pos rfl]
      clear b5 hE1
      obtain ⟨B1, B2, B3, B4, B5⟩ := ent_in n s F f1 (page / 16 % 16)
      obtain ⟨K2, f2, p2, E2, h2⟩ : ∃ K f p E, ent n s F f1 (page / 16 % 16) = (K, f, p, E) := ⟨_, _, _, _, rfl⟩
      rw [h2] at B1 B2 B3 B4 B5 ⊢
      have H2 := Lib.hid h2
      clear h2
      obtain ⟨o2, O2⟩ : ∃ o, Hid (decide (E2 = 0) = o) := ⟨_, Lib.hid rfl⟩
      dsimp only at B1 B2 B3 B4 B5 ⊢
      by_cases hK3 : K2 = 3
      · have hE2 : E2 = 0 := by by_cases hh : E2 = 0; exact hh; exact absurd (B5 hh) (by omega)
        have ho2 : o2 = true := by rw [← O2.out, hE2]; rfl
        subst hK3 ho2
        rw [if_pos rfl]
        clear B5 hE2
        have hw : wrap64 (f2 + page % 16) = f2 + page % 16 := w64_in (by omega) (by omega)
        have hw' : IntKind.i64.wrap (f2 + page % 16) = f2 + page % 16 := by rw [IntKind.wrap_i64]; omega
        go_enter Try.func31, Try.ntmps31
        go_wp2_with (first
          | ((with_reducible refine gate_dst (N := 6) rfl ?_); refine box_event ?hg (N := 6) ?hd (cs := #[.int .i64 0, .int .i64 0]) (t := 58) ?hr ?_; (case hd => rfl); (case hg => rfl); (case hr => first | (go_simp; done) | (go_simp; rfl)); intro g6 hge w1 BK6 hb1; have hg6 : w.heap.size ≤ g6 := (by rw [hge]; exact Nat.le_refl _); clear hge; replace hb := bel_chain hb hb1; clear hb1)
          | (go_at_call 33; refine (path_in _ page hp0 hp1).mono ?_; rintro e w2 ⟨rfl, hb2⟩; replace BK6 := blk_below BK6 hb2; replace hb := bel_chain hb hb2; clear hb2)
          | ((with_reducible refine gate_dst (N := 13) rfl ?_); refine box_event ?hg (N := 13) ?hd (cs := #[.int .i64 0, .int .i64 0, .int .i64 0]) (t := 51) ?hr ?_; (case hd => rfl); (case hg => rfl); (case hr => first | (go_simp; done) | (go_simp; rfl)); intro g13 hge w3 BK13 hb3; have hg13 : w.heap.size ≤ g13 := (by rw [hge]; exact hb.size); have hne : g6 ≠ g13 := (by rw [hge]; exact Nat.ne_of_lt (blk_lt BK6)); clear hge; replace BK6 := blk_below BK6 hb3; replace hb := bel_chain hb hb3; clear hb3; obtain ⟨⟨c0, c1, c2⟩, r0, r1, r2⟩ := cells3 BK13; obtain ⟨d0, d1, s0, s1⟩ := cells2f BK6)
          | (go_at_call 55; (with_reducible refine (entry_any (HI.out.below hb) HF.out (root) (page / 256) _ _ _ _ _ H1.out O1.out).mono ?_); rintro e u1 ⟨rfl, hb9⟩; replace BK6 := blk_below BK6 hb9; replace BK13 := blk_below BK13 hb9; replace hb := bel_chain hb hb9; clear hb9; clear c0 c1 c2 r0 r1 r2 d0 d1 s0 s1; obtain ⟨⟨c0, c1, c2⟩, r0, r1, r2⟩ := cells3 BK13; obtain ⟨d0, d1, s0, s1⟩ := cells2f BK6)
          | (go_at_call 55; obtain ⟨v1, e1, BK1', hb1', far1⟩ := store3 BK13 hb hg13 (.int .i64 1) (.int .i64 f1) (.int .i64 p1); rw [e1]; clear e1 c0 c1 c2 r0 r1 r2 d0 d1 s0 s1; replace BK6 := far1 _ _ hne BK6; clear far1 BK13; have BK13 := BK1'; clear BK1' hb; have hb := hb1'; clear hb1'; (with_reducible refine (entry_any (HI.out.below hb) HF.out (f1) (page / 16 % 16) _ _ _ _ _ H2.out O2.out).mono ?_); rintro e u2 ⟨rfl, hb9⟩; replace BK6 := blk_below BK6 hb9; replace BK13 := blk_below BK13 hb9; replace hb := bel_chain hb hb9; clear hb9; obtain ⟨⟨c0, c1, c2⟩, r0, r1, r2⟩ := cells3 BK13; obtain ⟨d0, d1, s0, s1⟩ := cells2f BK6)
          | fail)
        refine wp_scope_fwd 1 rfl ?_
        go_wp2_with (first
          | ((with_reducible refine gate_dst (N := 6) rfl ?_); refine box_event ?hg (N := 6) ?hd (cs := #[.int .i64 0, .int .i64 0]) (t := 58) ?hr ?_; (case hd => rfl); (case hg => rfl); (case hr => first | (go_simp; done) | (go_simp; rfl)); intro g6 hge w1 BK6 hb1; have hg6 : w.heap.size ≤ g6 := (by rw [hge]; exact Nat.le_refl _); clear hge; replace hb := bel_chain hb hb1; clear hb1)
          | (go_at_call 33; refine (path_in _ page hp0 hp1).mono ?_; rintro e w2 ⟨rfl, hb2⟩; replace BK6 := blk_below BK6 hb2; replace hb := bel_chain hb hb2; clear hb2)
          | ((with_reducible refine gate_dst (N := 13) rfl ?_); refine box_event ?hg (N := 13) ?hd (cs := #[.int .i64 0, .int .i64 0, .int .i64 0]) (t := 51) ?hr ?_; (case hd => rfl); (case hg => rfl); (case hr => first | (go_simp; done) | (go_simp; rfl)); intro g13 hge w3 BK13 hb3; have hg13 : w.heap.size ≤ g13 := (by rw [hge]; exact hb.size); have hne : g6 ≠ g13 := (by rw [hge]; exact Nat.ne_of_lt (blk_lt BK6)); clear hge; replace BK6 := blk_below BK6 hb3; replace hb := bel_chain hb hb3; clear hb3; obtain ⟨⟨c0, c1, c2⟩, r0, r1, r2⟩ := cells3 BK13; obtain ⟨d0, d1, s0, s1⟩ := cells2f BK6)
          | (go_at_call 55; (with_reducible refine (entry_any (HI.out.below hb) HF.out (root) (page / 256) _ _ _ _ _ H1.out O1.out).mono ?_); rintro e u1 ⟨rfl, hb9⟩; replace BK6 := blk_below BK6 hb9; replace BK13 := blk_below BK13 hb9; replace hb := bel_chain hb hb9; clear hb9; clear c0 c1 c2 r0 r1 r2 d0 d1 s0 s1; obtain ⟨⟨c0, c1, c2⟩, r0, r1, r2⟩ := cells3 BK13; obtain ⟨d0, d1, s0, s1⟩ := cells2f BK6)
          | (go_at_call 55; obtain ⟨v1, e1, BK1', hb1', far1⟩ := store3 BK13 hb hg13 (.int .i64 1) (.int .i64 f1) (.int .i64 p1); rw [e1]; clear e1 c0 c1 c2 r0 r1 r2 d0 d1 s0 s1; replace BK6 := far1 _ _ hne BK6; clear far1 BK13; have BK13 := BK1'; clear BK1' hb; have hb := hb1'; clear hb1'; (with_reducible refine (entry_any (HI.out.below hb) HF.out (f1) (page / 16 % 16) _ _ _ _ _ H2.out O2.out).mono ?_); rintro e u2 ⟨rfl, hb9⟩; replace BK6 := blk_below BK6 hb9; replace BK13 := blk_below BK13 hb9; replace hb := bel_chain hb hb9; clear hb9; obtain ⟨⟨c0, c1, c2⟩, r0, r1, r2⟩ := cells3 BK13; obtain ⟨d0, d1, s0, s1⟩ := cells2f BK6)
          | fail)
        go_step3
        refine ⟨rfl, ?_⟩
        go_wp2
        obtain ⟨v9, e9, _, hb9, far9⟩ := store3 BK13 hb hg13 (.int .i64 3) (.int .i64 f2) (.int .i64 p2)
        rw [e9]
        replace BK6 := far9 _ _ hne BK6
        clear hb
        have hb := hb9
        obtain ⟨v7, e7, BK7, hb7, _⟩ := store2 BK6 hb hg6 (.int .i64 (f2 + page % 16)) (.int .i64 p2)
        rw [e7]
        obtain ⟨d0, d1, s0, s1⟩ := cells2f BK7
        by_cases hlt : f2 + page % 16 < (n : Int)
        · have dl : decide (f2 + page % 16 < (n : Int)) = true := decide_eq_true hlt
          have hL := Lib.hid (show lf n (f2 + page % 16) p2 2 = (f2 + page % 16, p2, 2, 0) from if_pos hlt)
          clear hlt
          go_quiet ((go_at_call 56; exact Calls.quiet_of_same (frames_q ((HI.out.below hb7).below (bel_drewN (Below.refl _ _) _)))))
          go_wp2
          obtain ⟨v8, e8, BK8, hb8, _⟩ := store2 (w := v7.drewN nq) BK7 (bel_drewN hb7 nq) hg6 (.int .i64 (f2 + page % 16)) (.int .i64 p2)
          rw [e8]
          (try rw [Exit.noGoto_ret])
          refine bodyPost_ret (results_ctt rfl _ _ g6 58 _ (0, 0) _ rfl BK8 Try.underlying58 rfl (by kernel_rfl)) rfl ?_
          refine ⟨?_, hb8⟩
          rw [hL.out]
          rfl
        · have dl : decide (f2 + page % 16 < (n : Int)) = false := decide_eq_false hlt
          have hL := Lib.hid (show lf n (f2 + page % 16) p2 2 = (0, 0, 0, -20) from if_neg hlt)
          clear hlt
          go_quiet ((go_at_call 56; exact Calls.quiet_of_same (frames_q ((HI.out.below hb7).below (bel_drewN (Below.refl _ _) _)))))
          go_wp2
          go_step3
          go_wp2
          obtain ⟨v8, e8, BK8, hb8, _⟩ := store2 (w := v7.drewN nq) BK7 (bel_drewN hb7 nq) hg6 (.int .i64 (0)) (.int .i64 0)
          rw [e8]
          (try rw [Exit.noGoto_ret])
          refine bodyPost_ret (results_ctt rfl _ _ g6 58 _ (0, 0) _ rfl BK8 Try.underlying58 rfl (by kernel_rfl)) rfl ?_
          refine ⟨?_, hb8⟩
          rw [hL.out]
          rfl
      · rw [if_neg hK3]
        by_cases hK2 : K2 = 1
        · have hE2 : E2 = 0 := by by_cases hh : E2 = 0; exact hh; exact absurd (B5 hh) (by omega)
          have ho2 : o2 = true := by rw [← O2.out, hE2]; rfl
          subst hK2 ho2
          rw [if_pos rfl]
          clear B5 hE2 hK3
          obtain ⟨C1, C2, C3, C4, C5⟩ := ent_in n s F f2 (page % 16)
          obtain ⟨K3, f3, p3, E3, h3⟩ : ∃ K f p E, ent n s F f2 (page % 16) = (K, f, p, E) := ⟨_, _, _, _, rfl⟩
          rw [h3] at C1 C2 C3 C4 C5 ⊢
          have H3 := Lib.hid h3
          clear h3
          obtain ⟨o3, O3⟩ : ∃ o, Hid (decide (E3 = 0) = o) := ⟨_, Lib.hid rfl⟩
          dsimp only at C1 C2 C3 C4 C5 ⊢
          by_cases hK4 : K3 = 2
          · have hE3 : E3 = 0 := by by_cases hh : E3 = 0; exact hh; exact absurd (C5 hh) (by omega)
            have ho3 : o3 = true := by rw [← O3.out, hE3]; rfl
            subst hK4 ho3
            rw [if_pos rfl]
            clear C5 hE3
            go_enter Try.func31, Try.ntmps31
            go_wp2_with (first
              | ((with_reducible refine gate_dst (N := 6) rfl ?_); refine box_event ?hg (N := 6) ?hd (cs := #[.int .i64 0, .int .i64 0]) (t := 58) ?hr ?_; (case hd => rfl); (case hg => rfl); (case hr => first | (go_simp; done) | (go_simp; rfl)); intro g6 hge w1 BK6 hb1; have hg6 : w.heap.size ≤ g6 := (by rw [hge]; exact Nat.le_refl _); clear hge; replace hb := bel_chain hb hb1; clear hb1)
              | (go_at_call 33; refine (path_in _ page hp0 hp1).mono ?_; rintro e w2 ⟨rfl, hb2⟩; replace BK6 := blk_below BK6 hb2; replace hb := bel_chain hb hb2; clear hb2)
              | ((with_reducible refine gate_dst (N := 13) rfl ?_); refine box_event ?hg (N := 13) ?hd (cs := #[.int .i64 0, .int .i64 0, .int .i64 0]) (t := 51) ?hr ?_; (case hd => rfl); (case hg => rfl); (case hr => first | (go_simp; done) | (go_simp; rfl)); intro g13 hge w3 BK13 hb3; have hg13 : w.heap.size ≤ g13 := (by rw [hge]; exact hb.size); have hne : g6 ≠ g13 := (by rw [hge]; exact Nat.ne_of_lt (blk_lt BK6)); clear hge; replace BK6 := blk_below BK6 hb3; replace hb := bel_chain hb hb3; clear hb3; obtain ⟨⟨c0, c1, c2⟩, r0, r1, r2⟩ := cells3 BK13; obtain ⟨d0, d1, s0, s1⟩ := cells2f BK6)
              | (go_at_call 55; (with_reducible refine (entry_any (HI.out.below hb) HF.out (root) (page / 256) _ _ _ _ _ H1.out O1.out).mono ?_); rintro e u1 ⟨rfl, hb9⟩; replace BK6 := blk_below BK6 hb9; replace BK13 := blk_below BK13 hb9; replace hb := bel_chain hb hb9; clear hb9; clear c0 c1 c2 r0 r1 r2 d0 d1 s0 s1; obtain ⟨⟨c0, c1, c2⟩, r0, r1, r2⟩ := cells3 BK13; obtain ⟨d0, d1, s0, s1⟩ := cells2f BK6)
              | (go_at_call 55; obtain ⟨v1, e1, BK1', hb1', far1⟩ := store3 BK13 hb hg13 (.int .i64 1) (.int .i64 f1) (.int .i64 p1); rw [e1]; clear e1 c0 c1 c2 r0 r1 r2 d0 d1 s0 s1; replace BK6 := far1 _ _ hne BK6; clear far1 BK13; have BK13 := BK1'; clear BK1' hb; have hb := hb1'; clear hb1'; (with_reducible refine (entry_any (HI.out.below hb) HF.out (f1) (page / 16 % 16) _ _ _ _ _ H2.out O2.out).mono ?_); rintro e u2 ⟨rfl, hb9⟩; replace BK6 := blk_below BK6 hb9; replace BK13 := blk_below BK13 hb9; replace hb := bel_chain hb hb9; clear hb9; obtain ⟨⟨c0, c1, c2⟩, r0, r1, r2⟩ := cells3 BK13; obtain ⟨d0, d1, s0, s1⟩ := cells2f BK6)
              | (go_at_call 55; obtain ⟨v2, e2, BK2', hb2', far2⟩ := store3 BK13 hb hg13 (.int .i64 1) (.int .i64 f2) (.int .i64 p2); rw [e2]; clear e2 c0 c1 c2 r0 r1 r2 d0 d1 s0 s1; replace BK6 := far2 _ _ hne BK6; clear far2 BK13; have BK13 := BK2'; clear BK2' hb; have hb := hb2'; clear hb2'; (with_reducible refine (entry_any (HI.out.below hb) HF.out (f2) (page % 16) _ _ _ _ _ H3.out O3.out).mono ?_); rintro e u3 ⟨rfl, hb9⟩; replace BK6 := blk_below BK6 hb9; replace BK13 := blk_below BK13 hb9; replace hb := bel_chain hb hb9; clear hb9; obtain ⟨⟨c0, c1, c2⟩, r0, r1, r2⟩ := cells3 BK13; obtain ⟨d0, d1, s0, s1⟩ := cells2f BK6)
              | fail)
            go_step3
            go_wp2_with (first
              | ((with_reducible refine gate_dst (N := 6) rfl ?_); refine box_event ?hg (N := 6) ?hd (cs := #[.int .i64 0, .int .i64 0]) (t := 58) ?hr ?_; (case hd => rfl); (case hg => rfl); (case hr => first | (go_simp; done) | (go_simp; rfl)); intro g6 hge w1 BK6 hb1; have hg6 : w.heap.size ≤ g6 := (by rw [hge]; exact Nat.le_refl _); clear hge; replace hb := bel_chain hb hb1; clear hb1)
              | (go_at_call 33; refine (path_in _ page hp0 hp1).mono ?_; rintro e w2 ⟨rfl, hb2⟩; replace BK6 := blk_below BK6 hb2; replace hb := bel_chain hb hb2; clear hb2)
              | ((with_reducible refine gate_dst (N := 13) rfl ?_); refine box_event ?hg (N := 13) ?hd (cs := #[.int .i64 0, .int .i64 0, .int .i64 0]) (t := 51) ?hr ?_; (case hd => rfl); (case hg => rfl); (case hr => first | (go_simp; done) | (go_simp; rfl)); intro g13 hge w3 BK13 hb3; have hg13 : w.heap.size ≤ g13 := (by rw [hge]; exact hb.size); have hne : g6 ≠ g13 := (by rw [hge]; exact Nat.ne_of_lt (blk_lt BK6)); clear hge; replace BK6 := blk_below BK6 hb3; replace hb := bel_chain hb hb3; clear hb3; obtain ⟨⟨c0, c1, c2⟩, r0, r1, r2⟩ := cells3 BK13; obtain ⟨d0, d1, s0, s1⟩ := cells2f BK6)
              | (go_at_call 55; (with_reducible refine (entry_any (HI.out.below hb) HF.out (root) (page / 256) _ _ _ _ _ H1.out O1.out).mono ?_); rintro e u1 ⟨rfl, hb9⟩; replace BK6 := blk_below BK6 hb9; replace BK13 := blk_below BK13 hb9; replace hb := bel_chain hb hb9; clear hb9; clear c0 c1 c2 r0 r1 r2 d0 d1 s0 s1; obtain ⟨⟨c0, c1, c2⟩, r0, r1, r2⟩ := cells3 BK13; obtain ⟨d0, d1, s0, s1⟩ := cells2f BK6)
              | (go_at_call 55; obtain ⟨v1, e1, BK1', hb1', far1⟩ := store3 BK13 hb hg13 (.int .i64 1) (.int .i64 f1) (.int .i64 p1); rw [e1]; clear e1 c0 c1 c2 r0 r1 r2 d0 d1 s0 s1; replace BK6 := far1 _ _ hne BK6; clear far1 BK13; have BK13 := BK1'; clear BK1' hb; have hb := hb1'; clear hb1'; (with_reducible refine (entry_any (HI.out.below hb) HF.out (f1) (page / 16 % 16) _ _ _ _ _ H2.out O2.out).mono ?_); rintro e u2 ⟨rfl, hb9⟩; replace BK6 := blk_below BK6 hb9; replace BK13 := blk_below BK13 hb9; replace hb := bel_chain hb hb9; clear hb9; obtain ⟨⟨c0, c1, c2⟩, r0, r1, r2⟩ := cells3 BK13; obtain ⟨d0, d1, s0, s1⟩ := cells2f BK6)
              | (go_at_call 55; obtain ⟨v2, e2, BK2', hb2', far2⟩ := store3 BK13 hb hg13 (.int .i64 1) (.int .i64 f2) (.int .i64 p2); rw [e2]; clear e2 c0 c1 c2 r0 r1 r2 d0 d1 s0 s1; replace BK6 := far2 _ _ hne BK6; clear far2 BK13; have BK13 := BK2'; clear BK2' hb; have hb := hb2'; clear hb2'; (with_reducible refine (entry_any (HI.out.below hb) HF.out (f2) (page % 16) _ _ _ _ _ H3.out O3.out).mono ?_); rintro e u3 ⟨rfl, hb9⟩; replace BK6 := blk_below BK6 hb9; replace BK13 := blk_below BK13 hb9; replace hb := bel_chain hb hb9; clear hb9; obtain ⟨⟨c0, c1, c2⟩, r0, r1, r2⟩ := cells3 BK13; obtain ⟨d0, d1, s0, s1⟩ := cells2f BK6)
              | fail)
            go_step3
            go_wp2
            obtain ⟨v9, e9, _, hb9, far9⟩ := store3 BK13 hb hg13 (.int .i64 2) (.int .i64 f3) (.int .i64 p3)
            rw [e9]
            replace BK6 := far9 _ _ hne BK6
            clear hb
            have hb := hb9
            obtain ⟨v7, e7, BK7, hb7, _⟩ := store2 BK6 hb hg6 (.int .i64 (f3)) (.int .i64 p3)
            rw [e7]
            obtain ⟨d0, d1, s0, s1⟩ := cells2f BK7
            by_cases hlt : f3 < (n : Int)
            · have dl : decide (f3 < (n : Int)) = true := decide_eq_true hlt
              have hL := Lib.hid (show lf n (f3) p3 3 = (f3, p3, 3, 0) from if_pos hlt)
              clear hlt
              go_quiet ((go_at_call 56; exact Calls.quiet_of_same (frames_q ((HI.out.below hb7).below (bel_drewN (Below.refl _ _) _)))))
              go_wp2
              obtain ⟨v8, e8, BK8, hb8, _⟩ := store2 (w := v7.drewN nq) BK7 (bel_drewN hb7 nq) hg6 (.int .i64 (f3)) (.int .i64 p3)
              rw [e8]
              (try rw [Exit.noGoto_ret])
              refine bodyPost_ret (results_ctt rfl _ _ g6 58 _ (0, 0) _ rfl BK8 Try.underlying58 rfl (by kernel_rfl)) rfl ?_
              refine ⟨?_, hb8⟩
              rw [hL.out]
              rfl
            · have dl : decide (f3 < (n : Int)) = false := decide_eq_false hlt
              have hL := Lib.hid (show lf n (f3) p3 3 = (0, 0, 0, -20) from if_neg hlt)
              clear hlt
              go_quiet ((go_at_call 56; exact Calls.quiet_of_same (frames_q ((HI.out.below hb7).below (bel_drewN (Below.refl _ _) _)))))
              go_wp2
              go_step3
              go_wp2
              obtain ⟨v8, e8, BK8, hb8, _⟩ := store2 (w := v7.drewN nq) BK7 (bel_drewN hb7 nq) hg6 (.int .i64 (0)) (.int .i64 0)
              rw [e8]
              (try rw [Exit.noGoto_ret])
              refine bodyPost_ret (results_ctt rfl _ _ g6 58 _ (0, 0) _ rfl BK8 Try.underlying58 rfl (by kernel_rfl)) rfl ?_
              refine ⟨?_, hb8⟩
              rw [hL.out]
              rfl
          · rw [if_neg hK4]
            have q1 : (K3 == 2) = false := beq_eq_false_iff_ne.mpr hK4
            have q2 : (K3 != 2) = true := bne_iff_ne.mpr hK4
            clear C5 hK4
            cases o3 with
            | true =>
              go_enter Try.func31, Try.ntmps31
              go_wp2_with (first
                | ((with_reducible refine gate_dst (N := 6) rfl ?_); refine box_event ?hg (N := 6) ?hd (cs := #[.int .i64 0, .int .i64 0]) (t := 58) ?hr ?_; (case hd => rfl); (case hg => rfl); (case hr => first | (go_simp; done) | (go_simp; rfl)); intro g6 hge w1 BK6 hb1; have hg6 : w.heap.size ≤ g6 := (by rw [hge]; exact Nat.le_refl _); clear hge; replace hb := bel_chain hb hb1; clear hb1)
                | (go_at_call 33; refine (path_in _ page hp0 hp1).mono ?_; rintro e w2 ⟨rfl, hb2⟩; replace BK6 := blk_below BK6 hb2; replace hb := bel_chain hb hb2; clear hb2)
                | ((with_reducible refine gate_dst (N := 13) rfl ?_); refine box_event ?hg (N := 13) ?hd (cs := #[.int .i64 0, .int .i64 0, .int .i64 0]) (t := 51) ?hr ?_; (case hd => rfl); (case hg => rfl); (case hr => first | (go_simp; done) | (go_simp; rfl)); intro g13 hge w3 BK13 hb3; have hg13 : w.heap.size ≤ g13 := (by rw [hge]; exact hb.size); have hne : g6 ≠ g13 := (by rw [hge]; exact Nat.ne_of_lt (blk_lt BK6)); clear hge; replace BK6 := blk_below BK6 hb3; replace hb := bel_chain hb hb3; clear hb3; obtain ⟨⟨c0, c1, c2⟩, r0, r1, r2⟩ := cells3 BK13; obtain ⟨d0, d1, s0, s1⟩ := cells2f BK6)
                | (go_at_call 55; (with_reducible refine (entry_any (HI.out.below hb) HF.out (root) (page / 256) _ _ _ _ _ H1.out O1.out).mono ?_); rintro e u1 ⟨rfl, hb9⟩; replace BK6 := blk_below BK6 hb9; replace BK13 := blk_below BK13 hb9; replace hb := bel_chain hb hb9; clear hb9; clear c0 c1 c2 r0 r1 r2 d0 d1 s0 s1; obtain ⟨⟨c0, c1, c2⟩, r0, r1, r2⟩ := cells3 BK13; obtain ⟨d0, d1, s0, s1⟩ := cells2f BK6)
                | (go_at_call 55; obtain ⟨v1, e1, BK1', hb1', far1⟩ := store3 BK13 hb hg13 (.int .i64 1) (.int .i64 f1) (.int .i64 p1); rw [e1]; clear e1 c0 c1 c2 r0 r1 r2 d0 d1 s0 s1; replace BK6 := far1 _ _ hne BK6; clear far1 BK13; have BK13 := BK1'; clear BK1' hb; have hb := hb1'; clear hb1'; (with_reducible refine (entry_any (HI.out.below hb) HF.out (f1) (page / 16 % 16) _ _ _ _ _ H2.out O2.out).mono ?_); rintro e u2 ⟨rfl, hb9⟩; replace BK6 := blk_below BK6 hb9; replace BK13 := blk_below BK13 hb9; replace hb := bel_chain hb hb9; clear hb9; obtain ⟨⟨c0, c1, c2⟩, r0, r1, r2⟩ := cells3 BK13; obtain ⟨d0, d1, s0, s1⟩ := cells2f BK6)
                | (go_at_call 55; obtain ⟨v2, e2, BK2', hb2', far2⟩ := store3 BK13 hb hg13 (.int .i64 1) (.int .i64 f2) (.int .i64 p2); rw [e2]; clear e2 c0 c1 c2 r0 r1 r2 d0 d1 s0 s1; replace BK6 := far2 _ _ hne BK6; clear far2 BK13; have BK13 := BK2'; clear BK2' hb; have hb := hb2'; clear hb2'; (with_reducible refine (entry_any (HI.out.below hb) HF.out (f2) (page % 16) _ _ _ _ _ H3.out O3.out).mono ?_); rintro e u3 ⟨rfl, hb9⟩; replace BK6 := blk_below BK6 hb9; replace BK13 := blk_below BK13 hb9; replace hb := bel_chain hb hb9; clear hb9; obtain ⟨⟨c0, c1, c2⟩, r0, r1, r2⟩ := cells3 BK13; obtain ⟨d0, d1, s0, s1⟩ := cells2f BK6)
                | fail)
              refine wp_scope_fwd 0 rfl ?_
              go_wp2_with (first
                | ((with_reducible refine gate_dst (N := 6) rfl ?_); refine box_event ?hg (N := 6) ?hd (cs := #[.int .i64 0, .int .i64 0]) (t := 58) ?hr ?_; (case hd => rfl); (case hg => rfl); (case hr => first | (go_simp; done) | (go_simp; rfl)); intro g6 hge w1 BK6 hb1; have hg6 : w.heap.size ≤ g6 := (by rw [hge]; exact Nat.le_refl _); clear hge; replace hb := bel_chain hb hb1; clear hb1)
                | (go_at_call 33; refine (path_in _ page hp0 hp1).mono ?_; rintro e w2 ⟨rfl, hb2⟩; replace BK6 := blk_below BK6 hb2; replace hb := bel_chain hb hb2; clear hb2)
                | ((with_reducible refine gate_dst (N := 13) rfl ?_); refine box_event ?hg (N := 13) ?hd (cs := #[.int .i64 0, .int .i64 0, .int .i64 0]) (t := 51) ?hr ?_; (case hd => rfl); (case hg => rfl); (case hr => first | (go_simp; done) | (go_simp; rfl)); intro g13 hge w3 BK13 hb3; have hg13 : w.heap.size ≤ g13 := (by rw [hge]; exact hb.size); have hne : g6 ≠ g13 := (by rw [hge]; exact Nat.ne_of_lt (blk_lt BK6)); clear hge; replace BK6 := blk_below BK6 hb3; replace hb := bel_chain hb hb3; clear hb3; obtain ⟨⟨c0, c1, c2⟩, r0, r1, r2⟩ := cells3 BK13; obtain ⟨d0, d1, s0, s1⟩ := cells2f BK6)
                | (go_at_call 55; (with_reducible refine (entry_any (HI.out.below hb) HF.out (root) (page / 256) _ _ _ _ _ H1.out O1.out).mono ?_); rintro e u1 ⟨rfl, hb9⟩; replace BK6 := blk_below BK6 hb9; replace BK13 := blk_below BK13 hb9; replace hb := bel_chain hb hb9; clear hb9; clear c0 c1 c2 r0 r1 r2 d0 d1 s0 s1; obtain ⟨⟨c0, c1, c2⟩, r0, r1, r2⟩ := cells3 BK13; obtain ⟨d0, d1, s0, s1⟩ := cells2f BK6)
                | (go_at_call 55; obtain ⟨v1, e1, BK1', hb1', far1⟩ := store3 BK13 hb hg13 (.int .i64 1) (.int .i64 f1) (.int .i64 p1); rw [e1]; clear e1 c0 c1 c2 r0 r1 r2 d0 d1 s0 s1; replace BK6 := far1 _ _ hne BK6; clear far1 BK13; have BK13 := BK1'; clear BK1' hb; have hb := hb1'; clear hb1'; (with_reducible refine (entry_any (HI.out.below hb) HF.out (f1) (page / 16 % 16) _ _ _ _ _ H2.out O2.out).mono ?_); rintro e u2 ⟨rfl, hb9⟩; replace BK6 := blk_below BK6 hb9; replace BK13 := blk_below BK13 hb9; replace hb := bel_chain hb hb9; clear hb9; obtain ⟨⟨c0, c1, c2⟩, r0, r1, r2⟩ := cells3 BK13; obtain ⟨d0, d1, s0, s1⟩ := cells2f BK6)
                | (go_at_call 55; obtain ⟨v2, e2, BK2', hb2', far2⟩ := store3 BK13 hb hg13 (.int .i64 1) (.int .i64 f2) (.int .i64 p2); rw [e2]; clear e2 c0 c1 c2 r0 r1 r2 d0 d1 s0 s1; replace BK6 := far2 _ _ hne BK6; clear far2 BK13; have BK13 := BK2'; clear BK2' hb; have hb := hb2'; clear hb2'; (with_reducible refine (entry_any (HI.out.below hb) HF.out (f2) (page % 16) _ _ _ _ _ H3.out O3.out).mono ?_); rintro e u3 ⟨rfl, hb9⟩; replace BK6 := blk_below BK6 hb9; replace BK13 := blk_below BK13 hb9; replace hb := bel_chain hb hb9; clear hb9; obtain ⟨⟨c0, c1, c2⟩, r0, r1, r2⟩ := cells3 BK13; obtain ⟨d0, d1, s0, s1⟩ := cells2f BK6)
                | fail)
              go_step3
              refine ⟨rfl, ?_⟩
              go_wp2
              obtain ⟨v9, e9, _, hb9, far9⟩ := store3 BK13 hb hg13 (.int .i64 K3) (.int .i64 f3) (.int .i64 p3)
              rw [e9]
              replace BK6 := far9 _ _ hne BK6
              clear hb
              have hb := hb9
              obtain ⟨v8, e8, BK8, hb8, _⟩ := store2 BK6 hb hg6 (.int .i64 0) (.int .i64 0)
              rw [e8]
              refine bodyPost_ret (results_ctt rfl _ _ g6 58 _ (0, 0) _ rfl BK8 Try.underlying58 rfl (by kernel_rfl)) rfl ?_
              exact ⟨rfl, hb8⟩
            | false =>
              go_enter Try.func31, Try.ntmps31
              go_wp2_with (first
                | ((with_reducible refine gate_dst (N := 6) rfl ?_); refine box_event ?hg (N := 6) ?hd (cs := #[.int .i64 0, .int .i64 0]) (t := 58) ?hr ?_; (case hd => rfl); (case hg => rfl); (case hr => first | (go_simp; done) | (go_simp; rfl)); intro g6 hge w1 BK6 hb1; have hg6 : w.heap.size ≤ g6 := (by rw [hge]; exact Nat.le_refl _); clear hge; replace hb := bel_chain hb hb1; clear hb1)
                | (go_at_call 33; refine (path_in _ page hp0 hp1).mono ?_; rintro e w2 ⟨rfl, hb2⟩; replace BK6 := blk_below BK6 hb2; replace hb := bel_chain hb hb2; clear hb2)
                | ((with_reducible refine gate_dst (N := 13) rfl ?_); refine box_event ?hg (N := 13) ?hd (cs := #[.int .i64 0, .int .i64 0, .int .i64 0]) (t := 51) ?hr ?_; (case hd => rfl); (case hg => rfl); (case hr => first | (go_simp; done) | (go_simp; rfl)); intro g13 hge w3 BK13 hb3; have hg13 : w.heap.size ≤ g13 := (by rw [hge]; exact hb.size); have hne : g6 ≠ g13 := (by rw [hge]; exact Nat.ne_of_lt (blk_lt BK6)); clear hge; replace BK6 := blk_below BK6 hb3; replace hb := bel_chain hb hb3; clear hb3; obtain ⟨⟨c0, c1, c2⟩, r0, r1, r2⟩ := cells3 BK13; obtain ⟨d0, d1, s0, s1⟩ := cells2f BK6)
                | (go_at_call 55; (with_reducible refine (entry_any (HI.out.below hb) HF.out (root) (page / 256) _ _ _ _ _ H1.out O1.out).mono ?_); rintro e u1 ⟨rfl, hb9⟩; replace BK6 := blk_below BK6 hb9; replace BK13 := blk_below BK13 hb9; replace hb := bel_chain hb hb9; clear hb9; clear c0 c1 c2 r0 r1 r2 d0 d1 s0 s1; obtain ⟨⟨c0, c1, c2⟩, r0, r1, r2⟩ := cells3 BK13; obtain ⟨d0, d1, s0, s1⟩ := cells2f BK6)
                | (go_at_call 55; obtain ⟨v1, e1, BK1', hb1', far1⟩ := store3 BK13 hb hg13 (.int .i64 1) (.int .i64 f1) (.int .i64 p1); rw [e1]; clear e1 c0 c1 c2 r0 r1 r2 d0 d1 s0 s1; replace BK6 := far1 _ _ hne BK6; clear far1 BK13; have BK13 := BK1'; clear BK1' hb; have hb := hb1'; clear hb1'; (with_reducible refine (entry_any (HI.out.below hb) HF.out (f1) (page / 16 % 16) _ _ _ _ _ H2.out O2.out).mono ?_); rintro e u2 ⟨rfl, hb9⟩; replace BK6 := blk_below BK6 hb9; replace BK13 := blk_below BK13 hb9; replace hb := bel_chain hb hb9; clear hb9; obtain ⟨⟨c0, c1, c2⟩, r0, r1, r2⟩ := cells3 BK13; obtain ⟨d0, d1, s0, s1⟩ := cells2f BK6)
                | (go_at_call 55; obtain ⟨v2, e2, BK2', hb2', far2⟩ := store3 BK13 hb hg13 (.int .i64 1) (.int .i64 f2) (.int .i64 p2); rw [e2]; clear e2 c0 c1 c2 r0 r1 r2 d0 d1 s0 s1; replace BK6 := far2 _ _ hne BK6; clear far2 BK13; have BK13 := BK2'; clear BK2' hb; have hb := hb2'; clear hb2'; (with_reducible refine (entry_any (HI.out.below hb) HF.out (f2) (page % 16) _ _ _ _ _ H3.out O3.out).mono ?_); rintro e u3 ⟨rfl, hb9⟩; replace BK6 := blk_below BK6 hb9; replace BK13 := blk_below BK13 hb9; replace hb := bel_chain hb hb9; clear hb9; obtain ⟨⟨c0, c1, c2⟩, r0, r1, r2⟩ := cells3 BK13; obtain ⟨d0, d1, s0, s1⟩ := cells2f BK6)
                | fail)
              refine wp_scope_fwd 0 rfl ?_
              go_wp2_with (first
                | ((with_reducible refine gate_dst (N := 6) rfl ?_); refine box_event ?hg (N := 6) ?hd (cs := #[.int .i64 0, .int .i64 0]) (t := 58) ?hr ?_; (case hd => rfl); (case hg => rfl); (case hr => first | (go_simp; done) | (go_simp; rfl)); intro g6 hge w1 BK6 hb1; have hg6 : w.heap.size ≤ g6 := (by rw [hge]; exact Nat.le_refl _); clear hge; replace hb := bel_chain hb hb1; clear hb1)
                | (go_at_call 33; refine (path_in _ page hp0 hp1).mono ?_; rintro e w2 ⟨rfl, hb2⟩; replace BK6 := blk_below BK6 hb2; replace hb := bel_chain hb hb2; clear hb2)
                | ((with_reducible refine gate_dst (N := 13) rfl ?_); refine box_event ?hg (N := 13) ?hd (cs := #[.int .i64 0, .int .i64 0, .int .i64 0]) (t := 51) ?hr ?_; (case hd => rfl); (case hg => rfl); (case hr => first | (go_simp; done) | (go_simp; rfl)); intro g13 hge w3 BK13 hb3; have hg13 : w.heap.size ≤ g13 := (by rw [hge]; exact hb.size); have hne : g6 ≠ g13 := (by rw [hge]; exact Nat.ne_of_lt (blk_lt BK6)); clear hge; replace BK6 := blk_below BK6 hb3; replace hb := bel_chain hb hb3; clear hb3; obtain ⟨⟨c0, c1, c2⟩, r0, r1, r2⟩ := cells3 BK13; obtain ⟨d0, d1, s0, s1⟩ := cells2f BK6)
                | (go_at_call 55; (with_reducible refine (entry_any (HI.out.below hb) HF.out (root) (page / 256) _ _ _ _ _ H1.out O1.out).mono ?_); rintro e u1 ⟨rfl, hb9⟩; replace BK6 := blk_below BK6 hb9; replace BK13 := blk_below BK13 hb9; replace hb := bel_chain hb hb9; clear hb9; clear c0 c1 c2 r0 r1 r2 d0 d1 s0 s1; obtain ⟨⟨c0, c1, c2⟩, r0, r1, r2⟩ := cells3 BK13; obtain ⟨d0, d1, s0, s1⟩ := cells2f BK6)
                | (go_at_call 55; obtain ⟨v1, e1, BK1', hb1', far1⟩ := store3 BK13 hb hg13 (.int .i64 1) (.int .i64 f1) (.int .i64 p1); rw [e1]; clear e1 c0 c1 c2 r0 r1 r2 d0 d1 s0 s1; replace BK6 := far1 _ _ hne BK6; clear far1 BK13; have BK13 := BK1'; clear BK1' hb; have hb := hb1'; clear hb1'; (with_reducible refine (entry_any (HI.out.below hb) HF.out (f1) (page / 16 % 16) _ _ _ _ _ H2.out O2.out).mono ?_); rintro e u2 ⟨rfl, hb9⟩; replace BK6 := blk_below BK6 hb9; replace BK13 := blk_below BK13 hb9; replace hb := bel_chain hb hb9; clear hb9; obtain ⟨⟨c0, c1, c2⟩, r0, r1, r2⟩ := cells3 BK13; obtain ⟨d0, d1, s0, s1⟩ := cells2f BK6)
                | (go_at_call 55; obtain ⟨v2, e2, BK2', hb2', far2⟩ := store3 BK13 hb hg13 (.int .i64 1) (.int .i64 f2) (.int .i64 p2); rw [e2]; clear e2 c0 c1 c2 r0 r1 r2 d0 d1 s0 s1; replace BK6 := far2 _ _ hne BK6; clear far2 BK13; have BK13 := BK2'; clear BK2' hb; have hb := hb2'; clear hb2'; (with_reducible refine (entry_any (HI.out.below hb) HF.out (f2) (page % 16) _ _ _ _ _ H3.out O3.out).mono ?_); rintro e u3 ⟨rfl, hb9⟩; replace BK6 := blk_below BK6 hb9; replace BK13 := blk_below BK13 hb9; replace hb := bel_chain hb hb9; clear hb9; obtain ⟨⟨c0, c1, c2⟩, r0, r1, r2⟩ := cells3 BK13; obtain ⟨d0, d1, s0, s1⟩ := cells2f BK6)
                | fail)
              go_step3
              refine ⟨rfl, ?_⟩
              go_wp2
              obtain ⟨v9, e9, _, hb9, far9⟩ := store3 BK13 hb hg13 (.int .i64 K3) (.int .i64 f3) (.int .i64 p3)
              rw [e9]
              replace BK6 := far9 _ _ hne BK6
              clear hb
              have hb := hb9
              obtain ⟨v8, e8, BK8, hb8, _⟩ := store2 BK6 hb hg6 (.int .i64 0) (.int .i64 0)
              rw [e8]
              refine bodyPost_ret (results_ctt rfl _ _ g6 58 _ (0, 0) _ rfl BK8 Try.underlying58 rfl (by kernel_rfl)) rfl ?_
              exact ⟨rfl, hb8⟩
        · rw [if_neg hK2]
          have q1 : (K2 == 1) = false := beq_eq_false_iff_ne.mpr hK2
          have q2 : (K2 != 1) = true := bne_iff_ne.mpr hK2
          have q3 : (K2 == 3) = false := beq_eq_false_iff_ne.mpr hK3
          clear B5 hK2 hK3
          cases o2 with
          | true =>
            go_enter Try.func31, Try.ntmps31
            go_wp2_with (first
              | ((with_reducible refine gate_dst (N := 6) rfl ?_); refine box_event ?hg (N := 6) ?hd (cs := #[.int .i64 0, .int .i64 0]) (t := 58) ?hr ?_; (case hd => rfl); (case hg => rfl); (case hr => first | (go_simp; done) | (go_simp; rfl)); intro g6 hge w1 BK6 hb1; have hg6 : w.heap.size ≤ g6 := (by rw [hge]; exact Nat.le_refl _); clear hge; replace hb := bel_chain hb hb1; clear hb1)
              | (go_at_call 33; refine (path_in _ page hp0 hp1).mono ?_; rintro e w2 ⟨rfl, hb2⟩; replace BK6 := blk_below BK6 hb2; replace hb := bel_chain hb hb2; clear hb2)
              | ((with_reducible refine gate_dst (N := 13) rfl ?_); refine box_event ?hg (N := 13) ?hd (cs := #[.int .i64 0, .int .i64 0, .int .i64 0]) (t := 51) ?hr ?_; (case hd => rfl); (case hg => rfl); (case hr => first | (go_simp; done) | (go_simp; rfl)); intro g13 hge w3 BK13 hb3; have hg13 : w.heap.size ≤ g13 := (by rw [hge]; exact hb.size); have hne : g6 ≠ g13 := (by rw [hge]; exact Nat.ne_of_lt (blk_lt BK6)); clear hge; replace BK6 := blk_below BK6 hb3; replace hb := bel_chain hb hb3; clear hb3; obtain ⟨⟨c0, c1, c2⟩, r0, r1, r2⟩ := cells3 BK13; obtain ⟨d0, d1, s0, s1⟩ := cells2f BK6)
              | (go_at_call 55; (with_reducible refine (entry_any (HI.out.below hb) HF.out (root) (page / 256) _ _ _ _ _ H1.out O1.out).mono ?_); rintro e u1 ⟨rfl, hb9⟩; replace BK6 := blk_below BK6 hb9; replace BK13 := blk_below BK13 hb9; replace hb := bel_chain hb hb9; clear hb9; clear c0 c1 c2 r0 r1 r2 d0 d1 s0 s1; obtain ⟨⟨c0, c1, c2⟩, r0, r1, r2⟩ := cells3 BK13; obtain ⟨d0, d1, s0, s1⟩ := cells2f BK6)
              | (go_at_call 55; obtain ⟨v1, e1, BK1', hb1', far1⟩ := store3 BK13 hb hg13 (.int .i64 1) (.int .i64 f1) (.int .i64 p1); rw [e1]; clear e1 c0 c1 c2 r0 r1 r2 d0 d1 s0 s1; replace BK6 := far1 _ _ hne BK6; clear far1 BK13; have BK13 := BK1'; clear BK1' hb; have hb := hb1'; clear hb1'; (with_reducible refine (entry_any (HI.out.below hb) HF.out (f1) (page / 16 % 16) _ _ _ _ _ H2.out O2.out).mono ?_); rintro e u2 ⟨rfl, hb9⟩; replace BK6 := blk_below BK6 hb9; replace BK13 := blk_below BK13 hb9; replace hb := bel_chain hb hb9; clear hb9; obtain ⟨⟨c0, c1, c2⟩, r0, r1, r2⟩ := cells3 BK13; obtain ⟨d0, d1, s0, s1⟩ := cells2f BK6)
              | fail)
            refine wp_scope_fwd 0 rfl ?_
            go_wp2_with (first
              | ((with_reducible refine gate_dst (N := 6) rfl ?_); refine box_event ?hg (N := 6) ?hd (cs := #[.int .i64 0, .int .i64 0]) (t := 58) ?hr ?_; (case hd => rfl); (case hg => rfl); (case hr => first | (go_simp; done) | (go_simp; rfl)); intro g6 hge w1 BK6 hb1; have hg6 : w.heap.size ≤ g6 := (by rw [hge]; exact Nat.le_refl _); clear hge; replace hb := bel_chain hb hb1; clear hb1)
              | (go_at_call 33; refine (path_in _ page hp0 hp1).mono ?_; rintro e w2 ⟨rfl, hb2⟩; replace BK6 := blk_below BK6 hb2; replace hb := bel_chain hb hb2; clear hb2)
              | ((with_reducible refine gate_dst (N := 13) rfl ?_); refine box_event ?hg (N := 13) ?hd (cs := #[.int .i64 0, .int .i64 0, .int .i64 0]) (t := 51) ?hr ?_; (case hd => rfl); (case hg => rfl); (case hr => first | (go_simp; done) | (go_simp; rfl)); intro g13 hge w3 BK13 hb3; have hg13 : w.heap.size ≤ g13 := (by rw [hge]; exact hb.size); have hne : g6 ≠ g13 := (by rw [hge]; exact Nat.ne_of_lt (blk_lt BK6)); clear hge; replace BK6 := blk_below BK6 hb3; replace hb := bel_chain hb hb3; clear hb3; obtain ⟨⟨c0, c1, c2⟩, r0, r1, r2⟩ := cells3 BK13; obtain ⟨d0, d1, s0, s1⟩ := cells2f BK6)
              | (go_at_call 55; (with_reducible refine (entry_any (HI.out.below hb) HF.out (root) (page / 256) _ _ _ _ _ H1.out O1.out).mono ?_); rintro e u1 ⟨rfl, hb9⟩; replace BK6 := blk_below BK6 hb9; replace BK13 := blk_below BK13 hb9; replace hb := bel_chain hb hb9; clear hb9; clear c0 c1 c2 r0 r1 r2 d0 d1 s0 s1; obtain ⟨⟨c0, c1, c2⟩, r0, r1, r2⟩ := cells3 BK13; obtain ⟨d0, d1, s0, s1⟩ := cells2f BK6)
              | (go_at_call 55; obtain ⟨v1, e1, BK1', hb1', far1⟩ := store3 BK13 hb hg13 (.int .i64 1) (.int .i64 f1) (.int .i64 p1); rw [e1]; clear e1 c0 c1 c2 r0 r1 r2 d0 d1 s0 s1; replace BK6 := far1 _ _ hne BK6; clear far1 BK13; have BK13 := BK1'; clear BK1' hb; have hb := hb1'; clear hb1'; (with_reducible refine (entry_any (HI.out.below hb) HF.out (f1) (page / 16 % 16) _ _ _ _ _ H2.out O2.out).mono ?_); rintro e u2 ⟨rfl, hb9⟩; replace BK6 := blk_below BK6 hb9; replace BK13 := blk_below BK13 hb9; replace hb := bel_chain hb hb9; clear hb9; obtain ⟨⟨c0, c1, c2⟩, r0, r1, r2⟩ := cells3 BK13; obtain ⟨d0, d1, s0, s1⟩ := cells2f BK6)
              | fail)
            go_step3
            refine ⟨rfl, ?_⟩
            go_wp2
            obtain ⟨v9, e9, _, hb9, far9⟩ := store3 BK13 hb hg13 (.int .i64 K2) (.int .i64 f2) (.int .i64 p2)
            rw [e9]
            replace BK6 := far9 _ _ hne BK6
            clear hb
            have hb := hb9
            obtain ⟨v8, e8, BK8, hb8, _⟩ := store2 BK6 hb hg6 (.int .i64 0) (.int .i64 0)
            rw [e8]
            refine bodyPost_ret (results_ctt rfl _ _ g6 58 _ (0, 0) _ rfl BK8 Try.underlying58 rfl (by kernel_rfl)) rfl ?_
            exact ⟨rfl, hb8⟩
          | false =>
            go_enter Try.func31, Try.ntmps31
            go_wp2_with (first
              | ((with_reducible refine gate_dst (N := 6) rfl ?_); refine box_event ?hg (N := 6) ?hd (cs := #[.int .i64 0, .int .i64 0]) (t := 58) ?hr ?_; (case hd => rfl); (case hg => rfl); (case hr => first | (go_simp; done) | (go_simp; rfl)); intro g6 hge w1 BK6 hb1; have hg6 : w.heap.size ≤ g6 := (by rw [hge]; exact Nat.le_refl _); clear hge; replace hb := bel_chain hb hb1; clear hb1)
              | (go_at_call 33; refine (path_in _ page hp0 hp1).mono ?_; rintro e w2 ⟨rfl, hb2⟩; replace BK6 := blk_below BK6 hb2; replace hb := bel_chain hb hb2; clear hb2)
              | ((with_reducible refine gate_dst (N := 13) rfl ?_); refine box_event ?hg (N := 13) ?hd (cs := #[.int .i64 0, .int .i64 0, .int .i64 0]) (t := 51) ?hr ?_; (case hd => rfl); (case hg => rfl); (case hr => first | (go_simp; done) | (go_simp; rfl)); intro g13 hge w3 BK13 hb3; have hg13 : w.heap.size ≤ g13 := (by rw [hge]; exact hb.size); have hne : g6 ≠ g13 := (by rw [hge]; exact Nat.ne_of_lt (blk_lt BK6)); clear hge; replace BK6 := blk_below BK6 hb3; replace hb := bel_chain hb hb3; clear hb3; obtain ⟨⟨c0, c1, c2⟩, r0, r1, r2⟩ := cells3 BK13; obtain ⟨d0, d1, s0, s1⟩ := cells2f BK6)
              | (go_at_call 55; (with_reducible refine (entry_any (HI.out.below hb) HF.out (root) (page / 256) _ _ _ _ _ H1.out O1.out).mono ?_); rintro e u1 ⟨rfl, hb9⟩; replace BK6 := blk_below BK6 hb9; replace BK13 := blk_below BK13 hb9; replace hb := bel_chain hb hb9; clear hb9; clear c0 c1 c2 r0 r1 r2 d0 d1 s0 s1; obtain ⟨⟨c0, c1, c2⟩, r0, r1, r2⟩ := cells3 BK13; obtain ⟨d0, d1, s0, s1⟩ := cells2f BK6)
              | (go_at_call 55; obtain ⟨v1, e1, BK1', hb1', far1⟩ := store3 BK13 hb hg13 (.int .i64 1) (.int .i64 f1) (.int .i64 p1); rw [e1]; clear e1 c0 c1 c2 r0 r1 r2 d0 d1 s0 s1; replace BK6 := far1 _ _ hne BK6; clear far1 BK13; have BK13 := BK1'; clear BK1' hb; have hb := hb1'; clear hb1'; (with_reducible refine (entry_any (HI.out.below hb) HF.out (f1) (page / 16 % 16) _ _ _ _ _ H2.out O2.out).mono ?_); rintro e u2 ⟨rfl, hb9⟩; replace BK6 := blk_below BK6 hb9; replace BK13 := blk_below BK13 hb9; replace hb := bel_chain hb hb9; clear hb9; obtain ⟨⟨c0, c1, c2⟩, r0, r1, r2⟩ := cells3 BK13; obtain ⟨d0, d1, s0, s1⟩ := cells2f BK6)
              | fail)
            refine wp_scope_fwd 0 rfl ?_
            go_wp2_with (first
              | ((with_reducible refine gate_dst (N := 6) rfl ?_); refine box_event ?hg (N := 6) ?hd (cs := #[.int .i64 0, .int .i64 0]) (t := 58) ?hr ?_; (case hd => rfl); (case hg => rfl); (case hr => first | (go_simp; done) | (go_simp; rfl)); intro g6 hge w1 BK6 hb1; have hg6 : w.heap.size ≤ g6 := (by rw [hge]; exact Nat.le_refl _); clear hge; replace hb := bel_chain hb hb1; clear hb1)
              | (go_at_call 33; refine (path_in _ page hp0 hp1).mono ?_; rintro e w2 ⟨rfl, hb2⟩; replace BK6 := blk_below BK6 hb2; replace hb := bel_chain hb hb2; clear hb2)
              | ((with_reducible refine gate_dst (N := 13) rfl ?_); refine box_event ?hg (N := 13) ?hd (cs := #[.int .i64 0, .int .i64 0, .int .i64 0]) (t := 51) ?hr ?_; (case hd => rfl); (case hg => rfl); (case hr => first | (go_simp; done) | (go_simp; rfl)); intro g13 hge w3 BK13 hb3; have hg13 : w.heap.size ≤ g13 := (by rw [hge]; exact hb.size); have hne : g6 ≠ g13 := (by rw [hge]; exact Nat.ne_of_lt (blk_lt BK6)); clear hge; replace BK6 := blk_below BK6 hb3; replace hb := bel_chain hb hb3; clear hb3; obtain ⟨⟨c0, c1, c2⟩, r0, r1, r2⟩ := cells3 BK13; obtain ⟨d0, d1, s0, s1⟩ := cells2f BK6)
              | (go_at_call 55; (with_reducible refine (entry_any (HI.out.below hb) HF.out (root) (page / 256) _ _ _ _ _ H1.out O1.out).mono ?_); rintro e u1 ⟨rfl, hb9⟩; replace BK6 := blk_below BK6 hb9; replace BK13 := blk_below BK13 hb9; replace hb := bel_chain hb hb9; clear hb9; clear c0 c1 c2 r0 r1 r2 d0 d1 s0 s1; obtain ⟨⟨c0, c1, c2⟩, r0, r1, r2⟩ := cells3 BK13; obtain ⟨d0, d1, s0, s1⟩ := cells2f BK6)
              | (go_at_call 55; obtain ⟨v1, e1, BK1', hb1', far1⟩ := store3 BK13 hb hg13 (.int .i64 1) (.int .i64 f1) (.int .i64 p1); rw [e1]; clear e1 c0 c1 c2 r0 r1 r2 d0 d1 s0 s1; replace BK6 := far1 _ _ hne BK6; clear far1 BK13; have BK13 := BK1'; clear BK1' hb; have hb := hb1'; clear hb1'; (with_reducible refine (entry_any (HI.out.below hb) HF.out (f1) (page / 16 % 16) _ _ _ _ _ H2.out O2.out).mono ?_); rintro e u2 ⟨rfl, hb9⟩; replace BK6 := blk_below BK6 hb9; replace BK13 := blk_below BK13 hb9; replace hb := bel_chain hb hb9; clear hb9; obtain ⟨⟨c0, c1, c2⟩, r0, r1, r2⟩ := cells3 BK13; obtain ⟨d0, d1, s0, s1⟩ := cells2f BK6)
              | fail)
            go_step3
            refine ⟨rfl, ?_⟩
            go_wp2
            obtain ⟨v9, e9, _, hb9, far9⟩ := store3 BK13 hb hg13 (.int .i64 K2) (.int .i64 f2) (.int .i64 p2)
            rw [e9]
            replace BK6 := far9 _ _ hne BK6
            clear hb
            have hb := hb9
            obtain ⟨v8, e8, BK8, hb8, _⟩ := store2 BK6 hb hg6 (.int .i64 0) (.int .i64 0)
            rw [e8]
            refine bodyPost_ret (results_ctt rfl _ _ g6 58 _ (0, 0) _ rfl BK8 Try.underlying58 rfl (by kernel_rfl)) rfl ?_
            exact ⟨rfl, hb8⟩
    · rw [if_neg hK1]
      have q1 : (K1 == 1) = false := beq_eq_false_iff_ne.mpr hK1
      have q2 : (K1 != 1) = true := bne_iff_ne.mpr hK1
      clear b5 hK1
      cases o1 with
      | true =>
        go_enter Try.func31, Try.ntmps31
        go_wp2_with (first
          | ((with_reducible refine gate_dst (N := 6) rfl ?_); refine box_event ?hg (N := 6) ?hd (cs := #[.int .i64 0, .int .i64 0]) (t := 58) ?hr ?_; (case hd => rfl); (case hg => rfl); (case hr => first | (go_simp; done) | (go_simp; rfl)); intro g6 hge w1 BK6 hb1; have hg6 : w.heap.size ≤ g6 := (by rw [hge]; exact Nat.le_refl _); clear hge; replace hb := bel_chain hb hb1; clear hb1)
          | (go_at_call 33; refine (path_in _ page hp0 hp1).mono ?_; rintro e w2 ⟨rfl, hb2⟩; replace BK6 := blk_below BK6 hb2; replace hb := bel_chain hb hb2; clear hb2)
          | ((with_reducible refine gate_dst (N := 13) rfl ?_); refine box_event ?hg (N := 13) ?hd (cs := #[.int .i64 0, .int .i64 0, .int .i64 0]) (t := 51) ?hr ?_; (case hd => rfl); (case hg => rfl); (case hr => first | (go_simp; done) | (go_simp; rfl)); intro g13 hge w3 BK13 hb3; have hg13 : w.heap.size ≤ g13 := (by rw [hge]; exact hb.size); have hne : g6 ≠ g13 := (by rw [hge]; exact Nat.ne_of_lt (blk_lt BK6)); clear hge; replace BK6 := blk_below BK6 hb3; replace hb := bel_chain hb hb3; clear hb3; obtain ⟨⟨c0, c1, c2⟩, r0, r1, r2⟩ := cells3 BK13; obtain ⟨d0, d1, s0, s1⟩ := cells2f BK6)
          | (go_at_call 55; (with_reducible refine (entry_any (HI.out.below hb) HF.out (root) (page / 256) _ _ _ _ _ H1.out O1.out).mono ?_); rintro e u1 ⟨rfl, hb9⟩; replace BK6 := blk_below BK6 hb9; replace BK13 := blk_below BK13 hb9; replace hb := bel_chain hb hb9; clear hb9; clear c0 c1 c2 r0 r1 r2 d0 d1 s0 s1; obtain ⟨⟨c0, c1, c2⟩, r0, r1, r2⟩ := cells3 BK13; obtain ⟨d0, d1, s0, s1⟩ := cells2f BK6)
          | fail)
        refine wp_scope_fwd 0 rfl ?_
        go_wp2_with (first
          | ((with_reducible refine gate_dst (N := 6) rfl ?_); refine box_event ?hg (N := 6) ?hd (cs := #[.int .i64 0, .int .i64 0]) (t := 58) ?hr ?_; (case hd => rfl); (case hg => rfl); (case hr => first | (go_simp; done) | (go_simp; rfl)); intro g6 hge w1 BK6 hb1; have hg6 : w.heap.size ≤ g6 := (by rw [hge]; exact Nat.le_refl _); clear hge; replace hb := bel_chain hb hb1; clear hb1)
          | (go_at_call 33; refine (path_in _ page hp0 hp1).mono ?_; rintro e w2 ⟨rfl, hb2⟩; replace BK6 := blk_below BK6 hb2; replace hb := bel_chain hb hb2; clear hb2)
          | ((with_reducible refine gate_dst (N := 13) rfl ?_); refine box_event ?hg (N := 13) ?hd (cs := #[.int .i64 0, .int .i64 0, .int .i64 0]) (t := 51) ?hr ?_; (case hd => rfl); (case hg => rfl); (case hr => first | (go_simp; done) | (go_simp; rfl)); intro g13 hge w3 BK13 hb3; have hg13 : w.heap.size ≤ g13 := (by rw [hge]; exact hb.size); have hne : g6 ≠ g13 := (by rw [hge]; exact Nat.ne_of_lt (blk_lt BK6)); clear hge; replace BK6 := blk_below BK6 hb3; replace hb := bel_chain hb hb3; clear hb3; obtain ⟨⟨c0, c1, c2⟩, r0, r1, r2⟩ := cells3 BK13; obtain ⟨d0, d1, s0, s1⟩ := cells2f BK6)
          | (go_at_call 55; (with_reducible refine (entry_any (HI.out.below hb) HF.out (root) (page / 256) _ _ _ _ _ H1.out O1.out).mono ?_); rintro e u1 ⟨rfl, hb9⟩; replace BK6 := blk_below BK6 hb9; replace BK13 := blk_below BK13 hb9; replace hb := bel_chain hb hb9; clear hb9; clear c0 c1 c2 r0 r1 r2 d0 d1 s0 s1; obtain ⟨⟨c0, c1, c2⟩, r0, r1, r2⟩ := cells3 BK13; obtain ⟨d0, d1, s0, s1⟩ := cells2f BK6)
          | fail)
        go_step3
        refine ⟨rfl, ?_⟩
        go_wp2
        obtain ⟨v9, e9, _, hb9, far9⟩ := store3 BK13 hb hg13 (.int .i64 K1) (.int .i64 f1) (.int .i64 p1)
        rw [e9]
        replace BK6 := far9 _ _ hne BK6
        clear hb
        have hb := hb9
        obtain ⟨v8, e8, BK8, hb8, _⟩ := store2 BK6 hb hg6 (.int .i64 0) (.int .i64 0)
        rw [e8]
        refine bodyPost_ret (results_ctt rfl _ _ g6 58 _ (0, 0) _ rfl BK8 Try.underlying58 rfl (by kernel_rfl)) rfl ?_
        exact ⟨rfl, hb8⟩
      | false =>
        go_enter Try.func31, Try.ntmps31
        go_wp2_with (first
          | ((with_reducible refine gate_dst (N := 6) rfl ?_); refine box_event ?hg (N := 6) ?hd (cs := #[.int .i64 0, .int .i64 0]) (t := 58) ?hr ?_; (case hd => rfl); (case hg => rfl); (case hr => first | (go_simp; done) | (go_simp; rfl)); intro g6 hge w1 BK6 hb1; have hg6 : w.heap.size ≤ g6 := (by rw [hge]; exact Nat.le_refl _); clear hge; replace hb := bel_chain hb hb1; clear hb1)
          | (go_at_call 33; refine (path_in _ page hp0 hp1).mono ?_; rintro e w2 ⟨rfl, hb2⟩; replace BK6 := blk_below BK6 hb2; replace hb := bel_chain hb hb2; clear hb2)
          | ((with_reducible refine gate_dst (N := 13) rfl ?_); refine box_event ?hg (N := 13) ?hd (cs := #[.int .i64 0, .int .i64 0, .int .i64 0]) (t := 51) ?hr ?_; (case hd => rfl); (case hg => rfl); (case hr => first | (go_simp; done) | (go_simp; rfl)); intro g13 hge w3 BK13 hb3; have hg13 : w.heap.size ≤ g13 := (by rw [hge]; exact hb.size); have hne : g6 ≠ g13 := (by rw [hge]; exact Nat.ne_of_lt (blk_lt BK6)); clear hge; replace BK6 := blk_below BK6 hb3; replace hb := bel_chain hb hb3; clear hb3; obtain ⟨⟨c0, c1, c2⟩, r0, r1, r2⟩ := cells3 BK13; obtain ⟨d0, d1, s0, s1⟩ := cells2f BK6)
          | (go_at_call 55; (with_reducible refine (entry_any (HI.out.below hb) HF.out (root) (page / 256) _ _ _ _ _ H1.out O1.out).mono ?_); rintro e u1 ⟨rfl, hb9⟩; replace BK6 := blk_below BK6 hb9; replace BK13 := blk_below BK13 hb9; replace hb := bel_chain hb hb9; clear hb9; clear c0 c1 c2 r0 r1 r2 d0 d1 s0 s1; obtain ⟨⟨c0, c1, c2⟩, r0, r1, r2⟩ := cells3 BK13; obtain ⟨d0, d1, s0, s1⟩ := cells2f BK6)
          | fail)
        refine wp_scope_fwd 0 rfl ?_
        go_wp2_with (first
          | ((with_reducible refine gate_dst (N := 6) rfl ?_); refine box_event ?hg (N := 6) ?hd (cs := #[.int .i64 0, .int .i64 0]) (t := 58) ?hr ?_; (case hd => rfl); (case hg => rfl); (case hr => first | (go_simp; done) | (go_simp; rfl)); intro g6 hge w1 BK6 hb1; have hg6 : w.heap.size ≤ g6 := (by rw [hge]; exact Nat.le_refl _); clear hge; replace hb := bel_chain hb hb1; clear hb1)
          | (go_at_call 33; refine (path_in _ page hp0 hp1).mono ?_; rintro e w2 ⟨rfl, hb2⟩; replace BK6 := blk_below BK6 hb2; replace hb := bel_chain hb hb2; clear hb2)
          | ((with_reducible refine gate_dst (N := 13) rfl ?_); refine box_event ?hg (N := 13) ?hd (cs := #[.int .i64 0, .int .i64 0, .int .i64 0]) (t := 51) ?hr ?_; (case hd => rfl); (case hg => rfl); (case hr => first | (go_simp; done) | (go_simp; rfl)); intro g13 hge w3 BK13 hb3; have hg13 : w.heap.size ≤ g13 := (by rw [hge]; exact hb.size); have hne : g6 ≠ g13 := (by rw [hge]; exact Nat.ne_of_lt (blk_lt BK6)); clear hge; replace BK6 := blk_below BK6 hb3; replace hb := bel_chain hb hb3; clear hb3; obtain ⟨⟨c0, c1, c2⟩, r0, r1, r2⟩ := cells3 BK13; obtain ⟨d0, d1, s0, s1⟩ := cells2f BK6)
          | (go_at_call 55; (with_reducible refine (entry_any (HI.out.below hb) HF.out (root) (page / 256) _ _ _ _ _ H1.out O1.out).mono ?_); rintro e u1 ⟨rfl, hb9⟩; replace BK6 := blk_below BK6 hb9; replace BK13 := blk_below BK13 hb9; replace hb := bel_chain hb hb9; clear hb9; clear c0 c1 c2 r0 r1 r2 d0 d1 s0 s1; obtain ⟨⟨c0, c1, c2⟩, r0, r1, r2⟩ := cells3 BK13; obtain ⟨d0, d1, s0, s1⟩ := cells2f BK6)
          | fail)
        go_step3
        refine ⟨rfl, ?_⟩
        go_wp2
        obtain ⟨v9, e9, _, hb9, far9⟩ := store3 BK13 hb hg13 (.int .i64 K1) (.int .i64 f1) (.int .i64 p1)
        rw [e9]
        replace BK6 := far9 _ _ hne BK6
        clear hb
        have hb := hb9
        obtain ⟨v8, e8, BK8, hb8, _⟩ := store2 BK6 hb hg6 (.int .i64 0) (.int .i64 0)
        rw [e8]
        refine bodyPost_ret (results_ctt rfl _ _ g6 58 _ (0, 0) _ rfl BK8 Try.underlying58 rfl (by kernel_rfl)) rfl ?_
        exact ⟨rfl, hb8⟩
  · rw [if_neg hp]
    go_enter Try.func31, Try.ntmps31
    go_wp2_with (first
      | ((with_reducible refine gate_dst (N := 6) rfl ?_); refine box_event ?hg (N := 6) ?hd (cs := #[.int .i64 0, .int .i64 0]) (t := 58) ?hr ?_; (case hd => rfl); (case hg => rfl); (case hr => first | (go_simp; done) | (go_simp; rfl)); intro g6 hge w1 BK6 hb1; have hg6 : w.heap.size ≤ g6 := (by rw [hge]; exact Nat.le_refl _); clear hge; replace hb := bel_chain hb hb1; clear hb1)
      | (go_at_call 33; refine (path_out _ page hp).mono ?_; rintro e w2 ⟨rfl, hb2⟩; replace BK6 := blk_below BK6 hb2; replace hb := bel_chain hb hb2; clear hb2)
      | ((with_reducible refine gate_dst (N := 13) rfl ?_); refine box_event ?hg (N := 13) ?hd (cs := #[.int .i64 0, .int .i64 0, .int .i64 0]) (t := 51) ?hr ?_; (case hd => rfl); (case hg => rfl); (case hr => first | (go_simp; done) | (go_simp; rfl)); intro g13 hge w3 BK13 hb3; have hg13 : w.heap.size ≤ g13 := (by rw [hge]; exact hb.size); have hne : g6 ≠ g13 := (by rw [hge]; exact Nat.ne_of_lt (blk_lt BK6)); clear hge; replace BK6 := blk_below BK6 hb3; replace hb := bel_chain hb hb3; clear hb3; obtain ⟨⟨c0, c1, c2⟩, r0, r1, r2⟩ := cells3 BK13; obtain ⟨d0, d1, s0, s1⟩ := cells2f BK6)
      | fail)
    refine wp_scope_fwd 0 rfl ?_
    go_wp2_with (first
      | ((with_reducible refine gate_dst (N := 6) rfl ?_); refine box_event ?hg (N := 6) ?hd (cs := #[.int .i64 0, .int .i64 0]) (t := 58) ?hr ?_; (case hd => rfl); (case hg => rfl); (case hr => first | (go_simp; done) | (go_simp; rfl)); intro g6 hge w1 BK6 hb1; have hg6 : w.heap.size ≤ g6 := (by rw [hge]; exact Nat.le_refl _); clear hge; replace hb := bel_chain hb hb1; clear hb1)
      | (go_at_call 33; refine (path_out _ page hp).mono ?_; rintro e w2 ⟨rfl, hb2⟩; replace BK6 := blk_below BK6 hb2; replace hb := bel_chain hb hb2; clear hb2)
      | ((with_reducible refine gate_dst (N := 13) rfl ?_); refine box_event ?hg (N := 13) ?hd (cs := #[.int .i64 0, .int .i64 0, .int .i64 0]) (t := 51) ?hr ?_; (case hd => rfl); (case hg => rfl); (case hr => first | (go_simp; done) | (go_simp; rfl)); intro g13 hge w3 BK13 hb3; have hg13 : w.heap.size ≤ g13 := (by rw [hge]; exact hb.size); have hne : g6 ≠ g13 := (by rw [hge]; exact Nat.ne_of_lt (blk_lt BK6)); clear hge; replace BK6 := blk_below BK6 hb3; replace hb := bel_chain hb hb3; clear hb3; obtain ⟨⟨c0, c1, c2⟩, r0, r1, r2⟩ := cells3 BK13; obtain ⟨d0, d1, s0, s1⟩ := cells2f BK6)
      | fail)
    go_step3
    refine ⟨rfl, ?_⟩
    go_wp2
    obtain ⟨v8, e8, BK8, hb8, _⟩ := store2 BK6 hb hg6 (.int .i64 0) (.int .i64 0)
    rw [e8]
    refine bodyPost_ret (results_ctt rfl _ _ g6 58 _ (0, 0) _ rfl BK8 Try.underlying58 rfl (by kernel_rfl)) rfl ?_
    exact ⟨rfl, hb8⟩
end Go.Proofs.Ytdpjpmlajjfpgaa.Ram
/- Where pages lie: what the laws ask first; that a page's three numbers are its digits of sixteen. -/
namespace Go.Proofs.Ytdpjpmlajjfpgaa.Ram
open Go.RowKit Go.Proofs.Ytdpjpmlajjfpgaa.Mem Go.Proofs.Ytdpjpmlajjfpgaa.Kept Go.Proofs.Ytdpjpmlajjfpgaa.Slo Go.Proofs.Ytdpjpmlajjfpgaa.Bits
open Go.Proofs.Ytdpjpmlajjfpgaa.PWalkAll
open Go.Proofs.YtdpjpmlajjfpgaaW.PrintWords (nums ReadsInt results_ct results_ctt gate_dst box_event)
set_option linter.unusedVariables false
set_option linter.unusedSimpArgs false

theorem slot_any (w : World) (a b c v : Int) (h : mayB a b c = true) (hv : a + 4 * c + 4096 * b = v) :
    Calls Try.prog 28 #[.agg #[.int .i64 a, .int .i64 b, .int .i64 c]] w fun e w' => e = .returned (.int .u64 v) ∧ Below w.heap.size w w' :=
  (presidioref1_Slot.calls 1 a b c v w (by rw [rput_f 0 h, hv])).mono fun e w' h => ⟨h.1, h.2⟩
theorem walk_i {w : World} {B g b n : Nat} {F : List Int} {s : Int} (h : Is w B g b n F s) (hF : ∀ x ∈ F, 0 ≤ x ∧ x ≤ 255) (root page f p l E : Int) (hr : wk n s F root page = (f, p, l, E)) :
    Calls Try.prog 31 #[.pointer (some ⟨g, 0, none⟩), .int .i64 root, .int .i64 page] w fun e w' => e = .returned (.tuple #[.agg #[.int .i64 f, .int .i64 p], .int .i64 l, .int .i64 E]) ∧ Below w.heap.size w w' :=
  (walk_any h hF root page).mono fun e w' h => by rw [hr] at h; exact h
def bF1 : List Int := swF 5 0 (List.replicate (5 * 128) 0) true 0 0 4097
def bF2 : List Int := swF 5 0 bF1 true 1 0 8193
def bF3 : List Int := swF 5 0 bF2 true 2 3 16390
theorem bF3_mem : ∀ x ∈ bF3, 0 ≤ x ∧ x ≤ 255 := swF_mem (swF_mem (swF_mem mem_zero (by decide)) (by decide)) (by decide)
theorem bW3 : wk 5 0 bF3 0 3 = (4, 1, 3, 0) := by decide +kernel
theorem bW4 : wk 5 0 bF3 0 4 = (0, 0, 0, -20) := by decide +kernel
set_option maxRecDepth 100000 in
set_option maxHeartbeats 16000000 in
theorem wbegun (w : World) : Calls Try.prog 25 #[] w fun e w' => e = .returned (.bool true) ∧ Below w.heap.size w w' := by
  have hb := Below.refl w.heap.size w
  have hu51 := Try.underlying51
  have hu58 := Try.underlying58
  go_enter Try.func25, Try.ntmps25
  go_wp2_with (first
    | (go_at_call 33; (with_reducible refine (path_in _ 291 (by decide) (by decide)).mono ?_); rintro e w1 ⟨rfl, hb1⟩; replace hb := bel_chain hb hb1; clear hb1)
    | (go_at_call 26; (with_reducible refine (new_i w1 5 0 5 0 (by decide) (by decide)).mono ?_); rintro e w2 ⟨g, b, rfl, H0, hb2⟩; have hB := Lib.hid hb.size; have H := Lib.hid H0; replace hb := bel_chain hb hb2; clear hb2 H0)
    | (go_at_call 28; (with_reducible refine (slot_any _ 1 1 0 4097 (by decide) (by decide)).mono ?_); rintro e w3 ⟨rfl, hb3⟩; have H3 := Lib.hid (H.out.below hb3); replace hb := bel_chain hb hb3; clear hb3 H)
    | (go_at_call 29; (with_reducible refine (setWord_any H3.out true 0 0 4097 (by decide)).mono ?_); rintro e w4 ⟨rfl, H0, hk⟩; replace hb := bel_own hb H3.out hB.out hk; have H4 : Hid (Is w4 _ g b 5 bF1 0) := Lib.hid H0; clear hk H0 H3)
    | (go_at_call 28; (with_reducible refine (slot_any _ 1 2 0 8193 (by decide) (by decide)).mono ?_); rintro e w5 ⟨rfl, hb3⟩; have H5 := Lib.hid (H4.out.below hb3); replace hb := bel_chain hb hb3; clear hb3 H4)
    | (go_at_call 29; (with_reducible refine (setWord_any H5.out true 1 0 8193 (by decide)).mono ?_); rintro e w6 ⟨rfl, H0, hk⟩; replace hb := bel_own hb H5.out hB.out hk; have H6 : Hid (Is w6 _ g b 5 bF2 0) := Lib.hid H0; clear hk H0 H5)
    | (go_at_call 28; (with_reducible refine (slot_any _ 2 4 1 16390 (by decide) (by decide)).mono ?_); rintro e w7 ⟨rfl, hb3⟩; have H7 := Lib.hid (H6.out.below hb3); replace hb := bel_chain hb hb3; clear hb3 H6)
    | (go_at_call 29; (with_reducible refine (setWord_any H7.out true 2 3 16390 (by decide)).mono ?_); rintro e w8 ⟨rfl, H0, hk⟩; replace hb := bel_own hb H7.out hB.out hk; have H8 : Hid (Is w8 _ g b 5 bF3 0) := Lib.hid H0; clear hk H0 H7)
    | (go_at_call 31; (with_reducible refine (walk_i H8.out bF3_mem 0 3 4 1 3 0 bW3).mono ?_); rintro e w9 ⟨rfl, hb3⟩; have H9 := Lib.hid (H8.out.below hb3); replace hb := bel_chain hb hb3; clear hb3 H8)
    | ((with_reducible refine gate_dst (N := 6) rfl ?_); refine box_event ?hg (N := 6) ?hd (cs := #[.int .i64 0, .int .i64 0]) (t := 58) ?hr ?_; (case hd => rfl); (case hg => rfl); (case hr => first | (go_simp; done) | (go_simp; rfl)); intro g6 hge wa BK6 hb6; have hg6 : w9.heap.size ≤ g6 := (by rw [hge]; exact Nat.le_refl _); clear hge; obtain ⟨d0, d1, s0, s1⟩ := cells2f BK6)
    | (go_at_call 31; obtain ⟨wb, eb, BKb, hbb, _⟩ := store2 BK6 hb6 hg6 (.int .i64 4) (.int .i64 1); rw [eb]; (with_reducible refine (walk_i (H9.out.below hbb) bF3_mem 0 4 0 0 0 (-20) bW4).mono ?_); rintro e wc ⟨rfl, hbc⟩; replace BKb := blk_below BKb hbc; replace hb := bel_chain hb (bel_chain hbb hbc); clear hbc hbb eb hb6 BK6 d0 d1 s0 s1; obtain ⟨d0, d1, s0, s1⟩ := cells2f BKb)
    | ((with_reducible refine gate_dst (N := 9) rfl ?_); refine box_event ?hg (N := 9) ?hd (cs := #[.int .i64 0, .int .i64 0]) (t := 58) ?hr ?_; (case hd => rfl); (case hg => rfl); (case hr => first | (go_simp; done) | (go_simp; rfl)); intro g9 hge wd BK9 hb9; have hg9 : w.heap.size ≤ g9 := (by rw [hge]; exact hb.size); have hne : g6 ≠ g9 := (by rw [hge]; exact Nat.ne_of_lt (blk_lt BKb)); clear hge d0 d1 s0 s1; replace BKb := blk_below BKb hb9; replace hb := bel_chain hb hb9; obtain ⟨d0, d1, s0, s1⟩ := cells2f BKb; obtain ⟨q0, q1, r0, r1⟩ := cells2f BK9)
    | fail)
  go_ret
  exact ⟨rfl, (hb.setCell hg9 _).setCell hg9 _⟩
set_option maxRecDepth 100000 in
set_option maxHeartbeats 16000000 in
theorem paths_all (w : World) (p : Int) : Calls Try.prog 8 #[.int .i64 p] w fun e w' => e = .returned (.bool true) ∧ Below w.heap.size w w' := by
  have hb := Below.refl w.heap.size w
  by_cases hp : 0 ≤ p ∧ p < 4096
  · obtain ⟨a, ha⟩ : ∃ a, p / 256 = a := ⟨_, rfl⟩
    obtain ⟨b, hB⟩ : ∃ a, p / 16 % 16 = a := ⟨_, rfl⟩
    obtain ⟨c, hc⟩ : ∃ a, p % 16 = a := ⟨_, rfl⟩
    have a0 : decide (0 ≤ a) = true := decide_eq_true (by omega)
    have a1 : decide (a < 16) = true := decide_eq_true (by omega)
    have b0 : decide (0 ≤ b) = true := decide_eq_true (by omega)
    have b1 : decide (b < 16) = true := decide_eq_true (by omega)
    have c0 : decide (0 ≤ c) = true := decide_eq_true (by omega)
    have c1 : decide (c < 16) = true := decide_eq_true (by omega)
    have p0 : decide (p < 0) = false := decide_eq_false (by omega)
    have p1 : decide (4096 ≤ p) = false := decide_eq_false (by omega)
    have m1 : wrap64 (256 * a) = 256 * a := w64_in (by omega) (by omega)
    have m2 : wrap64 (16 * b) = 16 * b := w64_in (by omega) (by omega)
    have m3 : wrap64 (256 * a + 16 * b) = 256 * a + 16 * b := w64_in (by omega) (by omega)
    have m4 : wrap64 (256 * a + 16 * b + c) = p := by rw [w64_in (by omega) (by omega)]; omega
    have HP := Lib.hid hp
    have HA := Lib.hid ha
    have HB := Lib.hid hB
    have HC := Lib.hid hc
    clear hp ha hB hc
    go_enter Try.func8, Try.ntmps8
    go_wp2_with (first
      | (go_at_call 25; (with_reducible refine (wbegun _).mono ?_); rintro e w1 ⟨rfl, hb1⟩; replace hb := bel_chain hb hb1; clear hb1)
      | (go_at_call 33; (with_reducible refine (path_in _ p HP.out.1 HP.out.2).mono ?_); rw [HA.out, HB.out, HC.out]; rintro e w2 ⟨rfl, hb1⟩; replace hb := bel_chain hb hb1; clear hb1)
      | fail)
    go_ret
    exact ⟨rfl, hb⟩
  · have HP := Lib.hid hp
    by_cases h0 : p < 0
    · have p0 : decide (p < 0) = true := decide_eq_true h0
      clear hp h0
      go_enter Try.func8, Try.ntmps8
      go_wp2_with (first
        | (go_at_call 25; (with_reducible refine (wbegun _).mono ?_); rintro e w1 ⟨rfl, hb1⟩; replace hb := bel_chain hb hb1; clear hb1)
        | (go_at_call 33; (with_reducible refine (path_out _ p HP.out).mono ?_); rintro e w2 ⟨rfl, hb1⟩; replace hb := bel_chain hb hb1; clear hb1)
        | fail)
      go_ret
      exact ⟨rfl, hb⟩
    · have p0 : decide (p < 0) = false := decide_eq_false h0
      have p1 : decide (4096 ≤ p) = true := decide_eq_true (by omega)
      clear hp h0
      go_enter Try.func8, Try.ntmps8
      go_wp2_with (first
        | (go_at_call 25; (with_reducible refine (wbegun _).mono ?_); rintro e w1 ⟨rfl, hb1⟩; replace hb := bel_chain hb hb1; clear hb1)
        | (go_at_call 33; (with_reducible refine (path_out _ p HP.out).mono ?_); rintro e w2 ⟨rfl, hb1⟩; replace hb := bel_chain hb hb1; clear hb1)
        | fail)
      go_ret
      exact ⟨rfl, hb⟩
end Go.Proofs.Ytdpjpmlajjfpgaa.Ram
/- Words that are set and read again; that a block says sixteen pages in a row (plain). -/
namespace Go.Proofs.Ytdpjpmlajjfpgaa.Ram
open Go.RowKit Go.Proofs.Ytdpjpmlajjfpgaa.Mem Go.Proofs.Ytdpjpmlajjfpgaa.Kept Go.Proofs.Ytdpjpmlajjfpgaa.Slo Go.Proofs.Ytdpjpmlajjfpgaa.Bits
set_option linter.unusedVariables false
set_option linter.unusedSimpArgs false

theorem mayW_mk {n : Nat} {s f k : Int} (h0 : 0 ≤ f) (h1 : f < n) (h2 : 0 ≤ k) (h3 : k < 16) : mayW n s true f k = true := by
  unfold mayW
  simp only [Bool.and_eq_true, Bool.or_eq_true, decide_eq_true_eq]
  exact ⟨⟨⟨⟨h0, h1⟩, Or.inl trivial⟩, h2⟩, h3⟩
theorem wd_sw {n : Nat} {s : Int} {F : List Int} {f k v f' k' : Int} (hF : F.length = n * 128) (h : mayW n s true f k = true) (h' : mayW n s true f' k' = true) (hv : 0 ≤ v ∧ v ≤ 18446744073709551615) :
    wdV n s (swF n s F true f k v) true f' k' = if f' = f ∧ k' = k then v else wdV n s F true f' k' := by
  obtain ⟨a1, a2, _, a4, a5⟩ := mayW_yes h
  obtain ⟨b1, b2, _, b4, b5⟩ := mayW_yes h'
  obtain ⟨f, rfl⟩ : ∃ j : Nat, f = (j : Int) := ⟨f.toNat, by omega⟩
  obtain ⟨k, rfl⟩ : ∃ j : Nat, k = (j : Int) := ⟨k.toNat, by omega⟩
  obtain ⟨f', rfl⟩ : ∃ j : Nat, f' = (j : Int) := ⟨f'.toNat, by omega⟩
  obtain ⟨k', rfl⟩ : ∃ j : Nat, k' = (j : Int) := ⟨k'.toNat, by omega⟩
  unfold wdV swF
  rw [if_pos h, if_pos h']
  simp only [Int.toNat_natCast]
  have hl : (low8 v).length = 8 := rfl
  by_cases he : (f' : Int) = f ∧ (k' : Int) = k
  · rw [if_pos he]
    obtain ⟨e1, e2⟩ := he
    have e1 : f' = f := by omega
    have e2 : k' = k := by omega
    subst e1 e2
    rw [part_same hF (by omega) (by omega) hl, num_low v hv.1 hv.2]
  · rw [if_neg he, part_other hF (by omega) (by rw [hl]; omega) (by omega) (by omega) (by rw [hl]; omega), if_pos h']
theorem wd_zero {n : Nat} {s : Int} {f k : Int} (h : mayW n s true f k = true) : wdV n s (List.replicate (n * 128) 0) true f k = 0 := by
  obtain ⟨b1, b2, _, b4, b5⟩ := mayW_yes h
  unfold wdV
  rw [if_pos h, part_zero (by omega) (by omega)]
  rfl
theorem swF_len {n : Nat} {s : Int} {F : List Int} {f k v : Int} (hF : F.length = n * 128) : (swF n s F true f k v).length = n * 128 := by
  unfold swF
  by_cases h : mayW n s true f k = true
  · obtain ⟨b1, b2, _, b4, b5⟩ := mayW_yes h
    rw [if_pos h, splice_len (by rw [hF]; show _ + 8 ≤ _; omega), hF]
  · rw [if_neg h, hF]
theorem ent_sw {n : Nat} {s : Int} {F : List Int} {f k v t j : Int} (hF : F.length = n * 128) (h : mayW n s true f k = true) (hv : 0 ≤ v ∧ v ≤ 18446744073709551615) :
    ent n s (swF n s F true f k v) t j = if t = f ∧ j = k then tk v else ent n s F t j := by
  unfold ent
  by_cases h' : mayW n s true t j = true
  · rw [if_pos h', if_pos h', wd_sw hF h h' hv]
    split <;> rfl
  · rw [if_neg h', if_neg h', if_neg]
    rintro ⟨rfl, rfl⟩
    exact h' h
theorem ent_zero {n : Nat} {s : Int} {t j : Int} (h : mayW n s true t j = true) : ent n s (List.replicate (n * 128) 0) t j = (0, 0, 0, 0) := by
  unfold ent
  rw [if_pos h, wd_zero h]
  rfl
/-- Memory with a table and a block. -/
def blkF (A B f q : Int) : List Int := swF 60 60 (swF 60 60 (List.replicate (60 * 128) 0) true 1 A 8193) true 2 B (3 + 4 * q + 4096 * f)
theorem blk_wk {G f q p : Int} (hG : 0 ≤ G ∧ G ≤ 255) (hf : 0 ≤ f ∧ f < 50) (hq : 1 ≤ q ∧ q ≤ 7) :
    wk 60 60 (blkF (G / 16) (G % 16) f q) 1 p = if 0 ≤ p - 16 * G ∧ p - 16 * G < 16 ∧ f + (p - 16 * G) < 60 then (f + (p - 16 * G), q, 2, 0) else (0, 0, 0, -20) := by
  have z : (List.replicate (60 * 128) (0 : Int)).length = 60 * 128 := List.length_replicate
  have e1 : ∀ k, 0 ≤ k → k < 16 → ent 60 60 (blkF (G / 16) (G % 16) f q) 1 k = if k = G / 16 then (1, 2, 0, 0) else (0, 0, 0, 0) := by
    intro k h0 h1
    unfold blkF
    rw [ent_sw (swF_len z) (mayW_mk (by decide) (by decide) (by omega) (by omega)) (by omega), if_neg (fun h => absurd h.1 (by decide)), ent_sw z (mayW_mk (by decide) (by decide) (by omega) (by omega)) (by decide), ent_zero (mayW_mk (by decide) (by decide) h0 h1)]
    by_cases hk : k = G / 16
    · rw [if_pos ⟨rfl, hk⟩, if_pos hk]; rfl
    · rw [if_neg (fun h => hk h.2), if_neg hk]
  have e2 : ∀ k, 0 ≤ k → k < 16 → ent 60 60 (blkF (G / 16) (G % 16) f q) 2 k = if k = G % 16 then (3, f, q, 0) else (0, 0, 0, 0) := by
    intro k h0 h1
    unfold blkF
    rw [ent_sw (swF_len z) (mayW_mk (by decide) (by decide) (by omega) (by omega)) (by omega), ent_sw z (mayW_mk (by decide) (by decide) (by omega) (by omega)) (by decide), ent_zero (mayW_mk (by decide) (by decide) h0 h1)]
    by_cases hk : k = G % 16
    · rw [if_pos ⟨rfl, hk⟩, if_pos hk]
      refine tk_put (a := 3) (b := f) (c := q) ?_
      unfold mayB
      simp
      omega
    · rw [if_neg (fun h => hk h.2), if_neg (fun h => absurd h.1 (by decide)), if_neg hk]
  unfold wk
  by_cases hp : 0 ≤ p ∧ p < 4096
  · rw [if_pos hp, e1 _ (by omega) (by omega)]
    by_cases ha : p / 256 = G / 16
    · rw [if_pos ha]
      dsimp only
      rw [if_pos rfl, e2 _ (by omega) (by omega)]
      by_cases hb : p / 16 % 16 = G % 16
      · rw [if_pos hb]
        dsimp only
        rw [if_pos rfl]
        unfold lf
        have hm : p % 16 = p - 16 * G := by omega
        rw [hm]
        by_cases hl : f + (p - 16 * G) < ((60 : Nat) : Int)
        · rw [if_pos hl, if_pos (by omega)]
        · rw [if_neg hl, if_neg (by omega)]
      · rw [if_neg hb, if_neg (show ¬ (0 ≤ p - 16 * G ∧ p - 16 * G < 16 ∧ f + (p - 16 * G) < 60) by omega)]
        rfl
    · rw [if_neg ha, if_neg (show ¬ (0 ≤ p - 16 * G ∧ p - 16 * G < 16 ∧ f + (p - 16 * G) < 60) by omega)]
      rfl
  · rw [if_neg hp, if_neg (show ¬ (0 ≤ p - 16 * G ∧ p - 16 * G < 16 ∧ f + (p - 16 * G) < 60) by omega)]
end Go.Proofs.Ytdpjpmlajjfpgaa.Ram
