/- Where a page lies, through any words: the program's walk, whole. -/
import Derived.Test.YtdpjpmlajjfpgaaWlk
import Derived.WalkMore
import Derived.ScopeJumps
namespace Go.Proofs.Ytdpjpmlajjfpgaa.Ram
open Go.RowKit Go.Proofs.Ytdpjpmlajjfpgaa.Mem Go.Proofs.Ytdpjpmlajjfpgaa.Kept Go.Proofs.Ytdpjpmlajjfpgaa.Slo Go.Proofs.Ytdpjpmlajjfpgaa.Bits
open Go.Proofs.YtdpjpmlajjfpgaaW.PrintWords (nums ReadsInt results_ct results_ctt gate_dst box_event)
set_option linter.unusedVariables false
set_option linter.unusedSimpArgs false

/-- A scope that is left forward, to one label. -/
theorem wp_scope_fwd {P : Program} {Q : Exit → Act → World → Prop} {a : Act} {w : World} {c rest : Code} (l : Nat) (hf : findLabel c l = some rest) (h : c.wp P (Exit.jump l (fun a w => rest.wp P (Exit.noGoto Q) a w) Q) a w) : (Code.scope c).wp P Q a w :=
  wp_scope_jumps l (fun a w => rest.wp P (Exit.noGoto Q) a w) (fun _ _ => 0) hf h (fun a w hJ => Code.wp_mono (fun e a w hq => by cases e <;> first | exact hq | exact hq.elim) hJ)
theorem cells2f {w : World} {g : Nat} {t : TypeId} {x y : Value} (h : w.heap[g]? = some (.cells #[x, y] t (0, 0))) : w.cell? ⟨g, 0, none⟩ = some x ∧ w.cell? ⟨g, 1, none⟩ = some y ∧ w.frozen? ⟨g, 0, none⟩ = false ∧ w.frozen? ⟨g, 1, none⟩ = false :=
  ⟨blk_cell h 0, blk_cell h 1, blk_free h 0, blk_free h 1⟩
theorem frames_q {w : World} {B g b n : Nat} {F : List Int} {s : Int} (h : Is w B g b n F s) : Calls Try.prog 56 #[.pointer (some ⟨g, 0, none⟩)] w fun e w' => e = .returned (.int .i64 n) ∧ w' = w :=
  (frames_any h).mono fun _ _ ⟨h1, h2⟩ => ⟨h1, h2.symm⟩
/-- What a walk answers. -/
def WPost (w : World) (r : Int × Int × Int × Int) (e : Ending) (w' : World) : Prop := e = .returned (.tuple #[.agg #[.int .i64 r.1, .int .i64 r.2.1], .int .i64 r.2.2.1, .int .i64 r.2.2.2]) ∧ Below w.heap.size w w'

set_option maxRecDepth 100000 in
set_option maxHeartbeats 16000000 in
theorem walk_any {w : World} {B g b n : Nat} {F : List Int} {s : Int} (h : Is w B g b n F s) (hF : ∀ x ∈ F, 0 ≤ x ∧ x ≤ 255) (root page : Int) :
    Calls Try.prog 31 #[.pointer (some ⟨g, 0, none⟩), .int .i64 root, .int .i64 page] w (WPost w (wk n s F root page)) := by
  have hb := Below.refl w.heap.size w
  have hu51 := Try.underlying51
  have hu58 := Try.underlying58
  have HI := Lib.hid h
  have HF := Lib.hid hF
  clear h hF
  unfold wk
  by_cases hp : 0 ≤ page ∧ page < 4096
  · rw [if_pos hp]
    obtain ⟨hp0, hp1⟩ := hp
    obtain ⟨b1, b2, b3, b4, b5⟩ := ent_in n s F root (page / 256)
    obtain ⟨K1, f1, p1, E1, h1⟩ : ∃ K f p E, ent n s F root (page / 256) = (K, f, p, E) := ⟨_, _, _, _, rfl⟩
    rw [h1] at b1 b2 b3 b4 b5 ⊢
    have H1 := Lib.hid h1
    clear h1
    obtain ⟨o1, O1⟩ : ∃ o, Hid (decide (E1 = 0) = o) := ⟨_, Lib.hid rfl⟩
    dsimp only at b1 b2 b3 b4 b5 ⊢
    by_cases hK1 : K1 = 1
    · have hE1 : E1 = 0 := by by_cases hh : E1 = 0; exact hh; exact absurd (b5 hh) (by omega)
      have ho1 : o1 = true := by rw [← O1.out, hE1]; rfl
      subst hK1 ho1
      rw [if_pos rfl]
      clear b5 hE1
      obtain ⟨B1, B2, B3, B4, B5⟩ := ent_in n s F f1 (page / 16 % 16)
      obtain ⟨K2, f2, p2, E2, h2⟩ : ∃ K f p E, ent n s F f1 (page / 16 % 16) = (K, f, p, E) := ⟨_, _, _, _, rfl⟩
      rw [h2] at B1 B2 B3 B4 B5 ⊢
      have H2 := Lib.hid h2
      clear h2
      obtain ⟨o2, O2⟩ : ∃ o, Hid (decide (E2 = 0) = o) := ⟨_, Lib.hid rfl⟩
      dsimp only at B1 B2 B3 B4 B5 ⊢
      by_cases hK3 : K2 = 3
      · have hE2 : E2 = 0 := by by_cases hh : E2 = 0; exact hh; exact absurd (B5 hh) (by omega)
        have ho2 : o2 = true := by rw [← O2.out, hE2]; rfl
        subst hK3 ho2
        rw [if_pos rfl]
        clear B5 hE2
        have hw : wrap64 (f2 + page % 16) = f2 + page % 16 := w64_in (by omega) (by omega)
        have hw' : IntKind.i64.wrap (f2 + page % 16) = f2 + page % 16 := by rw [IntKind.wrap_i64]; omega
        go_enter Try.func31, Try.ntmps31
        go_wp2_with (first
          | ((with_reducible refine gate_dst (N := 6) rfl ?_); refine box_event ?hg (N := 6) ?hd (cs := #[.int .i64 0, .int .i64 0]) (t := 58) ?hr ?_; (case hd => rfl); (case hg => rfl); (case hr => first | (go_simp; done) | (go_simp; rfl)); intro g6 hge w1 BK6 hb1; have hg6 : w.heap.size ≤ g6 := (by rw [hge]; exact Nat.le_refl _); clear hge; replace hb := bel_chain hb hb1; clear hb1)
          | (go_at_call 33; refine (path_in _ page hp0 hp1).mono ?_; rintro e w2 ⟨rfl, hb2⟩; replace BK6 := blk_below BK6 hb2; replace hb := bel_chain hb hb2; clear hb2)
          | ((with_reducible refine gate_dst (N := 13) rfl ?_); refine box_event ?hg (N := 13) ?hd (cs := #[.int .i64 0, .int .i64 0, .int .i64 0]) (t := 51) ?hr ?_; (case hd => rfl); (case hg => rfl); (case hr => first | (go_simp; done) | (go_simp; rfl)); intro g13 hge w3 BK13 hb3; have hg13 : w.heap.size ≤ g13 := (by rw [hge]; exact hb.size); have hne : g6 ≠ g13 := (by rw [hge]; exact Nat.ne_of_lt (blk_lt BK6)); clear hge; replace BK6 := blk_below BK6 hb3; replace hb := bel_chain hb hb3; clear hb3; obtain ⟨⟨c0, c1, c2⟩, r0, r1, r2⟩ := cells3 BK13; obtain ⟨d0, d1, s0, s1⟩ := cells2f BK6)
          | (go_at_call 55; (with_reducible refine (entry_any (HI.out.below hb) HF.out (root) (page / 256) _ _ _ _ _ H1.out O1.out).mono ?_); rintro e u1 ⟨rfl, hb9⟩; replace BK6 := blk_below BK6 hb9; replace BK13 := blk_below BK13 hb9; replace hb := bel_chain hb hb9; clear hb9; clear c0 c1 c2 r0 r1 r2 d0 d1 s0 s1; obtain ⟨⟨c0, c1, c2⟩, r0, r1, r2⟩ := cells3 BK13; obtain ⟨d0, d1, s0, s1⟩ := cells2f BK6)
          | (go_at_call 55; obtain ⟨v1, e1, BK1', hb1', far1⟩ := store3 BK13 hb hg13 (.int .i64 1) (.int .i64 f1) (.int .i64 p1); rw [e1]; clear e1 c0 c1 c2 r0 r1 r2 d0 d1 s0 s1; replace BK6 := far1 _ _ hne BK6; clear far1 BK13; have BK13 := BK1'; clear BK1' hb; have hb := hb1'; clear hb1'; (with_reducible refine (entry_any (HI.out.below hb) HF.out (f1) (page / 16 % 16) _ _ _ _ _ H2.out O2.out).mono ?_); rintro e u2 ⟨rfl, hb9⟩; replace BK6 := blk_below BK6 hb9; replace BK13 := blk_below BK13 hb9; replace hb := bel_chain hb hb9; clear hb9; obtain ⟨⟨c0, c1, c2⟩, r0, r1, r2⟩ := cells3 BK13; obtain ⟨d0, d1, s0, s1⟩ := cells2f BK6)
          | fail)
        refine wp_scope_fwd 1 rfl ?_
        go_wp2_with (first
          | ((with_reducible refine gate_dst (N := 6) rfl ?_); refine box_event ?hg (N := 6) ?hd (cs := #[.int .i64 0, .int .i64 0]) (t := 58) ?hr ?_; (case hd => rfl); (case hg => rfl); (case hr => first | (go_simp; done) | (go_simp; rfl)); intro g6 hge w1 BK6 hb1; have hg6 : w.heap.size ≤ g6 := (by rw [hge]; exact Nat.le_refl _); clear hge; replace hb := bel_chain hb hb1; clear hb1)
          | (go_at_call 33; refine (path_in _ page hp0 hp1).mono ?_; rintro e w2 ⟨rfl, hb2⟩; replace BK6 := blk_below BK6 hb2; replace hb := bel_chain hb hb2; clear hb2)
          | ((with_reducible refine gate_dst (N := 13) rfl ?_); refine box_event ?hg (N := 13) ?hd (cs := #[.int .i64 0, .int .i64 0, .int .i64 0]) (t := 51) ?hr ?_; (case hd => rfl); (case hg => rfl); (case hr => first | (go_simp; done) | (go_simp; rfl)); intro g13 hge w3 BK13 hb3; have hg13 : w.heap.size ≤ g13 := (by rw [hge]; exact hb.size); have hne : g6 ≠ g13 := (by rw [hge]; exact Nat.ne_of_lt (blk_lt BK6)); clear hge; replace BK6 := blk_below BK6 hb3; replace hb := bel_chain hb hb3; clear hb3; obtain ⟨⟨c0, c1, c2⟩, r0, r1, r2⟩ := cells3 BK13; obtain ⟨d0, d1, s0, s1⟩ := cells2f BK6)
          | (go_at_call 55; (with_reducible refine (entry_any (HI.out.below hb) HF.out (root) (page / 256) _ _ _ _ _ H1.out O1.out).mono ?_); rintro e u1 ⟨rfl, hb9⟩; replace BK6 := blk_below BK6 hb9; replace BK13 := blk_below BK13 hb9; replace hb := bel_chain hb hb9; clear hb9; clear c0 c1 c2 r0 r1 r2 d0 d1 s0 s1; obtain ⟨⟨c0, c1, c2⟩, r0, r1, r2⟩ := cells3 BK13; obtain ⟨d0, d1, s0, s1⟩ := cells2f BK6)
          | (go_at_call 55; obtain ⟨v1, e1, BK1', hb1', far1⟩ := store3 BK13 hb hg13 (.int .i64 1) (.int .i64 f1) (.int .i64 p1); rw [e1]; clear e1 c0 c1 c2 r0 r1 r2 d0 d1 s0 s1; replace BK6 := far1 _ _ hne BK6; clear far1 BK13; have BK13 := BK1'; clear BK1' hb; have hb := hb1'; clear hb1'; (with_reducible refine (entry_any (HI.out.below hb) HF.out (f1) (page / 16 % 16) _ _ _ _ _ H2.out O2.out).mono ?_); rintro e u2 ⟨rfl, hb9⟩; replace BK6 := blk_below BK6 hb9; replace BK13 := blk_below BK13 hb9; replace hb := bel_chain hb hb9; clear hb9; obtain ⟨⟨c0, c1, c2⟩, r0, r1, r2⟩ := cells3 BK13; obtain ⟨d0, d1, s0, s1⟩ := cells2f BK6)
          | fail)
        go_step3
        refine ⟨rfl, ?_⟩
        go_wp2
        obtain ⟨v9, e9, _, hb9, far9⟩ := store3 BK13 hb hg13 (.int .i64 3) (.int .i64 f2) (.int .i64 p2)
        rw [e9]
        replace BK6 := far9 _ _ hne BK6
        clear hb
        have hb := hb9
        obtain ⟨v7, e7, BK7, hb7, _⟩ := store2 BK6 hb hg6 (.int .i64 (f2 + page % 16)) (.int .i64 p2)
        rw [e7]
        obtain ⟨d0, d1, s0, s1⟩ := cells2f BK7
        by_cases hlt : f2 + page % 16 < (n : Int)
        · have dl : decide (f2 + page % 16 < (n : Int)) = true := decide_eq_true hlt
          have hL := Lib.hid (show lf n (f2 + page % 16) p2 2 = (f2 + page % 16, p2, 2, 0) from if_pos hlt)
          clear hlt
          go_quiet ((go_at_call 56; exact Calls.quiet_of_same (frames_q ((HI.out.below hb7).below (bel_drewN (Below.refl _ _) _)))))
          go_wp2
          obtain ⟨v8, e8, BK8, hb8, _⟩ := store2 (w := v7.drewN nq) BK7 (bel_drewN hb7 nq) hg6 (.int .i64 (f2 + page % 16)) (.int .i64 p2)
          rw [e8]
          (try rw [Exit.noGoto_ret])
          refine bodyPost_ret (results_ctt rfl _ _ g6 58 _ (0, 0) _ rfl BK8 Try.underlying58 rfl (by kernel_rfl)) rfl ?_
          refine ⟨?_, hb8⟩
          rw [hL.out]
          rfl
        · have dl : decide (f2 + page % 16 < (n : Int)) = false := decide_eq_false hlt
          have hL := Lib.hid (show lf n (f2 + page % 16) p2 2 = (0, 0, 0, -20) from if_neg hlt)
          clear hlt
          go_quiet ((go_at_call 56; exact Calls.quiet_of_same (frames_q ((HI.out.below hb7).below (bel_drewN (Below.refl _ _) _)))))
          go_wp2
          go_step3
          go_wp2
          obtain ⟨v8, e8, BK8, hb8, _⟩ := store2 (w := v7.drewN nq) BK7 (bel_drewN hb7 nq) hg6 (.int .i64 (0)) (.int .i64 0)
          rw [e8]
          (try rw [Exit.noGoto_ret])
          refine bodyPost_ret (results_ctt rfl _ _ g6 58 _ (0, 0) _ rfl BK8 Try.underlying58 rfl (by kernel_rfl)) rfl ?_
          refine ⟨?_, hb8⟩
          rw [hL.out]
          rfl
      · rw [if_neg hK3]
        by_cases hK2 : K2 = 1
        · have hE2 : E2 = 0 := by by_cases hh : E2 = 0; exact hh; exact absurd (B5 hh) (by omega)
          have ho2 : o2 = true := by rw [← O2.out, hE2]; rfl
          subst hK2 ho2
          rw [if_pos rfl]
          clear B5 hE2 hK3
          obtain ⟨C1, C2, C3, C4, C5⟩ := ent_in n s F f2 (page % 16)
          obtain ⟨K3, f3, p3, E3, h3⟩ : ∃ K f p E, ent n s F f2 (page % 16) = (K, f, p, E) := ⟨_, _, _, _, rfl⟩
          rw [h3] at C1 C2 C3 C4 C5 ⊢
          have H3 := Lib.hid h3
          clear h3
          obtain ⟨o3, O3⟩ : ∃ o, Hid (decide (E3 = 0) = o) := ⟨_, Lib.hid rfl⟩
          dsimp only at C1 C2 C3 C4 C5 ⊢
          by_cases hK4 : K3 = 2
          · have hE3 : E3 = 0 := by by_cases hh : E3 = 0; exact hh; exact absurd (C5 hh) (by omega)
            have ho3 : o3 = true := by rw [← O3.out, hE3]; rfl
            subst hK4 ho3
            rw [if_pos rfl]
            clear C5 hE3
            go_enter Try.func31, Try.ntmps31
            go_wp2_with (first
              | ((with_reducible refine gate_dst (N := 6) rfl ?_); refine box_event ?hg (N := 6) ?hd (cs := #[.int .i64 0, .int .i64 0]) (t := 58) ?hr ?_; (case hd => rfl); (case hg => rfl); (case hr => first | (go_simp; done) | (go_simp; rfl)); intro g6 hge w1 BK6 hb1; have hg6 : w.heap.size ≤ g6 := (by rw [hge]; exact Nat.le_refl _); clear hge; replace hb := bel_chain hb hb1; clear hb1)
              | (go_at_call 33; refine (path_in _ page hp0 hp1).mono ?_; rintro e w2 ⟨rfl, hb2⟩; replace BK6 := blk_below BK6 hb2; replace hb := bel_chain hb hb2; clear hb2)
              | ((with_reducible refine gate_dst (N := 13) rfl ?_); refine box_event ?hg (N := 13) ?hd (cs := #[.int .i64 0, .int .i64 0, .int .i64 0]) (t := 51) ?hr ?_; (case hd => rfl); (case hg => rfl); (case hr => first | (go_simp; done) | (go_simp; rfl)); intro g13 hge w3 BK13 hb3; have hg13 : w.heap.size ≤ g13 := (by rw [hge]; exact hb.size); have hne : g6 ≠ g13 := (by rw [hge]; exact Nat.ne_of_lt (blk_lt BK6)); clear hge; replace BK6 := blk_below BK6 hb3; replace hb := bel_chain hb hb3; clear hb3; obtain ⟨⟨c0, c1, c2⟩, r0, r1, r2⟩ := cells3 BK13; obtain ⟨d0, d1, s0, s1⟩ := cells2f BK6)
              | (go_at_call 55; (with_reducible refine (entry_any (HI.out.below hb) HF.out (root) (page / 256) _ _ _ _ _ H1.out O1.out).mono ?_); rintro e u1 ⟨rfl, hb9⟩; replace BK6 := blk_below BK6 hb9; replace BK13 := blk_below BK13 hb9; replace hb := bel_chain hb hb9; clear hb9; clear c0 c1 c2 r0 r1 r2 d0 d1 s0 s1; obtain ⟨⟨c0, c1, c2⟩, r0, r1, r2⟩ := cells3 BK13; obtain ⟨d0, d1, s0, s1⟩ := cells2f BK6)
              | (go_at_call 55; obtain ⟨v1, e1, BK1', hb1', far1⟩ := store3 BK13 hb hg13 (.int .i64 1) (.int .i64 f1) (.int .i64 p1); rw [e1]; clear e1 c0 c1 c2 r0 r1 r2 d0 d1 s0 s1; replace BK6 := far1 _ _ hne BK6; clear far1 BK13; have BK13 := BK1'; clear BK1' hb; have hb := hb1'; clear hb1'; (with_reducible refine (entry_any (HI.out.below hb) HF.out (f1) (page / 16 % 16) _ _ _ _ _ H2.out O2.out).mono ?_); rintro e u2 ⟨rfl, hb9⟩; replace BK6 := blk_below BK6 hb9; replace BK13 := blk_below BK13 hb9; replace hb := bel_chain hb hb9; clear hb9; obtain ⟨⟨c0, c1, c2⟩, r0, r1, r2⟩ := cells3 BK13; obtain ⟨d0, d1, s0, s1⟩ := cells2f BK6)
              | (go_at_call 55; obtain ⟨v2, e2, BK2', hb2', far2⟩ := store3 BK13 hb hg13 (.int .i64 1) (.int .i64 f2) (.int .i64 p2); rw [e2]; clear e2 c0 c1 c2 r0 r1 r2 d0 d1 s0 s1; replace BK6 := far2 _ _ hne BK6; clear far2 BK13; have BK13 := BK2'; clear BK2' hb; have hb := hb2'; clear hb2'; (with_reducible refine (entry_any (HI.out.below hb) HF.out (f2) (page % 16) _ _ _ _ _ H3.out O3.out).mono ?_); rintro e u3 ⟨rfl, hb9⟩; replace BK6 := blk_below BK6 hb9; replace BK13 := blk_below BK13 hb9; replace hb := bel_chain hb hb9; clear hb9; obtain ⟨⟨c0, c1, c2⟩, r0, r1, r2⟩ := cells3 BK13; obtain ⟨d0, d1, s0, s1⟩ := cells2f BK6)
              | fail)
            go_step3
            go_wp2_with (first
              | ((with_reducible refine gate_dst (N := 6) rfl ?_); refine box_event ?hg (N := 6) ?hd (cs := #[.int .i64 0, .int .i64 0]) (t := 58) ?hr ?_; (case hd => rfl); (case hg => rfl); (case hr => first | (go_simp; done) | (go_simp; rfl)); intro g6 hge w1 BK6 hb1; have hg6 : w.heap.size ≤ g6 := (by rw [hge]; exact Nat.le_refl _); clear hge; replace hb := bel_chain hb hb1; clear hb1)
              | (go_at_call 33; refine (path_in _ page hp0 hp1).mono ?_; rintro e w2 ⟨rfl, hb2⟩; replace BK6 := blk_below BK6 hb2; replace hb := bel_chain hb hb2; clear hb2)
              | ((with_reducible refine gate_dst (N := 13) rfl ?_); refine box_event ?hg (N := 13) ?hd (cs := #[.int .i64 0, .int .i64 0, .int .i64 0]) (t := 51) ?hr ?_; (case hd => rfl); (case hg => rfl); (case hr => first | (go_simp; done) | (go_simp; rfl)); intro g13 hge w3 BK13 hb3; have hg13 : w.heap.size ≤ g13 := (by rw [hge]; exact hb.size); have hne : g6 ≠ g13 := (by rw [hge]; exact Nat.ne_of_lt (blk_lt BK6)); clear hge; replace BK6 := blk_below BK6 hb3; replace hb := bel_chain hb hb3; clear hb3; obtain ⟨⟨c0, c1, c2⟩, r0, r1, r2⟩ := cells3 BK13; obtain ⟨d0, d1, s0, s1⟩ := cells2f BK6)
              | (go_at_call 55; (with_reducible refine (entry_any (HI.out.below hb) HF.out (root) (page / 256) _ _ _ _ _ H1.out O1.out).mono ?_); rintro e u1 ⟨rfl, hb9⟩; replace BK6 := blk_below BK6 hb9; replace BK13 := blk_below BK13 hb9; replace hb := bel_chain hb hb9; clear hb9; clear c0 c1 c2 r0 r1 r2 d0 d1 s0 s1; obtain ⟨⟨c0, c1, c2⟩, r0, r1, r2⟩ := cells3 BK13; obtain ⟨d0, d1, s0, s1⟩ := cells2f BK6)
              | (go_at_call 55; obtain ⟨v1, e1, BK1', hb1', far1⟩ := store3 BK13 hb hg13 (.int .i64 1) (.int .i64 f1) (.int .i64 p1); rw [e1]; clear e1 c0 c1 c2 r0 r1 r2 d0 d1 s0 s1; replace BK6 := far1 _ _ hne BK6; clear far1 BK13; have BK13 := BK1'; clear BK1' hb; have hb := hb1'; clear hb1'; (with_reducible refine (entry_any (HI.out.below hb) HF.out (f1) (page / 16 % 16) _ _ _ _ _ H2.out O2.out).mono ?_); rintro e u2 ⟨rfl, hb9⟩; replace BK6 := blk_below BK6 hb9; replace BK13 := blk_below BK13 hb9; replace hb := bel_chain hb hb9; clear hb9; obtain ⟨⟨c0, c1, c2⟩, r0, r1, r2⟩ := cells3 BK13; obtain ⟨d0, d1, s0, s1⟩ := cells2f BK6)
              | (go_at_call 55; obtain ⟨v2, e2, BK2', hb2', far2⟩ := store3 BK13 hb hg13 (.int .i64 1) (.int .i64 f2) (.int .i64 p2); rw [e2]; clear e2 c0 c1 c2 r0 r1 r2 d0 d1 s0 s1; replace BK6 := far2 _ _ hne BK6; clear far2 BK13; have BK13 := BK2'; clear BK2' hb; have hb := hb2'; clear hb2'; (with_reducible refine (entry_any (HI.out.below hb) HF.out (f2) (page % 16) _ _ _ _ _ H3.out O3.out).mono ?_); rintro e u3 ⟨rfl, hb9⟩; replace BK6 := blk_below BK6 hb9; replace BK13 := blk_below BK13 hb9; replace hb := bel_chain hb hb9; clear hb9; obtain ⟨⟨c0, c1, c2⟩, r0, r1, r2⟩ := cells3 BK13; obtain ⟨d0, d1, s0, s1⟩ := cells2f BK6)
              | fail)
            go_step3
            go_wp2
            obtain ⟨v9, e9, _, hb9, far9⟩ := store3 BK13 hb hg13 (.int .i64 2) (.int .i64 f3) (.int .i64 p3)
            rw [e9]
            replace BK6 := far9 _ _ hne BK6
            clear hb
            have hb := hb9
            obtain ⟨v7, e7, BK7, hb7, _⟩ := store2 BK6 hb hg6 (.int .i64 (f3)) (.int .i64 p3)
            rw [e7]
            obtain ⟨d0, d1, s0, s1⟩ := cells2f BK7
            by_cases hlt : f3 < (n : Int)
            · have dl : decide (f3 < (n : Int)) = true := decide_eq_true hlt
              have hL := Lib.hid (show lf n (f3) p3 3 = (f3, p3, 3, 0) from if_pos hlt)
              clear hlt
              go_quiet ((go_at_call 56; exact Calls.quiet_of_same (frames_q ((HI.out.below hb7).below (bel_drewN (Below.refl _ _) _)))))
              go_wp2
              obtain ⟨v8, e8, BK8, hb8, _⟩ := store2 (w := v7.drewN nq) BK7 (bel_drewN hb7 nq) hg6 (.int .i64 (f3)) (.int .i64 p3)
              rw [e8]
              (try rw [Exit.noGoto_ret])
              refine bodyPost_ret (results_ctt rfl _ _ g6 58 _ (0, 0) _ rfl BK8 Try.underlying58 rfl (by kernel_rfl)) rfl ?_
              refine ⟨?_, hb8⟩
              rw [hL.out]
              rfl
            · have dl : decide (f3 < (n : Int)) = false := decide_eq_false hlt
              have hL := Lib.hid (show lf n (f3) p3 3 = (0, 0, 0, -20) from if_neg hlt)
              clear hlt
              go_quiet ((go_at_call 56; exact Calls.quiet_of_same (frames_q ((HI.out.below hb7).below (bel_drewN (Below.refl _ _) _)))))
              go_wp2
              go_step3
              go_wp2
              obtain ⟨v8, e8, BK8, hb8, _⟩ := store2 (w := v7.drewN nq) BK7 (bel_drewN hb7 nq) hg6 (.int .i64 (0)) (.int .i64 0)
              rw [e8]
              (try rw [Exit.noGoto_ret])
              refine bodyPost_ret (results_ctt rfl _ _ g6 58 _ (0, 0) _ rfl BK8 Try.underlying58 rfl (by kernel_rfl)) rfl ?_
              refine ⟨?_, hb8⟩
              rw [hL.out]
              rfl
          · rw [if_neg hK4]
            have q1 : (K3 == 2) = false := beq_eq_false_iff_ne.mpr hK4
            have q2 : (K3 != 2) = true := bne_iff_ne.mpr hK4
            clear C5 hK4
            cases o3 with
            | true =>
              go_enter Try.func31, Try.ntmps31
              go_wp2_with (first
                | ((with_reducible refine gate_dst (N := 6) rfl ?_); refine box_event ?hg (N := 6) ?hd (cs := #[.int .i64 0, .int .i64 0]) (t := 58) ?hr ?_; (case hd => rfl); (case hg => rfl); (case hr => first | (go_simp; done) | (go_simp; rfl)); intro g6 hge w1 BK6 hb1; have hg6 : w.heap.size ≤ g6 := (by rw [hge]; exact Nat.le_refl _); clear hge; replace hb := bel_chain hb hb1; clear hb1)
                | (go_at_call 33; refine (path_in _ page hp0 hp1).mono ?_; rintro e w2 ⟨rfl, hb2⟩; replace BK6 := blk_below BK6 hb2; replace hb := bel_chain hb hb2; clear hb2)
                | ((with_reducible refine gate_dst (N := 13) rfl ?_); refine box_event ?hg (N := 13) ?hd (cs := #[.int .i64 0, .int .i64 0, .int .i64 0]) (t := 51) ?hr ?_; (case hd => rfl); (case hg => rfl); (case hr => first | (go_simp; done) | (go_simp; rfl)); intro g13 hge w3 BK13 hb3; have hg13 : w.heap.size ≤ g13 := (by rw [hge]; exact hb.size); have hne : g6 ≠ g13 := (by rw [hge]; exact Nat.ne_of_lt (blk_lt BK6)); clear hge; replace BK6 := blk_below BK6 hb3; replace hb := bel_chain hb hb3; clear hb3; obtain ⟨⟨c0, c1, c2⟩, r0, r1, r2⟩ := cells3 BK13; obtain ⟨d0, d1, s0, s1⟩ := cells2f BK6)
                | (go_at_call 55; (with_reducible refine (entry_any (HI.out.below hb) HF.out (root) (page / 256) _ _ _ _ _ H1.out O1.out).mono ?_); rintro e u1 ⟨rfl, hb9⟩; replace BK6 := blk_below BK6 hb9; replace BK13 := blk_below BK13 hb9; replace hb := bel_chain hb hb9; clear hb9; clear c0 c1 c2 r0 r1 r2 d0 d1 s0 s1; obtain ⟨⟨c0, c1, c2⟩, r0, r1, r2⟩ := cells3 BK13; obtain ⟨d0, d1, s0, s1⟩ := cells2f BK6)
                | (go_at_call 55; obtain ⟨v1, e1, BK1', hb1', far1⟩ := store3 BK13 hb hg13 (.int .i64 1) (.int .i64 f1) (.int .i64 p1); rw [e1]; clear e1 c0 c1 c2 r0 r1 r2 d0 d1 s0 s1; replace BK6 := far1 _ _ hne BK6; clear far1 BK13; have BK13 := BK1'; clear BK1' hb; have hb := hb1'; clear hb1'; (with_reducible refine (entry_any (HI.out.below hb) HF.out (f1) (page / 16 % 16) _ _ _ _ _ H2.out O2.out).mono ?_); rintro e u2 ⟨rfl, hb9⟩; replace BK6 := blk_below BK6 hb9; replace BK13 := blk_below BK13 hb9; replace hb := bel_chain hb hb9; clear hb9; obtain ⟨⟨c0, c1, c2⟩, r0, r1, r2⟩ := cells3 BK13; obtain ⟨d0, d1, s0, s1⟩ := cells2f BK6)
                | (go_at_call 55; obtain ⟨v2, e2, BK2', hb2', far2⟩ := store3 BK13 hb hg13 (.int .i64 1) (.int .i64 f2) (.int .i64 p2); rw [e2]; clear e2 c0 c1 c2 r0 r1 r2 d0 d1 s0 s1; replace BK6 := far2 _ _ hne BK6; clear far2 BK13; have BK13 := BK2'; clear BK2' hb; have hb := hb2'; clear hb2'; (with_reducible refine (entry_any (HI.out.below hb) HF.out (f2) (page % 16) _ _ _ _ _ H3.out O3.out).mono ?_); rintro e u3 ⟨rfl, hb9⟩; replace BK6 := blk_below BK6 hb9; replace BK13 := blk_below BK13 hb9; replace hb := bel_chain hb hb9; clear hb9; obtain ⟨⟨c0, c1, c2⟩, r0, r1, r2⟩ := cells3 BK13; obtain ⟨d0, d1, s0, s1⟩ := cells2f BK6)
                | fail)
              refine wp_scope_fwd 0 rfl ?_
              go_wp2_with (first
                | ((with_reducible refine gate_dst (N := 6) rfl ?_); refine box_event ?hg (N := 6) ?hd (cs := #[.int .i64 0, .int .i64 0]) (t := 58) ?hr ?_; (case hd => rfl); (case hg => rfl); (case hr => first | (go_simp; done) | (go_simp; rfl)); intro g6 hge w1 BK6 hb1; have hg6 : w.heap.size ≤ g6 := (by rw [hge]; exact Nat.le_refl _); clear hge; replace hb := bel_chain hb hb1; clear hb1)
                | (go_at_call 33; refine (path_in _ page hp0 hp1).mono ?_; rintro e w2 ⟨rfl, hb2⟩; replace BK6 := blk_below BK6 hb2; replace hb := bel_chain hb hb2; clear hb2)
                | ((with_reducible refine gate_dst (N := 13) rfl ?_); refine box_event ?hg (N := 13) ?hd (cs := #[.int .i64 0, .int .i64 0, .int .i64 0]) (t := 51) ?hr ?_; (case hd => rfl); (case hg => rfl); (case hr => first | (go_simp; done) | (go_simp; rfl)); intro g13 hge w3 BK13 hb3; have hg13 : w.heap.size ≤ g13 := (by rw [hge]; exact hb.size); have hne : g6 ≠ g13 := (by rw [hge]; exact Nat.ne_of_lt (blk_lt BK6)); clear hge; replace BK6 := blk_below BK6 hb3; replace hb := bel_chain hb hb3; clear hb3; obtain ⟨⟨c0, c1, c2⟩, r0, r1, r2⟩ := cells3 BK13; obtain ⟨d0, d1, s0, s1⟩ := cells2f BK6)
                | (go_at_call 55; (with_reducible refine (entry_any (HI.out.below hb) HF.out (root) (page / 256) _ _ _ _ _ H1.out O1.out).mono ?_); rintro e u1 ⟨rfl, hb9⟩; replace BK6 := blk_below BK6 hb9; replace BK13 := blk_below BK13 hb9; replace hb := bel_chain hb hb9; clear hb9; clear c0 c1 c2 r0 r1 r2 d0 d1 s0 s1; obtain ⟨⟨c0, c1, c2⟩, r0, r1, r2⟩ := cells3 BK13; obtain ⟨d0, d1, s0, s1⟩ := cells2f BK6)
                | (go_at_call 55; obtain ⟨v1, e1, BK1', hb1', far1⟩ := store3 BK13 hb hg13 (.int .i64 1) (.int .i64 f1) (.int .i64 p1); rw [e1]; clear e1 c0 c1 c2 r0 r1 r2 d0 d1 s0 s1; replace BK6 := far1 _ _ hne BK6; clear far1 BK13; have BK13 := BK1'; clear BK1' hb; have hb := hb1'; clear hb1'; (with_reducible refine (entry_any (HI.out.below hb) HF.out (f1) (page / 16 % 16) _ _ _ _ _ H2.out O2.out).mono ?_); rintro e u2 ⟨rfl, hb9⟩; replace BK6 := blk_below BK6 hb9; replace BK13 := blk_below BK13 hb9; replace hb := bel_chain hb hb9; clear hb9; obtain ⟨⟨c0, c1, c2⟩, r0, r1, r2⟩ := cells3 BK13; obtain ⟨d0, d1, s0, s1⟩ := cells2f BK6)
                | (go_at_call 55; obtain ⟨v2, e2, BK2', hb2', far2⟩ := store3 BK13 hb hg13 (.int .i64 1) (.int .i64 f2) (.int .i64 p2); rw [e2]; clear e2 c0 c1 c2 r0 r1 r2 d0 d1 s0 s1; replace BK6 := far2 _ _ hne BK6; clear far2 BK13; have BK13 := BK2'; clear BK2' hb; have hb := hb2'; clear hb2'; (with_reducible refine (entry_any (HI.out.below hb) HF.out (f2) (page % 16) _ _ _ _ _ H3.out O3.out).mono ?_); rintro e u3 ⟨rfl, hb9⟩; replace BK6 := blk_below BK6 hb9; replace BK13 := blk_below BK13 hb9; replace hb := bel_chain hb hb9; clear hb9; obtain ⟨⟨c0, c1, c2⟩, r0, r1, r2⟩ := cells3 BK13; obtain ⟨d0, d1, s0, s1⟩ := cells2f BK6)
                | fail)
              go_step3
              refine ⟨rfl, ?_⟩
              go_wp2
              obtain ⟨v9, e9, _, hb9, far9⟩ := store3 BK13 hb hg13 (.int .i64 K3) (.int .i64 f3) (.int .i64 p3)
              rw [e9]
              replace BK6 := far9 _ _ hne BK6
              clear hb
              have hb := hb9
              obtain ⟨v8, e8, BK8, hb8, _⟩ := store2 BK6 hb hg6 (.int .i64 0) (.int .i64 0)
              rw [e8]
              refine bodyPost_ret (results_ctt rfl _ _ g6 58 _ (0, 0) _ rfl BK8 Try.underlying58 rfl (by kernel_rfl)) rfl ?_
              exact ⟨rfl, hb8⟩
            | false =>
              go_enter Try.func31, Try.ntmps31
              go_wp2_with (first
                | ((with_reducible refine gate_dst (N := 6) rfl ?_); refine box_event ?hg (N := 6) ?hd (cs := #[.int .i64 0, .int .i64 0]) (t := 58) ?hr ?_; (case hd => rfl); (case hg => rfl); (case hr => first | (go_simp; done) | (go_simp; rfl)); intro g6 hge w1 BK6 hb1; have hg6 : w.heap.size ≤ g6 := (by rw [hge]; exact Nat.le_refl _); clear hge; replace hb := bel_chain hb hb1; clear hb1)
                | (go_at_call 33; refine (path_in _ page hp0 hp1).mono ?_; rintro e w2 ⟨rfl, hb2⟩; replace BK6 := blk_below BK6 hb2; replace hb := bel_chain hb hb2; clear hb2)
                | ((with_reducible refine gate_dst (N := 13) rfl ?_); refine box_event ?hg (N := 13) ?hd (cs := #[.int .i64 0, .int .i64 0, .int .i64 0]) (t := 51) ?hr ?_; (case hd => rfl); (case hg => rfl); (case hr => first | (go_simp; done) | (go_simp; rfl)); intro g13 hge w3 BK13 hb3; have hg13 : w.heap.size ≤ g13 := (by rw [hge]; exact hb.size); have hne : g6 ≠ g13 := (by rw [hge]; exact Nat.ne_of_lt (blk_lt BK6)); clear hge; replace BK6 := blk_below BK6 hb3; replace hb := bel_chain hb hb3; clear hb3; obtain ⟨⟨c0, c1, c2⟩, r0, r1, r2⟩ := cells3 BK13; obtain ⟨d0, d1, s0, s1⟩ := cells2f BK6)
                | (go_at_call 55; (with_reducible refine (entry_any (HI.out.below hb) HF.out (root) (page / 256) _ _ _ _ _ H1.out O1.out).mono ?_); rintro e u1 ⟨rfl, hb9⟩; replace BK6 := blk_below BK6 hb9; replace BK13 := blk_below BK13 hb9; replace hb := bel_chain hb hb9; clear hb9; clear c0 c1 c2 r0 r1 r2 d0 d1 s0 s1; obtain ⟨⟨c0, c1, c2⟩, r0, r1, r2⟩ := cells3 BK13; obtain ⟨d0, d1, s0, s1⟩ := cells2f BK6)
                | (go_at_call 55; obtain ⟨v1, e1, BK1', hb1', far1⟩ := store3 BK13 hb hg13 (.int .i64 1) (.int .i64 f1) (.int .i64 p1); rw [e1]; clear e1 c0 c1 c2 r0 r1 r2 d0 d1 s0 s1; replace BK6 := far1 _ _ hne BK6; clear far1 BK13; have BK13 := BK1'; clear BK1' hb; have hb := hb1'; clear hb1'; (with_reducible refine (entry_any (HI.out.below hb) HF.out (f1) (page / 16 % 16) _ _ _ _ _ H2.out O2.out).mono ?_); rintro e u2 ⟨rfl, hb9⟩; replace BK6 := blk_below BK6 hb9; replace BK13 := blk_below BK13 hb9; replace hb := bel_chain hb hb9; clear hb9; obtain ⟨⟨c0, c1, c2⟩, r0, r1, r2⟩ := cells3 BK13; obtain ⟨d0, d1, s0, s1⟩ := cells2f BK6)
                | (go_at_call 55; obtain ⟨v2, e2, BK2', hb2', far2⟩ := store3 BK13 hb hg13 (.int .i64 1) (.int .i64 f2) (.int .i64 p2); rw [e2]; clear e2 c0 c1 c2 r0 r1 r2 d0 d1 s0 s1; replace BK6 := far2 _ _ hne BK6; clear far2 BK13; have BK13 := BK2'; clear BK2' hb; have hb := hb2'; clear hb2'; (with_reducible refine (entry_any (HI.out.below hb) HF.out (f2) (page % 16) _ _ _ _ _ H3.out O3.out).mono ?_); rintro e u3 ⟨rfl, hb9⟩; replace BK6 := blk_below BK6 hb9; replace BK13 := blk_below BK13 hb9; replace hb := bel_chain hb hb9; clear hb9; obtain ⟨⟨c0, c1, c2⟩, r0, r1, r2⟩ := cells3 BK13; obtain ⟨d0, d1, s0, s1⟩ := cells2f BK6)
                | fail)
              refine wp_scope_fwd 0 rfl ?_
              go_wp2_with (first
                | ((with_reducible refine gate_dst (N := 6) rfl ?_); refine box_event ?hg (N := 6) ?hd (cs := #[.int .i64 0, .int .i64 0]) (t := 58) ?hr ?_; (case hd => rfl); (case hg => rfl); (case hr => first | (go_simp; done) | (go_simp; rfl)); intro g6 hge w1 BK6 hb1; have hg6 : w.heap.size ≤ g6 := (by rw [hge]; exact Nat.le_refl _); clear hge; replace hb := bel_chain hb hb1; clear hb1)
                | (go_at_call 33; refine (path_in _ page hp0 hp1).mono ?_; rintro e w2 ⟨rfl, hb2⟩; replace BK6 := blk_below BK6 hb2; replace hb := bel_chain hb hb2; clear hb2)
                | ((with_reducible refine gate_dst (N := 13) rfl ?_); refine box_event ?hg (N := 13) ?hd (cs := #[.int .i64 0, .int .i64 0, .int .i64 0]) (t := 51) ?hr ?_; (case hd => rfl); (case hg => rfl); (case hr => first | (go_simp; done) | (go_simp; rfl)); intro g13 hge w3 BK13 hb3; have hg13 : w.heap.size ≤ g13 := (by rw [hge]; exact hb.size); have hne : g6 ≠ g13 := (by rw [hge]; exact Nat.ne_of_lt (blk_lt BK6)); clear hge; replace BK6 := blk_below BK6 hb3; replace hb := bel_chain hb hb3; clear hb3; obtain ⟨⟨c0, c1, c2⟩, r0, r1, r2⟩ := cells3 BK13; obtain ⟨d0, d1, s0, s1⟩ := cells2f BK6)
                | (go_at_call 55; (with_reducible refine (entry_any (HI.out.below hb) HF.out (root) (page / 256) _ _ _ _ _ H1.out O1.out).mono ?_); rintro e u1 ⟨rfl, hb9⟩; replace BK6 := blk_below BK6 hb9; replace BK13 := blk_below BK13 hb9; replace hb := bel_chain hb hb9; clear hb9; clear c0 c1 c2 r0 r1 r2 d0 d1 s0 s1; obtain ⟨⟨c0, c1, c2⟩, r0, r1, r2⟩ := cells3 BK13; obtain ⟨d0, d1, s0, s1⟩ := cells2f BK6)
                | (go_at_call 55; obtain ⟨v1, e1, BK1', hb1', far1⟩ := store3 BK13 hb hg13 (.int .i64 1) (.int .i64 f1) (.int .i64 p1); rw [e1]; clear e1 c0 c1 c2 r0 r1 r2 d0 d1 s0 s1; replace BK6 := far1 _ _ hne BK6; clear far1 BK13; have BK13 := BK1'; clear BK1' hb; have hb := hb1'; clear hb1'; (with_reducible refine (entry_any (HI.out.below hb) HF.out (f1) (page / 16 % 16) _ _ _ _ _ H2.out O2.out).mono ?_); rintro e u2 ⟨rfl, hb9⟩; replace BK6 := blk_below BK6 hb9; replace BK13 := blk_below BK13 hb9; replace hb := bel_chain hb hb9; clear hb9; obtain ⟨⟨c0, c1, c2⟩, r0, r1, r2⟩ := cells3 BK13; obtain ⟨d0, d1, s0, s1⟩ := cells2f BK6)
                | (go_at_call 55; obtain ⟨v2, e2, BK2', hb2', far2⟩ := store3 BK13 hb hg13 (.int .i64 1) (.int .i64 f2) (.int .i64 p2); rw [e2]; clear e2 c0 c1 c2 r0 r1 r2 d0 d1 s0 s1; replace BK6 := far2 _ _ hne BK6; clear far2 BK13; have BK13 := BK2'; clear BK2' hb; have hb := hb2'; clear hb2'; (with_reducible refine (entry_any (HI.out.below hb) HF.out (f2) (page % 16) _ _ _ _ _ H3.out O3.out).mono ?_); rintro e u3 ⟨rfl, hb9⟩; replace BK6 := blk_below BK6 hb9; replace BK13 := blk_below BK13 hb9; replace hb := bel_chain hb hb9; clear hb9; obtain ⟨⟨c0, c1, c2⟩, r0, r1, r2⟩ := cells3 BK13; obtain ⟨d0, d1, s0, s1⟩ := cells2f BK6)
                | fail)
              go_step3
              refine ⟨rfl, ?_⟩
              go_wp2
              obtain ⟨v9, e9, _, hb9, far9⟩ := store3 BK13 hb hg13 (.int .i64 K3) (.int .i64 f3) (.int .i64 p3)
              rw [e9]
              replace BK6 := far9 _ _ hne BK6
              clear hb
              have hb := hb9
              obtain ⟨v8, e8, BK8, hb8, _⟩ := store2 BK6 hb hg6 (.int .i64 0) (.int .i64 0)
              rw [e8]
              refine bodyPost_ret (results_ctt rfl _ _ g6 58 _ (0, 0) _ rfl BK8 Try.underlying58 rfl (by kernel_rfl)) rfl ?_
              exact ⟨rfl, hb8⟩
        · rw [if_neg hK2]
          have q1 : (K2 == 1) = false := beq_eq_false_iff_ne.mpr hK2
          have q2 : (K2 != 1) = true := bne_iff_ne.mpr hK2
          have q3 : (K2 == 3) = false := beq_eq_false_iff_ne.mpr hK3
          clear B5 hK2 hK3
          cases o2 with
          | true =>
            go_enter Try.func31, Try.ntmps31
            go_wp2_with (first
              | ((with_reducible refine gate_dst (N := 6) rfl ?_); refine box_event ?hg (N := 6) ?hd (cs := #[.int .i64 0, .int .i64 0]) (t := 58) ?hr ?_; (case hd => rfl); (case hg => rfl); (case hr => first | (go_simp; done) | (go_simp; rfl)); intro g6 hge w1 BK6 hb1; have hg6 : w.heap.size ≤ g6 := (by rw [hge]; exact Nat.le_refl _); clear hge; replace hb := bel_chain hb hb1; clear hb1)
              | (go_at_call 33; refine (path_in _ page hp0 hp1).mono ?_; rintro e w2 ⟨rfl, hb2⟩; replace BK6 := blk_below BK6 hb2; replace hb := bel_chain hb hb2; clear hb2)
              | ((with_reducible refine gate_dst (N := 13) rfl ?_); refine box_event ?hg (N := 13) ?hd (cs := #[.int .i64 0, .int .i64 0, .int .i64 0]) (t := 51) ?hr ?_; (case hd => rfl); (case hg => rfl); (case hr => first | (go_simp; done) | (go_simp; rfl)); intro g13 hge w3 BK13 hb3; have hg13 : w.heap.size ≤ g13 := (by rw [hge]; exact hb.size); have hne : g6 ≠ g13 := (by rw [hge]; exact Nat.ne_of_lt (blk_lt BK6)); clear hge; replace BK6 := blk_below BK6 hb3; replace hb := bel_chain hb hb3; clear hb3; obtain ⟨⟨c0, c1, c2⟩, r0, r1, r2⟩ := cells3 BK13; obtain ⟨d0, d1, s0, s1⟩ := cells2f BK6)
              | (go_at_call 55; (with_reducible refine (entry_any (HI.out.below hb) HF.out (root) (page / 256) _ _ _ _ _ H1.out O1.out).mono ?_); rintro e u1 ⟨rfl, hb9⟩; replace BK6 := blk_below BK6 hb9; replace BK13 := blk_below BK13 hb9; replace hb := bel_chain hb hb9; clear hb9; clear c0 c1 c2 r0 r1 r2 d0 d1 s0 s1; obtain ⟨⟨c0, c1, c2⟩, r0, r1, r2⟩ := cells3 BK13; obtain ⟨d0, d1, s0, s1⟩ := cells2f BK6)
              | (go_at_call 55; obtain ⟨v1, e1, BK1', hb1', far1⟩ := store3 BK13 hb hg13 (.int .i64 1) (.int .i64 f1) (.int .i64 p1); rw [e1]; clear e1 c0 c1 c2 r0 r1 r2 d0 d1 s0 s1; replace BK6 := far1 _ _ hne BK6; clear far1 BK13; have BK13 := BK1'; clear BK1' hb; have hb := hb1'; clear hb1'; (with_reducible refine (entry_any (HI.out.below hb) HF.out (f1) (page / 16 % 16) _ _ _ _ _ H2.out O2.out).mono ?_); rintro e u2 ⟨rfl, hb9⟩; replace BK6 := blk_below BK6 hb9; replace BK13 := blk_below BK13 hb9; replace hb := bel_chain hb hb9; clear hb9; obtain ⟨⟨c0, c1, c2⟩, r0, r1, r2⟩ := cells3 BK13; obtain ⟨d0, d1, s0, s1⟩ := cells2f BK6)
              | fail)
            refine wp_scope_fwd 0 rfl ?_
            go_wp2_with (first
              | ((with_reducible refine gate_dst (N := 6) rfl ?_); refine box_event ?hg (N := 6) ?hd (cs := #[.int .i64 0, .int .i64 0]) (t := 58) ?hr ?_; (case hd => rfl); (case hg => rfl); (case hr => first | (go_simp; done) | (go_simp; rfl)); intro g6 hge w1 BK6 hb1; have hg6 : w.heap.size ≤ g6 := (by rw [hge]; exact Nat.le_refl _); clear hge; replace hb := bel_chain hb hb1; clear hb1)
              | (go_at_call 33; refine (path_in _ page hp0 hp1).mono ?_; rintro e w2 ⟨rfl, hb2⟩; replace BK6 := blk_below BK6 hb2; replace hb := bel_chain hb hb2; clear hb2)
              | ((with_reducible refine gate_dst (N := 13) rfl ?_); refine box_event ?hg (N := 13) ?hd (cs := #[.int .i64 0, .int .i64 0, .int .i64 0]) (t := 51) ?hr ?_; (case hd => rfl); (case hg => rfl); (case hr => first | (go_simp; done) | (go_simp; rfl)); intro g13 hge w3 BK13 hb3; have hg13 : w.heap.size ≤ g13 := (by rw [hge]; exact hb.size); have hne : g6 ≠ g13 := (by rw [hge]; exact Nat.ne_of_lt (blk_lt BK6)); clear hge; replace BK6 := blk_below BK6 hb3; replace hb := bel_chain hb hb3; clear hb3; obtain ⟨⟨c0, c1, c2⟩, r0, r1, r2⟩ := cells3 BK13; obtain ⟨d0, d1, s0, s1⟩ := cells2f BK6)
              | (go_at_call 55; (with_reducible refine (entry_any (HI.out.below hb) HF.out (root) (page / 256) _ _ _ _ _ H1.out O1.out).mono ?_); rintro e u1 ⟨rfl, hb9⟩; replace BK6 := blk_below BK6 hb9; replace BK13 := blk_below BK13 hb9; replace hb := bel_chain hb hb9; clear hb9; clear c0 c1 c2 r0 r1 r2 d0 d1 s0 s1; obtain ⟨⟨c0, c1, c2⟩, r0, r1, r2⟩ := cells3 BK13; obtain ⟨d0, d1, s0, s1⟩ := cells2f BK6)
              | (go_at_call 55; obtain ⟨v1, e1, BK1', hb1', far1⟩ := store3 BK13 hb hg13 (.int .i64 1) (.int .i64 f1) (.int .i64 p1); rw [e1]; clear e1 c0 c1 c2 r0 r1 r2 d0 d1 s0 s1; replace BK6 := far1 _ _ hne BK6; clear far1 BK13; have BK13 := BK1'; clear BK1' hb; have hb := hb1'; clear hb1'; (with_reducible refine (entry_any (HI.out.below hb) HF.out (f1) (page / 16 % 16) _ _ _ _ _ H2.out O2.out).mono ?_); rintro e u2 ⟨rfl, hb9⟩; replace BK6 := blk_below BK6 hb9; replace BK13 := blk_below BK13 hb9; replace hb := bel_chain hb hb9; clear hb9; obtain ⟨⟨c0, c1, c2⟩, r0, r1, r2⟩ := cells3 BK13; obtain ⟨d0, d1, s0, s1⟩ := cells2f BK6)
              | fail)
            go_step3
            refine ⟨rfl, ?_⟩
            go_wp2
            obtain ⟨v9, e9, _, hb9, far9⟩ := store3 BK13 hb hg13 (.int .i64 K2) (.int .i64 f2) (.int .i64 p2)
            rw [e9]
            replace BK6 := far9 _ _ hne BK6
            clear hb
            have hb := hb9
            obtain ⟨v8, e8, BK8, hb8, _⟩ := store2 BK6 hb hg6 (.int .i64 0) (.int .i64 0)
            rw [e8]
            refine bodyPost_ret (results_ctt rfl _ _ g6 58 _ (0, 0) _ rfl BK8 Try.underlying58 rfl (by kernel_rfl)) rfl ?_
            exact ⟨rfl, hb8⟩
          | false =>
            go_enter Try.func31, Try.ntmps31
            go_wp2_with (first
              | ((with_reducible refine gate_dst (N := 6) rfl ?_); refine box_event ?hg (N := 6) ?hd (cs := #[.int .i64 0, .int .i64 0]) (t := 58) ?hr ?_; (case hd => rfl); (case hg => rfl); (case hr => first | (go_simp; done) | (go_simp; rfl)); intro g6 hge w1 BK6 hb1; have hg6 : w.heap.size ≤ g6 := (by rw [hge]; exact Nat.le_refl _); clear hge; replace hb := bel_chain hb hb1; clear hb1)
              | (go_at_call 33; refine (path_in _ page hp0 hp1).mono ?_; rintro e w2 ⟨rfl, hb2⟩; replace BK6 := blk_below BK6 hb2; replace hb := bel_chain hb hb2; clear hb2)
              | ((with_reducible refine gate_dst (N := 13) rfl ?_); refine box_event ?hg (N := 13) ?hd (cs := #[.int .i64 0, .int .i64 0, .int .i64 0]) (t := 51) ?hr ?_; (case hd => rfl); (case hg => rfl); (case hr => first | (go_simp; done) | (go_simp; rfl)); intro g13 hge w3 BK13 hb3; have hg13 : w.heap.size ≤ g13 := (by rw [hge]; exact hb.size); have hne : g6 ≠ g13 := (by rw [hge]; exact Nat.ne_of_lt (blk_lt BK6)); clear hge; replace BK6 := blk_below BK6 hb3; replace hb := bel_chain hb hb3; clear hb3; obtain ⟨⟨c0, c1, c2⟩, r0, r1, r2⟩ := cells3 BK13; obtain ⟨d0, d1, s0, s1⟩ := cells2f BK6)
              | (go_at_call 55; (with_reducible refine (entry_any (HI.out.below hb) HF.out (root) (page / 256) _ _ _ _ _ H1.out O1.out).mono ?_); rintro e u1 ⟨rfl, hb9⟩; replace BK6 := blk_below BK6 hb9; replace BK13 := blk_below BK13 hb9; replace hb := bel_chain hb hb9; clear hb9; clear c0 c1 c2 r0 r1 r2 d0 d1 s0 s1; obtain ⟨⟨c0, c1, c2⟩, r0, r1, r2⟩ := cells3 BK13; obtain ⟨d0, d1, s0, s1⟩ := cells2f BK6)
              | (go_at_call 55; obtain ⟨v1, e1, BK1', hb1', far1⟩ := store3 BK13 hb hg13 (.int .i64 1) (.int .i64 f1) (.int .i64 p1); rw [e1]; clear e1 c0 c1 c2 r0 r1 r2 d0 d1 s0 s1; replace BK6 := far1 _ _ hne BK6; clear far1 BK13; have BK13 := BK1'; clear BK1' hb; have hb := hb1'; clear hb1'; (with_reducible refine (entry_any (HI.out.below hb) HF.out (f1) (page / 16 % 16) _ _ _ _ _ H2.out O2.out).mono ?_); rintro e u2 ⟨rfl, hb9⟩; replace BK6 := blk_below BK6 hb9; replace BK13 := blk_below BK13 hb9; replace hb := bel_chain hb hb9; clear hb9; obtain ⟨⟨c0, c1, c2⟩, r0, r1, r2⟩ := cells3 BK13; obtain ⟨d0, d1, s0, s1⟩ := cells2f BK6)
              | fail)
            refine wp_scope_fwd 0 rfl ?_
            go_wp2_with (first
              | ((with_reducible refine gate_dst (N := 6) rfl ?_); refine box_event ?hg (N := 6) ?hd (cs := #[.int .i64 0, .int .i64 0]) (t := 58) ?hr ?_; (case hd => rfl); (case hg => rfl); (case hr => first | (go_simp; done) | (go_simp; rfl)); intro g6 hge w1 BK6 hb1; have hg6 : w.heap.size ≤ g6 := (by rw [hge]; exact Nat.le_refl _); clear hge; replace hb := bel_chain hb hb1; clear hb1)
              | (go_at_call 33; refine (path_in _ page hp0 hp1).mono ?_; rintro e w2 ⟨rfl, hb2⟩; replace BK6 := blk_below BK6 hb2; replace hb := bel_chain hb hb2; clear hb2)
              | ((with_reducible refine gate_dst (N := 13) rfl ?_); refine box_event ?hg (N := 13) ?hd (cs := #[.int .i64 0, .int .i64 0, .int .i64 0]) (t := 51) ?hr ?_; (case hd => rfl); (case hg => rfl); (case hr => first | (go_simp; done) | (go_simp; rfl)); intro g13 hge w3 BK13 hb3; have hg13 : w.heap.size ≤ g13 := (by rw [hge]; exact hb.size); have hne : g6 ≠ g13 := (by rw [hge]; exact Nat.ne_of_lt (blk_lt BK6)); clear hge; replace BK6 := blk_below BK6 hb3; replace hb := bel_chain hb hb3; clear hb3; obtain ⟨⟨c0, c1, c2⟩, r0, r1, r2⟩ := cells3 BK13; obtain ⟨d0, d1, s0, s1⟩ := cells2f BK6)
              | (go_at_call 55; (with_reducible refine (entry_any (HI.out.below hb) HF.out (root) (page / 256) _ _ _ _ _ H1.out O1.out).mono ?_); rintro e u1 ⟨rfl, hb9⟩; replace BK6 := blk_below BK6 hb9; replace BK13 := blk_below BK13 hb9; replace hb := bel_chain hb hb9; clear hb9; clear c0 c1 c2 r0 r1 r2 d0 d1 s0 s1; obtain ⟨⟨c0, c1, c2⟩, r0, r1, r2⟩ := cells3 BK13; obtain ⟨d0, d1, s0, s1⟩ := cells2f BK6)
              | (go_at_call 55; obtain ⟨v1, e1, BK1', hb1', far1⟩ := store3 BK13 hb hg13 (.int .i64 1) (.int .i64 f1) (.int .i64 p1); rw [e1]; clear e1 c0 c1 c2 r0 r1 r2 d0 d1 s0 s1; replace BK6 := far1 _ _ hne BK6; clear far1 BK13; have BK13 := BK1'; clear BK1' hb; have hb := hb1'; clear hb1'; (with_reducible refine (entry_any (HI.out.below hb) HF.out (f1) (page / 16 % 16) _ _ _ _ _ H2.out O2.out).mono ?_); rintro e u2 ⟨rfl, hb9⟩; replace BK6 := blk_below BK6 hb9; replace BK13 := blk_below BK13 hb9; replace hb := bel_chain hb hb9; clear hb9; obtain ⟨⟨c0, c1, c2⟩, r0, r1, r2⟩ := cells3 BK13; obtain ⟨d0, d1, s0, s1⟩ := cells2f BK6)
              | fail)
            go_step3
            refine ⟨rfl, ?_⟩
            go_wp2
            obtain ⟨v9, e9, _, hb9, far9⟩ := store3 BK13 hb hg13 (.int .i64 K2) (.int .i64 f2) (.int .i64 p2)
            rw [e9]
            replace BK6 := far9 _ _ hne BK6
            clear hb
            have hb := hb9
            obtain ⟨v8, e8, BK8, hb8, _⟩ := store2 BK6 hb hg6 (.int .i64 0) (.int .i64 0)
            rw [e8]
            refine bodyPost_ret (results_ctt rfl _ _ g6 58 _ (0, 0) _ rfl BK8 Try.underlying58 rfl (by kernel_rfl)) rfl ?_
            exact ⟨rfl, hb8⟩
    · rw [if_neg hK1]
      have q1 : (K1 == 1) = false := beq_eq_false_iff_ne.mpr hK1
      have q2 : (K1 != 1) = true := bne_iff_ne.mpr hK1
      clear b5 hK1
      cases o1 with
      | true =>
        go_enter Try.func31, Try.ntmps31
        go_wp2_with (first
          | ((with_reducible refine gate_dst (N := 6) rfl ?_); refine box_event ?hg (N := 6) ?hd (cs := #[.int .i64 0, .int .i64 0]) (t := 58) ?hr ?_; (case hd => rfl); (case hg => rfl); (case hr => first | (go_simp; done) | (go_simp; rfl)); intro g6 hge w1 BK6 hb1; have hg6 : w.heap.size ≤ g6 := (by rw [hge]; exact Nat.le_refl _); clear hge; replace hb := bel_chain hb hb1; clear hb1)
          | (go_at_call 33; refine (path_in _ page hp0 hp1).mono ?_; rintro e w2 ⟨rfl, hb2⟩; replace BK6 := blk_below BK6 hb2; replace hb := bel_chain hb hb2; clear hb2)
          | ((with_reducible refine gate_dst (N := 13) rfl ?_); refine box_event ?hg (N := 13) ?hd (cs := #[.int .i64 0, .int .i64 0, .int .i64 0]) (t := 51) ?hr ?_; (case hd => rfl); (case hg => rfl); (case hr => first | (go_simp; done) | (go_simp; rfl)); intro g13 hge w3 BK13 hb3; have hg13 : w.heap.size ≤ g13 := (by rw [hge]; exact hb.size); have hne : g6 ≠ g13 := (by rw [hge]; exact Nat.ne_of_lt (blk_lt BK6)); clear hge; replace BK6 := blk_below BK6 hb3; replace hb := bel_chain hb hb3; clear hb3; obtain ⟨⟨c0, c1, c2⟩, r0, r1, r2⟩ := cells3 BK13; obtain ⟨d0, d1, s0, s1⟩ := cells2f BK6)
          | (go_at_call 55; (with_reducible refine (entry_any (HI.out.below hb) HF.out (root) (page / 256) _ _ _ _ _ H1.out O1.out).mono ?_); rintro e u1 ⟨rfl, hb9⟩; replace BK6 := blk_below BK6 hb9; replace BK13 := blk_below BK13 hb9; replace hb := bel_chain hb hb9; clear hb9; clear c0 c1 c2 r0 r1 r2 d0 d1 s0 s1; obtain ⟨⟨c0, c1, c2⟩, r0, r1, r2⟩ := cells3 BK13; obtain ⟨d0, d1, s0, s1⟩ := cells2f BK6)
          | fail)
        refine wp_scope_fwd 0 rfl ?_
        go_wp2_with (first
          | ((with_reducible refine gate_dst (N := 6) rfl ?_); refine box_event ?hg (N := 6) ?hd (cs := #[.int .i64 0, .int .i64 0]) (t := 58) ?hr ?_; (case hd => rfl); (case hg => rfl); (case hr => first | (go_simp; done) | (go_simp; rfl)); intro g6 hge w1 BK6 hb1; have hg6 : w.heap.size ≤ g6 := (by rw [hge]; exact Nat.le_refl _); clear hge; replace hb := bel_chain hb hb1; clear hb1)
          | (go_at_call 33; refine (path_in _ page hp0 hp1).mono ?_; rintro e w2 ⟨rfl, hb2⟩; replace BK6 := blk_below BK6 hb2; replace hb := bel_chain hb hb2; clear hb2)
          | ((with_reducible refine gate_dst (N := 13) rfl ?_); refine box_event ?hg (N := 13) ?hd (cs := #[.int .i64 0, .int .i64 0, .int .i64 0]) (t := 51) ?hr ?_; (case hd => rfl); (case hg => rfl); (case hr => first | (go_simp; done) | (go_simp; rfl)); intro g13 hge w3 BK13 hb3; have hg13 : w.heap.size ≤ g13 := (by rw [hge]; exact hb.size); have hne : g6 ≠ g13 := (by rw [hge]; exact Nat.ne_of_lt (blk_lt BK6)); clear hge; replace BK6 := blk_below BK6 hb3; replace hb := bel_chain hb hb3; clear hb3; obtain ⟨⟨c0, c1, c2⟩, r0, r1, r2⟩ := cells3 BK13; obtain ⟨d0, d1, s0, s1⟩ := cells2f BK6)
          | (go_at_call 55; (with_reducible refine (entry_any (HI.out.below hb) HF.out (root) (page / 256) _ _ _ _ _ H1.out O1.out).mono ?_); rintro e u1 ⟨rfl, hb9⟩; replace BK6 := blk_below BK6 hb9; replace BK13 := blk_below BK13 hb9; replace hb := bel_chain hb hb9; clear hb9; clear c0 c1 c2 r0 r1 r2 d0 d1 s0 s1; obtain ⟨⟨c0, c1, c2⟩, r0, r1, r2⟩ := cells3 BK13; obtain ⟨d0, d1, s0, s1⟩ := cells2f BK6)
          | fail)
        go_step3
        refine ⟨rfl, ?_⟩
        go_wp2
        obtain ⟨v9, e9, _, hb9, far9⟩ := store3 BK13 hb hg13 (.int .i64 K1) (.int .i64 f1) (.int .i64 p1)
        rw [e9]
        replace BK6 := far9 _ _ hne BK6
        clear hb
        have hb := hb9
        obtain ⟨v8, e8, BK8, hb8, _⟩ := store2 BK6 hb hg6 (.int .i64 0) (.int .i64 0)
        rw [e8]
        refine bodyPost_ret (results_ctt rfl _ _ g6 58 _ (0, 0) _ rfl BK8 Try.underlying58 rfl (by kernel_rfl)) rfl ?_
        exact ⟨rfl, hb8⟩
      | false =>
        go_enter Try.func31, Try.ntmps31
        go_wp2_with (first
          | ((with_reducible refine gate_dst (N := 6) rfl ?_); refine box_event ?hg (N := 6) ?hd (cs := #[.int .i64 0, .int .i64 0]) (t := 58) ?hr ?_; (case hd => rfl); (case hg => rfl); (case hr => first | (go_simp; done) | (go_simp; rfl)); intro g6 hge w1 BK6 hb1; have hg6 : w.heap.size ≤ g6 := (by rw [hge]; exact Nat.le_refl _); clear hge; replace hb := bel_chain hb hb1; clear hb1)
          | (go_at_call 33; refine (path_in _ page hp0 hp1).mono ?_; rintro e w2 ⟨rfl, hb2⟩; replace BK6 := blk_below BK6 hb2; replace hb := bel_chain hb hb2; clear hb2)
          | ((with_reducible refine gate_dst (N := 13) rfl ?_); refine box_event ?hg (N := 13) ?hd (cs := #[.int .i64 0, .int .i64 0, .int .i64 0]) (t := 51) ?hr ?_; (case hd => rfl); (case hg => rfl); (case hr => first | (go_simp; done) | (go_simp; rfl)); intro g13 hge w3 BK13 hb3; have hg13 : w.heap.size ≤ g13 := (by rw [hge]; exact hb.size); have hne : g6 ≠ g13 := (by rw [hge]; exact Nat.ne_of_lt (blk_lt BK6)); clear hge; replace BK6 := blk_below BK6 hb3; replace hb := bel_chain hb hb3; clear hb3; obtain ⟨⟨c0, c1, c2⟩, r0, r1, r2⟩ := cells3 BK13; obtain ⟨d0, d1, s0, s1⟩ := cells2f BK6)
          | (go_at_call 55; (with_reducible refine (entry_any (HI.out.below hb) HF.out (root) (page / 256) _ _ _ _ _ H1.out O1.out).mono ?_); rintro e u1 ⟨rfl, hb9⟩; replace BK6 := blk_below BK6 hb9; replace BK13 := blk_below BK13 hb9; replace hb := bel_chain hb hb9; clear hb9; clear c0 c1 c2 r0 r1 r2 d0 d1 s0 s1; obtain ⟨⟨c0, c1, c2⟩, r0, r1, r2⟩ := cells3 BK13; obtain ⟨d0, d1, s0, s1⟩ := cells2f BK6)
          | fail)
        refine wp_scope_fwd 0 rfl ?_
        go_wp2_with (first
          | ((with_reducible refine gate_dst (N := 6) rfl ?_); refine box_event ?hg (N := 6) ?hd (cs := #[.int .i64 0, .int .i64 0]) (t := 58) ?hr ?_; (case hd => rfl); (case hg => rfl); (case hr => first | (go_simp; done) | (go_simp; rfl)); intro g6 hge w1 BK6 hb1; have hg6 : w.heap.size ≤ g6 := (by rw [hge]; exact Nat.le_refl _); clear hge; replace hb := bel_chain hb hb1; clear hb1)
          | (go_at_call 33; refine (path_in _ page hp0 hp1).mono ?_; rintro e w2 ⟨rfl, hb2⟩; replace BK6 := blk_below BK6 hb2; replace hb := bel_chain hb hb2; clear hb2)
          | ((with_reducible refine gate_dst (N := 13) rfl ?_); refine box_event ?hg (N := 13) ?hd (cs := #[.int .i64 0, .int .i64 0, .int .i64 0]) (t := 51) ?hr ?_; (case hd => rfl); (case hg => rfl); (case hr => first | (go_simp; done) | (go_simp; rfl)); intro g13 hge w3 BK13 hb3; have hg13 : w.heap.size ≤ g13 := (by rw [hge]; exact hb.size); have hne : g6 ≠ g13 := (by rw [hge]; exact Nat.ne_of_lt (blk_lt BK6)); clear hge; replace BK6 := blk_below BK6 hb3; replace hb := bel_chain hb hb3; clear hb3; obtain ⟨⟨c0, c1, c2⟩, r0, r1, r2⟩ := cells3 BK13; obtain ⟨d0, d1, s0, s1⟩ := cells2f BK6)
          | (go_at_call 55; (with_reducible refine (entry_any (HI.out.below hb) HF.out (root) (page / 256) _ _ _ _ _ H1.out O1.out).mono ?_); rintro e u1 ⟨rfl, hb9⟩; replace BK6 := blk_below BK6 hb9; replace BK13 := blk_below BK13 hb9; replace hb := bel_chain hb hb9; clear hb9; clear c0 c1 c2 r0 r1 r2 d0 d1 s0 s1; obtain ⟨⟨c0, c1, c2⟩, r0, r1, r2⟩ := cells3 BK13; obtain ⟨d0, d1, s0, s1⟩ := cells2f BK6)
          | fail)
        go_step3
        refine ⟨rfl, ?_⟩
        go_wp2
        obtain ⟨v9, e9, _, hb9, far9⟩ := store3 BK13 hb hg13 (.int .i64 K1) (.int .i64 f1) (.int .i64 p1)
        rw [e9]
        replace BK6 := far9 _ _ hne BK6
        clear hb
        have hb := hb9
        obtain ⟨v8, e8, BK8, hb8, _⟩ := store2 BK6 hb hg6 (.int .i64 0) (.int .i64 0)
        rw [e8]
        refine bodyPost_ret (results_ctt rfl _ _ g6 58 _ (0, 0) _ rfl BK8 Try.underlying58 rfl (by kernel_rfl)) rfl ?_
        exact ⟨rfl, hb8⟩
  · rw [if_neg hp]
    go_enter Try.func31, Try.ntmps31
    go_wp2_with (first
      | ((with_reducible refine gate_dst (N := 6) rfl ?_); refine box_event ?hg (N := 6) ?hd (cs := #[.int .i64 0, .int .i64 0]) (t := 58) ?hr ?_; (case hd => rfl); (case hg => rfl); (case hr => first | (go_simp; done) | (go_simp; rfl)); intro g6 hge w1 BK6 hb1; have hg6 : w.heap.size ≤ g6 := (by rw [hge]; exact Nat.le_refl _); clear hge; replace hb := bel_chain hb hb1; clear hb1)
      | (go_at_call 33; refine (path_out _ page hp).mono ?_; rintro e w2 ⟨rfl, hb2⟩; replace BK6 := blk_below BK6 hb2; replace hb := bel_chain hb hb2; clear hb2)
      | ((with_reducible refine gate_dst (N := 13) rfl ?_); refine box_event ?hg (N := 13) ?hd (cs := #[.int .i64 0, .int .i64 0, .int .i64 0]) (t := 51) ?hr ?_; (case hd => rfl); (case hg => rfl); (case hr => first | (go_simp; done) | (go_simp; rfl)); intro g13 hge w3 BK13 hb3; have hg13 : w.heap.size ≤ g13 := (by rw [hge]; exact hb.size); have hne : g6 ≠ g13 := (by rw [hge]; exact Nat.ne_of_lt (blk_lt BK6)); clear hge; replace BK6 := blk_below BK6 hb3; replace hb := bel_chain hb hb3; clear hb3; obtain ⟨⟨c0, c1, c2⟩, r0, r1, r2⟩ := cells3 BK13; obtain ⟨d0, d1, s0, s1⟩ := cells2f BK6)
      | fail)
    refine wp_scope_fwd 0 rfl ?_
    go_wp2_with (first
      | ((with_reducible refine gate_dst (N := 6) rfl ?_); refine box_event ?hg (N := 6) ?hd (cs := #[.int .i64 0, .int .i64 0]) (t := 58) ?hr ?_; (case hd => rfl); (case hg => rfl); (case hr => first | (go_simp; done) | (go_simp; rfl)); intro g6 hge w1 BK6 hb1; have hg6 : w.heap.size ≤ g6 := (by rw [hge]; exact Nat.le_refl _); clear hge; replace hb := bel_chain hb hb1; clear hb1)
      | (go_at_call 33; refine (path_out _ page hp).mono ?_; rintro e w2 ⟨rfl, hb2⟩; replace BK6 := blk_below BK6 hb2; replace hb := bel_chain hb hb2; clear hb2)
      | ((with_reducible refine gate_dst (N := 13) rfl ?_); refine box_event ?hg (N := 13) ?hd (cs := #[.int .i64 0, .int .i64 0, .int .i64 0]) (t := 51) ?hr ?_; (case hd => rfl); (case hg => rfl); (case hr => first | (go_simp; done) | (go_simp; rfl)); intro g13 hge w3 BK13 hb3; have hg13 : w.heap.size ≤ g13 := (by rw [hge]; exact hb.size); have hne : g6 ≠ g13 := (by rw [hge]; exact Nat.ne_of_lt (blk_lt BK6)); clear hge; replace BK6 := blk_below BK6 hb3; replace hb := bel_chain hb hb3; clear hb3; obtain ⟨⟨c0, c1, c2⟩, r0, r1, r2⟩ := cells3 BK13; obtain ⟨d0, d1, s0, s1⟩ := cells2f BK6)
      | fail)
    go_step3
    refine ⟨rfl, ?_⟩
    go_wp2
    obtain ⟨v8, e8, BK8, hb8, _⟩ := store2 BK6 hb hg6 (.int .i64 0) (.int .i64 0)
    rw [e8]
    refine bodyPost_ret (results_ctt rfl _ _ g6 58 _ (0, 0) _ rfl BK8 Try.underlying58 rfl (by kernel_rfl)) rfl ?_
    exact ⟨rfl, hb8⟩
end Go.Proofs.Ytdpjpmlajjfpgaa.Ram
