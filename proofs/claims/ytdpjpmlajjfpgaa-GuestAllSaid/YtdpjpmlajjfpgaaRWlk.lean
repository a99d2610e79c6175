/- Where a page lies, through any words: the reference's walk. -/
import Derived.Test.YtdpjpmlajjfpgaaWlkC
namespace Go.Proofs.Ytdpjpmlajjfpgaa.Ram
open Go.RowKit Go.Proofs.Ytdpjpmlajjfpgaa.Mem Go.Proofs.Ytdpjpmlajjfpgaa.Kept Go.Proofs.Ytdpjpmlajjfpgaa.Slo Go.Proofs.Ytdpjpmlajjfpgaa.Bits
open Go.Proofs.Ytdpjpmlajjfpgaa.PWalkAll
open Go.Proofs.YtdpjpmlajjfpgaaW.PrintWords (nums ReadsInt results_ct results_ctt gate_dst box_event)
set_option linter.unusedVariables false
set_option linter.unusedSimpArgs false
theorem rpath_inW (w : World) (p : Int) (h0 : 0 ≤ p) (h1 : p < 4096) : Calls Try.prog 34 #[.int .i64 p] w fun e w' => e = .returned (.tuple #[.int .i64 (p / 256), .int .i64 (p / 16 % 16), .int .i64 (p % 16), .bool true]) ∧ Below w.heap.size w w' := by
  have hf : presidioref1_Path.f p = some (p / 256, p / 16 % 16, p % 16, true) := by
    unfold presidioref1_Path.f
    rw [if_neg (by omega), if_neg (by omega), Int.tdiv_eq_ediv_of_nonneg h0, Int.tdiv_eq_ediv_of_nonneg h0, Int.tmod_eq_emod_of_nonneg h0]
    rw [show wrap64 (p / 256) = p / 256 by unfold wrap64; omega, show wrap64 (p / 16) = p / 16 by unfold wrap64; omega, Int.tmod_eq_emod_of_nonneg (by omega)]
  exact (presidioref1_Path.calls p _ _ _ _ w hf).mono fun e w' h => ⟨h.1, h.2.below⟩
theorem rpath_out (w : World) (p : Int) (h : ¬ (0 ≤ p ∧ p < 4096)) : Calls Try.prog 34 #[.int .i64 p] w fun e w' => e = .returned (.tuple #[.int .i64 0, .int .i64 0, .int .i64 0, .bool false]) ∧ Below w.heap.size w w' := by
  have hf : presidioref1_Path.f p = some (0, 0, 0, false) := by
    unfold presidioref1_Path.f
    by_cases h0 : p < 0
    · rw [if_pos h0]
    · rw [if_neg h0, if_pos (by omega)]
  exact (presidioref1_Path.calls p _ _ _ _ w hf).mono fun e w' h => ⟨h.1, h.2.below⟩
theorem rresults_c {P : Program} {fn : Func} {p : Tmp} {ty : TypeId} (h : fn.results = #[.cell p ty]) (tmps : Array Value) (w : World) (g : Nat) (t : TypeId) (cs : Array Value) (fr : Nat × Nat) (d : TypeDesc)
    (hp : tmps.getD p undef = .pointer (some ⟨g, 0, none⟩)) (hg : w.heap[g]? = some (.cells cs t fr))
    (hu : P.underlying ty = some d) (hd : (match d with | .struct _ | .array _ _ => true | _ => false) = true) (hi : (P.info? ty).map (·.size) = some cs.size) :
    (results fn tmps).run P w = .ok (.agg cs) w := by
  have hp' : tmps[p]?.getD undef = .pointer (some ⟨g, 0, none⟩) := by simpa using hp
  simp [results, h, hp', asAddr, run_loadVar_row w g t ty cs fr d hg hu hd hi]
set_option maxRecDepth 100000 in
set_option maxHeartbeats 4000000 in
theorem rslot_any {w : World} {B g n : Nat} {R : Option Nat} {F : List Int} {s : Int} (h : RIs w B g R n F s) (hF : ∀ x ∈ F, 0 ≤ x ∧ x ≤ 255) (t k K f p E : Int) (he : ent n s F t k = (K, f, p, E)) :
    Calls Try.prog 57 #[.pointer (some ⟨g, 0, none⟩), .int .i64 t, .int .i64 k] w fun e w' => e = .returned (.agg #[.int .i64 K, .int .i64 f, .int .i64 p]) ∧ Below w.heap.size w w' := by
  have hb := Below.refl w.heap.size w
  have hu51 := Try.underlying51
  have HI := Lib.hid h
  have HF := Lib.hid hF
  clear h hF
  unfold ent at he
  obtain ⟨v, hv⟩ : ∃ v, wdV n s F true t k = v := ⟨_, rfl⟩
  have vb := wdV_in (n := n) (s := s) (sec := true) (f := t) (k := k) HF.out
  rw [hv] at he vb
  have HV := Lib.hid hv
  clear hv
  by_cases hm : mayW n s true t k = true
  · rw [if_pos hm] at he
    obtain ⟨v0, v1⟩ := vb
    have HE := Lib.hid (show wdE n s true t k = 0 by unfold wdE; rw [if_pos hm])
    have HT := Lib.hid he
    clear he hm
    go_enter Try.func57, Try.ntmps57
    go_wp2_with (first
      | ((with_reducible refine gate_dst (N := 6) rfl ?_); refine box_event ?hg (N := 6) ?hd (cs := #[.int .i64 0, .int .i64 0, .int .i64 0]) (t := 51) ?hr ?_; (case hd => rfl); (case hg => rfl); (case hr => first | (go_simp; done) | (go_simp; rfl)); intro g6 hge w6 BK6 hb6; have hg6 : w.heap.size ≤ g6 := (by rw [hge]; exact hb.size); clear hge; replace hb := bel_chain hb hb6; clear hb6)
      | ((with_reducible refine gate_dst (N := 9) rfl ?_); refine box_event ?hg (N := 9) ?hd (cs := #[.int .i64 0, .int .i64 0, .int .i64 0]) (t := 51) ?hr ?_; (case hd => rfl); (case hg => rfl); (case hr => first | (go_simp; done) | (go_simp; rfl)); intro g9 hge w9 BK9 hb9; have hg9 : w.heap.size ≤ g9 := (by rw [hge]; exact hb.size); have hne : g6 ≠ g9 := (by rw [hge]; exact Nat.ne_of_lt (blk_lt BK6)); replace BK6 := blk_below BK6 hb9; obtain ⟨⟨c0, c1, c2⟩, r0, r1, r2⟩ := cells3 BK6; obtain ⟨⟨d0, d1, d2⟩, s0, s1, s2⟩ := cells3 BK9; clear hge; replace hb := bel_chain hb hb9; clear hb9)
      | (go_at_call 41; refine (rget_any (HI.out.below hb) true t k HF.out).mono ?_; rw [HE.out, HV.out]; rintro e w2 ⟨rfl, hb2⟩; replace BK6 := blk_below BK6 hb2; replace hb := bel_chain hb hb2; clear hb2; obtain ⟨⟨c0, c1, c2⟩, r0, r1, r2⟩ := cells3 BK6)
      | (go_at_call 65; refine (rtake_any _ v v0 v1).mono ?_; rw [HT.out]; rintro e w3 ⟨rfl, hb3⟩; replace BK6 := blk_below BK6 hb3; clear c0 c1 c2 r0 r1 r2; replace hb := bel_chain hb hb3; clear hb3)
      | fail)
    obtain ⟨w4, e4, BK4, hb4, far4⟩ := store3 BK9 hb hg9 (.int .i64 K) (.int .i64 f) (.int .i64 p)
    rw [e4]
    replace BK6 := far4 _ _ hne BK6
    obtain ⟨w5, e5, BK5, hb5, _⟩ := store3 BK6 hb4 hg6 (.int .i64 K) (.int .i64 f) (.int .i64 p)
    rw [e5]
    (try simp only [Exit.inBlock, Exit.then])
    refine bodyPost_ret (rresults_c rfl _ _ g6 51 _ (0, 0) _ rfl BK5 Try.underlying51 rfl (by kernel_rfl)) rfl ?_
    exact ⟨rfl, hb5⟩
  · have HE := Lib.hid (show wdE n s true t k = -20 by unfold wdE; rw [if_neg hm])
    rw [if_neg hm] at he
    injection he with a1 he
    injection he with a2 he
    injection he with a3 a4
    subst a1 a2 a3 a4
    clear vb hm
    go_enter Try.func57, Try.ntmps57
    go_wp2_with (first
      | ((with_reducible refine gate_dst (N := 6) rfl ?_); refine box_event ?hg (N := 6) ?hd (cs := #[.int .i64 0, .int .i64 0, .int .i64 0]) (t := 51) ?hr ?_; (case hd => rfl); (case hg => rfl); (case hr => first | (go_simp; done) | (go_simp; rfl)); intro g6 hge w6 BK6 hb6; have hg6 : w.heap.size ≤ g6 := (by rw [hge]; exact hb.size); clear hge; replace hb := bel_chain hb hb6; clear hb6)
      | ((with_reducible refine gate_dst (N := 9) rfl ?_); refine box_event ?hg (N := 9) ?hd (cs := #[.int .i64 0, .int .i64 0, .int .i64 0]) (t := 51) ?hr ?_; (case hd => rfl); (case hg => rfl); (case hr => first | (go_simp; done) | (go_simp; rfl)); intro g9 hge w9 BK9 hb9; have hg9 : w.heap.size ≤ g9 := (by rw [hge]; exact hb.size); have hne : g6 ≠ g9 := (by rw [hge]; exact Nat.ne_of_lt (blk_lt BK6)); replace BK6 := blk_below BK6 hb9; obtain ⟨⟨c0, c1, c2⟩, r0, r1, r2⟩ := cells3 BK6; obtain ⟨⟨d0, d1, d2⟩, s0, s1, s2⟩ := cells3 BK9; clear hge; replace hb := bel_chain hb hb9; clear hb9)
      | (go_at_call 41; refine (rget_any (HI.out.below hb) true t k HF.out).mono ?_; rw [HE.out, HV.out]; rintro e w2 ⟨rfl, hb2⟩; replace BK6 := blk_below BK6 hb2; replace hb := bel_chain hb hb2; clear hb2; obtain ⟨⟨c0, c1, c2⟩, r0, r1, r2⟩ := cells3 BK6)
      | (go_at_call 65; refine (rtake_any _ v v0 v1).mono ?_; rw [HT.out]; rintro e w3 ⟨rfl, hb3⟩; replace BK6 := blk_below BK6 hb3; clear c0 c1 c2 r0 r1 r2; replace hb := bel_chain hb hb3; clear hb3)
      | fail)
    obtain ⟨w5, e5, BK5, hb5, _⟩ := store3 BK6 hb hg6 (.int .i64 0) (.int .i64 0) (.int .i64 0)
    rw [e5]
    (try simp only [Exit.inBlock, Exit.then])
    refine bodyPost_ret (rresults_c rfl _ _ g6 51 _ (0, 0) _ rfl BK5 Try.underlying51 rfl (by kernel_rfl)) rfl ?_
    exact ⟨rfl, hb5⟩
set_option maxRecDepth 100000 in
set_option maxHeartbeats 16000000 in
theorem rwalk_any {w : World} {B g n : Nat} {R : Option Nat} {F : List Int} {s : Int} (h : RIs w B g R n F s) (hF : ∀ x ∈ F, 0 ≤ x ∧ x ≤ 255) (root page : Int) :
    Calls Try.prog 32 #[.pointer (some ⟨g, 0, none⟩), .int .i64 root, .int .i64 page] w (WPost w (wk n s F root page)) := by
  have hb := Below.refl w.heap.size w
  have hu51 := Try.underlying51
  have hu58 := Try.underlying58
  have HI := Lib.hid h
  have HF := Lib.hid hF
  clear h hF
  unfold wk
  by_cases hp : 0 ≤ page ∧ page < 4096
  · rw [if_pos hp]
    obtain ⟨hp0, hp1⟩ := hp
    obtain ⟨b1, b2, b3, b4, b5⟩ := ent_in n s F root (page / 256)
    obtain ⟨K1, f1, p1, E1, h1⟩ : ∃ K f p E, ent n s F root (page / 256) = (K, f, p, E) := ⟨_, _, _, _, rfl⟩
    rw [h1] at b1 b2 b3 b4 b5 ⊢
    have H1 := Lib.hid h1
    clear h1 b5
    dsimp only at b1 b2 b3 b4 ⊢
    by_cases hK1 : K1 = 1
    · subst hK1
      rw [if_pos rfl]
      obtain ⟨B1, B2, B3, B4, B5⟩ := ent_in n s F f1 (page / 16 % 16)
      obtain ⟨K2, f2, p2, E2, h2⟩ : ∃ K f p E, ent n s F f1 (page / 16 % 16) = (K, f, p, E) := ⟨_, _, _, _, rfl⟩
      rw [h2] at B1 B2 B3 B4 B5 ⊢
      have H2 := Lib.hid h2
      clear h2 B5
      dsimp only at B1 B2 B3 B4 ⊢
      have hw : wrap64 (f2 + page % 16) = f2 + page % 16 := w64_in (by omega) (by omega)
      have hw' : IntKind.i64.wrap (f2 + page % 16) = f2 + page % 16 := by rw [IntKind.wrap_i64]; omega
      by_cases hK3 : K2 = 3
      · subst hK3
        rw [if_pos rfl]
        go_enter Try.func32, Try.ntmps32
        go_wp2_with (first
          | ((with_reducible refine gate_dst (N := 6) rfl ?_); refine box_event ?hg (N := 6) ?hd (cs := #[.int .i64 0, .int .i64 0]) (t := 58) ?hr ?_; (case hd => rfl); (case hg => rfl); (case hr => first | (go_simp; done) | (go_simp; rfl)); intro g6 hge w6 BK6 hb6; have hg6 : w.heap.size ≤ g6 := (by rw [hge]; exact hb.size); clear hge; replace hb := bel_chain hb hb6; clear hb6)
          | (go_at_call 34; refine (rpath_inW _ page hp0 hp1).mono ?_; rintro e w1 ⟨rfl, hb1⟩; replace BK6 := blk_below BK6 hb1; replace hb := bel_chain hb hb1; clear hb1; obtain ⟨d0, d1, s0, s1⟩ := cells2f BK6)
          | (go_at_call 57; (with_reducible refine (rslot_any (HI.out.below hb) HF.out (root) (page / 256) _ _ _ _ H1.out).mono ?_); rintro e u1 ⟨rfl, hb9⟩; replace BK6 := blk_below BK6 hb9; replace hb := bel_chain hb hb9; clear hb9)
          | ((with_reducible refine gate_dst (N := 13) rfl ?_); refine box_event ?hg (N := 13) ?hd (cs := #[.int .i64 0, .int .i64 0, .int .i64 0]) (t := 51) ?hr ?_; (case hd => rfl); (case hg => rfl); (case hr => first | (go_simp; done) | (go_simp; rfl)); intro g13 hge w13 BK13 hb13; have hg13 : w.heap.size ≤ g13 := (by rw [hge]; exact hb.size); have hn6_13 : g6 ≠ g13 := (by rw [hge]; exact Nat.ne_of_lt (blk_lt BK6)); replace BK6 := blk_below BK6 hb13; obtain ⟨x6, y6, q6, r6⟩ := cells2f BK6; obtain ⟨⟨x13, y13, z13⟩, q13, r13, t13⟩ := cells3 BK13; clear hge; replace hb := bel_chain hb hb13; clear hb13)
          | (go_at_call 57; obtain ⟨v13, e13, BK13', hb13', far13⟩ := store3 BK13 hb hg13 (.int .i64 1) (.int .i64 f1) (.int .i64 p1); rw [e13]; clear e13; replace BK6 := far13 _ _ hn6_13 BK6; clear far13 BK13; have BK13 := BK13'; clear BK13' hb; have hb := hb13'; clear hb13'; clear x6 y6 q6 r6; clear x13 y13 z13 q13 r13 t13; (with_reducible refine (rslot_any (HI.out.below hb) HF.out (f1) (page / 16 % 16) _ _ _ _ H2.out).mono ?_); rintro e u2 ⟨rfl, hb9⟩; replace BK6 := blk_below BK6 hb9; replace hb := bel_chain hb hb9; clear hb9)
          | ((with_reducible refine gate_dst (N := 14) rfl ?_); refine box_event ?hg (N := 14) ?hd (cs := #[.int .i64 0, .int .i64 0, .int .i64 0]) (t := 51) ?hr ?_; (case hd => rfl); (case hg => rfl); (case hr => first | (go_simp; done) | (go_simp; rfl)); intro g14 hge w14 BK14 hb14; have hg14 : w.heap.size ≤ g14 := (by rw [hge]; exact hb.size); have hn6_14 : g6 ≠ g14 := (by rw [hge]; exact Nat.ne_of_lt (blk_lt BK6)); replace BK6 := blk_below BK6 hb14; obtain ⟨x6, y6, q6, r6⟩ := cells2f BK6; obtain ⟨⟨x14, y14, z14⟩, q14, r14, t14⟩ := cells3 BK14; clear hge; replace hb := bel_chain hb hb14; clear hb14)
          | ((with_reducible refine gate_dst (N := 15) rfl ?_); obtain ⟨v14, e14, BK14', hb14', far14⟩ := store3 BK14 hb hg14 (.int .i64 3) (.int .i64 f2) (.int .i64 p2); rw [e14]; clear e14; replace BK6 := far14 _ _ hn6_14 BK6; clear far14 BK14; have BK14 := BK14'; clear BK14' hb; have hb := hb14'; clear hb14'; clear x6 y6 q6 r6; clear x14 y14 z14 q14 r14 t14; refine box_event ?hg (N := 15) ?hd (cs := #[.int .i64 0, .int .i64 0]) (t := 58) ?hr ?_; (case hd => rfl); (case hg => rfl); (case hr => first | (go_simp; done) | (go_simp; rfl)); intro g15 hge w15 BK15 hb15; have hg15 : w.heap.size ≤ g15 := (by rw [hge]; exact hb.size); have hn6_15 : g6 ≠ g15 := (by rw [hge]; exact Nat.ne_of_lt (blk_lt BK6)); replace BK6 := blk_below BK6 hb15; have hn14_15 : g14 ≠ g15 := (by rw [hge]; exact Nat.ne_of_lt (blk_lt BK14)); replace BK14 := blk_below BK14 hb15; obtain ⟨x6, y6, q6, r6⟩ := cells2f BK6; obtain ⟨⟨x14, y14, z14⟩, q14, r14, t14⟩ := cells3 BK14; obtain ⟨x15, y15, q15, r15⟩ := cells2f BK15; clear hge; replace hb := bel_chain hb hb15; clear hb15)
          | (go_at_call 57; obtain ⟨v15, e15, BK15', hb15', far15⟩ := store2 BK15 hb hg15 (.int .i64 (f2 + page % 16)) (.int .i64 p2); rw [e15]; clear e15; replace BK6 := far15 _ _ hn6_15 BK6; replace BK14 := far15 _ _ hn14_15 BK14; clear far15 BK15; have BK15 := BK15'; clear BK15' hb; have hb := hb15'; clear hb15'; clear x6 y6 q6 r6; clear x14 y14 z14 q14 r14 t14; clear x15 y15 q15 r15; (with_reducible refine (rslot_any (HI.out.below hb) HF.out (f2) (page % 16) _ _ _ _ H3.out).mono ?_); rintro e u3 ⟨rfl, hb9⟩; replace BK6 := blk_below BK6 hb9; replace BK15 := blk_below BK15 hb9; replace hb := bel_chain hb hb9; clear hb9)
          | ((with_reducible refine gate_dst (N := 17) rfl ?_); refine box_event ?hg (N := 17) ?hd (cs := #[.int .i64 0, .int .i64 0, .int .i64 0]) (t := 51) ?hr ?_; (case hd => rfl); (case hg => rfl); (case hr => first | (go_simp; done) | (go_simp; rfl)); intro g17 hge w17 BK17 hb17; have hg17 : w.heap.size ≤ g17 := (by rw [hge]; exact hb.size); have hn6_17 : g6 ≠ g17 := (by rw [hge]; exact Nat.ne_of_lt (blk_lt BK6)); replace BK6 := blk_below BK6 hb17; have hn15_17 : g15 ≠ g17 := (by rw [hge]; exact Nat.ne_of_lt (blk_lt BK15)); replace BK15 := blk_below BK15 hb17; obtain ⟨x6, y6, q6, r6⟩ := cells2f BK6; obtain ⟨x15, y15, q15, r15⟩ := cells2f BK15; obtain ⟨⟨x17, y17, z17⟩, q17, r17, t17⟩ := cells3 BK17; clear hge; replace hb := bel_chain hb hb17; clear hb17)
          | fail)
        obtain ⟨v15, e15, BK15', hb15', far15⟩ := store2 BK15 hb hg15 (.int .i64 (f2 + page % 16)) (.int .i64 p2)
        rw [e15]
        clear e15
        replace BK6 := far15 _ _ hn6_15 BK6
        clear far15 BK15
        have BK15 := BK15'
        clear BK15' hb
        have hb := hb15'
        clear hb15'
        clear x6 y6 q6 r6 x15 y15 q15 r15
        obtain ⟨x6, y6, q6, r6⟩ := cells2f BK6
        obtain ⟨x15, y15, q15, r15⟩ := cells2f BK15
        obtain ⟨A, c, hgm, _, _, _, _, _⟩ := HI.out.below hb
        have m0 := blk_cell hgm 0
        have m0' : World.cell? _ ⟨g, 0, none⟩ = some (.slice A n c) := m0
        clear m0 hgm
        by_cases hlt : f2 + page % 16 < (n : Int)
        · have dl : decide ((n : Int) ≤ f2 + page % 16) = false := decide_eq_false (by omega)
          have hL := Lib.hid (show lf n (f2 + page % 16) p2 2 = (f2 + page % 16, p2, 2, 0) from if_pos hlt)
          clear hlt
          go_quiet (fail)
          go_wp2
          obtain ⟨v8, e8, BK8, hb8, _⟩ := store2 (w := World.drewN _ nq) (BK6) (bel_drewN hb nq) hg6 (.int .i64 (f2 + page % 16)) (.int .i64 p2)
          rw [e8]
          (try simp only [Exit.inBlock, Exit.then])
          refine bodyPost_ret (results_ctt rfl _ _ g6 58 _ (0, 0) _ rfl BK8 Try.underlying58 rfl (by kernel_rfl)) rfl ?_
          refine ⟨?_, hb8⟩
          rw [hL.out]
          rfl
        · have dl : decide ((n : Int) ≤ f2 + page % 16) = true := decide_eq_true (by omega)
          have hL := Lib.hid (show lf n (f2 + page % 16) p2 2 = (0, 0, 0, -20) from if_neg hlt)
          clear hlt
          go_quiet (fail)
          go_wp2
          obtain ⟨v8, e8, BK8, hb8, _⟩ := store2 (w := World.drewN _ nq) (BK6) (bel_drewN hb nq) hg6 (.int .i64 (0)) (.int .i64 0)
          rw [e8]
          (try simp only [Exit.inBlock, Exit.then])
          refine bodyPost_ret (results_ctt rfl _ _ g6 58 _ (0, 0) _ rfl BK8 Try.underlying58 rfl (by kernel_rfl)) rfl ?_
          refine ⟨?_, hb8⟩
          rw [hL.out]
          rfl
      · rw [if_neg hK3]
        by_cases hK2 : K2 = 1
        · subst hK2
          rw [if_pos rfl]
          clear hK3
          obtain ⟨C1, C2, C3, C4, C5⟩ := ent_in n s F f2 (page % 16)
          obtain ⟨K3, f3, p3, E3, h3⟩ : ∃ K f p E, ent n s F f2 (page % 16) = (K, f, p, E) := ⟨_, _, _, _, rfl⟩
          rw [h3] at C1 C2 C3 C4 C5 ⊢
          have H3 := Lib.hid h3
          clear h3 C5
          dsimp only at C1 C2 C3 C4 ⊢
          by_cases hK4 : K3 = 2
          · subst hK4
            rw [if_pos rfl]
            go_enter Try.func32, Try.ntmps32
            go_wp2_with (first
              | ((with_reducible refine gate_dst (N := 6) rfl ?_); refine box_event ?hg (N := 6) ?hd (cs := #[.int .i64 0, .int .i64 0]) (t := 58) ?hr ?_; (case hd => rfl); (case hg => rfl); (case hr => first | (go_simp; done) | (go_simp; rfl)); intro g6 hge w6 BK6 hb6; have hg6 : w.heap.size ≤ g6 := (by rw [hge]; exact hb.size); clear hge; replace hb := bel_chain hb hb6; clear hb6)
              | (go_at_call 34; refine (rpath_inW _ page hp0 hp1).mono ?_; rintro e w1 ⟨rfl, hb1⟩; replace BK6 := blk_below BK6 hb1; replace hb := bel_chain hb hb1; clear hb1; obtain ⟨d0, d1, s0, s1⟩ := cells2f BK6)
              | (go_at_call 57; (with_reducible refine (rslot_any (HI.out.below hb) HF.out (root) (page / 256) _ _ _ _ H1.out).mono ?_); rintro e u1 ⟨rfl, hb9⟩; replace BK6 := blk_below BK6 hb9; replace hb := bel_chain hb hb9; clear hb9)
              | ((with_reducible refine gate_dst (N := 13) rfl ?_); refine box_event ?hg (N := 13) ?hd (cs := #[.int .i64 0, .int .i64 0, .int .i64 0]) (t := 51) ?hr ?_; (case hd => rfl); (case hg => rfl); (case hr => first | (go_simp; done) | (go_simp; rfl)); intro g13 hge w13 BK13 hb13; have hg13 : w.heap.size ≤ g13 := (by rw [hge]; exact hb.size); have hn6_13 : g6 ≠ g13 := (by rw [hge]; exact Nat.ne_of_lt (blk_lt BK6)); replace BK6 := blk_below BK6 hb13; obtain ⟨x6, y6, q6, r6⟩ := cells2f BK6; obtain ⟨⟨x13, y13, z13⟩, q13, r13, t13⟩ := cells3 BK13; clear hge; replace hb := bel_chain hb hb13; clear hb13)
              | (go_at_call 57; obtain ⟨v13, e13, BK13', hb13', far13⟩ := store3 BK13 hb hg13 (.int .i64 1) (.int .i64 f1) (.int .i64 p1); rw [e13]; clear e13; replace BK6 := far13 _ _ hn6_13 BK6; clear far13 BK13; have BK13 := BK13'; clear BK13' hb; have hb := hb13'; clear hb13'; clear x6 y6 q6 r6; clear x13 y13 z13 q13 r13 t13; (with_reducible refine (rslot_any (HI.out.below hb) HF.out (f1) (page / 16 % 16) _ _ _ _ H2.out).mono ?_); rintro e u2 ⟨rfl, hb9⟩; replace BK6 := blk_below BK6 hb9; replace hb := bel_chain hb hb9; clear hb9)
              | ((with_reducible refine gate_dst (N := 14) rfl ?_); refine box_event ?hg (N := 14) ?hd (cs := #[.int .i64 0, .int .i64 0, .int .i64 0]) (t := 51) ?hr ?_; (case hd => rfl); (case hg => rfl); (case hr => first | (go_simp; done) | (go_simp; rfl)); intro g14 hge w14 BK14 hb14; have hg14 : w.heap.size ≤ g14 := (by rw [hge]; exact hb.size); have hn6_14 : g6 ≠ g14 := (by rw [hge]; exact Nat.ne_of_lt (blk_lt BK6)); replace BK6 := blk_below BK6 hb14; obtain ⟨x6, y6, q6, r6⟩ := cells2f BK6; obtain ⟨⟨x14, y14, z14⟩, q14, r14, t14⟩ := cells3 BK14; clear hge; replace hb := bel_chain hb hb14; clear hb14)
              | ((with_reducible refine gate_dst (N := 15) rfl ?_); obtain ⟨v14, e14, BK14', hb14', far14⟩ := store3 BK14 hb hg14 (.int .i64 1) (.int .i64 f2) (.int .i64 p2); rw [e14]; clear e14; replace BK6 := far14 _ _ hn6_14 BK6; clear far14 BK14; have BK14 := BK14'; clear BK14' hb; have hb := hb14'; clear hb14'; clear x6 y6 q6 r6; clear x14 y14 z14 q14 r14 t14; refine box_event ?hg (N := 15) ?hd (cs := #[.int .i64 0, .int .i64 0]) (t := 58) ?hr ?_; (case hd => rfl); (case hg => rfl); (case hr => first | (go_simp; done) | (go_simp; rfl)); intro g15 hge w15 BK15 hb15; have hg15 : w.heap.size ≤ g15 := (by rw [hge]; exact hb.size); have hn6_15 : g6 ≠ g15 := (by rw [hge]; exact Nat.ne_of_lt (blk_lt BK6)); replace BK6 := blk_below BK6 hb15; have hn14_15 : g14 ≠ g15 := (by rw [hge]; exact Nat.ne_of_lt (blk_lt BK14)); replace BK14 := blk_below BK14 hb15; obtain ⟨x6, y6, q6, r6⟩ := cells2f BK6; obtain ⟨⟨x14, y14, z14⟩, q14, r14, t14⟩ := cells3 BK14; obtain ⟨x15, y15, q15, r15⟩ := cells2f BK15; clear hge; replace hb := bel_chain hb hb15; clear hb15)
              | (go_at_call 57; obtain ⟨v15, e15, BK15', hb15', far15⟩ := store2 BK15 hb hg15 (.int .i64 (f2 + page % 16)) (.int .i64 p2); rw [e15]; clear e15; replace BK6 := far15 _ _ hn6_15 BK6; replace BK14 := far15 _ _ hn14_15 BK14; clear far15 BK15; have BK15 := BK15'; clear BK15' hb; have hb := hb15'; clear hb15'; clear x6 y6 q6 r6; clear x14 y14 z14 q14 r14 t14; clear x15 y15 q15 r15; (with_reducible refine (rslot_any (HI.out.below hb) HF.out (f2) (page % 16) _ _ _ _ H3.out).mono ?_); rintro e u3 ⟨rfl, hb9⟩; replace BK6 := blk_below BK6 hb9; replace BK15 := blk_below BK15 hb9; replace hb := bel_chain hb hb9; clear hb9)
              | ((with_reducible refine gate_dst (N := 17) rfl ?_); refine box_event ?hg (N := 17) ?hd (cs := #[.int .i64 0, .int .i64 0, .int .i64 0]) (t := 51) ?hr ?_; (case hd => rfl); (case hg => rfl); (case hr => first | (go_simp; done) | (go_simp; rfl)); intro g17 hge w17 BK17 hb17; have hg17 : w.heap.size ≤ g17 := (by rw [hge]; exact hb.size); have hn6_17 : g6 ≠ g17 := (by rw [hge]; exact Nat.ne_of_lt (blk_lt BK6)); replace BK6 := blk_below BK6 hb17; have hn15_17 : g15 ≠ g17 := (by rw [hge]; exact Nat.ne_of_lt (blk_lt BK15)); replace BK15 := blk_below BK15 hb17; obtain ⟨x6, y6, q6, r6⟩ := cells2f BK6; obtain ⟨x15, y15, q15, r15⟩ := cells2f BK15; obtain ⟨⟨x17, y17, z17⟩, q17, r17, t17⟩ := cells3 BK17; clear hge; replace hb := bel_chain hb hb17; clear hb17)
              | fail)
            obtain ⟨v17, e17, BK17', hb17', far17⟩ := store3 BK17 hb hg17 (.int .i64 2) (.int .i64 f3) (.int .i64 p3)
            rw [e17]
            clear e17
            replace BK6 := far17 _ _ hn6_17 BK6
            replace BK15 := far17 _ _ hn15_17 BK15
            clear far17 BK17
            have BK17 := BK17'
            clear BK17' hb
            have hb := hb17'
            clear hb17'
            obtain ⟨v15, e15, BK15', hb15', far15⟩ := store2 BK15 hb hg15 (.int .i64 f3) (.int .i64 p3)
            rw [e15]
            clear e15
            replace BK6 := far15 _ _ hn6_15 BK6
            clear far15 BK15
            have BK15 := BK15'
            clear BK15' hb
            have hb := hb15'
            clear hb15'
            clear x6 y6 q6 r6 x15 y15 q15 r15
            obtain ⟨x6, y6, q6, r6⟩ := cells2f BK6
            obtain ⟨x15, y15, q15, r15⟩ := cells2f BK15
            obtain ⟨A, c, hgm, _, _, _, _, _⟩ := HI.out.below hb
            have m0 := blk_cell hgm 0
            have m0' : World.cell? _ ⟨g, 0, none⟩ = some (.slice A n c) := m0
            clear m0 hgm
            by_cases hlt : f3 < (n : Int)
            · have dl : decide ((n : Int) ≤ f3) = false := decide_eq_false (by omega)
              have hL := Lib.hid (show lf n (f3) p3 3 = (f3, p3, 3, 0) from if_pos hlt)
              clear hlt
              go_quiet (fail)
              go_wp2
              obtain ⟨v8, e8, BK8, hb8, _⟩ := store2 (w := World.drewN _ nq) (BK6) (bel_drewN hb nq) hg6 (.int .i64 (f3)) (.int .i64 p3)
              rw [e8]
              (try simp only [Exit.inBlock, Exit.then])
              refine bodyPost_ret (results_ctt rfl _ _ g6 58 _ (0, 0) _ rfl BK8 Try.underlying58 rfl (by kernel_rfl)) rfl ?_
              refine ⟨?_, hb8⟩
              rw [hL.out]
              rfl
            · have dl : decide ((n : Int) ≤ f3) = true := decide_eq_true (by omega)
              have hL := Lib.hid (show lf n (f3) p3 3 = (0, 0, 0, -20) from if_neg hlt)
              clear hlt
              go_quiet (fail)
              go_wp2
              obtain ⟨v8, e8, BK8, hb8, _⟩ := store2 (w := World.drewN _ nq) (BK6) (bel_drewN hb nq) hg6 (.int .i64 (0)) (.int .i64 0)
              rw [e8]
              (try simp only [Exit.inBlock, Exit.then])
              refine bodyPost_ret (results_ctt rfl _ _ g6 58 _ (0, 0) _ rfl BK8 Try.underlying58 rfl (by kernel_rfl)) rfl ?_
              refine ⟨?_, hb8⟩
              rw [hL.out]
              rfl
          · rw [if_neg hK4]
            have q1 : (K3 == 2) = false := beq_eq_false_iff_ne.mpr hK4
            have q2 : (K3 != 2) = true := bne_iff_ne.mpr hK4
            clear hK4
            go_enter Try.func32, Try.ntmps32
            go_wp2_with (first
              | ((with_reducible refine gate_dst (N := 6) rfl ?_); refine box_event ?hg (N := 6) ?hd (cs := #[.int .i64 0, .int .i64 0]) (t := 58) ?hr ?_; (case hd => rfl); (case hg => rfl); (case hr => first | (go_simp; done) | (go_simp; rfl)); intro g6 hge w6 BK6 hb6; have hg6 : w.heap.size ≤ g6 := (by rw [hge]; exact hb.size); clear hge; replace hb := bel_chain hb hb6; clear hb6)
              | (go_at_call 34; refine (rpath_inW _ page hp0 hp1).mono ?_; rintro e w1 ⟨rfl, hb1⟩; replace BK6 := blk_below BK6 hb1; replace hb := bel_chain hb hb1; clear hb1; obtain ⟨d0, d1, s0, s1⟩ := cells2f BK6)
              | (go_at_call 57; (with_reducible refine (rslot_any (HI.out.below hb) HF.out (root) (page / 256) _ _ _ _ H1.out).mono ?_); rintro e u1 ⟨rfl, hb9⟩; replace BK6 := blk_below BK6 hb9; replace hb := bel_chain hb hb9; clear hb9)
              | ((with_reducible refine gate_dst (N := 13) rfl ?_); refine box_event ?hg (N := 13) ?hd (cs := #[.int .i64 0, .int .i64 0, .int .i64 0]) (t := 51) ?hr ?_; (case hd => rfl); (case hg => rfl); (case hr => first | (go_simp; done) | (go_simp; rfl)); intro g13 hge w13 BK13 hb13; have hg13 : w.heap.size ≤ g13 := (by rw [hge]; exact hb.size); have hn6_13 : g6 ≠ g13 := (by rw [hge]; exact Nat.ne_of_lt (blk_lt BK6)); replace BK6 := blk_below BK6 hb13; obtain ⟨x6, y6, q6, r6⟩ := cells2f BK6; obtain ⟨⟨x13, y13, z13⟩, q13, r13, t13⟩ := cells3 BK13; clear hge; replace hb := bel_chain hb hb13; clear hb13)
              | (go_at_call 57; obtain ⟨v13, e13, BK13', hb13', far13⟩ := store3 BK13 hb hg13 (.int .i64 1) (.int .i64 f1) (.int .i64 p1); rw [e13]; clear e13; replace BK6 := far13 _ _ hn6_13 BK6; clear far13 BK13; have BK13 := BK13'; clear BK13' hb; have hb := hb13'; clear hb13'; clear x6 y6 q6 r6; clear x13 y13 z13 q13 r13 t13; (with_reducible refine (rslot_any (HI.out.below hb) HF.out (f1) (page / 16 % 16) _ _ _ _ H2.out).mono ?_); rintro e u2 ⟨rfl, hb9⟩; replace BK6 := blk_below BK6 hb9; replace hb := bel_chain hb hb9; clear hb9)
              | ((with_reducible refine gate_dst (N := 14) rfl ?_); refine box_event ?hg (N := 14) ?hd (cs := #[.int .i64 0, .int .i64 0, .int .i64 0]) (t := 51) ?hr ?_; (case hd => rfl); (case hg => rfl); (case hr => first | (go_simp; done) | (go_simp; rfl)); intro g14 hge w14 BK14 hb14; have hg14 : w.heap.size ≤ g14 := (by rw [hge]; exact hb.size); have hn6_14 : g6 ≠ g14 := (by rw [hge]; exact Nat.ne_of_lt (blk_lt BK6)); replace BK6 := blk_below BK6 hb14; obtain ⟨x6, y6, q6, r6⟩ := cells2f BK6; obtain ⟨⟨x14, y14, z14⟩, q14, r14, t14⟩ := cells3 BK14; clear hge; replace hb := bel_chain hb hb14; clear hb14)
              | ((with_reducible refine gate_dst (N := 15) rfl ?_); obtain ⟨v14, e14, BK14', hb14', far14⟩ := store3 BK14 hb hg14 (.int .i64 1) (.int .i64 f2) (.int .i64 p2); rw [e14]; clear e14; replace BK6 := far14 _ _ hn6_14 BK6; clear far14 BK14; have BK14 := BK14'; clear BK14' hb; have hb := hb14'; clear hb14'; clear x6 y6 q6 r6; clear x14 y14 z14 q14 r14 t14; refine box_event ?hg (N := 15) ?hd (cs := #[.int .i64 0, .int .i64 0]) (t := 58) ?hr ?_; (case hd => rfl); (case hg => rfl); (case hr => first | (go_simp; done) | (go_simp; rfl)); intro g15 hge w15 BK15 hb15; have hg15 : w.heap.size ≤ g15 := (by rw [hge]; exact hb.size); have hn6_15 : g6 ≠ g15 := (by rw [hge]; exact Nat.ne_of_lt (blk_lt BK6)); replace BK6 := blk_below BK6 hb15; have hn14_15 : g14 ≠ g15 := (by rw [hge]; exact Nat.ne_of_lt (blk_lt BK14)); replace BK14 := blk_below BK14 hb15; obtain ⟨x6, y6, q6, r6⟩ := cells2f BK6; obtain ⟨⟨x14, y14, z14⟩, q14, r14, t14⟩ := cells3 BK14; obtain ⟨x15, y15, q15, r15⟩ := cells2f BK15; clear hge; replace hb := bel_chain hb hb15; clear hb15)
              | (go_at_call 57; obtain ⟨v15, e15, BK15', hb15', far15⟩ := store2 BK15 hb hg15 (.int .i64 (f2 + page % 16)) (.int .i64 p2); rw [e15]; clear e15; replace BK6 := far15 _ _ hn6_15 BK6; replace BK14 := far15 _ _ hn14_15 BK14; clear far15 BK15; have BK15 := BK15'; clear BK15' hb; have hb := hb15'; clear hb15'; clear x6 y6 q6 r6; clear x14 y14 z14 q14 r14 t14; clear x15 y15 q15 r15; (with_reducible refine (rslot_any (HI.out.below hb) HF.out (f2) (page % 16) _ _ _ _ H3.out).mono ?_); rintro e u3 ⟨rfl, hb9⟩; replace BK6 := blk_below BK6 hb9; replace BK15 := blk_below BK15 hb9; replace hb := bel_chain hb hb9; clear hb9)
              | ((with_reducible refine gate_dst (N := 17) rfl ?_); refine box_event ?hg (N := 17) ?hd (cs := #[.int .i64 0, .int .i64 0, .int .i64 0]) (t := 51) ?hr ?_; (case hd => rfl); (case hg => rfl); (case hr => first | (go_simp; done) | (go_simp; rfl)); intro g17 hge w17 BK17 hb17; have hg17 : w.heap.size ≤ g17 := (by rw [hge]; exact hb.size); have hn6_17 : g6 ≠ g17 := (by rw [hge]; exact Nat.ne_of_lt (blk_lt BK6)); replace BK6 := blk_below BK6 hb17; have hn15_17 : g15 ≠ g17 := (by rw [hge]; exact Nat.ne_of_lt (blk_lt BK15)); replace BK15 := blk_below BK15 hb17; obtain ⟨x6, y6, q6, r6⟩ := cells2f BK6; obtain ⟨x15, y15, q15, r15⟩ := cells2f BK15; obtain ⟨⟨x17, y17, z17⟩, q17, r17, t17⟩ := cells3 BK17; clear hge; replace hb := bel_chain hb hb17; clear hb17)
              | fail)
            obtain ⟨v17, e17, BK17', hb17', far17⟩ := store3 BK17 hb hg17 (.int .i64 K3) (.int .i64 f3) (.int .i64 p3)
            rw [e17]
            clear e17
            replace BK6 := far17 _ _ hn6_17 BK6
            clear far17 BK17
            have BK17 := BK17'
            clear BK17' hb
            have hb := hb17'
            clear hb17'
            obtain ⟨v8, e8, BK8, hb8, _⟩ := store2 BK6 hb hg6 (.int .i64 0) (.int .i64 0)
            rw [e8]
            (try simp only [Exit.inBlock, Exit.then])
            refine bodyPost_ret (results_ctt rfl _ _ g6 58 _ (0, 0) _ rfl BK8 Try.underlying58 rfl (by kernel_rfl)) rfl ?_
            exact ⟨rfl, hb8⟩
        · rw [if_neg hK2]
          have q1 : (K2 == 1) = false := beq_eq_false_iff_ne.mpr hK2
          have q2 : (K2 != 1) = true := bne_iff_ne.mpr hK2
          have q3 : (K2 == 3) = false := beq_eq_false_iff_ne.mpr hK3
          have q4 : (K2 != 3) = true := bne_iff_ne.mpr hK3
          clear hK2 hK3
          go_enter Try.func32, Try.ntmps32
          go_wp2_with (first
            | ((with_reducible refine gate_dst (N := 6) rfl ?_); refine box_event ?hg (N := 6) ?hd (cs := #[.int .i64 0, .int .i64 0]) (t := 58) ?hr ?_; (case hd => rfl); (case hg => rfl); (case hr => first | (go_simp; done) | (go_simp; rfl)); intro g6 hge w6 BK6 hb6; have hg6 : w.heap.size ≤ g6 := (by rw [hge]; exact hb.size); clear hge; replace hb := bel_chain hb hb6; clear hb6)
            | (go_at_call 34; refine (rpath_inW _ page hp0 hp1).mono ?_; rintro e w1 ⟨rfl, hb1⟩; replace BK6 := blk_below BK6 hb1; replace hb := bel_chain hb hb1; clear hb1; obtain ⟨d0, d1, s0, s1⟩ := cells2f BK6)
            | (go_at_call 57; (with_reducible refine (rslot_any (HI.out.below hb) HF.out (root) (page / 256) _ _ _ _ H1.out).mono ?_); rintro e u1 ⟨rfl, hb9⟩; replace BK6 := blk_below BK6 hb9; replace hb := bel_chain hb hb9; clear hb9)
            | ((with_reducible refine gate_dst (N := 13) rfl ?_); refine box_event ?hg (N := 13) ?hd (cs := #[.int .i64 0, .int .i64 0, .int .i64 0]) (t := 51) ?hr ?_; (case hd => rfl); (case hg => rfl); (case hr => first | (go_simp; done) | (go_simp; rfl)); intro g13 hge w13 BK13 hb13; have hg13 : w.heap.size ≤ g13 := (by rw [hge]; exact hb.size); have hn6_13 : g6 ≠ g13 := (by rw [hge]; exact Nat.ne_of_lt (blk_lt BK6)); replace BK6 := blk_below BK6 hb13; obtain ⟨x6, y6, q6, r6⟩ := cells2f BK6; obtain ⟨⟨x13, y13, z13⟩, q13, r13, t13⟩ := cells3 BK13; clear hge; replace hb := bel_chain hb hb13; clear hb13)
            | (go_at_call 57; obtain ⟨v13, e13, BK13', hb13', far13⟩ := store3 BK13 hb hg13 (.int .i64 1) (.int .i64 f1) (.int .i64 p1); rw [e13]; clear e13; replace BK6 := far13 _ _ hn6_13 BK6; clear far13 BK13; have BK13 := BK13'; clear BK13' hb; have hb := hb13'; clear hb13'; clear x6 y6 q6 r6; clear x13 y13 z13 q13 r13 t13; (with_reducible refine (rslot_any (HI.out.below hb) HF.out (f1) (page / 16 % 16) _ _ _ _ H2.out).mono ?_); rintro e u2 ⟨rfl, hb9⟩; replace BK6 := blk_below BK6 hb9; replace hb := bel_chain hb hb9; clear hb9)
            | ((with_reducible refine gate_dst (N := 14) rfl ?_); refine box_event ?hg (N := 14) ?hd (cs := #[.int .i64 0, .int .i64 0, .int .i64 0]) (t := 51) ?hr ?_; (case hd => rfl); (case hg => rfl); (case hr => first | (go_simp; done) | (go_simp; rfl)); intro g14 hge w14 BK14 hb14; have hg14 : w.heap.size ≤ g14 := (by rw [hge]; exact hb.size); have hn6_14 : g6 ≠ g14 := (by rw [hge]; exact Nat.ne_of_lt (blk_lt BK6)); replace BK6 := blk_below BK6 hb14; obtain ⟨x6, y6, q6, r6⟩ := cells2f BK6; obtain ⟨⟨x14, y14, z14⟩, q14, r14, t14⟩ := cells3 BK14; clear hge; replace hb := bel_chain hb hb14; clear hb14)
            | ((with_reducible refine gate_dst (N := 15) rfl ?_); obtain ⟨v14, e14, BK14', hb14', far14⟩ := store3 BK14 hb hg14 (.int .i64 K2) (.int .i64 f2) (.int .i64 p2); rw [e14]; clear e14; replace BK6 := far14 _ _ hn6_14 BK6; clear far14 BK14; have BK14 := BK14'; clear BK14' hb; have hb := hb14'; clear hb14'; clear x6 y6 q6 r6; clear x14 y14 z14 q14 r14 t14; refine box_event ?hg (N := 15) ?hd (cs := #[.int .i64 0, .int .i64 0]) (t := 58) ?hr ?_; (case hd => rfl); (case hg => rfl); (case hr => first | (go_simp; done) | (go_simp; rfl)); intro g15 hge w15 BK15 hb15; have hg15 : w.heap.size ≤ g15 := (by rw [hge]; exact hb.size); have hn6_15 : g6 ≠ g15 := (by rw [hge]; exact Nat.ne_of_lt (blk_lt BK6)); replace BK6 := blk_below BK6 hb15; have hn14_15 : g14 ≠ g15 := (by rw [hge]; exact Nat.ne_of_lt (blk_lt BK14)); replace BK14 := blk_below BK14 hb15; obtain ⟨x6, y6, q6, r6⟩ := cells2f BK6; obtain ⟨⟨x14, y14, z14⟩, q14, r14, t14⟩ := cells3 BK14; obtain ⟨x15, y15, q15, r15⟩ := cells2f BK15; clear hge; replace hb := bel_chain hb hb15; clear hb15)
            | (go_at_call 57; obtain ⟨v15, e15, BK15', hb15', far15⟩ := store2 BK15 hb hg15 (.int .i64 (f2 + page % 16)) (.int .i64 p2); rw [e15]; clear e15; replace BK6 := far15 _ _ hn6_15 BK6; replace BK14 := far15 _ _ hn14_15 BK14; clear far15 BK15; have BK15 := BK15'; clear BK15' hb; have hb := hb15'; clear hb15'; clear x6 y6 q6 r6; clear x14 y14 z14 q14 r14 t14; clear x15 y15 q15 r15; (with_reducible refine (rslot_any (HI.out.below hb) HF.out (f2) (page % 16) _ _ _ _ H3.out).mono ?_); rintro e u3 ⟨rfl, hb9⟩; replace BK6 := blk_below BK6 hb9; replace BK15 := blk_below BK15 hb9; replace hb := bel_chain hb hb9; clear hb9)
            | ((with_reducible refine gate_dst (N := 17) rfl ?_); refine box_event ?hg (N := 17) ?hd (cs := #[.int .i64 0, .int .i64 0, .int .i64 0]) (t := 51) ?hr ?_; (case hd => rfl); (case hg => rfl); (case hr => first | (go_simp; done) | (go_simp; rfl)); intro g17 hge w17 BK17 hb17; have hg17 : w.heap.size ≤ g17 := (by rw [hge]; exact hb.size); have hn6_17 : g6 ≠ g17 := (by rw [hge]; exact Nat.ne_of_lt (blk_lt BK6)); replace BK6 := blk_below BK6 hb17; have hn15_17 : g15 ≠ g17 := (by rw [hge]; exact Nat.ne_of_lt (blk_lt BK15)); replace BK15 := blk_below BK15 hb17; obtain ⟨x6, y6, q6, r6⟩ := cells2f BK6; obtain ⟨x15, y15, q15, r15⟩ := cells2f BK15; obtain ⟨⟨x17, y17, z17⟩, q17, r17, t17⟩ := cells3 BK17; clear hge; replace hb := bel_chain hb hb17; clear hb17)
            | fail)
          obtain ⟨v15, e15, BK15', hb15', far15⟩ := store2 BK15 hb hg15 (.int .i64 (f2 + page % 16)) (.int .i64 p2)
          rw [e15]
          clear e15
          replace BK6 := far15 _ _ hn6_15 BK6
          clear far15 BK15
          have BK15 := BK15'
          clear BK15' hb
          have hb := hb15'
          clear hb15'
          obtain ⟨v8, e8, BK8, hb8, _⟩ := store2 BK6 hb hg6 (.int .i64 0) (.int .i64 0)
          rw [e8]
          (try simp only [Exit.inBlock, Exit.then])
          refine bodyPost_ret (results_ctt rfl _ _ g6 58 _ (0, 0) _ rfl BK8 Try.underlying58 rfl (by kernel_rfl)) rfl ?_
          exact ⟨rfl, hb8⟩
    · rw [if_neg hK1]
      have q1 : (K1 == 1) = false := beq_eq_false_iff_ne.mpr hK1
      have q2 : (K1 != 1) = true := bne_iff_ne.mpr hK1
      clear hK1
      go_enter Try.func32, Try.ntmps32
      go_wp2_with (first
        | ((with_reducible refine gate_dst (N := 6) rfl ?_); refine box_event ?hg (N := 6) ?hd (cs := #[.int .i64 0, .int .i64 0]) (t := 58) ?hr ?_; (case hd => rfl); (case hg => rfl); (case hr => first | (go_simp; done) | (go_simp; rfl)); intro g6 hge w6 BK6 hb6; have hg6 : w.heap.size ≤ g6 := (by rw [hge]; exact hb.size); clear hge; replace hb := bel_chain hb hb6; clear hb6)
        | (go_at_call 34; refine (rpath_inW _ page hp0 hp1).mono ?_; rintro e w1 ⟨rfl, hb1⟩; replace BK6 := blk_below BK6 hb1; replace hb := bel_chain hb hb1; clear hb1; obtain ⟨d0, d1, s0, s1⟩ := cells2f BK6)
        | (go_at_call 57; (with_reducible refine (rslot_any (HI.out.below hb) HF.out (root) (page / 256) _ _ _ _ H1.out).mono ?_); rintro e u1 ⟨rfl, hb9⟩; replace BK6 := blk_below BK6 hb9; replace hb := bel_chain hb hb9; clear hb9)
        | ((with_reducible refine gate_dst (N := 13) rfl ?_); refine box_event ?hg (N := 13) ?hd (cs := #[.int .i64 0, .int .i64 0, .int .i64 0]) (t := 51) ?hr ?_; (case hd => rfl); (case hg => rfl); (case hr => first | (go_simp; done) | (go_simp; rfl)); intro g13 hge w13 BK13 hb13; have hg13 : w.heap.size ≤ g13 := (by rw [hge]; exact hb.size); have hn6_13 : g6 ≠ g13 := (by rw [hge]; exact Nat.ne_of_lt (blk_lt BK6)); replace BK6 := blk_below BK6 hb13; obtain ⟨x6, y6, q6, r6⟩ := cells2f BK6; obtain ⟨⟨x13, y13, z13⟩, q13, r13, t13⟩ := cells3 BK13; clear hge; replace hb := bel_chain hb hb13; clear hb13)
        | (go_at_call 57; obtain ⟨v13, e13, BK13', hb13', far13⟩ := store3 BK13 hb hg13 (.int .i64 1) (.int .i64 f1) (.int .i64 p1); rw [e13]; clear e13; replace BK6 := far13 _ _ hn6_13 BK6; clear far13 BK13; have BK13 := BK13'; clear BK13' hb; have hb := hb13'; clear hb13'; clear x6 y6 q6 r6; clear x13 y13 z13 q13 r13 t13; (with_reducible refine (rslot_any (HI.out.below hb) HF.out (f1) (page / 16 % 16) _ _ _ _ H2.out).mono ?_); rintro e u2 ⟨rfl, hb9⟩; replace BK6 := blk_below BK6 hb9; replace hb := bel_chain hb hb9; clear hb9)
        | fail)
      obtain ⟨v13, e13, BK13', hb13', far13⟩ := store3 BK13 hb hg13 (.int .i64 K1) (.int .i64 f1) (.int .i64 p1)
      rw [e13]
      clear e13
      replace BK6 := far13 _ _ hn6_13 BK6
      clear far13 BK13
      have BK13 := BK13'
      clear BK13' hb
      have hb := hb13'
      clear hb13'
      obtain ⟨v8, e8, BK8, hb8, _⟩ := store2 BK6 hb hg6 (.int .i64 0) (.int .i64 0)
      rw [e8]
      (try simp only [Exit.inBlock, Exit.then])
      refine bodyPost_ret (results_ctt rfl _ _ g6 58 _ (0, 0) _ rfl BK8 Try.underlying58 rfl (by kernel_rfl)) rfl ?_
      exact ⟨rfl, hb8⟩
  · rw [if_neg hp]
    have HP := Lib.hid hp
    clear hp
    go_enter Try.func32, Try.ntmps32
    go_wp2_with (first
      | ((with_reducible refine gate_dst (N := 6) rfl ?_); refine box_event ?hg (N := 6) ?hd (cs := #[.int .i64 0, .int .i64 0]) (t := 58) ?hr ?_; (case hd => rfl); (case hg => rfl); (case hr => first | (go_simp; done) | (go_simp; rfl)); intro g6 hge w6 BK6 hb6; have hg6 : w.heap.size ≤ g6 := (by rw [hge]; exact hb.size); clear hge; replace hb := bel_chain hb hb6; clear hb6)
      | (go_at_call 34; refine (rpath_out _ page HP.out).mono ?_; rintro e w1 ⟨rfl, hb1⟩; replace BK6 := blk_below BK6 hb1; replace hb := bel_chain hb hb1; clear hb1; obtain ⟨d0, d1, s0, s1⟩ := cells2f BK6)
      | fail)
    obtain ⟨v8, e8, BK8, hb8, _⟩ := store2 BK6 hb hg6 (.int .i64 0) (.int .i64 0)
    rw [e8]
    (try simp only [Exit.inBlock, Exit.then])
    refine bodyPost_ret (results_ctt rfl _ _ g6 58 _ (0, 0) _ rfl BK8 Try.underlying58 rfl (by kernel_rfl)) rfl ?_
    exact ⟨rfl, hb8⟩
end Go.Proofs.Ytdpjpmlajjfpgaa.Ram
