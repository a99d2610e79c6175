/- Which bytes pleas are, and which pleas bytes: the program and the reference agree, and what was lent is as it was. -/
import Derived.Test.YtlohonlcoedfhaaPleaB
import Derived.Test.YtlohonlcoedfhaaPleaR
import Derived.Test.YtlohonlcoedfhaaLoan
namespace Go.Proofs.Ytlohonlcoedfhaa.Plea
section
open Go.RowKit Go.Proofs.YtlohonlcoedfhaaW.PrintWords Go.Proofs.YtlohonlcoedfhaaW.PrintLast Go.Proofs.YtlohonlcoedfhaaW.PrintMore
theorem rput_call {m p g : Int} {l : List Int} {n : Nat} (w : World) (h : PPleaAll.presidioref18_PutPlea.f 20 m p g = some l) (hn : l.length = n) :
    Calls Try.prog 20 #[.agg #[.int .u64 m, .int .i64 p, .int .i64 g]] w fun e w' => ∃ A c, e = .returned (.slice A n c) ∧ n ≤ c ∧ ReadsInt w' .u8 A n l ∧ Below w.heap.size w w' := by
  subst hn
  refine (PPleaAll.presidioref18_PutPlea.calls 20 m p g l w h).mono fun e w' ⟨v, he, hR, hb⟩ => ?_
  obtain ⟨A, c, rfl⟩ := Kd.R_slice hR
  obtain ⟨_, h2, h3⟩ := Kd.R_reads' hR
  exact ⟨A, c, he, h2, Kd.reads_of_C (enc := Value.int .u8) (d := (0 : Int)) (h1 := fun _ => rfl) h3, hb⟩
theorem rtake_call {m p g e : Int} {l : List Int} {n : Nat} {A : Option Addr} {c : Nat} {w : World} (h : PPleaAll.presidioref18_TakePlea.f 20 l = some (m, p, g, e)) (hn : l.length = n) (hc : n ≤ c) (hr : ReadsInt w .u8 A n l) :
    Calls Try.prog 18 #[.slice A n c] w fun r w' => r = .returned (.tuple #[.agg #[.int .u64 m, .int .i64 p, .int .i64 g], .int .i64 e]) ∧ Below w.heap.size w w' := by
  subst hn
  exact PPleaAll.presidioref18_TakePlea.calls 20 A c l m p g e w (Kd.C_of_reads (enc := Value.int .u8) (d := (0 : Int)) (h1 := fun _ => rfl) hr) hc h
end
section
variable {P : Program} {ops : Array Oper} {md : Region.Mode} {Q : Exit → Act → World → Prop} {S : World → Prop}
theorem takeH_ {i : Nat} {N : Option Tmp} {oi : Oper} {v : Value} {fuel : Nat} {l : Array Bool} {a : Act} {w : World} (l' : Array Bool) (hi : ops[i]? = some oi) (hN : oi.dst = N) (hs : Region.noSelect ops = true)
    (hf : Region.free md ops l i = true) (hr : (Region.ready md ops l).contains i = true) (hl : l.setIfInBounds i true = l') (hQ : ∀ c a w, Q (.panic c) (a.put oi.dst v) w → Q (.panic c) a w) (hy : YieldsIf P ops S oi v a) (hS : S w) {a' : Act} (ha : a.put N v = a')
    (h : wpAnyH P md ops Q S fuel l' a' w) : wpAnyH P md ops Q S (fuel + 1) l a w := by
  subst ha hN hl
  exact wpAnyH_take hi hs hf hr hQ hy hS h
theorem oneH_ {i : Nat} {N : Option Tmp} {oi : Oper} {fuel : Nat} {l : Array Bool} {a : Act} {w : World} (l' : Array Bool) (hi : ops[i]? = some oi) (hN : oi.dst = N) (hr : Region.ready md ops l = [i]) (hl : l.setIfInBounds i true = l')
    (h : ∀ K : Act → World → Prop, Shut (∀ a' w', S w' → (S w' → wpAnyH P md ops Q S fuel l' a' w') → K a' w') → if Region.wanted oi (yielded ops a.tmps) = true then Oper.wp P oi a w K Q else K (a.put N undef) w) :
    wpAnyH P md ops Q S (fuel + 1) l a w := by
  subst hN hl
  exact wpAnyH_ready hr (by simp) (AllReadyH.cons hi h AllReadyH.nil)
theorem startH_ {id n : Nat} {a : Act} {w : World} (l : Array Bool) (hm : P.follows .mixedOrders = true) (hn : ops.size = n) (hl : Array.replicate n false = l) (hS : S w.drew)
    (h : S w.drew → wpAnyH P .any ops Q S n l a w.drew) : (Code.region id ops true).wp P Q a w := by
  subst hn hl
  exact wp_region_held_drew hm hS h
theorem doneH_ {l : Array Bool} {a : Act} {w : World} {n : Nat} (hr : Region.ready md ops l = []) (h : Q .normal a w) : wpAnyH P md ops Q S n l a w := wpAnyH_done hr h n
theorem heldMono {S' : World → Prop} (hS : ∀ w, S' w → S w) : ∀ (fuel : Nat) (listed : Array Bool) (a : Act) (w : World), wpAnyH P md ops Q S' fuel listed a w → wpAnyH P md ops Q S fuel listed a w
  | 0, _, _, _, h => h
  | fuel + 1, _, _, _, h => ⟨h.1, fun i hi => wpOp_mono (fun a' w' h' => ⟨hS _ h'.1, heldMono hS fuel _ a' w' h'.2⟩) (h.2 i hi)⟩
end
section
open Go.RowKit Go.Proofs.Ytlohonlcoedfhaa.Mem
open Go.Proofs.YtlohonlcoedfhaaW.PrintWords (ReadsInt)
open Go.Proofs.YtlohonlcoedfhaaW.PrintLast (goes_ value_)
set_option linter.unusedVariables false

set_option maxRecDepth 100000 in
set_option maxHeartbeats 8000000 in
theorem all_plea (w : World) (m p g : Int) (a : Option Addr) (b off cap : Nat) (l : List Int) (hm : 0 ≤ m ∧ m ≤ 18446744073709551615) (hl : l.length ≤ 1152921504606846976) (hcap : l.length ≤ cap) (hr : ReadsInt w .u8 a l.length l) (hw : ∀ x ∈ l, 0 ≤ x ∧ x ≤ 255) :
    Calls Try.prog 3 #[.agg #[.int .u64 m, .int .i64 p, .int .i64 g], .slice a l.length cap] w fun e w' => e = .returned (.bool true) ∧ Below w.heap.size w w' := by
  have hu := Try.underlying24
  obtain ⟨L, hp1, hp2, hLl⟩ := put_both m p g hm
  obtain ⟨m2, p2, g2, er, ht1, ht2⟩ := take_both l hw
  obtain ⟨nL, hnL⟩ : ∃ n, L.length = n := ⟨_, rfl⟩
  have HP1 := Lib.hid hp1
  have HP2 := Lib.hid hp2
  have HT1 := Lib.hid ht1
  have HT2 := Lib.hid ht2
  have HNL := Lib.hid hnL
  have bP := blk_new w (.cells #[.int .u64 m, .int .i64 p, .int .i64 g] 24)
  have hb : Below w.heap.size w (w.alloc (.cells #[.int .u64 m, .int .i64 p, .int .i64 g] 24)) := bel_alloc (Below.refl _ _) _
  have R0 := Lib.hid (hr.below (bel_alloc (Below.refl _ _) (.cells #[.int .u64 m, .int .i64 p, .int .i64 g] 24)))
  have heq := fun w' => eq_same w' m2 p2 g2
  clear hp1 hp2 ht1 ht2 hnL hr hw hLl
  by_cases h20 : 20 < (l.length : Int)
  · go_enter Try.func3, Try.ntmps3
    go_wp2_with (first
      | (go_at_call 15; refine (begun_true _).mono ?_; rintro e w1 ⟨rfl, hb1⟩; replace hb := bel_chain hb hb1; clear hb1)
      | fail)
    go_ret
    exact ⟨rfl, hb⟩
  have hl2 : l.length ≤ 1000 := by omega
  go_enter Try.func3, Try.ntmps3
  go_wp2_with (first
    | (go_at_call 15; refine (begun_true _).mono ?_; rintro e w1 ⟨rfl, hb1⟩; have bP1 := blk_below bP hb1; have R1 := Lib.hid (R0.out.below hb1); replace hb := bel_chain hb hb1; clear hb1 bP R0)
    | (go_at_call 16; refine (Loan.loan_any _ _ _ l hl2 R1.out).mono ?_; rintro e w2 ⟨gg, c, rfl, hc5, hcM, hL, hb2, hge⟩; have bP2 := blk_below bP1 hb2; have R2 := Lib.hid (R1.out.below hb2); have hbA := bel_chain hb hb2; have hLl := Lib.hid ((Loan.Lent.reads hL hl2).1); have HLe := Lib.hid hL; clear hb2 R1 bP1 hb hL)
    | (go_at_call 17; refine (take_call HT1.out rfl (by omega) hLl.out).mono ?_; rintro e w3 ⟨rfl, hb3⟩; have bP3 := blk_alloc (blk_below bP2 hb3) (.cells #[.int .u64 m2, .int .i64 p2, .int .i64 g2] 24); have R3 := Lib.hid ((R2.out.below hb3).below (bel_alloc (Below.refl _ _) (.cells #[.int .u64 m2, .int .i64 p2, .int .i64 g2] 24))); have L3 := Lib.hid ((HLe.out.below hb3).below (bel_alloc (Below.refl _ _) (.cells #[.int .u64 m2, .int .i64 p2, .int .i64 g2] 24))); have bX := blk_new w3 (.cells #[.int .u64 m2, .int .i64 p2, .int .i64 g2] 24); have hbB := bel_alloc (bel_chain hbA hb3) (.cells #[.int .u64 m2, .int .i64 p2, .int .i64 g2] 24); clear hb3 R2 bP2 hbA HLe hLl)
    | (go_at_call 18; refine (rtake_call HT2.out rfl hcap R3.out).mono ?_; rintro e w5 ⟨rfl, hb5⟩; have bP5 := blk_alloc (blk_below bP3 hb5) (.cells #[.int .u64 m2, .int .i64 p2, .int .i64 g2] 24); have R5 := (R3.out.below hb5).below (bel_alloc (Below.refl _ _) (.cells #[.int .u64 m2, .int .i64 p2, .int .i64 g2] 24)); have L5 := (L3.out.below hb5).below (bel_alloc (Below.refl _ _) (.cells #[.int .u64 m2, .int .i64 p2, .int .i64 g2] 24)); have bX5 := blk_alloc (blk_below bX hb5) (.cells #[.int .u64 m2, .int .i64 p2, .int .i64 g2] 24); have bY := blk_new w5 (.cells #[.int .u64 m2, .int .i64 p2, .int .i64 g2] 24); have hbC := bel_alloc (bel_chain hbB hb5) (.cells #[.int .u64 m2, .int .i64 p2, .int .i64 g2] 24); clear hb5 R3 bP3 hbB L3 bX)
    | fail)
  generalize hG : w5.alloc (.cells #[.int .u64 m2, .int .i64 p2, .int .i64 g2] 24) = G at bP5 R5 L5 bX5 bY hbC ⊢
  clear hG
  have bPd : G.drew.heap[w.heap.size]? = _ := bP5
  have bXd : G.drew.heap[w3.heap.size]? = _ := bX5
  have bYd : G.drew.heap[w5.heap.size]? = _ := bY
  have Rd : ReadsInt G.drew .u8 a l.length l := R5
  have Ld : Loan.Lent G.drew gg l := L5
  have hbD := bel_drew hbC
  obtain ⟨x0, x1, x2⟩ := cells3 bPd
  obtain ⟨y0, y1, y2⟩ := cells3 bXd
  obtain ⟨z0, z1, z2⟩ := cells3 bYd
  refine wp_region_noPanic ?_
  refine startH_ (n := 23) (S := fun w' => w'.cell? ⟨w.heap.size, 0, none⟩ = some (.int .u64 m) ∧ w'.cell? ⟨w.heap.size, 1, none⟩ = some (.int .i64 p) ∧ w'.cell? ⟨w.heap.size, 2, none⟩ = some (.int .i64 g) ∧ w'.cell? ⟨w3.heap.size, 0, none⟩ = some (.int .u64 m2) ∧ w'.cell? ⟨w3.heap.size, 1, none⟩ = some (.int .i64 p2) ∧ w'.cell? ⟨w3.heap.size, 2, none⟩ = some (.int .i64 g2) ∧ w'.cell? ⟨w5.heap.size, 0, none⟩ = some (.int .u64 m2) ∧ w'.cell? ⟨w5.heap.size, 1, none⟩ = some (.int .i64 p2) ∧ w'.cell? ⟨w5.heap.size, 2, none⟩ = some (.int .i64 g2)) #[false, false, false, false, false, false, false, false, false, false, false, false, false, false, false, false, false, false, false, false, false, false, false] (by kernel_rfl) rfl rfl ⟨x0, x1, x2, y0, y1, y2, z0, z1, z2⟩ (fun hHeld => ?_)
  refine takeH_ (i := 0) (N := some 27) (v := ?_) (a' := ?_) #[true, false, false, false, false, false, false, false, false, false, false, false, false, false, false, false, false, false, false, false, false, false, false] rfl rfl (by kernel_rfl) (by kernel_rfl) (by kernel_rfl) rfl (fun _ _ _ h => h) (Or.inl ⟨by rfl, ?_⟩) hHeld ?_ ?_
  rotate_left
  · rintro w' ⟨s0, s1, s2, s3, s4, s5, s6, s7, s8⟩
    go_simp
    with_reducible rfl
  rotate_left
  · simp only [Act.put, List.setIfInBounds_toArray, List.set_cons_zero, List.set_cons_succ]
    rfl
  refine takeH_ (i := 3) (N := some 30) (v := ?_) (a' := ?_) #[true, false, false, true, false, false, false, false, false, false, false, false, false, false, false, false, false, false, false, false, false, false, false] rfl rfl (by kernel_rfl) (by kernel_rfl) (by kernel_rfl) rfl (fun _ _ _ h => h) (Or.inl ⟨by rfl, ?_⟩) hHeld ?_ ?_
  rotate_left
  · rintro w' ⟨s0, s1, s2, s3, s4, s5, s6, s7, s8⟩
    go_simp
    with_reducible rfl
  rotate_left
  · simp only [Act.put, List.setIfInBounds_toArray, List.set_cons_zero, List.set_cons_succ]
    rfl
  refine oneH_ (i := 1) (N := some 28) #[true, true, false, true, false, false, false, false, false, false, false, false, false, false, false, false, false, false, false, false, false, false, false] rfl rfl (by kernel_rfl) rfl (fun K hK => ?_)
  refine goes_ Try.func19 (by kernel_rfl) rfl #[.agg #[.int .u64 m, .int .i64 p, .int .i64 g]] (by rfl) rfl rfl (by (try simp only [List.map_toArray, List.map_cons, List.map_nil]); first | done | rfl) ?_
  refine (put_call _ HP1.out HNL.out).mono ?_
  rintro e w8 ⟨A8, c8, rfl, hc8, hr8, hb8⟩
  refine ⟨_, rfl, ?_⟩
  have bP8 := blk_below bPd hb8
  have bX8 := blk_below bXd hb8
  have bY8 := blk_below bYd hb8
  have R8 := Rd.below hb8
  have L8 := Ld.below hb8
  have hbE := bel_then hbD hbD.size hb8
  obtain ⟨x0, x1, x2⟩ := cells3 bP8
  obtain ⟨y0, y1, y2⟩ := cells3 bX8
  obtain ⟨z0, z1, z2⟩ := cells3 bY8
  refine hK.out _ _ ⟨x0, x1, x2, y0, y1, y2, z0, z1, z2⟩ (fun hHeld1 => ?_)
  clear hK K hHeld
  refine heldMono (S' := fun w' => (w'.cell? ⟨w.heap.size, 0, none⟩ = some (.int .u64 m) ∧ w'.cell? ⟨w.heap.size, 1, none⟩ = some (.int .i64 p) ∧ w'.cell? ⟨w.heap.size, 2, none⟩ = some (.int .i64 g) ∧ w'.cell? ⟨w3.heap.size, 0, none⟩ = some (.int .u64 m2) ∧ w'.cell? ⟨w3.heap.size, 1, none⟩ = some (.int .i64 p2) ∧ w'.cell? ⟨w3.heap.size, 2, none⟩ = some (.int .i64 g2) ∧ w'.cell? ⟨w5.heap.size, 0, none⟩ = some (.int .u64 m2) ∧ w'.cell? ⟨w5.heap.size, 1, none⟩ = some (.int .i64 p2) ∧ w'.cell? ⟨w5.heap.size, 2, none⟩ = some (.int .i64 g2)) ∧ (convert 25 9 (.slice A8 nL c8)).run Try.prog w' = .ok (.string (strOfNums L)) w') (fun w' h => h.1) _ _ _ _ ?_
  have hHeld2 := And.intro hHeld1 (conv (c := c8) hr8)
  clear hHeld1
  simp only [Act.put, List.setIfInBounds_toArray, List.set_cons_zero, List.set_cons_succ]
  refine takeH_ (i := 2) (N := some 29) (v := ?_) (a' := ?_) #[true, true, true, true, false, false, false, false, false, false, false, false, false, false, false, false, false, false, false, false, false, false, false] rfl rfl (by kernel_rfl) (by kernel_rfl) (by kernel_rfl) rfl (fun _ _ _ h => h) (Or.inl ⟨by rfl, ?_⟩) hHeld2 ?_ ?_
  rotate_left
  · rintro w' ⟨⟨s0, s1, s2, s3, s4, s5, s6, s7, s8⟩, s9⟩
    go_simp
    with_reducible rfl
  rotate_left
  · simp only [Act.put, List.setIfInBounds_toArray, List.set_cons_zero, List.set_cons_succ]
    rfl
  refine oneH_ (i := 4) (N := some 31) #[true, true, true, true, true, false, false, false, false, false, false, false, false, false, false, false, false, false, false, false, false, false, false] rfl rfl (by kernel_rfl) rfl (fun K hK => ?_)
  refine goes_ Try.func20 (by kernel_rfl) rfl #[.agg #[.int .u64 m, .int .i64 p, .int .i64 g]] (by rfl) rfl rfl (by (try simp only [List.map_toArray, List.map_cons, List.map_nil]); first | done | rfl) ?_
  refine (rput_call _ HP2.out HNL.out).mono ?_
  rintro e w9 ⟨A9, c9, rfl, hc9, hr9, hb9⟩
  refine ⟨_, rfl, ?_⟩
  have bP9 := blk_below bP8 hb9
  have bX9 := blk_below bX8 hb9
  have bY9 := blk_below bY8 hb9
  have R9 := R8.below hb9
  have L9 := L8.below hb9
  have hbF := bel_then hbE hbE.size hb9
  have hr89 := hr8.below hb9
  obtain ⟨x0, x1, x2⟩ := cells3 bP9
  obtain ⟨y0, y1, y2⟩ := cells3 bX9
  obtain ⟨z0, z1, z2⟩ := cells3 bY9
  refine hK.out _ _ ⟨⟨x0, x1, x2, y0, y1, y2, z0, z1, z2⟩, conv (hr8.below hb9)⟩ (fun hHeld3 => ?_)
  clear hK K hHeld2
  refine heldMono (S' := fun w' => ((w'.cell? ⟨w.heap.size, 0, none⟩ = some (.int .u64 m) ∧ w'.cell? ⟨w.heap.size, 1, none⟩ = some (.int .i64 p) ∧ w'.cell? ⟨w.heap.size, 2, none⟩ = some (.int .i64 g) ∧ w'.cell? ⟨w3.heap.size, 0, none⟩ = some (.int .u64 m2) ∧ w'.cell? ⟨w3.heap.size, 1, none⟩ = some (.int .i64 p2) ∧ w'.cell? ⟨w3.heap.size, 2, none⟩ = some (.int .i64 g2) ∧ w'.cell? ⟨w5.heap.size, 0, none⟩ = some (.int .u64 m2) ∧ w'.cell? ⟨w5.heap.size, 1, none⟩ = some (.int .i64 p2) ∧ w'.cell? ⟨w5.heap.size, 2, none⟩ = some (.int .i64 g2)) ∧ (convert 25 9 (.slice A8 nL c8)).run Try.prog w' = .ok (.string (strOfNums L)) w') ∧ (convert 25 9 (.slice A9 nL c9)).run Try.prog w' = .ok (.string (strOfNums L)) w') (fun w' h => h.1) _ _ _ _ ?_
  have hHeld4 := And.intro hHeld3 (conv (c := c9) hr9)
  clear hHeld3
  simp only [Act.put, List.setIfInBounds_toArray, List.set_cons_zero, List.set_cons_succ]
  refine takeH_ (i := 5) (N := some 32) (v := ?_) (a' := ?_) #[true, true, true, true, true, true, false, false, false, false, false, false, false, false, false, false, false, false, false, false, false, false, false] rfl rfl (by kernel_rfl) (by kernel_rfl) (by kernel_rfl) rfl (fun _ _ _ h => h) (Or.inl ⟨by rfl, ?_⟩) hHeld4 ?_ ?_
  rotate_left
  · rintro w' ⟨⟨⟨s0, s1, s2, s3, s4, s5, s6, s7, s8⟩, s9⟩, s10⟩
    go_simp
    with_reducible rfl
  rotate_left
  · simp only [Act.put, List.setIfInBounds_toArray, List.set_cons_zero, List.set_cons_succ]
    rfl
  refine takeH_ (i := 6) (N := some 33) (v := ?_) (a' := ?_) #[true, true, true, true, true, true, true, false, false, false, false, false, false, false, false, false, false, false, false, false, false, false, false] rfl rfl (by kernel_rfl) (by kernel_rfl) (by kernel_rfl) rfl (fun _ _ _ h => h) (Or.inl ⟨by rfl, ?_⟩) hHeld4 ?_ ?_
  rotate_left
  · rintro w' ⟨⟨⟨s0, s1, s2, s3, s4, s5, s6, s7, s8⟩, s9⟩, s10⟩
    go_simp
    with_reducible rfl
  rotate_left
  · simp only [Act.put, List.setIfInBounds_toArray, List.set_cons_zero, List.set_cons_succ]
    rfl
  refine takeH_ (i := 7) (N := some 34) (v := ?_) (a' := ?_) #[true, true, true, true, true, true, true, true, false, false, false, false, false, false, false, false, false, false, false, false, false, false, false] rfl rfl (by kernel_rfl) (by kernel_rfl) (by kernel_rfl) rfl (fun _ _ _ h => h) (Or.inl ⟨by rfl, ?_⟩) hHeld4 ?_ ?_
  rotate_left
  · rintro w' ⟨⟨⟨s0, s1, s2, s3, s4, s5, s6, s7, s8⟩, s9⟩, s10⟩
    go_simp
    with_reducible rfl
  rotate_left
  · simp only [Act.put, List.setIfInBounds_toArray, List.set_cons_zero, List.set_cons_succ]
    rfl
  refine takeH_ (i := 8) (N := some 35) (v := ?_) (a' := ?_) #[true, true, true, true, true, true, true, true, true, false, false, false, false, false, false, false, false, false, false, false, false, false, false] rfl rfl (by kernel_rfl) (by kernel_rfl) (by kernel_rfl) rfl (fun _ _ _ h => h) (Or.inl ⟨by rfl, ?_⟩) hHeld4 ?_ ?_
  rotate_left
  · rintro w' ⟨⟨⟨s0, s1, s2, s3, s4, s5, s6, s7, s8⟩, s9⟩, s10⟩
    go_simp
    with_reducible rfl
  rotate_left
  · simp only [Act.put, List.setIfInBounds_toArray, List.set_cons_zero, List.set_cons_succ]
    rfl
  refine takeH_ (i := 9) (N := some 36) (v := ?_) (a' := ?_) #[true, true, true, true, true, true, true, true, true, true, false, false, false, false, false, false, false, false, false, false, false, false, false] rfl rfl (by kernel_rfl) (by kernel_rfl) (by kernel_rfl) rfl (fun _ _ _ h => h) (Or.inl ⟨by rfl, ?_⟩) hHeld4 ?_ ?_
  rotate_left
  · rintro w' ⟨⟨⟨s0, s1, s2, s3, s4, s5, s6, s7, s8⟩, s9⟩, s10⟩
    go_simp
    with_reducible rfl
  rotate_left
  · simp only [Act.put, List.setIfInBounds_toArray, List.set_cons_zero, List.set_cons_succ]
    rfl
  refine takeH_ (i := 10) (N := some 37) (v := ?_) (a' := ?_) #[true, true, true, true, true, true, true, true, true, true, true, false, false, false, false, false, false, false, false, false, false, false, false] rfl rfl (by kernel_rfl) (by kernel_rfl) (by kernel_rfl) rfl (fun _ _ _ h => h) (Or.inl ⟨by rfl, ?_⟩) hHeld4 ?_ ?_
  rotate_left
  · rintro w' ⟨⟨⟨s0, s1, s2, s3, s4, s5, s6, s7, s8⟩, s9⟩, s10⟩
    go_simp
    with_reducible rfl
  rotate_left
  · simp only [Act.put, List.setIfInBounds_toArray, List.set_cons_zero, List.set_cons_succ]
    rfl
  refine takeH_ (i := 11) (N := some 38) (v := ?_) (a' := ?_) #[true, true, true, true, true, true, true, true, true, true, true, true, false, false, false, false, false, false, false, false, false, false, false] rfl rfl (by kernel_rfl) (by kernel_rfl) (by kernel_rfl) rfl (fun _ _ _ h => h) (Or.inl ⟨by rfl, ?_⟩) hHeld4 ?_ ?_
  rotate_left
  · rintro w' ⟨⟨⟨s0, s1, s2, s3, s4, s5, s6, s7, s8⟩, s9⟩, s10⟩
    go_simp
    with_reducible rfl
  rotate_left
  · simp only [Act.put, List.setIfInBounds_toArray, List.set_cons_zero, List.set_cons_succ]
    rfl
  refine takeH_ (i := 12) (N := some 39) (v := ?_) (a' := ?_) #[true, true, true, true, true, true, true, true, true, true, true, true, true, false, false, false, false, false, false, false, false, false, false] rfl rfl (by kernel_rfl) (by kernel_rfl) (by kernel_rfl) rfl (fun _ _ _ h => h) (Or.inl ⟨by rfl, ?_⟩) hHeld4 ?_ ?_
  rotate_left
  · rintro w' ⟨⟨⟨s0, s1, s2, s3, s4, s5, s6, s7, s8⟩, s9⟩, s10⟩
    go_simp
    with_reducible rfl
  rotate_left
  · simp only [Act.put, List.setIfInBounds_toArray, List.set_cons_zero, List.set_cons_succ]
    rfl
  refine takeH_ (i := 13) (N := some 40) (v := ?_) (a' := ?_) #[true, true, true, true, true, true, true, true, true, true, true, true, true, true, false, false, false, false, false, false, false, false, false] rfl rfl (by kernel_rfl) (by kernel_rfl) (by kernel_rfl) rfl (fun _ _ _ h => h) (Or.inl ⟨by rfl, ?_⟩) hHeld4 ?_ ?_
  rotate_left
  · rintro w' ⟨⟨⟨s0, s1, s2, s3, s4, s5, s6, s7, s8⟩, s9⟩, s10⟩
    go_simp
    with_reducible rfl
  rotate_left
  · simp only [Act.put, List.setIfInBounds_toArray, List.set_cons_zero, List.set_cons_succ]
    rfl
  refine takeH_ (i := 14) (N := some 41) (v := ?_) (a' := ?_) #[true, true, true, true, true, true, true, true, true, true, true, true, true, true, true, false, false, false, false, false, false, false, false] rfl rfl (by kernel_rfl) (by kernel_rfl) (by kernel_rfl) rfl (fun _ _ _ h => h) (Or.inl ⟨by rfl, ?_⟩) hHeld4 ?_ ?_
  rotate_left
  · rintro w' ⟨⟨⟨s0, s1, s2, s3, s4, s5, s6, s7, s8⟩, s9⟩, s10⟩
    go_simp
    with_reducible rfl
  rotate_left
  · simp only [Act.put, List.setIfInBounds_toArray, List.set_cons_zero, List.set_cons_succ]
    rfl
  refine takeH_ (i := 15) (N := some 42) (v := ?_) (a' := ?_) #[true, true, true, true, true, true, true, true, true, true, true, true, true, true, true, true, false, false, false, false, false, false, false] rfl rfl (by kernel_rfl) (by kernel_rfl) (by kernel_rfl) rfl (fun _ _ _ h => h) (Or.inl ⟨by rfl, ?_⟩) hHeld4 ?_ ?_
  rotate_left
  · rintro w' ⟨⟨⟨s0, s1, s2, s3, s4, s5, s6, s7, s8⟩, s9⟩, s10⟩
    go_simp
    with_reducible rfl
  rotate_left
  · simp only [Act.put, List.setIfInBounds_toArray, List.set_cons_zero, List.set_cons_succ]
    rfl
  refine takeH_ (i := 16) (N := some 43) (v := ?_) (a' := ?_) #[true, true, true, true, true, true, true, true, true, true, true, true, true, true, true, true, true, false, false, false, false, false, false] rfl rfl (by kernel_rfl) (by kernel_rfl) (by kernel_rfl) rfl (fun _ _ _ h => h) (Or.inl ⟨by rfl, ?_⟩) hHeld4 ?_ ?_
  rotate_left
  · rintro w' ⟨⟨⟨s0, s1, s2, s3, s4, s5, s6, s7, s8⟩, s9⟩, s10⟩
    go_simp
    with_reducible rfl
  rotate_left
  · simp only [Act.put, List.setIfInBounds_toArray, List.set_cons_zero, List.set_cons_succ]
    rfl
  refine takeH_ (i := 17) (N := some 44) (v := ?_) (a' := ?_) #[true, true, true, true, true, true, true, true, true, true, true, true, true, true, true, true, true, true, false, false, false, false, false] rfl rfl (by kernel_rfl) (by kernel_rfl) (by kernel_rfl) rfl (fun _ _ _ h => h) (Or.inl ⟨by rfl, ?_⟩) hHeld4 ?_ ?_
  rotate_left
  · rintro w' ⟨⟨⟨s0, s1, s2, s3, s4, s5, s6, s7, s8⟩, s9⟩, s10⟩
    go_simp
    with_reducible rfl
  rotate_left
  · simp only [Act.put, List.setIfInBounds_toArray, List.set_cons_zero, List.set_cons_succ]
    rfl
  refine takeH_ (i := 18) (N := some 45) (v := ?_) (a' := ?_) #[true, true, true, true, true, true, true, true, true, true, true, true, true, true, true, true, true, true, true, false, false, false, false] rfl rfl (by kernel_rfl) (by kernel_rfl) (by kernel_rfl) rfl (fun _ _ _ h => h) (Or.inl ⟨by rfl, ?_⟩) hHeld4 ?_ ?_
  rotate_left
  · rintro w' ⟨⟨⟨s0, s1, s2, s3, s4, s5, s6, s7, s8⟩, s9⟩, s10⟩
    go_simp
    with_reducible rfl
  rotate_left
  · simp only [Act.put, List.setIfInBounds_toArray, List.set_cons_zero, List.set_cons_succ]
    rfl
  refine takeH_ (i := 19) (N := some 46) (v := ?_) (a' := ?_) #[true, true, true, true, true, true, true, true, true, true, true, true, true, true, true, true, true, true, true, true, false, false, false] rfl rfl (by kernel_rfl) (by kernel_rfl) (by kernel_rfl) rfl (fun _ _ _ h => h) (Or.inl ⟨by rfl, ?_⟩) hHeld4 ?_ ?_
  rotate_left
  · rintro w' ⟨⟨⟨s0, s1, s2, s3, s4, s5, s6, s7, s8⟩, s9⟩, s10⟩
    go_simp
    with_reducible rfl
  rotate_left
  · simp only [Act.put, List.setIfInBounds_toArray, List.set_cons_zero, List.set_cons_succ]
    rfl
  refine oneH_ (i := 20) (N := some 47) #[true, true, true, true, true, true, true, true, true, true, true, true, true, true, true, true, true, true, true, true, true, false, false] rfl rfl (by kernel_rfl) rfl (fun K hK => ?_)
  refine goes_ Try.func21 (by kernel_rfl) rfl #[.slice (some ⟨gg, 0, none⟩) l.length c, .slice a l.length cap] (by rfl) rfl rfl (by (try simp only [List.map_toArray, List.map_cons, List.map_nil]); first | done | rfl) ?_
  refine (Loan.same_any _ gg c a cap l hl2 hc5 hcM L9 R9).mono ?_
  rintro e w10 ⟨rfl, nq, rfl⟩
  refine ⟨_, rfl, ?_⟩
  refine hK.out _ _ ⟨⟨⟨x0, x1, x2, y0, y1, y2, z0, z1, z2⟩, conv (show ReadsInt (w9.drewN nq) _ _ _ _ from hr89)⟩, conv (show ReadsInt (w9.drewN nq) _ _ _ _ from hr9)⟩ (fun hHeld5 => ?_)
  clear hK K hHeld4
  simp only [Act.put, List.setIfInBounds_toArray, List.set_cons_zero, List.set_cons_succ]
  refine takeH_ (i := 21) (N := some 48) (v := ?_) (a' := ?_) #[true, true, true, true, true, true, true, true, true, true, true, true, true, true, true, true, true, true, true, true, true, true, false] rfl rfl (by kernel_rfl) (by kernel_rfl) (by kernel_rfl) rfl (fun _ _ _ h => h) (Or.inl ⟨by rfl, ?_⟩) hHeld5 ?_ ?_
  rotate_left
  · rintro w' ⟨⟨⟨s0, s1, s2, s3, s4, s5, s6, s7, s8⟩, s9⟩, s10⟩
    go_simp
    with_reducible rfl
  rotate_left
  · simp only [Act.put, List.setIfInBounds_toArray, List.set_cons_zero, List.set_cons_succ]
    rfl
  refine takeH_ (i := 22) (N := some 4) (v := ?_) (a' := ?_) #[true, true, true, true, true, true, true, true, true, true, true, true, true, true, true, true, true, true, true, true, true, true, true] rfl rfl (by kernel_rfl) (by kernel_rfl) (by kernel_rfl) rfl (fun _ _ _ h => h) (Or.inl ⟨by rfl, ?_⟩) hHeld5 ?_ ?_
  rotate_left
  · rintro w' ⟨⟨⟨s0, s1, s2, s3, s4, s5, s6, s7, s8⟩, s9⟩, s10⟩
    go_simp
    with_reducible rfl
  rotate_left
  · simp only [Act.put, List.setIfInBounds_toArray, List.set_cons_zero, List.set_cons_succ]
    rfl
  refine doneH_ (by kernel_rfl) ?_
  refine NoPanic.normal ?_
  go_wp2
  go_ret
  exact ⟨rfl, bel_drewN hbF _⟩
theorem reads_plain {w : World} {a : Option Addr} {b off : Nat} {l : List Int} (hl : l.length ≤ 1152921504606846976) (ha : 0 < l.length → a = some ⟨b, off, none⟩) (hc : ∀ i, i < l.length → w.cell? ⟨b, off + i, none⟩ = some (.int .u8 (l.getD i 0))) : ReadsInt w .u8 a l.length l :=
  ⟨rfl, by omega, fun h => ⟨_, ha h, fun j hj => by rw [Loan.add_at]; exact hc j hj⟩⟩
end
end Go.Proofs.Ytlohonlcoedfhaa.Plea
