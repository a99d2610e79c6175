/- Which deals may be, and which bytes they are: the reference comes to the same. -/
import Derived.Test.YtdpjpmlajjfpgaaDealT
import Derived.Test.YtdpjpmlajjfpgaaPDealQx9
import Derived.Test.YtdpjpmlajjfpgaaPDealQx10
import Derived.Test.YtdpjpmlajjfpgaaBits
namespace Go.Proofs.Ytdpjpmlajjfpgaa.Deal
open Go Go.RowKit Go.Proofs.Ytdpjpmlajjfpgaa.PDealK Go.Proofs.Ytdpjpmlajjfpgaa.PDealQ
open Go.Proofs.YtdpjpmlajjfpgaaW.PrintWords hiding add_at blk_alloc blk_below blk_cell blk_drewN blk_far blk_lt blk_new blk_set
set_option linter.unusedVariables false
set_option linter.unusedSimpArgs false
theorem msGo_big : ∀ (l : List SP) (f : Int → Bool) (n : Nat), 40 < n → msGo f n l = false
  | [], f, n, h => by simp [msGo]; omega
  | s :: t, f, n, h => by
    show (!msBad s.f0 s.f1 && (decide (s.f0 + s.f1 ≤ 4096) && frR f s.f0 s.f1.toNat) && msGo _ _ t) = false
    rw [msGo_big t _ _ (by omega), Bool.and_false]
theorem pg_ms : ∀ (l : List SP) (f : Int → Bool) (out : List Int), out.length ≤ 40 → (pgGo f out l).2 = msGo f out.length l
  | [], f, out, h => by simp [pgGo, msGo, h]
  | s :: t, f, out, h => by
    show (if spBad out.length s.f0 s.f1 = true ∨ frR f s.f0 s.f1.toNat = false then (([], false) : List Int × Bool) else pgGo (addR f s.f0 s.f1.toNat) (out ++ spanTo s.f0 s.f1.toNat) t).2 = (!msBad s.f0 s.f1 && (decide (s.f0 + s.f1 ≤ 4096) && frR f s.f0 s.f1.toNat) && msGo (addR f s.f0 s.f1.toNat) (out.length + s.f1.toNat) t)
    by_cases hb : spBad out.length s.f0 s.f1 = true
    · rw [if_pos (Or.inl hb)]
      rw [sp_dec] at hb
      symm
      by_cases h1 : msBad s.f0 s.f1 = true
      · rw [h1]; rfl
      · rw [ms_dec] at h1
        by_cases h2 : s.f0 + s.f1 ≤ 4096
        · rw [msGo_big t _ _ (by omega), Bool.and_false]
        · rw [decide_eq_false h2]; simp
    · have hb' : spBad out.length s.f0 s.f1 = false := by simpa using hb
      rw [sp_dec] at hb
      have h1 : msBad s.f0 s.f1 = false := by rw [← Bool.not_eq_true, ms_dec]; omega
      rw [h1, decide_eq_true (show s.f0 + s.f1 ≤ 4096 by omega), hb']
      by_cases hf : frR f s.f0 s.f1.toNat = false
      · rw [if_pos (Or.inr hf), hf]; rfl
      · have hf' : frR f s.f0 s.f1.toNat = true := by simpa using hf
        rw [if_neg (by simp [hf']), hf', pg_ms t _ _ (by rw [List.length_append, spanTo_len]; omega), List.length_append, spanTo_len]
        simp
theorem pgs_ms (l : List SP) : (pgs l).2 = msB l := by
  unfold pgs msB
  by_cases h : l.length = 0 ∨ 8 < l.length
  · rw [if_pos h]
    rcases h with h | h
    · rw [decide_eq_false (show ¬ 1 ≤ l.length by omega)]; rfl
    · rw [decide_eq_false (show ¬ l.length ≤ 8 by omega)]; simp
  · rw [if_neg h, decide_eq_true (show 1 ≤ l.length by omega), decide_eq_true (show l.length ≤ 8 by omega), pg_ms l _ [] (by simp)]
    rfl
def seenF (s : Int) (l : List RV) : Int → Bool := fun j => decide (j = s) || l.any fun r => decide (r.f0 = j)
theorem seen_add (s : Int) (l : List RV) (r : RV) : addS (seenF s l) r.f0 = seenF s (l ++ [r]) := by
  funext j
  unfold addS seenF
  rw [List.any_append]
  by_cases h : j = r.f0
  · rw [if_pos h]; simp [h]
  · rw [if_neg h]
    have : ¬ r.f0 = j := fun e => h e.symm
    simp [this]
section
variable {a s : Int} {z : Bool} {rv : List RV} {sp : List SP}
theorem may_l1 {i B : Nat} {R : Option Bool} {p q : Int} (hi : i < rv.length) (hl : rv.length ≤ 4) (hR : ∀ k, B ≤ k → presidioref18_MayDeal.l0 k (wrap64 ((i : Int) + 1)) a s z rv sp = R) :
    ∀ (d u k : Nat), u + d = i → B + d + 1 ≤ k → presidioref18_MayDeal.l1 k i u a s z rv sp p q = if ((rv.take i).drop u).any (fun r => decide (r.f0 = p)) = true then some false else R := by
  intro d
  induction d with
  | zero =>
    intro u k hu hk
    obtain ⟨k, rfl⟩ : ∃ m, k = m + 1 := ⟨k - 1, by omega⟩
    simp only [presidioref18_MayDeal.l1]
    rw [if_neg (by omega), hR k (by omega), List.drop_of_length_le (by simp; omega)]
    simp
  | succ d ih =>
    intro u k hu hk
    obtain ⟨k, rfl⟩ : ∃ m, k = m + 1 := ⟨k - 1, by omega⟩
    simp only [presidioref18_MayDeal.l1]
    rw [if_pos (by omega), if_pos (by omega), if_pos (by omega), rdR (by omega), show wrap64 ((u : Int) + 1) = ((u + 1 : Nat) : Int) by unfold wrap64; omega, ih (u + 1) k (by omega) (by omega)]
    have e : (rv.take i).drop u = rv[u] :: (rv.take i).drop (u + 1) := by
      rw [List.drop_eq_getElem_cons (by simp; omega)]
      simp
    rw [e, List.any_cons]
    by_cases h : rv[u].f0 = p
    · rw [if_pos h, decide_eq_true h]; simp
    · rw [if_neg h, decide_eq_false h]; simp
theorem may_l0 (hl : rv.length ≤ 4) : ∀ (d i k : Nat), i + d = rv.length → 8 * d + 1 ≤ k → presidioref18_MayDeal.l0 k i a s z rv sp = some (rcvGo (seenF s (rv.take i)) (rv.drop i) && msB sp) := by
  intro d
  induction d with
  | zero =>
    intro i k hi hk
    obtain ⟨k, rfl⟩ : ∃ m, k = m + 1 := ⟨k - 1, by omega⟩
    simp only [presidioref18_MayDeal.l0, presidioref6_MaySpans.f, Option.bind_some]
    rw [if_neg (by omega), List.drop_of_length_le (by omega)]
    simp [rcvGo]
  | succ d ih =>
    intro i k hi hk
    obtain ⟨k, rfl⟩ : ∃ m, k = m + 2 := ⟨k - 2, by omega⟩
    have hlt : i < rv.length := by omega
    have hw : wrap64 ((i : Int) + 1) = ((i + 1 : Nat) : Int) := by unfold wrap64; omega
    have key := fun (p q : Int) => may_l1 (a := a) (s := s) (z := z) (sp := sp) (p := p) (q := q) hlt hl (B := 8 * d + 1) (R := some (rcvGo (seenF s (rv.take (i + 1))) (rv.drop (i + 1)) && msB sp)) (fun k hk => by rw [hw]; exact ih (i + 1) k (by omega) hk) i 0 k (by omega) (by omega)
    have e : rv.drop i = rv[i] :: rv.drop (i + 1) := List.drop_eq_getElem_cons hlt
    have e2 : rv.take (i + 1) = rv.take i ++ [rv[i]] := List.take_succ_eq_append_getElem hlt
    obtain ⟨r, hr⟩ : ∃ r, rv[i] = r := ⟨_, rfl⟩
    have hrd := rdR hlt
    rw [hr] at e e2 hrd
    have hj : ∀ (x : Bool), x = true → presidioref18_MayDeal.j2 (k + 1) i x a s z rv sp r.f0 r.f1 = some false := by
      intro x hx
      subst hx
      simp [presidioref18_MayDeal.j2]
    have hj2 : presidioref18_MayDeal.j2 (k + 1) i false a s z rv sp r.f0 r.f1 = if (rv.take i).any (fun r' => decide (r'.f0 = r.f0)) = true then some false else some (rcvGo (seenF s (rv.take (i + 1))) (rv.drop (i + 1)) && msB sp) := by
      simp only [presidioref18_MayDeal.j2]
      have := key r.f0 r.f1
      rw [List.drop_zero] at this
      rw [if_neg (by decide)]
      exact this
    have goal : rcvGo (seenF s (rv.take i)) (rv.drop i) = (!rcvBad (seenF s (rv.take i)) r.f0 r.f1 && rcvGo (seenF s (rv.take (i + 1))) (rv.drop (i + 1))) := by
      rw [e]
      show (!rcvBad _ r.f0 r.f1 && rcvGo (addS _ r.f0) _) = _
      rw [seen_add, ← e2]
    rw [goal]
    have hbad : ∀ {x : Bool}, rcvBad (seenF s (rv.take i)) r.f0 r.f1 = true → some ((!rcvBad (seenF s (rv.take i)) r.f0 r.f1 && x) && msB sp) = some false := by
      intro x h; rw [h]; rfl
    rw [show k + 2 = (k + 1) + 1 from rfl]
    simp only [presidioref18_MayDeal.l0, presidioref18_part.f]
    rw [if_pos (by omega), if_pos (by omega), hrd]
    by_cases g0 : r.f0 ≥ 0
    · rw [if_pos g0, Option.bind_some]
      by_cases g1 : r.f0 < 6
      · rw [if_pos (decide_eq_true g1)]
        by_cases g2 : r.f0 = s
        · rw [if_pos g2, hj _ rfl, hbad (bad_dec.2 (Or.inr (Or.inr (Or.inl (by unfold seenF; simp [g2])))))]
        · rw [if_neg g2]
          by_cases g3 : r.f1 < 1
          · rw [if_pos g3, hj _ rfl, hbad (bad_dec.2 (Or.inr (Or.inr (Or.inr (Or.inl g3)))))]
          · rw [if_neg g3]
            by_cases g4 : r.f1 > 7
            · rw [decide_eq_true g4, hj _ rfl, hbad (bad_dec.2 (Or.inr (Or.inr (Or.inr (Or.inr g4)))))]
            · rw [decide_eq_false g4, hj2]
              by_cases g5 : (rv.take i).any (fun r' => decide (r'.f0 = r.f0)) = true
              · rw [if_pos g5, hbad (bad_dec.2 (Or.inr (Or.inr (Or.inl (by unfold seenF; rw [g5, Bool.or_true])))))]
              · rw [if_neg g5]
                have : rcvBad (seenF s (rv.take i)) r.f0 r.f1 = false := by
                  rw [← Bool.not_eq_true, bad_dec]
                  unfold seenF
                  rw [Bool.or_eq_true, decide_eq_true_eq]
                  rintro (h | h | (h | h) | h | h)
                  · omega
                  · omega
                  · exact g2 h
                  · exact g5 h
                  · omega
                  · omega
                rw [this]; rfl
      · rw [if_neg (by simpa using g1), hj _ rfl, hbad (bad_dec.2 (Or.inr (Or.inl (by omega))))]
    · rw [if_neg g0, Option.bind_some, if_neg (by decide), hj _ rfl, hbad (bad_dec.2 (Or.inl (by omega)))]
theorem rmay_f {k : Nat} (hk : 40 ≤ k) : presidioref18_MayDeal.f k a s z rv sp = some (mayD a s z rv sp) := by
  obtain ⟨k, rfl⟩ : ∃ m, k = m + 1 := ⟨k - 1, by omega⟩
  have hT : presidioref18_MayDeal.j0 (k + 1) true a s z rv sp = some false := by simp [presidioref18_MayDeal.j0]
  have hF : rv.length ≤ 4 → presidioref18_MayDeal.j0 (k + 1) false a s z rv sp = some (rcvGo (addS (fun _ => false) s) rv && msB sp) := by
    intro hl
    simp only [presidioref18_MayDeal.j0]
    rw [if_neg (by decide)]
    have := may_l0 (a := a) (s := s) (z := z) (sp := sp) hl rv.length 0 k (by omega) (by omega)
    rw [List.take_zero, List.drop_zero, show ((0 : Nat) : Int) = 0 from rfl] at this
    rw [this]
    congr 3
    funext j
    unfold seenF addS
    by_cases h : j = s <;> simp [h]
  unfold presidioref18_MayDeal.f mayD rcvB
  simp only [presidioref18_part.f]
  rw [pgs_ms]
  by_cases h1 : a < 1
  · rw [if_pos h1, hT, decide_eq_false (show ¬ 1 ≤ a by omega)]; rfl
  rw [if_neg h1, decide_eq_true (show 1 ≤ a by omega)]
  by_cases h2 : a > 3
  · rw [if_pos h2, hT, decide_eq_false (show ¬ a ≤ 3 by omega)]; rfl
  rw [if_neg h2, decide_eq_true (show a ≤ 3 by omega)]
  by_cases h3 : s ≥ 0
  rotate_left
  · rw [if_neg h3, Option.bind_some, if_neg (by decide), hT, decide_eq_false (show ¬ 0 ≤ s by omega)]; rfl
  rw [if_pos h3, Option.bind_some, decide_eq_true (show 0 ≤ s by omega)]
  by_cases h4 : s < 6
  rotate_left
  · rw [if_neg (by simpa using h4), hT, decide_eq_false h4]; rfl
  rw [if_pos (decide_eq_true h4), decide_eq_true h4]
  by_cases h5 : (rv.length : Int) < 1
  · rw [if_pos h5, hT, decide_eq_false (show ¬ 1 ≤ rv.length by omega)]; simp
  rw [if_neg h5, decide_eq_true (show 1 ≤ rv.length by omega)]
  by_cases h6 : (rv.length : Int) > 4
  · rw [if_pos h6, hT, decide_eq_false (show ¬ rv.length ≤ 4 by omega)]; simp
  rw [if_neg h6, decide_eq_true (show rv.length ≤ 4 by omega)]
  by_cases h7 : a = 3
  · rw [if_pos h7, decide_eq_true h7, decide_eq_false (show ¬ a = 1 by omega), Bool.and_false]
    by_cases h8 : (rv.length : Int) = 1
    · rw [if_pos h8, decide_eq_false (show ¬ 1 < rv.length by omega)]
      cases z with
      | true => rw [if_pos rfl, show (a == 1) = false from beq_eq_false_iff_ne.2 (by omega), hF (by omega)]; rfl
      | false => rw [if_neg (by decide), hF (by omega)]; rfl
    · rw [if_neg h8, hT, decide_eq_true (show 1 < rv.length by omega)]; simp
  · rw [if_neg h7, decide_eq_false h7]
    cases z with
    | false => rw [if_neg (by decide), hF (by omega)]; rfl
    | true =>
      rw [if_pos rfl]
      by_cases h9 : a = 1
      · rw [show (a == 1) = true from beq_iff_eq.2 h9, hT, decide_eq_true h9]; rfl
      · rw [show (a == 1) = false from beq_eq_false_iff_ne.2 h9, hF (by omega), decide_eq_false h9]; rfl
end
end Go.Proofs.Ytdpjpmlajjfpgaa.Deal
