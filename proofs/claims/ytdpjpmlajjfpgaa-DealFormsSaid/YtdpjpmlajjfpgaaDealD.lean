/- Deals as bytes: whether they may be, and which bytes they are: what the program comes to. -/
import Derived.Test.YtdpjpmlajjfpgaaPDealQx3
import Derived.Test.YtdpjpmlajjfpgaaPDealKx3
namespace Go.Proofs.Ytdpjpmlajjfpgaa.Deal
open Go Go.RowKit Go.Proofs.Ytdpjpmlajjfpgaa.PDealK Go.Proofs.Ytdpjpmlajjfpgaa.PDealQ
open Go.Proofs.YtdpjpmlajjfpgaaW.PrintWords hiding add_at blk_alloc blk_below blk_cell blk_drewN blk_far blk_lt blk_new blk_set
set_option linter.unusedVariables false
set_option linter.unusedSimpArgs false
/-- Whether a deal may be. -/
def mayD (k s : Int) (z : Bool) (rv : List RV) (sp : List SP) : Bool :=
  decide (1 ≤ k) && decide (k ≤ 3) && decide (0 ≤ s) && decide (s < 6) && !(z && decide (k = 1)) && rcvB k s rv && (pgs sp).2
def flatR (rv : List RV) : List Int := rv.flatMap fun r => [r.f0 % 256, r.f1 % 256]
def flatS (sp : List SP) : List Int := sp.flatMap fun s => [s.f0 % 256, s.f0 / 256 % 256, s.f1 % 256]
/-- Its bytes. -/
def putD (k s : Int) (z : Bool) (rv : List RV) (sp : List SP) : List Int :=
  if mayD k s z rv sp = true then [k % 256, s % 256, if z then 1 else 0, (rv.length : Int) % 256] ++ flatR rv ++ [(sp.length : Int) % 256] ++ flatS sp else []
theorem may_f {k : Nat} (hk : 1 ≤ k) (a s : Int) (z : Bool) (rv : List RV) (sp : List SP) : deal_May.f k a s z rv sp = some (mayD a s z rv sp) := by
  obtain ⟨k, rfl⟩ : ∃ m, k = m + 1 := ⟨k - 1, by omega⟩
  have hT : deal_May.j0 (k + 1) true a s z rv sp = some false := by simp [deal_May.j0]
  have hF : 0 ≤ s → s < 6 → deal_May.j0 (k + 1) false a s z rv sp = some (rcvB a s rv && (pgs sp).2) := by
    intro h0 h1
    simp only [deal_May.j0, deal_receivers.f, span_May.f, span_pages.f]
    rw [if_pos (wf_in (by omega))]
    cases rcvB a s rv <;> simp
  unfold deal_May.f mayD
  by_cases h1 : a < 1
  · rw [if_pos h1, hT, decide_eq_false (show ¬ 1 ≤ a by omega)]; rfl
  rw [if_neg h1, decide_eq_true (show 1 ≤ a by omega)]
  by_cases h2 : a > 3
  · rw [if_pos h2, hT, decide_eq_false (show ¬ a ≤ 3 by omega)]; rfl
  rw [if_neg h2, decide_eq_true (show a ≤ 3 by omega)]
  by_cases h3 : s < 0
  · rw [if_pos h3, hT, decide_eq_false (show ¬ 0 ≤ s by omega)]; rfl
  rw [if_neg h3, decide_eq_true (show 0 ≤ s by omega)]
  by_cases h4 : s ≥ 6
  · rw [if_pos h4, hT, decide_eq_false (show ¬ s < 6 by omega)]; rfl
  rw [if_neg h4, decide_eq_true (show s < 6 by omega)]
  cases z with
  | false => rw [if_neg (by decide), hF (by omega) (by omega)]; rfl
  | true =>
    rw [if_pos rfl]
    by_cases h5 : a = 1
    · subst h5; rw [show ((1 : Int) == 1) = true from rfl, hT]; rfl
    · rw [show (a == 1) = false from beq_eq_false_iff_ne.2 h5, hF (by omega) (by omega), decide_eq_false h5]; rfl
theorem rdR {l : List RV} {k : Nat} (h : k < l.length) : rd_T40 l (k : Int) = l[k] := by unfold rd_T40; simp [List.getD_eq_getElem?_getD, List.getElem?_eq_getElem h]
theorem rdS {l : List SP} {k : Nat} (h : k < l.length) : rd_T42 l (k : Int) = l[k] := by unfold rd_T42; simp [List.getD_eq_getElem?_getD, List.getElem?_eq_getElem h]
theorem put_l1 (sp : List SP) (hs : sp.length ≤ 8) : ∀ (d i k : Nat) (acc : List Int), i + d = sp.length → d + 1 ≤ k → acc.length ≤ 1000 + 3 * i → deal_Put.l1 k acc sp sp.length i = some (acc ++ flatS (sp.drop i)) := by
  intro d
  induction d with
  | zero =>
    intro i k acc hi hk ha
    obtain ⟨k, rfl⟩ : ∃ m, k = m + 1 := ⟨k - 1, by omega⟩
    simp only [deal_Put.l1]
    rw [if_neg (by omega), List.drop_of_length_le (by omega)]
    simp [flatS]
  | succ d ih =>
    intro i k acc hi hk ha
    obtain ⟨k, rfl⟩ : ∃ m, k = m + 1 := ⟨k - 1, by omega⟩
    have hlt : i < sp.length := by omega
    simp only [deal_Put.l1, Option.bind_some]
    rw [if_pos (by omega), if_pos (by omega), if_pos (by omega), if_pos (by simp; omega), rdS hlt, show wrap64 ((i : Int) + 1) = ((i + 1 : Nat) : Int) by unfold wrap64; omega, ih (i + 1) k _ (by omega) (by omega) (by simp; omega)]
    have e : flatS (sp.drop i) = [sp[i].f0 % 256, sp[i].f0 / 256 % 256, sp[i].f1 % 256] ++ flatS (sp.drop (i + 1)) := by rw [List.drop_eq_getElem_cons hlt]; rfl
    rw [e]
    simp only [List.append_assoc]
theorem put_l0 (a s : Int) (z : Bool) (rv : List RV) (sp : List SP) (hr : rv.length ≤ 4) (hs : sp.length ≤ 8) : ∀ (d i k : Nat) (acc : List Int), i + d = rv.length → d + 10 ≤ k → acc.length ≤ 100 + 2 * i →
    deal_Put.l0 k acc rv rv.length i a s z rv sp = some (acc ++ flatR (rv.drop i) ++ [(sp.length : Int) % 256] ++ flatS sp) := by
  intro d
  induction d with
  | zero =>
    intro i k acc hi hk ha
    obtain ⟨k, rfl⟩ : ∃ m, k = m + 1 := ⟨k - 1, by omega⟩
    simp only [deal_Put.l0]
    have := put_l1 sp hs sp.length 0 k (acc ++ [(sp.length : Int) % 256]) (by omega) (by omega) (by simp; omega)
    rw [if_neg (by omega), if_pos (by omega), List.drop_of_length_le (by omega)]
    rw [show ((0 : Nat) : Int) = 0 from rfl] at this
    rw [this]
    simp [flatR]
  | succ d ih =>
    intro i k acc hi hk ha
    obtain ⟨k, rfl⟩ : ∃ m, k = m + 1 := ⟨k - 1, by omega⟩
    have hlt : i < rv.length := by omega
    simp only [deal_Put.l0, Option.bind_some]
    rw [if_pos (by omega), if_pos (by omega), if_pos (by omega), if_pos (by simp; omega), rdR hlt, show wrap64 ((i : Int) + 1) = ((i + 1 : Nat) : Int) by unfold wrap64; omega, ih (i + 1) k _ (by omega) (by omega) (by simp; omega)]
    have e : flatR (rv.drop i) = [rv[i].f0 % 256, rv[i].f1 % 256] ++ flatR (rv.drop (i + 1)) := by rw [List.drop_eq_getElem_cons hlt]; rfl
    rw [e]
    simp only [List.append_assoc]
theorem may_len {a s : Int} {z : Bool} {rv : List RV} {sp : List SP} (h : mayD a s z rv sp = true) : rv.length ≤ 4 ∧ 1 ≤ rv.length ∧ sp.length ≤ 8 := by
  unfold mayD rcvB pgs at h
  simp only [Bool.and_eq_true, decide_eq_true_eq] at h
  refine ⟨h.1.2.1.1.2, h.1.2.1.1.1, ?_⟩
  have h2 := h.2
  split at h2
  · cases h2
  · omega
theorem put_f {k : Nat} (hk : 20 ≤ k) (a s : Int) (z : Bool) (rv : List RV) (sp : List SP) : deal_Put.f k a s z rv sp = some (putD a s z rv sp) := by
  unfold deal_Put.f putD
  rw [may_f (by omega), Option.bind_some]
  by_cases h : mayD a s z rv sp = true
  · obtain ⟨h1, h2, h3⟩ := may_len h
    rw [if_pos h, if_pos h]
    obtain ⟨k, rfl⟩ : ∃ m, k = m + 1 := ⟨k - 1, by omega⟩
    have key := put_l0 a s z rv sp h1 h3 rv.length 0 k [a % 256, s % 256, if z then 1 else 0, (rv.length : Int) % 256] (by omega) (by omega) (by simp)
    rw [show ((0 : Nat) : Int) = 0 from rfl, List.drop_zero] at key
    cases z with
    | true => rw [if_pos rfl]; simp only [deal_Put.j0]; exact key
    | false => rw [if_neg (by decide)]; simp only [deal_Put.j0]; exact key
  · rw [if_neg h, if_neg h]
end Go.Proofs.Ytdpjpmlajjfpgaa.Deal
