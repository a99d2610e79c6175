/- The same of deals' bytes, with some turned: the plain law and its call. -/
import Derived.Test.YtdpjpmlajjfpgaaDealN
import Derived.Test.YtdpjpmlajjfpgaaPDealQx12
import Derived.Test.YtdpjpmlajjfpgaaCRow
namespace Go.Proofs.Ytdpjpmlajjfpgaa.Deal
open Go Go.RowKit Go.Proofs.Ytdpjpmlajjfpgaa.PDealK Go.Proofs.Ytdpjpmlajjfpgaa.PDealQ
open Go.Proofs.YtdpjpmlajjfpgaaW.PrintWords hiding add_at blk_alloc blk_below blk_cell blk_drewN blk_far blk_lt blk_new blk_set
set_option linter.unusedVariables false
set_option linter.unusedSimpArgs false
theorem turned_l0 {l1 l2 : List Int} (h1 : ∀ x ∈ l1, 0 ≤ x ∧ x ≤ 255) (h2 : ∀ x ∈ l2, 0 ≤ x ∧ x ≤ 255) (hl : l1.length ≤ l2.length) (hl1 : l1.length ≤ 3) : ∀ (d i k : Nat) (b : List Int), i + d = l1.length → d + 1000 ≤ k → 0 < b.length → b.length ≤ 1000 → (∀ x ∈ b, 0 ≤ x ∧ x ≤ 255) →
    presidiolaw18_DealTurned.l0 k l1 l2 b i = some true := by
  intro d
  induction d with
  | zero =>
    intro i k b hi hk hb hb2 hby
    obtain ⟨k, rfl⟩ : ∃ m, k = m + 1 := ⟨k - 1, by omega⟩
    simp only [presidiolaw18_DealTurned.l0, deal_Take.f]
    have hs := takeD_small b
    rw [if_neg (by omega), if_pos hby, Option.bind_some, rtake_f (by omega) hby (by omega), Option.bind_some, if_pos rfl, same_f _ _ _ _ _ (by omega) (by omega) (by omega), Option.bind_some]
  | succ d ih =>
    intro i k b hi hk hb hb2 hby
    obtain ⟨k, rfl⟩ : ∃ m, k = m + 1 := ⟨k - 1, by omega⟩
    simp only [presidiolaw18_DealTurned.l0]
    have hx := byte_rd h1 (i : Int)
    have hy := byte_rd h2 (i : Int)
    obtain ⟨x, hxx⟩ : ∃ x, rd l1 (i : Int) = x := ⟨_, rfl⟩
    rw [hxx] at hx ⊢
    have n1 : (i : Int) < (l1.length : Int) := by omega
    have n2 : (0 : Int) ≤ (i : Int) := by omega
    have n3 : ¬ (b.length : Int) = 0 := by omega
    have n4 : (i : Int) < (l2.length : Int) := by omega
    have n5 : 0 < (b.set (Int.toNat (x % (b.length : Int))) (rd l2 i)).length := by simpa using hb
    have n6 : (b.set (Int.toNat (x % (b.length : Int))) (rd l2 i)).length ≤ 1000 := by simpa using hb2
    have n7 : i + 1 + d = l1.length := by omega
    have n8 : d + 1000 ≤ k := by omega
    have e1 : wrap64 x = x := by unfold wrap64; omega
    have e2 : Int.tmod x (b.length : Int) = x % (b.length : Int) := Int.tmod_eq_emod_of_nonneg hx.1
    have e3 := Int.emod_nonneg x (show (b.length : Int) ≠ 0 by omega)
    have e4 := Int.emod_lt_of_pos x (show (0 : Int) < (b.length : Int) by omega)
    have e5 : wrap64 ((i : Int) + 1) = ((i + 1 : Nat) : Int) := by unfold wrap64; omega
    rw [if_pos n1, if_pos n2, if_neg n3, if_pos n4, e1, e2, if_pos e3, if_pos e4, e5]
    refine ih (i + 1) k _ n7 n8 n5 n6 ?_
    intro z hz
    rcases List.mem_or_eq_of_mem_set hz with hz | rfl
    · exact hby z hz
    · exact hy
theorem turned_f {k : Nat} (hk : 1500 ≤ k) (a s : Int) (z : Bool) (rv : List RV) (sp : List SP) {l1 l2 : List Int} (h1 : ∀ x ∈ l1, 0 ≤ x ∧ x ≤ 255) (h2 : ∀ x ∈ l2, 0 ≤ x ∧ x ≤ 255) : presidiolaw18_DealTurned.f k a s z rv sp l1 l2 = some true := by
  obtain ⟨k, rfl⟩ : ∃ m, k = m + 1 := ⟨k - 1, by omega⟩
  have hj : presidiolaw18_DealTurned.j0 (k + 1) l1 l2 true a s z rv sp = some true := by simp [presidiolaw18_DealTurned.j0]
  unfold presidiolaw18_DealTurned.f presidiolaw18_light.f
  rw [show presidiolaw18_begun.f = some true from rfl, Option.bind_some, if_pos rfl]
  have hlight : ∀ t : Bool, (some t : Option Bool).bind (fun t219 => (if t219 = true then (if (l1.length : Int) > 3 then (presidiolaw18_DealTurned.j0 (k + 1) l1 l2 true a s z rv sp) else (if (l2.length : Int) < (l1.length : Int) then (presidiolaw18_DealTurned.j0 (k + 1) l1 l2 true a s z rv sp) else ((presidioref18_MayDeal.f (k + 1) a s z rv sp).bind fun t220 => (presidiolaw18_DealTurned.j0 (k + 1) l1 l2 (!t220) a s z rv sp)))) else (presidiolaw18_DealTurned.j0 (k + 1) l1 l2 true a s z rv sp))) = some true := by
    intro t
    rw [Option.bind_some]
    cases t with
    | false => rw [if_neg (by decide), hj]
    | true =>
      rw [if_pos rfl]
      by_cases g1 : (l1.length : Int) > 3
      · rw [if_pos g1, hj]
      rw [if_neg g1]
      by_cases g2 : (l2.length : Int) < (l1.length : Int)
      · rw [if_pos g2, hj]
      rw [if_neg g2, rmay_f (by omega), Option.bind_some]
      cases hm : mayD a s z rv sp with
      | false => exact hj
      | true =>
        show presidiolaw18_DealTurned.j0 (k + 1) l1 l2 false a s z rv sp = some true
        simp only [presidiolaw18_DealTurned.j0]
        rw [if_neg (by decide), rput_f (by omega), Option.bind_some]
        have hlen := putD_len hm
        have hle := may_len hm
        exact turned_l0 h1 h2 (by omega) (by omega) l1.length 0 k _ (by omega) (by omega) (by omega) (by omega) (putD_bytes _ _ _ _ _)
  by_cases g : (rv.length : Int) ≤ 8
  · rw [if_pos g]; exact hlight _
  · rw [if_neg g]; exact hlight _
theorem turned_any (W : World) (K S : Int) (z : Bool) (A : Option Addr) (c : Nat) (rv : List RV) (B : Option Addr) (e : Nat) (sp : List SP) (A1 : Option Addr) (c1 : Nat) (l1 : List Int) (A2 : Option Addr) (c2 : Nat) (l2 : List Int)
    (h1 : rv.length ≤ c) (h2 : Kd.C k40 W A rv.length rv) (h3 : sp.length ≤ e) (h4 : Kd.C k42 W B sp.length sp) (h5 : Kd.C (Kd.int .u8) W A1 l1.length l1) (h6 : l1.length ≤ c1) (h7 : Kd.C (Kd.int .u8) W A2 l2.length l2) (h8 : l2.length ≤ c2) (b1 : ∀ x ∈ l1, 0 ≤ x ∧ x ≤ 255) (b2 : ∀ x ∈ l2, 0 ≤ x ∧ x ≤ 255) :
    Calls Try.prog 4 #[.agg #[.int .i64 K, .int .i64 S, .bool z, .slice A rv.length c, .slice B sp.length e], .slice A1 l1.length c1, .slice A2 l2.length c2] W fun e w' => e = .returned (.bool true) ∧ Below W.heap.size W w' :=
  presidiolaw18_DealTurned.calls (1500 + 1) K S z A c rv B e sp A1 c1 l1 A2 c2 l2 true W h2 h1 h4 h3 h5 h6 h7 h8 (turned_f (by omega) K S z rv sp b1 b2)
end Go.Proofs.Ytdpjpmlajjfpgaa.Deal
