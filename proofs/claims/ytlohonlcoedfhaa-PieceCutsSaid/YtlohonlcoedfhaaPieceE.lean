/- However it is cut it is the same in the end, and whole just then: whatever comes in. -/
import Derived.Test.YtlohonlcoedfhaaPieceD
namespace Go.Proofs.Ytlohonlcoedfhaa.Piece
open Go.RowKit Go.Proofs.Ytlohonlcoedfhaa.Mem
open Go.Proofs.YtlohonlcoedfhaaW.PrintWords (nums ReadsInt)
set_option linter.unusedVariables false

set_option maxRecDepth 100000 in
set_option maxHeartbeats 2000000 in
theorem cuts_out (w : World) (a : Option Addr) (n cap : Nat) (a2 : Option Addr) (n2 cap2 : Nat) (h : n < 1 ∨ 400 < n ∨ 30 < n2) :
    Calls Try.prog 13 #[.slice a n cap, .slice a2 n2 cap2] w fun e w' => e = .returned (.bool true) ∧ Below w.heap.size w w' := by
  have hb := Below.refl w.heap.size w
  have hd : (decide ((n : Int) < 1) || decide (400 < (n : Int)) || decide (30 < (n2 : Int))) = true := by
    simp only [Bool.or_eq_true, decide_eq_true_eq]; omega
  obtain ⟨x, hx⟩ : ∃ x, decide ((n : Int) < 1) = x := ⟨_, rfl⟩
  obtain ⟨y, hy⟩ : ∃ x, decide (400 < (n : Int)) = x := ⟨_, rfl⟩
  obtain ⟨z, hz⟩ : ∃ x, decide (30 < (n2 : Int)) = x := ⟨_, rfl⟩
  rw [hx, hy, hz] at hd
  clear h
  cases x <;> cases y <;> cases z <;> first | (exact absurd hd (by decide)) | skip
  all_goals
    clear hd
    go_enter Try.func13, Try.ntmps13
    go_wp2_with (first
      | (go_at_call 34; (with_reducible refine (begun _).mono ?_); rintro e w1 ⟨rfl, hb1⟩; replace hb := bel_chain hb hb1; clear hb1)
      | fail)
    all_goals go_ret
    all_goals exact ⟨rfl, hb⟩
theorem reads_plain {w : World} {a : Option Addr} {b off : Nat} {l : List Int} (hl : l.length ≤ 1152921504606846976) (ha : 0 < l.length → a = some ⟨b, off, none⟩) (hc : ∀ i, i < l.length → w.cell? ⟨b, off + i, none⟩ = some (.int .u8 (l.getD i 0))) : ReadsInt w .u8 a l.length l :=
  ⟨rfl, by omega, fun h => ⟨_, ha h, fun j hj => by rw [Loan.add_at]; exact hc j hj⟩⟩
theorem cuts_all (w : World) (a : Option Addr) (b o cap : Nat) (l : List Int) (a2 : Option Addr) (cap2 : Nat) (l2 : List Int) (b2 o2 : Nat) (ha : 0 < l.length → a = some ⟨b, o, none⟩) (ha2 : 0 < l2.length → a2 = some ⟨b2, o2, none⟩)
    (hcap : l.length ≤ cap) (hcm : cap ≤ 9223372036854775807) (hr : ReadsInt w .u8 a l.length l) (hr2 : ReadsInt w .u8 a2 l2.length l2) (hw2 : ∀ x ∈ l2, 0 ≤ x ∧ x ≤ 255) :
    Calls Try.prog 13 #[.slice a l.length cap, .slice a2 l2.length cap2] w fun e w' => e = .returned (.bool true) ∧ Below w.heap.size w w' := by
  by_cases h : l.length < 1 ∨ 400 < l.length ∨ 30 < l2.length
  · exact cuts_out w a _ cap a2 _ cap2 h
  · have e := ha (by omega)
    subst e
    exact cuts w b o cap l a2 cap2 l2 b2 o2 ha2 (by omega) (by omega) hcap hcm hr (by omega) hr2 hw2
end Go.Proofs.Ytlohonlcoedfhaa.Piece
