/- What the functions come to, printed by stub.py out of the translation; contracts of this session's own stand for what the print does not take. -/
import Derived.Test.YtdpjpmlajjfpgaaPDealQx0
import Derived.Test.YtdpjpmlajjfpgaaDealT
namespace Go.Proofs.Ytdpjpmlajjfpgaa.PDealQ
open Go.RowKit Go.Proofs.YtdpjpmlajjfpgaaW.PrintWords Go.Proofs.YtdpjpmlajjfpgaaW.PrintLast Go.Proofs.Ytdpjpmlajjfpgaa.PDealK Go.Proofs.Ytdpjpmlajjfpgaa.Deal Go.Proofs.Ytdpjpmlajjfpgaa.Gates
set_option linter.unusedVariables false
set_option linter.unusedSimpArgs false

/-! ### bytes_Equal: function 44 -/
def bytes_Equal.f (l0 : List Int) (l1 : List Int) : Option (Bool) := some ((strOfNums l0).toList == (strOfNums l1).toList)
set_option maxHeartbeats 8000000 in
set_option maxRecDepth 100000 in
theorem bytes_Equal.calls (A0 : Option Addr) (c0 : Nat) (l0 : List Int) (A1 : Option Addr) (c1 : Nat) (l1 : List Int) (r : Bool) (w : World) (hr0 : Kd.C (Kd.int .u8) w A0 l0.length l0) (hc0 : l0.length ≤ c0) (hr1 : Kd.C (Kd.int .u8) w A1 l1.length l1) (hc1 : l1.length ≤ c1) (h : bytes_Equal.f l0 l1 = some r) :
    Calls Try.prog 44 #[.slice A0 l0.length c0, .slice A1 l1.length c1] w fun e w' => e = .returned (.bool r) ∧ Drawn0 w w' := by
  have HR0 := Aside0.mk hr0
  have HC0 := Aside0.mk hc0
  clear hr0 hc0
  have HR1 := Aside0.mk hr1
  have HC1 := Aside0.mk hc1
  clear hr1 hc1
  have H : (some ((strOfNums l0).toList == (strOfNums l1).toList)) = some r := h
  clear h
  obtain rfl := Option.some.inj H
  have hcv3 := Kd.C_string (P := Try.prog) (A := A0) (c := c0) Try.underlying26 Try.underlying5 Try.underlying9 HR0.out
  have hcv4 := Kd.C_string (P := Try.prog) (A := A1) (c := c1) Try.underlying26 Try.underlying5 Try.underlying9 HR1.out
  go_enter Try.func44, Try.ntmps44
  go_wp2
  go_ret
  exact ⟨by first | rfl | (simp; done) | (simp [*]; done), by repeat (first | exact Drawn0.refl _ | apply Drawn0.step)⟩

/-! ### deal_Take: function 17 -/
def deal_Take.f (l0 : List Int) : Option (Int × Int × Bool × (List (S40)) × (List (S42)) × Int) := if (∀ x ∈ l0, 0 ≤ x ∧ x ≤ 255) then some (takeD l0) else none
theorem deal_Take.calls (A0 : Option Addr) (c0 : Nat) (l0 : List Int) (r1 : Int) (r2 : Int) (r3 : Bool) (r4 : List (S40)) (r5 : List (S42)) (r6 : Int) (w : World) (hr0 : Kd.C (Kd.int .u8) w A0 l0.length l0) (hc0 : l0.length ≤ c0) (h : deal_Take.f l0 = some (r1, r2, r3, r4, r5, r6)) :
    Calls Try.prog 17 #[.slice A0 l0.length c0] w fun e w' => ∃ v3_ v4_ : Value, e = .returned (.tuple #[.agg #[.int .i64 r1, .int .i64 r2, .bool r3, v3_, v4_], .int .i64 r6]) ∧ Kd.R k40 40 w' w.heap.size (fun _ => True) v3_ r4 ∧ Kd.R k42 42 w' w.heap.size (fun _ => True) v4_ r5 ∧ Below w.heap.size w w' := by
  unfold deal_Take.f at h
  split at h
  · rename_i hw
    injection h with h
    refine (take_any w A0 c0 l0 hr0 hc0 hw).mono ?_
    rintro e w' ⟨v, u, h1, h2, h3, h4⟩
    rw [h] at h1 h2 h3
    exact ⟨v, u, h1, h2, h3, h4⟩
  · cases h

end Go.Proofs.Ytdpjpmlajjfpgaa.PDealQ
