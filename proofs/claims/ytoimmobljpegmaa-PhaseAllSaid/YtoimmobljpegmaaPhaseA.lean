/- The statement on phases against the reference. -/
import Derived.Test.YtoimmobljpegmaaPhaseW
namespace Go.Proofs.Ytoimmobljpegmaa.Phase
open Go.RowKit Go.Proofs.Ytoimmobljpegmaa.Mem Go.Maps
set_option linter.unusedVariables false

theorem next_nm {x y n : Int} {c : Bool} (w : World) (hx : (Lit.int .i64 x).wf = true) (hy : (Lit.int .i64 y).wf = true) (h : nx x y = n) (hc : decide (0 < n) = c) :
    Calls Try.prog 16 #[.int .i64 x, .int .i64 y] w fun e w' => e = .returned (.tuple #[.int .i64 n, .bool c]) ∧ Below w.heap.size w w' := by
  subst h hc; exact next_any w x y hx hy
theorem rnext_nm {x y n : Int} {c : Bool} (w : World) (h : nx x y = n) (hc : decide (0 < n) = c) :
    Calls Try.prog 17 #[.int .i64 x, .int .i64 y] w fun e w' => e = .returned (.tuple #[.int .i64 n, .bool c]) ∧ Below w.heap.size w w' := by
  subst h hc; exact rnext_any w x y

set_option maxRecDepth 100000 in
set_option maxHeartbeats 4000000 in
theorem all_phase (p x : Int) (a : Option Addr) (b off cap : Nat) (l : List Int) (w : World) (hp : (Lit.int .i64 p).wf = true) (hx : (Lit.int .i64 x).wf = true) (hl : l.length ≤ 1152921504606846976) (ha : 0 < l.length → a = some ⟨b, off, none⟩) (hblt : 0 < l.length → b < w.heap.size)
    (hc : ∀ i, i < l.length → w.cell? ⟨b, off + i, none⟩ = some (.int .i64 (l.getD i 0))) (hw : ∀ n ∈ l, (Lit.int .i64 n).wf = true) :
    Calls Try.prog 3 #[.int .i64 p, .int .i64 x, .slice a l.length cap] w fun e w' => e = .returned (.bool true) ∧ Below w.heap.size w w' := by
  have hb := Below.refl w.heap.size w
  have HC := Lib.hid hc
  have HA := Lib.hid ha
  have HB := Lib.hid hblt
  have HW := Lib.hid hw
  clear hc ha hblt hw
  obtain ⟨n, hn⟩ : ∃ n, nx p x = n := ⟨_, rfl⟩
  obtain ⟨c, hcc⟩ : ∃ c, decide (0 < n) = c := ⟨_, rfl⟩
  obtain ⟨⟨q, ok⟩, hq⟩ : ∃ z, ways l p = z := ⟨_, rfl⟩
  have HN := Lib.hid hn
  have HK := Lib.hid hcc
  have HQ := Lib.hid hq
  clear hn hcc hq
  by_cases h12 : 12 < (l.length : Int)
  · go_enter Try.func3, Try.ntmps3
    go_wp2_with (first
      | (go_at_call 15; refine (begun _).mono ?_; rintro e w1 ⟨rfl, hb1⟩; replace hb := bel_chain hb hb1; clear hb1)
      | fail)
    go_ret
    exact ⟨rfl, hb⟩
  · go_enter Try.func3, Try.ntmps3
    go_wp2_with (first
      | (go_at_call 15; refine (begun _).mono ?_; rintro e w1 ⟨rfl, hb1⟩; replace hb := bel_chain hb hb1; clear hb1)
      | (go_at_call 16; refine (next_nm _ hp hx HN.out HK.out).mono ?_; rintro e w1 ⟨rfl, hb1⟩; replace hb := bel_chain hb hb1; clear hb1)
      | (go_at_call 17; refine (rnext_nm _ HN.out HK.out).mono ?_; rintro e w1 ⟨rfl, hb1⟩; replace hb := bel_chain hb hb1; clear hb1)
      | (go_at_call 18; refine (way_val _ HQ.out hp hl HA.out (fun h => Nat.lt_of_lt_of_le (HB.out h) hb.size) (fun i hi => (hb.cell (p := ⟨b, off + i, none⟩) (HB.out (by omega))).trans (HC.out i hi)) HW.out).mono ?_; rintro e w1 ⟨rfl, hb1⟩; replace hb := bel_chain hb hb1; clear hb1)
      | (go_at_call 19; refine (rway_val _ HQ.out hl HA.out (fun h => Nat.lt_of_lt_of_le (HB.out h) hb.size) (fun i hi => (hb.cell (p := ⟨b, off + i, none⟩) (HB.out (by omega))).trans (HC.out i hi))).mono ?_; rintro e w1 ⟨rfl, hb1⟩; replace hb := bel_chain hb hb1; clear hb1)
      | fail)
    go_ret
    exact ⟨rfl, hb⟩
end Go.Proofs.Ytoimmobljpegmaa.Phase
