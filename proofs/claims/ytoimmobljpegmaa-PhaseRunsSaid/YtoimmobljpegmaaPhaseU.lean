/- Only who runs yields, waits, answers or calls: a run of events. -/
import Derived.Test.YtoimmobljpegmaaPhaseW
namespace Go.Proofs.Ytoimmobljpegmaa.Phase
open Go.RowKit Go.Proofs.Ytoimmobljpegmaa.Mem Go.Maps
set_option linter.unusedVariables false

set_option maxRecDepth 100000 in
set_option maxHeartbeats 40000000 in
theorem runs (a : Option Addr) (b off cap : Nat) (l : List Int) (w : World) (hl : l.length ≤ 1152921504606846976) (ha : 0 < l.length → a = some ⟨b, off, none⟩) (hblt : 0 < l.length → b < w.heap.size)
    (hc : ∀ i, i < l.length → w.cell? ⟨b, off + i, none⟩ = some (.int .u8 (l.getD i 0))) (hw : ∀ n ∈ l, (Lit.int .u8 n).wf = true) :
    Calls Try.prog 5 #[.slice a l.length cap] w fun e w' => e = .returned (.bool true) ∧ Below w.heap.size w w' := by
  have hb := Below.refl w.heap.size w
  have HC := Lib.hid hc
  have HA := Lib.hid ha
  have HB := Lib.hid hblt
  have HW := Lib.hid hw
  clear hc ha hblt hw
  by_cases h12 : 12 < (l.length : Int)
  · go_enter Try.func5, Try.ntmps5
    go_wp2_with (first
      | (go_at_call 15; refine (begun _).mono ?_; rintro e w1 ⟨rfl, hb1⟩; replace hb := bel_chain hb hb1; clear hb1)
      | fail)
    go_ret
    exact ⟨rfl, hb⟩
  · go_enter Try.func5, Try.ntmps5
    go_wp2_with (first
      | (go_at_call 15; refine (begun _).mono ?_; rintro e w1 ⟨rfl, hb1⟩; replace hb := bel_chain hb hb1; clear hb1)
      | fail)
    go_loopw [3, 4] (fun t3 t4 wr => ∃ (k : Nat) (p : Int), k ≤ l.length ∧ (p = 1 ∨ p = 2 ∨ p = 3 ∨ p = 4 ∨ p = 5) ∧ t3 = .int .i64 p ∧ t4 = .int .i64 k ∧ Below w.heap.size w wr) (fun _ t4 _ => l.length - (intOf t4).toNat)
    case atStart => exact ⟨0, 1, by omega, .inl rfl, rfl, rfl, hb⟩
    case round =>
      obtain ⟨k, p, hk, hp, rfl, rfl, hb⟩ := hrel
      by_cases hlt : (k : Int) < l.length
      · obtain ⟨v, hv⟩ : ∃ v, v = l.getD k 0 := ⟨_, rfl⟩
        have hv0 : 0 ≤ v ∧ v ≤ 255 := bounds_u8 (HW.out v (by rw [hv, List.getD_eq_getElem?_getD, List.getElem?_eq_getElem (by omega)]; exact List.getElem_mem _))
        have hcell : wr.cell? ⟨b, off + k, none⟩ = some (.int .u8 v) := (hb.cell (p := ⟨b, off + k, none⟩) (HB.out (by omega))).trans (by rw [hv]; exact HC.out k (by omega))
        clear hv
        obtain rfl := HA.out (by omega)
        have hm : Int.tmod v 8 = v % 8 := Int.tmod_eq_emod_of_nonneg hv0.1
        have hr : v % 8 = 0 ∨ v % 8 = 1 ∨ v % 8 = 2 ∨ v % 8 = 3 ∨ v % 8 = 4 ∨ v % 8 = 5 ∨ v % 8 = 6 ∨ v % 8 = 7 := by omega
        rcases hr with hr | hr | hr | hr | hr | hr | hr | hr <;> rcases hp with rfl | rfl | rfl | rfl | rfl
        all_goals
          as_aux_lemma =>
            have hm2 : Int.tmod v 8 = _ := hm.trans hr
            have hm3 : IntKind.u8.wrap (v % 8) = v % 8 := IntWalk.u8_in _ (by omega)
            clear hm
            go_wp2_with (first
              | (go_at_call 16; (with_reducible refine (next_yes _ (by decide) (by decide) (by decide)).mono ?_); rintro e w1 ⟨rfl, hb1⟩; replace hb := bel_then hb hb.size hb1; clear hb1)
              | (go_at_call 16; (with_reducible refine (next_no _ (by decide) (by decide) (by decide)).mono ?_); rintro e w1 ⟨rfl, hb1⟩; replace hb := bel_then hb hb.size hb1; clear hb1)
              | fail)
            go_roundw
            case rel => exact ⟨k + 1, _, by omega, by decide, rfl, by go_num, hb⟩
            case measure => simp [intOf]; omega
      · obtain rfl : k = l.length := by omega
        rcases hp with rfl | rfl | rfl | rfl | rfl
        all_goals
          go_wp2
          go_ret
          exact ⟨rfl, hb⟩
end Go.Proofs.Ytoimmobljpegmaa.Phase
