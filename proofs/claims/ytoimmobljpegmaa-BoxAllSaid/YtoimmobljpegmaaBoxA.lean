/- The statement on boxes in any run, walked. -/
import Derived.Test.YtoimmobljpegmaaBoxR
import Derived.Deep.RegionHeld3
namespace Go.Proofs.Ytoimmobljpegmaa.Box
open Go.RowKit Go.Proofs.Ytoimmobljpegmaa.Mem

theorem tmod6 (z : Int) : -5 ≤ z.tmod 6 ∧ z.tmod 6 ≤ 5 := by
  have h1 := Int.tmod_lt_of_pos z (show (0 : Int) < 6 by decide)
  have h2 := Int.lt_tmod_of_pos z (show (0 : Int) < 6 by decide)
  omega
theorem Is.grown {w w' : World} {g g2 : Nat} {x : St} (H : Is w g x) (hg : w.grownBy w' (some g2)) (hne : g ≠ g2) : Is w' g x :=
  (hg.block g (blk_lt H) (by simpa using hne)).trans H
theorem RIs.grown {w w' : World} {g g2 : Nat} {x : St} (H : RIs w g x) (hg : w.grownBy w' (some g2)) (hne : g ≠ g2) : RIs w' g x :=
  (hg.block g (blk_lt H) (by simpa using hne)).trans H
theorem cell_grown {w w' : World} {g2 : Nat} {b : Nat} {o : Nat} {v : Value} (H : w.cell? ⟨b, o, none⟩ = some v) (hg : w.grownBy w' (some g2)) (hne : b ≠ g2) : w'.cell? ⟨b, o, none⟩ = some v :=
  hg.cell H (by simpa using hne)

theorem RIs.cellsX {w : World} {g : Nat} {x : St} (H : RIs w g x) :
    w.cell? ⟨g, 1, none⟩ = some (.int .i64 x.s) ∧ w.cell? ⟨g, 2, none⟩ = some (.int .i64 x.t) ∧ w.cell? ⟨g, 0, none⟩ = some (.bool x.h) ∧ w.cell? ⟨g, 3, none⟩ = some (.bool x.f) := by
  obtain ⟨s, t, h, f⟩ := x
  obtain ⟨c0, c1, c2, c3, _⟩ := H.cells
  exact ⟨c0, c1, c2, c3⟩
theorem pagesX (w : World) (g : Nat) (x : St) (H : Is w g x) (hI : Inv x) :
    Calls Try.prog 30 #[.pointer (some ⟨g, 0, none⟩)] w fun e w' => e = .returned (.tuple #[.int .i64 x.s, .int .i64 x.t, .bool x.h]) ∧ Is w' g x ∧ w.grownBy w' (some g) := by
  obtain ⟨s, t, h, f⟩ := x
  exact (pages_inv w g s t h f H hI).mono fun e w' ⟨he, n, hw⟩ => ⟨he, by subst hw; exact H, by subst hw; exact grown_drewN (grown_refl _ _) _⟩
theorem fullX (w : World) (g : Nat) (x : St) (H : Is w g x) : Calls Try.prog 31 #[.pointer (some ⟨g, 0, none⟩)] w fun e w' => e = .returned (.bool x.f) ∧ w' = w := by
  obtain ⟨s, t, h, f⟩ := x
  exact (full_same w g s t h f H).mono fun e w' ⟨he, hw⟩ => ⟨he, hw.symm⟩

set_option maxRecDepth 100000 in
set_option maxHeartbeats 4000000 in
theorem all_pos (w : World) (b off len cap : Nat) (kd sd td : Nat → Int) (hlen : len ≤ 9223372036854775807) (hblt : b < w.heap.size)
    (hk : ∀ i, i < len → w.cell? ⟨b, off + i * 3, none⟩ = some (.int .i64 (kd i))) (hs : ∀ i, i < len → w.cell? ⟨b, off + i * 3 + 1, none⟩ = some (.int .i64 (sd i)))
    (ht : ∀ i, i < len → w.cell? ⟨b, off + i * 3 + 2, none⟩ = some (.int .i64 (td i))) :
    Calls Try.prog 7 #[.slice (some ⟨b, off, none⟩) len cap] w fun e w' => e = .returned (.bool true) ∧ Below w.heap.size w w' := by
  have hb := Below.refl w.heap.size w
  by_cases h40 : 40 < (len : Int)
  · go_enter Try.func7, Try.ntmps7
    go_wp2_with (first
      | (go_at_call 20; refine (begun _).mono ?_; rintro e w1 ⟨rfl, hb1⟩; replace hb := bel_chain hb hb1; clear hb1))
    go_ret
    exact ⟨rfl, hb⟩
  · have HK : Hid (∀ i, i < len → w.cell? ⟨b, off + i * 3, none⟩ = some (.int .i64 (kd i))) := Lib.hid hk
    have HS : Hid (∀ i, i < len → w.cell? ⟨b, off + i * 3 + 1, none⟩ = some (.int .i64 (sd i))) := Lib.hid hs
    have HT : Hid (∀ i, i < len → w.cell? ⟨b, off + i * 3 + 2, none⟩ = some (.int .i64 (td i))) := Lib.hid ht
    clear hk hs ht
    go_enter Try.func7, Try.ntmps7
    go_wp2_with (first
      | (go_at_call 20; refine (begun _).mono ?_; rintro e w1 ⟨rfl, hb1⟩; replace hb := bel_chain hb hb1; clear hb1)
      | (go_at_call 21; refine (new_any _).mono ?_; rintro e w2 ⟨rfl, H1, g1⟩; have hge := hb.size; have hg2 := blk_lt H1; replace hb := bel_new hb g1; clear g1))
    have H1' : Is (w2.alloc (.cells #[.bool false, .int .i64 0, .int .i64 0, .bool false] 37)) w1.heap.size ⟨0, 0, false, false⟩ := blk_alloc H1 _
    have R1' : RIs (w2.alloc (.cells #[.bool false, .int .i64 0, .int .i64 0, .bool false] 37)) w2.heap.size ⟨0, 0, false, false⟩ := blk_new _ _
    have hb' := bel_alloc hb (.cells #[.bool false, .int .i64 0, .int .i64 0, .bool false] 37)
    have hge2 : w.heap.size ≤ w2.heap.size := hb.size
    clear H1 hb
    generalize hg : w1.heap.size = g at *
    generalize hgg : w2.heap.size = g2 at *
    clear hg hgg
    have hne : g ≠ g2 := by omega
    go_loopw [5] (fun i wr => ∃ (k : Nat) (x : St), k ≤ len ∧ i = .int .i64 k ∧ Inv x ∧ Is wr g x ∧ RIs wr g2 x ∧ Below w.heap.size w wr) (fun i _ => len - (intOf i).toNat)
    case atStart => exact ⟨0, _, Nat.zero_le _, rfl, fun _ => ⟨rfl, rfl, rfl⟩, H1', R1', hb'⟩
    case round =>
      obtain ⟨k, x, hkl, rfl, hI, HI, HR, hb⟩ := hrel
      have HInv := hI
      clear H1' R1' hb'
      by_cases hlt : k < len
      · have ck : wr.cell? ⟨b, off + k * 3, none⟩ = some (.int .i64 (kd k)) := (hb.cell (p := ⟨b, _, none⟩) hblt).trans (HK.out k hlt)
        have cs : wr.cell? ⟨b, off + k * 3 + 1, none⟩ = some (.int .i64 (sd k)) := (hb.cell (p := ⟨b, _, none⟩) hblt).trans (HS.out k hlt)
        have ct : wr.cell? ⟨b, off + k * 3 + 2, none⟩ = some (.int .i64 (td k)) := (hb.cell (p := ⟨b, _, none⟩) hblt).trans (HT.out k hlt)
        have hm := tmod6 (kd k)
        obtain ⟨rm, xm, hrm⟩ : ∃ r x', mapF x (sd k) (td k) = (r, x') := ⟨_, _, rfl⟩
        obtain ⟨ru, xu, hru⟩ : ∃ r x', unmapF x = (r, x') := ⟨_, _, rfl⟩
        obtain ⟨rf, xf, hrf⟩ : ∃ r x', fillF x = (r, x') := ⟨_, _, rfl⟩
        obtain ⟨rl, xl, hrl⟩ : ∃ r x', releaseF x = (r, x') := ⟨_, _, rfl⟩
        have Im := inv_map hI hrm
        have Iu := inv_unmap hI hru
        have If := inv_fill hI hrf
        have Il := inv_release hI hrl
        have Hm := Lib.hid hrm
        have Hu := Lib.hid hru
        have Hf := Lib.hid hrf
        have Hl := Lib.hid hrl
        have hbg : b ≠ g := by omega
        have hbg2 : b ≠ g2 := by omega
        clear hrm hru hrf hrl
        go_wp2_with (first
          | (go_at_call 24; refine (unmap_any _ _ x _ _ HI Hu.out).mono ?_; rintro e w3 ⟨rfl, J1, g1⟩; have K1 := RIs.grown HR g1 hne.symm; replace hb := bel_grown hb g1 hge; clear g1 HI HR)
          | (go_at_call 25; refine (runmap_any _ _ x _ _ K1 Hu.out).mono ?_; rintro e w4 ⟨rfl, K2, g2'⟩; have J2 := Is.grown J1 g2' hne; replace hb := bel_grown hb g2' hge2; have JI := Iu; clear g2' J1 K1)
          | (go_at_call 26; refine (fill_any _ _ x _ _ HI Hf.out).mono ?_; rintro e w3 ⟨rfl, J1, g1⟩; have K1 := RIs.grown HR g1 hne.symm; replace hb := bel_grown hb g1 hge; clear g1 HI HR)
          | (go_at_call 27; refine (rfill_any _ _ x _ _ K1 Hf.out).mono ?_; rintro e w4 ⟨rfl, K2, g2'⟩; have J2 := Is.grown J1 g2' hne; replace hb := bel_grown hb g2' hge2; have JI := If; clear g2' J1 K1)
          | (go_at_call 28; refine (release_any _ _ x _ _ HI Hl.out).mono ?_; rintro e w3 ⟨rfl, J1, g1⟩; have K1 := RIs.grown HR g1 hne.symm; replace hb := bel_grown hb g1 hge; clear g1 HI HR)
          | (go_at_call 29; refine (rrelease_any _ _ x _ _ K1 Hl.out).mono ?_; rintro e w4 ⟨rfl, K2, g2'⟩; have J2 := Is.grown J1 g2' hne; replace hb := bel_grown hb g2' hge2; have JI := Il; clear g2' J1 K1)
          | (go_at_call 30; refine (pagesX _ _ _ J2 JI).mono ?_; rintro e w5 ⟨rfl, J5, g5⟩; have K5 := RIs.grown K2 g5 hne.symm; replace hb := bel_grown hb g5 hge; clear g5 J2 K2; obtain ⟨d1, d2, d0, d3⟩ := K5.cellsX))
        rotate_left 2
        · go_quiet ((go_at_call 31; exact Calls.quiet_of_same (fullX _ _ _ J5)))
          go_wp2
          go_roundw
          case rel => exact ⟨k + 1, _, by omega, by go_num, JI, J5, K5, bel_drewN hb _⟩
          case measure => simp [intOf]; omega
        · go_quiet ((go_at_call 31; exact Calls.quiet_of_same (fullX _ _ _ J5)))
          go_wp2
          go_roundw
          case rel => exact ⟨k + 1, _, by omega, by go_num, JI, J5, K5, bel_drewN hb _⟩
          case measure => simp [intOf]; omega
        · go_quiet ((go_at_call 31; exact Calls.quiet_of_same (fullX _ _ _ J5)))
          go_wp2
          go_roundw
          case rel => exact ⟨k + 1, _, by omega, by go_num, JI, J5, K5, bel_drewN hb _⟩
          case measure => simp [intOf]; omega
        · go_quiet ((go_at_call 31; exact Calls.quiet_of_same (fullX _ _ _ J5)))
          go_wp2
          go_roundw
          case rel => exact ⟨k + 1, _, by omega, by go_num, JI, J5, K5, bel_drewN hb _⟩
          case measure => simp [intOf]; omega
        all_goals
          have ct0 := ct
          go_region_held3 (fun w' => w'.cell? ⟨b, off + k * 3 + 1, none⟩ = some (.int .i64 (sd k)) ∧ w'.cell? ⟨b, off + k * 3 + 2, none⟩ = some (.int .i64 (td k)))
            (first | exact ⟨cs, ct⟩ | exact ⟨cs3, ct3⟩ | exact ⟨cs4, ct4⟩)
            (first
              | (go_at_call 22; refine (map_any _ _ _ _ x _ _ (show Is wr.drew g x from HI) Hm.out).mono ?_; rintro e w3 ⟨rfl, J1, g1⟩; have cs3 := cell_grown (w := wr.drew) cs g1 hbg; have ct3 := cell_grown (w := wr.drew) ct g1 hbg; have K1 := RIs.grown (w := wr.drew) HR g1 hne.symm; replace hb := bel_grown (bel_drew hb) g1 hge; clear g1)
              | (go_at_call 23; refine (rmap_any _ _ _ _ x _ _ K1 HInv Hm.out).mono ?_; rintro e w4 ⟨rfl, K2, g2'⟩; have cs4 := cell_grown cs3 g2' hbg2; have ct4 := cell_grown ct3 g2' hbg2; have J2 := Is.grown J1 g2' hne; replace hb := bel_grown hb g2' hge2; have JI := Im; clear g2'))
          go_wp2_with (first | (go_at_call 30; refine (pagesX _ _ _ J2 JI).mono ?_; rintro e w5 ⟨rfl, J5, g5⟩; have K5 := RIs.grown K2 g5 hne.symm; replace hb := bel_grown hb g5 hge; clear g5 J2 K2; obtain ⟨d1, d2, d0, d3⟩ := K5.cellsX))
          go_quiet ((go_at_call 31; exact Calls.quiet_of_same (fullX _ _ _ J5)))
          go_wp2
          go_roundw
          case rel => exact ⟨k + 1, _, by omega, by go_num, JI, J5, K5, bel_drewN hb _⟩
          case measure => simp [intOf]; omega
      · clear HK HS HT HI HR
        go_wp2_with (first
          | (go_at_call 22; refine (map_none _ _ _).mono ?_; rintro e w3 ⟨rfl, rfl⟩)
          | (go_at_call 24; refine (unmap_none _).mono ?_; rintro e w3 ⟨rfl, rfl⟩)
          | (go_at_call 26; refine (fill_none _).mono ?_; rintro e w3 ⟨rfl, rfl⟩)
          | (go_at_call 28; refine (release_none _).mono ?_; rintro e w3 ⟨rfl, rfl⟩)
          | (go_at_call 30; refine (pages_none _).mono ?_; rintro e w3 ⟨rfl, rfl⟩)
          | (go_at_call 31; refine (full_none _).mono ?_; rintro e w3 ⟨rfl, rfl⟩))
        go_ret
        exact ⟨rfl, hb⟩

set_option maxRecDepth 100000 in
set_option maxHeartbeats 4000000 in
theorem all_nil (w : World) (a : Option Addr) (cap : Nat) :
    Calls Try.prog 7 #[.slice a 0 cap] w fun e w' => e = .returned (.bool true) ∧ Below w.heap.size w w' := by
  have hb := Below.refl w.heap.size w
  go_enter Try.func7, Try.ntmps7
  go_wp2_with (first
    | (go_at_call 20; refine (begun _).mono ?_; rintro e w1 ⟨rfl, hb1⟩; replace hb := bel_chain hb hb1; clear hb1)
    | (go_at_call 21; refine (new_any _).mono ?_; rintro e w2 ⟨rfl, H1, g1⟩; replace hb := bel_new hb g1; clear g1))
  refine wp_loop_rounds 1 ?_
  rw [rounds_succ]
  go_wp2_with (first
    | (go_at_call 22; refine (map_none _ _ _).mono ?_; rintro e w3 ⟨rfl, rfl⟩)
    | (go_at_call 24; refine (unmap_none _).mono ?_; rintro e w3 ⟨rfl, rfl⟩)
    | (go_at_call 26; refine (fill_none _).mono ?_; rintro e w3 ⟨rfl, rfl⟩)
    | (go_at_call 28; refine (release_none _).mono ?_; rintro e w3 ⟨rfl, rfl⟩)
    | (go_at_call 30; refine (pages_none _).mono ?_; rintro e w3 ⟨rfl, rfl⟩)
    | (go_at_call 31; refine (full_none _).mono ?_; rintro e w3 ⟨rfl, rfl⟩))
  go_ret
  exact ⟨rfl, bel_alloc hb _⟩
end Go.Proofs.Ytoimmobljpegmaa.Box
