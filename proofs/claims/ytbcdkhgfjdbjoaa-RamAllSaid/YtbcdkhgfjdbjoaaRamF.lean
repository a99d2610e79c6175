/- Contracts of package ram: Copy. -/
import Derived.Test.YtbcdkhgfjdbjoaaRamE
import Derived.Test.YtbcdkhgfjdbjoaaRegH
namespace Go.Proofs.Ytbcdkhgfjdbjoaa.Ram
open Go.RowKit Go.Proofs.Ytbcdkhgfjdbjoaa.Mem Go.Proofs.Ytbcdkhgfjdbjoaa.Kept
open Go.Proofs.YtbcdkhgfjdbjoaaW.PrintWords (nums ReadsInt own_reads own_reads' own_le own_lit print_append_row)
set_option linter.unusedVariables false
set_option linter.unusedSimpArgs false

/-- What a memory's frames are cloned to. -/
def Cloned (w : World) (n : Nat) (F : List Int) (e : Ending) (w' : World) : Prop :=
  ∃ A c, e = .returned (.slice A n c) ∧ w'.ownsRow w.heap.size 86 128 (.slice A n c) n (nums .u8 F) ∧ Below w.heap.size w w'
theorem cells_one {n : Nat} : ∀ v ∈ nums .u8 (List.replicate n 0), v.oneCell' = true := by intro v hv; simp [nums] at hv; rw [hv.2]; rfl
theorem bel_lit {w w' : World} {t : TypeId} (hg : (w.alloc (.cells #[] t)).grownBy w' (some w.heap.size)) : Below w.heap.size w w' :=
  (bel_alloc (Below.refl _ _) _).grown hg (bel_alloc (Below.refl _ _) _).size (fun k hk => by cases hk; exact Nat.le_refl _)
theorem own_slice {w : World} {base size n : Nat} {e : TypeId} {v : Value} {xs : List Value} (h : w.ownsRow base e size v n xs) : ∃ A c, v = .slice A n c := by
  rcases h.2 with ⟨h1, h2⟩ | ⟨g, cap, cur, h1, _⟩
  · exact ⟨none, 0, by rw [h1, h2]⟩
  · exact ⟨_, cap, h1⟩
set_option maxHeartbeats 2000000 in
theorem clone_any {w : World} {B g b n c : Nat} {A : Option Addr} {F : List Int} {s : Int} (h : Is w B g b n F s) (hg : w.cell? ⟨g, 0, none⟩ = some (.slice A n c)) :
    Calls Try.prog 47 #[.slice A n c] w (Cloned w n F) := by
  have qn := fun (w : World) (a : Option Addr) (n c n' c' : Nat) => Lib.run_eql_slice_nil (P := Try.prog) w 78 86 a n c n' c' underF
  obtain ⟨A', c', cur, h1, h2, h3, h4, h5, h6, h7, h8⟩ := h
  have e := (cells2 h1).1
  rw [hg] at e
  injection e with e
  injection e with e1 _ e2
  subst e1 e2
  obtain ⟨i0, hi, hz0, hz1, hz2⟩ := info_parts infoF
  cases A with
  | none =>
    have hn := h5 rfl
    subst hn
    have hF : F = [] := List.eq_nil_of_length_eq_zero (by omega)
    subst hF
    clear h1 h5 h8 h6 h7 hg
    go_enter Try.func47, Try.ntmps47
    go_wp2
    go_ret
    exact ⟨none, 0, rfl, ⟨by simp [nums], .inl ⟨rfl, rfl⟩⟩, Below.refl _ _⟩
  | some ad =>
    have hsrc : ∀ j u, (nums .u8 F)[j]? = some u → w.cell? (ad.add j) = some u := by
      intro j u hj
      have hjl : j < n * 128 := by
        rcases Nat.lt_or_ge j (nums .u8 F).length with hh | hh
        · simpa [nums, h4] using hh
        · rw [List.getElem?_eq_none hh] at hj; cases hj
      obtain ⟨ea, _, hc, ht, _⟩ := h8 (by omega)
      injection ea with ea
      subst ea
      rw [add_at, Nat.zero_add, blk_cell hc]
      rw [← ht, List.getElem?_take, if_pos hjl] at hj
      rw [← Array.getElem?_toList]; exact hj
    have hlen : (nums .u8 F).length = n * 128 := by simp [nums, h4]
    have hone : ∀ v ∈ nums .u8 F, v.oneCell' = true := by intro v hv; simp [nums] at hv; obtain ⟨x, _, rfl⟩ := hv; rfl
    have HS := Lib.hid (fun j u hj => Lib.cell?_alloc_some (.cells #[] 86) (hsrc j u hj))
    have HL := Lib.hid hlen
    have H1 := Lib.hid hone
    have hm : 0 + n ≤ maxLen := by unfold maxLen; omega
    have hm2 : (0 + n) * 128 ≤ 140737488355328 := by omega
    have hlit : (w.alloc (.cells #[] 86)).ownsRow w.heap.size 86 128 (.slice (some ⟨w.heap.size, 0, none⟩) 0 0) 0 [] := by
      have := World.ownsRow_lit (base := w.heap.size) (e := 86) (size := 128) w #[] 0 (Nat.le_refl _) (by simp) (by simp)
      simpa using this
    have HO := Lib.hid hlit
    clear h1 h5 h8 h6 h7 hg hsrc hlen hone hlit
    go_enter Try.func47, Try.ntmps47
    go_wp2_with (first
      | (at_builtin; refine wpList_append_own _ rfl (.tmp 5) (.tmp 6) 78 rfl w.heap.size 86 i0 _ 128 128 underF hi hz0 hz1 hz2 rfl (by decide) _ 0 [] rfl HO.out ad n c (nums .u8 F) rfl HL.out HS.out H1.out hm hm2 (bel_alloc (Below.refl _ _) _).size ?_; intro v' w' ho hg' _; have hb' := bel_lit hg'; obtain ⟨A2, c2, rfl⟩ := own_slice ho; rw [Nat.zero_add] at ho; clear hg')
      | fail)
    go_ret
    exact ⟨A2, c2, rfl, ho, hb'⟩
theorem copy_nil (w : World) : Calls Try.prog 34 #[.pointer none] w fun e w' => e = .returned (.pointer none) ∧ w = w' := by
  go_enter Try.func34, Try.ntmps34
  go_wp2
  go_ret
  exact ⟨rfl, rfl⟩
theorem bel_of_drew1 {B : Nat} {w w1 : World} (h : Below B w.drew w1) : Below B w w1 := ⟨h.os, h.tape, h.output, h.size, h.block⟩
/-- A copy. -/
def Copied (w : World) (B g b n : Nat) (F : List Int) (s : Int) (e : Ending) (w' : World) : Prop :=
  ∃ g' b', e = .returned (.pointer (some ⟨g', 0, none⟩)) ∧ Is w' w.heap.size g' b' n F s ∧ Is w' B g b n F s ∧ Below w.heap.size w w'
set_option maxRecDepth 100000 in
set_option maxHeartbeats 4000000 in
theorem copy_any {w : World} {B g b n : Nat} {F : List Int} {s : Int} (h : Is w B g b n F s) : Calls Try.prog 34 #[.pointer (some ⟨g, 0, none⟩)] w (Copied w B g b n F s) := by
  have H := Lib.hid h
  have hlen := h.len
  obtain ⟨A, c, cur, h1, _⟩ := h
  have HG := Lib.hid h1
  clear h1
  go_enter Try.func34, Try.ntmps34
  go_wp2_with fail
  have Hd : Is w.drew B g b n F s := H.out
  obtain ⟨x0, x1⟩ := cells2 (w := w.drew) HG.out
  refine wp_region_noPanic ?_
  refine RegH.startH_ (n := 12) (S := fun w' => (w'.cell? ⟨g, 0, none⟩ = some (.slice A n c)) ∧ (w'.cell? ⟨g, 1, none⟩ = some (.int .i64 s))) #[false, false, false, false, false, false, false, false, false, false, false, false] (by kernel_rfl) rfl rfl ⟨x0, x1⟩ (fun hHeld0 => ?_)
  refine RegH.takeH_ (i := 0) (N := (some 5)) (v := ?_) (a' := ?_) #[true, false, false, false, false, false, false, false, false, false, false, false] rfl rfl (by kernel_rfl) (by kernel_rfl) (by kernel_rfl) rfl (fun _ _ _ h => h) (Or.inl ⟨by rfl, ?_⟩) hHeld0 ?_ ?_
  rotate_left
  · rintro w' ⟨s0, s1⟩
    go_simp
    with_reducible rfl
  rotate_left
  · simp only [Act.put, List.setIfInBounds_toArray, List.set_cons_zero, List.set_cons_succ]
    rfl
  refine RegH.takeH_ (i := 1) (N := (some 6)) (v := ?_) (a' := ?_) #[true, true, false, false, false, false, false, false, false, false, false, false] rfl rfl (by kernel_rfl) (by kernel_rfl) (by kernel_rfl) rfl (fun _ _ _ h => h) (Or.inl ⟨by rfl, ?_⟩) hHeld0 ?_ ?_
  rotate_left
  · rintro w' ⟨s0, s1⟩
    go_simp
    with_reducible rfl
  rotate_left
  · simp only [Act.put, List.setIfInBounds_toArray, List.set_cons_zero, List.set_cons_succ]
    rfl
  refine RegH.takeH_ (i := 2) (N := (some 7)) (v := ?_) (a' := ?_) #[true, true, true, false, false, false, false, false, false, false, false, false] rfl rfl (by kernel_rfl) (by kernel_rfl) (by kernel_rfl) rfl (fun _ _ _ h => h) (Or.inl ⟨by rfl, ?_⟩) hHeld0 ?_ ?_
  rotate_left
  · rintro w' ⟨s0, s1⟩
    go_simp
    with_reducible rfl
  rotate_left
  · simp only [Act.put, List.setIfInBounds_toArray, List.set_cons_zero, List.set_cons_succ]
    rfl
  refine RegH.takeH_ (i := 3) (N := (some 8)) (v := ?_) (a' := ?_) #[true, true, true, true, false, false, false, false, false, false, false, false] rfl rfl (by kernel_rfl) (by kernel_rfl) (by kernel_rfl) rfl (fun _ _ _ h => h) (Or.inl ⟨by rfl, ?_⟩) hHeld0 ?_ ?_
  rotate_left
  · rintro w' ⟨s0, s1⟩
    go_simp
    with_reducible rfl
  rotate_left
  · simp only [Act.put, List.setIfInBounds_toArray, List.set_cons_zero, List.set_cons_succ]
    rfl
  refine RegH.takeH_ (i := 5) (N := (some 10)) (v := ?_) (a' := ?_) #[true, true, true, true, false, true, false, false, false, false, false, false] rfl rfl (by kernel_rfl) (by kernel_rfl) (by kernel_rfl) rfl (fun _ _ _ h => h) (Or.inl ⟨by rfl, ?_⟩) hHeld0 ?_ ?_
  rotate_left
  · rintro w' ⟨s0, s1⟩
    go_simp
    with_reducible rfl
  rotate_left
  · simp only [Act.put, List.setIfInBounds_toArray, List.set_cons_zero, List.set_cons_succ]
    rfl
  refine RegH.takeH_ (i := 6) (N := (some 11)) (v := ?_) (a' := ?_) #[true, true, true, true, false, true, true, false, false, false, false, false] rfl rfl (by kernel_rfl) (by kernel_rfl) (by kernel_rfl) rfl (fun _ _ _ h => h) (Or.inl ⟨by rfl, ?_⟩) hHeld0 ?_ ?_
  rotate_left
  · rintro w' ⟨s0, s1⟩
    go_simp
    with_reducible rfl
  rotate_left
  · simp only [Act.put, List.setIfInBounds_toArray, List.set_cons_zero, List.set_cons_succ]
    rfl
  refine RegH.takeH_ (i := 7) (N := (some 12)) (v := ?_) (a' := ?_) #[true, true, true, true, false, true, true, true, false, false, false, false] rfl rfl (by kernel_rfl) (by kernel_rfl) (by kernel_rfl) rfl (fun _ _ _ h => h) (Or.inl ⟨by rfl, ?_⟩) hHeld0 ?_ ?_
  rotate_left
  · rintro w' ⟨s0, s1⟩
    go_simp
    with_reducible rfl
  rotate_left
  · simp only [Act.put, List.setIfInBounds_toArray, List.set_cons_zero, List.set_cons_succ]
    rfl
  refine RegH.takeH_ (i := 8) (N := (some 13)) (v := ?_) (a' := ?_) #[true, true, true, true, false, true, true, true, true, false, false, false] rfl rfl (by kernel_rfl) (by kernel_rfl) (by kernel_rfl) rfl (fun _ _ _ h => h) (Or.inl ⟨by rfl, ?_⟩) hHeld0 ?_ ?_
  rotate_left
  · rintro w' ⟨s0, s1⟩
    go_simp
    with_reducible rfl
  rotate_left
  · simp only [Act.put, List.setIfInBounds_toArray, List.set_cons_zero, List.set_cons_succ]
    rfl
  refine RegH.oneH_ (i := 4) (N := (some 9)) #[true, true, true, true, true, true, true, true, true, false, false, false] rfl rfl (by kernel_rfl) rfl (fun K hK => ?_)
  refine Go.Proofs.YtbcdkhgfjdbjoaaW.PrintLast.goes_ Try.func47 (by kernel_rfl) rfl #[.slice A n c] (by rfl) rfl rfl (by (try simp only [List.map_toArray, List.map_cons, List.map_nil]); first | done | rfl) ?_
  refine (clone_any Hd x0).mono ?_
  rintro e w1 ⟨A', c', rfl, ho1, hb1⟩
  refine ⟨_, rfl, ?_⟩
  have y0 := cell_below x0 hb1
  have y1 := cell_below x1 hb1
  obtain ⟨b', his, hbb⟩ := is_of (s := s) ho1 hlen.1 hlen.2 hb1.size
  refine hK.out _ _ ⟨y0, y1⟩ (fun hHeld1 => ?_)
  clear hK K hHeld0
  simp only [Act.put, List.setIfInBounds_toArray, List.set_cons_zero, List.set_cons_succ]
  refine RegH.takeH_ (i := 9) (N := (some 14)) (v := ?_) (a' := ?_) #[true, true, true, true, true, true, true, true, true, true, false, false] rfl rfl (by kernel_rfl) (by kernel_rfl) (by kernel_rfl) rfl (fun _ _ _ h => h) (Or.inl ⟨by rfl, ?_⟩) hHeld1 ?_ ?_
  rotate_left
  · rintro w' ⟨s0, s1⟩
    go_simp
    with_reducible rfl
  rotate_left
  · simp only [Act.put, List.setIfInBounds_toArray, List.set_cons_zero, List.set_cons_succ]
    rfl
  refine RegH.oneH_ (i := 10) (N := (some 15)) #[true, true, true, true, true, true, true, true, true, true, true, false] rfl rfl (by kernel_rfl) rfl (fun K hK => ?_)
  refine Go.Proofs.YtbcdkhgfjdbjoaaW.PrintLast.value_ (v := .pointer (some ⟨w1.heap.size, 0, none⟩)) (w1 := w1.alloc (.cells #[.slice A' n c', .int .i64 s] 80)) (by rfl) rfl (by go_simp) ?_
  refine hK.out _ _ ⟨cell_below y0 (bel_alloc (Below.refl _ _) _), cell_below y1 (bel_alloc (Below.refl _ _) _)⟩ (fun hHeld2 => ?_)
  clear hK K hHeld1
  simp only [Act.put, List.setIfInBounds_toArray, List.set_cons_zero, List.set_cons_succ]
  refine RegH.takeH_ (i := 11) (N := (some 2)) (v := ?_) (a' := ?_) #[true, true, true, true, true, true, true, true, true, true, true, true] rfl rfl (by kernel_rfl) (by kernel_rfl) (by kernel_rfl) rfl (fun _ _ _ h => h) (Or.inl ⟨by rfl, ?_⟩) hHeld2 ?_ ?_
  rotate_left
  · rintro w' ⟨s0, s1⟩
    go_simp
    with_reducible rfl
  rotate_left
  · simp only [Act.put, List.setIfInBounds_toArray, List.set_cons_zero, List.set_cons_succ]
    rfl
  refine RegH.doneH_ (by kernel_rfl) ?_
  refine NoPanic.normal ?_
  go_wp2
  go_ret
  exact ⟨_, b', rfl, his, (Hd.below hb1).below (bel_alloc (Below.refl _ _) _), bel_alloc (bel_of_drew1 hb1) _⟩
end Go.Proofs.Ytbcdkhgfjdbjoaa.Ram
