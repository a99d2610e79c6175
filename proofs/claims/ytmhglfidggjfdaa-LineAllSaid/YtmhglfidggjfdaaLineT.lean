/- The reference's lines: the state, NewLines, has. -/
import Derived.Test.YtmhglfidggjfdaaLineS
import Derived.Test.YtmhglfidggjfdaaLineP
namespace Go.Proofs.Ytmhglfidggjfdaa.Line
open Go.RowKit Go.Proofs.Ytmhglfidggjfdaa.Mem Go.Proofs.Ytmhglfidggjfdaa.Kept
open Go.Proofs.YtmhglfidggjfdaaW.PrintLast (opsOf)
set_option linter.unusedVariables false
set_option linter.unusedSimpArgs false

def rowv (r : Nat) : Value := .slice (some ⟨r, 0, none⟩) 4 4
def rowB (x : Nat) : Array Value := #[.bool (bit x 0), .bool (bit x 1), .bool (bit x 2), .bool (bit x 3)]
def tV (c : C) : Value := .bool c.t
def oV (c : C) : Value := .int .u8 c.o
/-- The reference's lines at block g, their rows at the blocks rs. -/
structure RIs (w : World) (B g : Nat) (rs : List Nat) (s : List C) : Prop where
  ex : ∃ A0 c0 A1 c1 A2 c2, w.heap[g]? = some (.cells #[.slice A0 s.length c0, .slice A1 s.length c1, .slice A2 s.length c2] 71 (0, 0)) ∧ w.ownsRow B 69 1 (.slice A0 s.length c0) s.length (rs.map rowv) ∧
    w.ownsRow B 4 1 (.slice A1 s.length c1) s.length (s.map tV) ∧ w.ownsRow B 5 1 (.slice A2 s.length c2) s.length (s.map oV) ∧ ∀ r ∈ rs, (Value.slice A1 s.length c1).ownBlock ≠ some r
  rl : rs.length = s.length
  nd : rs.Nodup
  rows : ∀ (i r : Nat) (c : C), rs[i]? = some r → s[i]? = some c → w.heap[r]? = some (.cells (rowB c.r) 4 (0, 0)) ∧ B ≤ r
  ge : B ≤ g
theorem wp_region_eq {P : Program} {id : Nat} {ops ops' : Array Oper} {b : Bool} {Q : Exit → Act → World → Prop} {a : Act} {w : World} (h : ops = ops') (hw : (Code.region id ops' b).wp P Q a w) : (Code.region id ops b).wp P Q a w := by
  subst h; exact hw
theorem own_form {w : World} {B n : Nat} {t : TypeId} {v : Value} {xs : List Value} (ho : w.ownsRow B t 1 v n xs) : ∃ A c, v = .slice A n c := by
  rcases ho.2 with ⟨h, h0⟩ | ⟨g, cap, cur, he, _⟩
  · subst h0; exact ⟨none, 0, h⟩
  · exact ⟨_, _, he⟩
def row0 (r : Nat) : Nat × Obj := (r, .cells #[.bool false, .bool false, .bool false, .bool false] 4 (0, 0))
/-- While it is made: k processors are there. -/
def RNew (W0 w : World) (g k : Nat) (rs : List Nat) (V0 V1 V2 : Value) : Prop :=
  rs.length = k ∧ rs.Nodup ∧ Pg W0 w V0 (rs.map rowv) V1 (List.replicate k (.bool false)) V2 (List.replicate k (.int .u8 255)) ((g, .cells #[V0, V1, V2] 71 (0, 0)) :: rs.map row0)
theorem RNew.row_ne {W0 w : World} {g k : Nat} {rs : List Nat} {V0 V1 V2 : Value} (h : RNew W0 w g k rs V0 V1 V2) : ∀ r ∈ rs, r ≠ g := by
  intro r hr e
  obtain ⟨_, _, hp⟩ := h
  have h1 := (hp.kk _ List.mem_cons_self).1
  have h2 := (hp.kk (row0 r) (List.mem_cons_of_mem _ (List.mem_map_of_mem hr))).1
  subst e
  rw [show (row0 r).1 = r from rfl, h1] at h2
  injection h2 with h2
  injection h2 with _ h2
  exact absurd h2 (by decide)
/-- Behind the region: one processor more. -/
theorem RNew.more {W0 w0 w : World} {g k r : Nat} {rs : List Nat} {V0 V1 V2 U0 U1 U2 : Value} (h : RNew W0 w0 g k rs V0 V1 V2)
    (hp : Pg W0 w U0 (rs.map rowv ++ [rowv r]) U1 (List.replicate k (.bool false) ++ [.bool false]) U2 (List.replicate k (.int .u8 255) ++ [.int .u8 255]) (row0 r :: (g, .cells #[V0, V1, V2] 71 (0, 0)) :: rs.map row0))
    (hr : ∀ p ∈ (g, Obj.cells #[V0, V1, V2] 71 (0, 0)) :: rs.map row0, p.1 ≠ r) :
    RNew W0 (((w.setCell ⟨g, 0, none⟩ U0).setCell ⟨g, 1, none⟩ U1).setCell ⟨g, 2, none⟩ U2) g (k + 1) (rs ++ [r]) U0 U1 U2 := by
  have hne := h.row_ne
  obtain ⟨hl, hnd, _⟩ := h
  have hgr : g ≠ r := hr _ List.mem_cons_self
  refine ⟨by simp [hl], ?_, ?_⟩
  · rw [List.nodup_append]
    refine ⟨hnd, by simp, fun a ha b hb e => ?_⟩
    simp only [List.mem_singleton] at hb
    subst hb e
    exact hr (row0 a) (List.mem_cons_of_mem _ (List.mem_map_of_mem ha)) rfl
  · rw [List.map_append, List.replicate_succ', List.replicate_succ']
    have hg := hp.kk (g, .cells #[V0, V1, V2] 71 (0, 0)) (List.mem_cons_of_mem _ List.mem_cons_self)
    have k1 : Kept w (((w.setCell ⟨g, 0, none⟩ U0).setCell ⟨g, 1, none⟩ U1).setCell ⟨g, 2, none⟩ U2) (fun j => j = g) :=
      kept_set (S := fun j => j = g) (kept_set (S := fun j => j = g) (kept_set (S := fun j => j = g) (kept_refl _ _) rfl _ _) rfl _ _) rfl _ _
    refine ⟨own_kept k1 hp.o0 (fun j hj e => hg.2.2.1 (by rw [hj, e])), own_kept k1 hp.o1 (fun j hj e => hg.2.2.2.1 (by rw [hj, e])), own_kept k1 hp.o2 (fun j hj e => hg.2.2.2.2 (by rw [hj, e])), fun p hpm => ?_, ?_⟩
    · rcases List.mem_cons.1 hpm with rfl | hpm
      · refine ⟨?_, hg.2⟩
        have h1 := blk_set (blk_set (blk_set hg.1 0 U0) 1 U1) 2 U2
        simpa using h1
      · have hp2 : p ∈ row0 r :: (g, Obj.cells #[V0, V1, V2] 71 (0, 0)) :: rs.map row0 := by
          rw [List.map_append, List.mem_append] at hpm
          rcases hpm with hpm | hpm
          · exact List.mem_cons_of_mem _ (List.mem_cons_of_mem _ hpm)
          · simp only [List.map_cons, List.map_nil, List.mem_singleton] at hpm
            subst hpm; exact List.mem_cons_self
        obtain ⟨h1, h2⟩ := hp.kk p hp2
        refine ⟨k1.blk h1 (fun e => ?_), h2⟩
        rw [List.map_append, List.mem_append] at hpm
        rcases hpm with hpm | hpm
        · obtain ⟨y, hy, rfl⟩ := List.mem_map.1 hpm
          exact hne y hy e
        · simp only [List.map_cons, List.map_nil, List.mem_singleton] at hpm
          subst hpm; exact hgr e.symm
    · exact k1.below hp.bl hp.bl.size (fun j e => by rw [e]; exact hg.2.1)
theorem mk_all (n : Nat) : mk n n = List.replicate n ⟨0, 255, false⟩ := by
  refine List.eq_replicate_iff.2 ⟨mk_len n n, fun c hc => ?_⟩
  simp only [mk, List.mem_map, List.mem_range] at hc
  obtain ⟨i, hi, rfl⟩ := hc
  rw [if_pos hi]
theorem new_end {W0 w : World} {g k : Nat} {rs : List Nat} {V0 V1 V2 : Value} {z : Int} (h : RNew W0 w g k rs V0 V1 V2) (hz : clip z = k) : RIs w W0.heap.size g rs (newS z) := by
  obtain ⟨hl, hnd, hp⟩ := h
  have hs : newS z = List.replicate k ⟨0, 255, false⟩ := by rw [newS, hz, mk_all]
  have hsl : (newS z).length = k := by rw [hs, List.length_replicate]
  have hg := hp.kk (g, .cells #[V0, V1, V2] 71 (0, 0)) List.mem_cons_self
  have o0 := hp.o0
  have o1 := hp.o1
  have o2 := hp.o2
  rw [List.length_map, hl] at o0
  rw [List.length_replicate] at o1 o2
  have f0 := own_form o0
  have f1 := own_form o1
  have f2 := own_form o2
  obtain ⟨A0, c0, rfl⟩ := f0
  obtain ⟨A1, c1, rfl⟩ := f1
  obtain ⟨A2, c2, rfl⟩ := f2
  refine ⟨⟨A0, c0, A1, c1, A2, c2, by rw [hsl]; exact hg.1, by rw [hsl]; exact o0, ?_, ?_, fun r hr => ?_⟩, by rw [hsl, hl], hnd, fun i r c hi hc => ?_, hg.2.1⟩
  · rw [hsl, hs, List.map_replicate]; exact o1
  · rw [hsl, hs, List.map_replicate]; exact o2
  · rw [hsl]
    exact (hp.kk (row0 r) (List.mem_cons_of_mem _ (List.mem_map_of_mem hr))).2.2.2.1
  · have hr := hp.kk (row0 r) (List.mem_cons_of_mem _ (List.mem_map_of_mem (List.mem_of_getElem? hi)))
    have : c = ⟨0, 255, false⟩ := by
      rw [hs] at hc
      exact List.eq_of_mem_replicate (List.mem_of_getElem? hc)
    subst this
    exact ⟨hr.1, hr.2.1⟩
def RNewP (z : Int) (w : World) (e : Ending) (w' : World) : Prop := ∃ g rs, e = .returned (.pointer (some ⟨g, 0, none⟩)) ∧ RIs w' w.heap.size g rs (newS z) ∧ Below w.heap.size w w'
set_option maxRecDepth 100000 in
set_option maxHeartbeats 8000000 in
theorem rnew_any (w : World) (z : Int) : Calls Try.prog 12 #[.int .i64 z] w (RNewP z w) := by
  have hcl := clip_le z
  obtain ⟨n, hn⟩ : ∃ n, clip z = n := ⟨_, rfl⟩
  have HN := Lib.hid hn
  rw [hn] at hcl
  have M0 : RNew w (w.alloc (.cells #[.slice none 0 0, .slice none 0 0, .slice none 0 0] 71)) w.heap.size 0 [] (.slice none 0 0) (.slice none 0 0) (.slice none 0 0) := by
    refine ⟨rfl, List.nodup_nil, ?_⟩
    have h0 : Pg w w (.slice none 0 0) [] (.slice none 0 0) [] (.slice none 0 0) [] [] := ⟨World.ownsRow_nil _ _ _ _, World.ownsRow_nil _ _ _ _, World.ownsRow_nil _ _ _ _, fun p hp => by simp at hp, Below.refl _ _⟩
    exact h0.alloc _
  have HM := Lib.hid M0
  clear M0 hn
  go_enter Try.func12, Try.ntmps12
  go_wp2
  go_loopw [4] (fun i wr => ∃ (k : Nat) (rs : List Nat) (V0 V1 V2 : Value), k ≤ n ∧ i = .int .i64 k ∧ RNew w wr w.heap.size k rs V0 V1 V2) (fun i _ => n - (intOf i).toNat)
  case atStart => exact ⟨0, [], _, _, _, by omega, rfl, HM.out⟩
  case round =>
    obtain ⟨k, rs, V0, V1, V2, hk, rfl, H⟩ := hrel
    have H1 := Lib.hid H
    clear H HM
    by_cases hkn : k < n
    · have q1 : (k : Int) < z := by
        have := HN.out
        unfold clip at this
        split at this
        · omega
        · split at this <;> omega
      have q2 : (k : Int) < 3 := by omega
      go_wp2
      refine wp_region_eq (ops' := opsOf Try.f12 5) (by kernel_rfl) ?_
      have hlen : (rs.map rowv).length = k := by rw [List.length_map]; exact H1.out.1
      refine region_new (g := w.heap.size) (W0 := w) (X0 := rs.map rowv) (X1 := List.replicate k (.bool false)) (X2 := List.replicate k (.int .u8 255)) List.mem_cons_self (by rw [hlen]; omega) (by rw [List.length_replicate]; omega) (by rw [List.length_replicate]; omega) H1.out.2.2 ?_
      intro W r g0 c0 g1 c1 g2 c2 y19 y20 y21 y23 y24 y26 y27 y28 y30 y32 y33 y34 y36 hp hr
      have H2 := H1.out.more hp hr
      have HH := Lib.hid H2
      clear H2 hp hr
      generalize (((W.setCell _ _).setCell _ _).setCell _ _) = W2 at *
      go_wp2
      go_roundw
      case rel => exact ⟨k + 1, _, _, _, _, by omega, by go_num, HH.out⟩
      case measure => simp [intOf]; omega
    · obtain rfl : k = n := by omega
      have hend := new_end H1.out HN.out
      have HE := Lib.hid hend
      clear hend
      by_cases q1 : (k : Int) < z
      · have q2 : ¬ (k : Int) < 3 := by
          have := HN.out
          unfold clip at this
          split at this
          · omega
          · split at this <;> omega
        go_wp2
        go_ret
        exact ⟨_, rs, rfl, HE.out, H1.out.2.2.bl⟩
      · go_wp2
        go_ret
        exact ⟨_, rs, rfl, HE.out, H1.out.2.2.bl⟩
end Go.Proofs.Ytmhglfidggjfdaa.Line
