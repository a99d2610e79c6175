/- Contracts of the reference's lines: has, Raise, Tick, Enable. -/
import Derived.Test.YtmhglfidggjfdaaLineT
namespace Go.Proofs.Ytmhglfidggjfdaa.Line
open Go.RowKit Go.Proofs.Ytmhglfidggjfdaa.Mem Go.Proofs.Ytmhglfidggjfdaa.Kept
set_option linter.unusedVariables false
set_option linter.unusedSimpArgs false

theorem set_same {α : Type} {l : List α} {i : Nat} {x : α} (h : l[i]? = some x) : l.set i x = l := by
  obtain ⟨h1, rfl⟩ := List.getElem?_eq_some_iff.1 h
  exact List.set_getElem_self h1
/-- Blocks of bools or of bytes that were made since. -/
def RSet (w : World) (B : Nat) (k : Nat) : Prop := B ≤ k ∧ ∃ cs t, w.heap[k]? = some (.cells cs t (0, 0)) ∧ (t = 4 ∨ t = 5)
theorem RSet.no {w : World} {B k : Nat} {cs : Array Value} {t : TypeId} (h : w.heap[k]? = some (.cells cs t (0, 0))) (h4 : t ≠ 4) (h5 : t ≠ 5) : ¬ RSet w B k := by
  rintro ⟨_, cs', t', h1, h2⟩
  rw [h] at h1
  injection h1 with h1
  injection h1 with _ h1
  subst h1
  rcases h2 with h2 | h2
  · exact h4 h2
  · exact h5 h2
/-- What one processor's parts are, and where. -/
structure RAt (w : World) (B g i : Nat) (n : Nat) (c : C) (b0 b1 b2 r c0 c1 c2 : Nat) : Prop where
  h0 : w.cell? ⟨g, 0, none⟩ = some (.slice (some ⟨b0, 0, none⟩) n c0)
  h1 : w.cell? ⟨g, 1, none⟩ = some (.slice (some ⟨b1, 0, none⟩) n c1)
  h2 : w.cell? ⟨g, 2, none⟩ = some (.slice (some ⟨b2, 0, none⟩) n c2)
  x0 : w.cell? ⟨b0, i, none⟩ = some (.slice (some ⟨r, 0, none⟩) 4 4)
  x1 : w.cell? ⟨b1, i, none⟩ = some (.bool c.t)
  x2 : w.cell? ⟨b2, i, none⟩ = some (.int .u8 c.o)
  xr : ∀ n, n < 4 → w.cell? ⟨r, n, none⟩ = some (.bool (bit c.r n))
  f1 : w.frozen? ⟨b1, i, none⟩ = false
  f2 : w.frozen? ⟨b2, i, none⟩ = false
  fr : ∀ n, w.frozen? ⟨r, n, none⟩ = false
  s1 : RSet w B b1
  s2 : RSet w B b2
  sr : RSet w B r
theorem own_at {w : World} {B n c : Nat} {t : TypeId} {A : Option Addr} {xs : List Value} (ho : w.ownsRow B t 1 (.slice A n c) n xs) (hn : 0 < n) : ∃ b cs, A = some ⟨b, 0, none⟩ ∧ B ≤ b ∧ w.heap[b]? = some (.cells cs t (0, 0)) ∧ ∀ i v, xs[i]? = some v → w.cell? ⟨b, i, none⟩ = some v := by
  rcases ho.2 with ⟨h, h0⟩ | ⟨b, cap, cur, he, hb, hg, h1, h2, h3, h4⟩
  · omega
  · injection he with he
    subst he
    refine ⟨b, cur, rfl, hb, hg, fun i v hi => ?_⟩
    have := ho.cells (g := b) rfl i v hi
    rwa [add_at, Nat.zero_add] at this
theorem RIs.at_ {w : World} {B g : Nat} {rs : List Nat} {s : List C} (h : RIs w B g rs s) {i : Nat} {c : C} (hc : s[i]? = some c) : ∃ b0 b1 b2 r c0 c1 c2, rs[i]? = some r ∧ RAt w B g i s.length c b0 b1 b2 r c0 c1 c2 := by
  have hi : i < s.length := (List.getElem?_eq_some_iff.1 hc).1
  obtain ⟨A0, c0, A1, c1, A2, c2, hg, o0, o1, o2, hne⟩ := h.ex
  obtain ⟨b0, cs0, rfl, g0, k0, e0⟩ := own_at o0 (by omega)
  obtain ⟨b1, cs1, rfl, g1, k1, e1⟩ := own_at o1 (by omega)
  obtain ⟨b2, cs2, rfl, g2, k2, e2⟩ := own_at o2 (by omega)
  have hr : rs[i]? = some (rs[i]'(by rw [h.rl]; exact hi)) := List.getElem?_eq_getElem _
  obtain ⟨hrow, hge⟩ := h.rows i _ c hr hc
  obtain ⟨y0, y1, y2⟩ := cells3 hg
  refine ⟨b0, b1, b2, _, c0, c1, c2, hr, y0, y1, y2, e0 i _ (by rw [List.getElem?_map, hr]; rfl), e1 i _ (by rw [List.getElem?_map, hc]; rfl), e2 i _ (by rw [List.getElem?_map, hc]; rfl), fun n hn => ?_, blk_free k1 _, blk_free k2 _, fun n => blk_free hrow _, ⟨g1, cs1, 4, k1, .inl rfl⟩, ⟨g2, cs2, 5, k2, .inr rfl⟩, ⟨hge, _, 4, hrow, .inl rfl⟩⟩
  rw [blk_cell hrow]
  have : n = 0 ∨ n = 1 ∨ n = 2 ∨ n = 3 := by omega
  rcases this with rfl | rfl | rfl | rfl <;> rfl
theorem RIs.kept {w w' : World} {S : Nat → Prop} {B g : Nat} {rs : List Nat} {s : List C} (h : RIs w B g rs s) (hk : Kept w w' S) (hS : ∀ k cs t, w.heap[k]? = some (.cells cs t (0, 0)) → t ≠ 65 → ¬ S k) : RIs w' B g rs s := by
  obtain ⟨A0, c0, A1, c1, A2, c2, hg, o0, o1, o2, hne⟩ := h.ex
  have ho : ∀ {t v n xs}, w.ownsRow B t 1 v n xs → t ≠ 65 → w'.ownsRow B t 1 v n xs := fun ho ht => own_kept hk ho (fun k hk' => by
    obtain ⟨_, _, cs, h1⟩ := own_blk ho hk'
    exact hS k cs _ h1 ht)
  exact ⟨⟨A0, c0, A1, c1, A2, c2, hk.blk hg (hS _ _ _ hg (by decide)), ho o0 (by decide), ho o1 (by decide), ho o2 (by decide), hne⟩, h.rl, h.nd, fun i r c hi hc => ⟨hk.blk (h.rows i r c hi hc).1 (hS _ _ _ (h.rows i r c hi hc).1 (by decide)), (h.rows i r c hi hc).2⟩, h.ge⟩
/-- The lines' own call leaves the reference as it was. -/
theorem RIs.other {w w' : World} {B B' g g' b' : Nat} {rs : List Nat} {s s' : List C} (h : RIs w B g rs s) (hi : Is w B' g' b' s') (hk : Kept w w' (fun k => k = b')) : RIs w' B g rs s := by
  refine h.kept hk (fun k cs t h1 ht e => ?_)
  subst e
  rw [hi.bk] at h1
  injection h1 with h1
  injection h1 with _ h1
  exact ht h1.symm
theorem RIs.below {w w' : World} {B g : Nat} {rs : List Nat} {s : List C} (h : RIs w B g rs s) (hb : Below w.heap.size w w') : RIs w' B g rs s :=
  h.kept (S := fun _ => False) (kept_below hb) (fun _ _ _ _ _ h => h)
theorem RIs.drewN {w : World} {B g : Nat} {rs : List Nat} {s : List C} (h : RIs w B g rs s) (n : Nat) : RIs (w.drewN n) B g rs s := ⟨h.ex, h.rl, h.nd, h.rows, h.ge⟩
/-- The reference's call leaves the lines as they were. -/
theorem Is.other {w w' : World} {B B' g b : Nat} {s : List C} (h : Is w B g b s) (hk : Kept w w' (RSet w B')) : Is w' B g b s :=
  h.kept hk (RSet.no h.hd (by decide) (by decide)) (RSet.no h.bk (by decide) (by decide))
/-- One processor's tick is set so. -/
theorem RIs.setT {w : World} {B g : Nat} {rs : List Nat} {s : List C} (h : RIs w B g rs s) {i n : Nat} {c : C} {b0 b1 b2 r c0 c1 c2 : Nat} (hc : s[i]? = some c) (ha : RAt w B g i n c b0 b1 b2 r c0 c1 c2) (x : Bool) : RIs (w.setCell ⟨b1, i, none⟩ (.bool x)) B g rs (s.set i ⟨c.r, c.o, x⟩) := by
  have hi : i < s.length := (List.getElem?_eq_some_iff.1 hc).1
  obtain ⟨A0, d0, A1, d1, A2, d2, hg, o0, o1, o2, hne⟩ := h.ex
  obtain ⟨p1, cs1, rfl, _, k1, _⟩ := own_at o1 (by omega)
  have e1 : p1 = b1 := by
    have h1 := ha.h1
    rw [(cells3 hg).2.1] at h1
    injection h1 with h1
    injection h1 with h1
    injection h1 with h1
    injection h1
  subst e1
  have hst := (o1.stored i (.bool x)).1
  refine ⟨⟨A0, d0, some ⟨p1, 0, none⟩, d1, A2, d2, ?_, ?_, ?_, ?_, fun r hr => by rw [List.length_set]; exact hne r hr⟩, by rw [List.length_set]; exact h.rl, h.nd, fun j r' c' hj hc' => ?_, h.ge⟩
  · rw [List.length_set]
    exact blk_far hg (fun e => by rw [e, k1] at hg; injection hg with hg; injection hg with _ hg; exact absurd hg (by decide)) _
  · rw [List.length_set]
    exact ownsRow_setCell_other (a := ⟨p1, i, none⟩) o0 (own_apart o1 o0 (by decide) (k := p1) rfl) _
  · rw [List.length_set, show (s.set i ⟨c.r, c.o, x⟩).map tV = (s.map tV).set i (.bool x) by rw [List.map_set]; rfl]
    exact hst
  · rw [List.length_set, show (s.set i ⟨c.r, c.o, x⟩).map oV = s.map oV by
      rw [List.map_set]
      exact set_same (by rw [List.getElem?_map, hc]; rfl)]
    exact ownsRow_setCell_other (a := ⟨p1, i, none⟩) o2 (own_apart o1 o2 (by decide) (k := p1) rfl) _
  · have hc2 : ∃ c2, s[j]? = some c2 ∧ c2.r = c'.r := by
      by_cases hij : i = j
      · subst hij
        rw [List.getElem?_set_self hi] at hc'
        injection hc' with hc'
        subst hc'
        exact ⟨c, hc, rfl⟩
      · rw [List.getElem?_set_ne hij] at hc'
        exact ⟨c', hc', rfl⟩
    obtain ⟨c2, h1, h2⟩ := hc2
    obtain ⟨h3, h4⟩ := h.rows j r' c2 hj h1
    rw [h2] at h3
    exact ⟨blk_far h3 (fun e => hne r' (List.mem_of_getElem? hj) (by rw [e]; rfl)) _, h4⟩
/-- One processor's mask is set so. -/
theorem RIs.setO {w : World} {B g : Nat} {rs : List Nat} {s : List C} (h : RIs w B g rs s) {i n : Nat} {c : C} {b0 b1 b2 r c0 c1 c2 : Nat} (hc : s[i]? = some c) (ha : RAt w B g i n c b0 b1 b2 r c0 c1 c2) (x : Nat) : RIs (w.setCell ⟨b2, i, none⟩ (.int .u8 x)) B g rs (s.set i ⟨c.r, x, c.t⟩) := by
  have hi : i < s.length := (List.getElem?_eq_some_iff.1 hc).1
  obtain ⟨A0, d0, A1, d1, A2, d2, hg, o0, o1, o2, hne⟩ := h.ex
  obtain ⟨p2, cs2, rfl, _, k2, _⟩ := own_at o2 (by omega)
  have e2 : p2 = b2 := by
    have h1 := ha.h2
    rw [(cells3 hg).2.2] at h1
    injection h1 with h1
    injection h1 with h1
    injection h1 with h1
    injection h1
  subst e2
  have hst := (o2.stored i (.int .u8 x)).1
  refine ⟨⟨A0, d0, A1, d1, some ⟨p2, 0, none⟩, d2, ?_, ?_, ?_, ?_, fun r hr => by rw [List.length_set]; exact hne r hr⟩, by rw [List.length_set]; exact h.rl, h.nd, fun j r' c' hj hc' => ?_, h.ge⟩
  · rw [List.length_set]
    exact blk_far hg (fun e => by rw [e, k2] at hg; injection hg with hg; injection hg with _ hg; exact absurd hg (by decide)) _
  · rw [List.length_set]
    exact ownsRow_setCell_other (a := ⟨p2, i, none⟩) o0 (own_apart o2 o0 (by decide) (k := p2) rfl) _
  · rw [List.length_set, show (s.set i ⟨c.r, x, c.t⟩).map tV = s.map tV by
      rw [List.map_set]
      exact set_same (by rw [List.getElem?_map, hc]; rfl)]
    exact ownsRow_setCell_other (a := ⟨p2, i, none⟩) o1 (own_apart o2 o1 (by decide) (k := p2) rfl) _
  · rw [List.length_set, show (s.set i ⟨c.r, x, c.t⟩).map oV = (s.map oV).set i (.int .u8 x) by rw [List.map_set]; rfl]
    exact hst
  · have hc2 : ∃ c2, s[j]? = some c2 ∧ c2.r = c'.r := by
      by_cases hij : i = j
      · subst hij
        rw [List.getElem?_set_self hi] at hc'
        injection hc' with hc'
        subst hc'
        exact ⟨c, hc, rfl⟩
      · rw [List.getElem?_set_ne hij] at hc'
        exact ⟨c', hc', rfl⟩
    obtain ⟨c2, h1, h2⟩ := hc2
    obtain ⟨h3, h4⟩ := h.rows j r' c2 hj h1
    rw [h2] at h3
    exact ⟨blk_far h3 (fun e => by rw [e, k2] at h3; injection h3 with h3; injection h3 with _ h3; exact absurd h3 (by decide)) _, h4⟩
/-- One processor's line is set so. -/
theorem RIs.setR {w : World} {B g : Nat} {rs : List Nat} {s : List C} (h : RIs w B g rs s) {i m r : Nat} {c : C} (hc : s[i]? = some c) (hr : rs[i]? = some r) (x : Bool) (r' : Nat) (hset : (rowB c.r).setIfInBounds m (.bool x) = rowB r') : RIs (w.setCell ⟨r, m, none⟩ (.bool x)) B g rs (s.set i ⟨r', c.o, c.t⟩) := by
  have hi : i < s.length := (List.getElem?_eq_some_iff.1 hc).1
  obtain ⟨A0, d0, A1, d1, A2, d2, hg, o0, o1, o2, hne⟩ := h.ex
  obtain ⟨k, hge⟩ := h.rows i r c hr hc
  have hmem := List.mem_of_getElem? hr
  have apart : ∀ {t v n xs}, w.ownsRow B t 1 v n xs → t ≠ 4 → v.ownBlock ≠ some r := fun ho ht e => by
    obtain ⟨_, _, cs, h1⟩ := own_blk ho e
    rw [k] at h1; injection h1 with h1; injection h1 with _ h1; exact ht h1.symm
  refine ⟨⟨A0, d0, A1, d1, A2, d2, ?_, ?_, ?_, ?_, fun r hr => by rw [List.length_set]; exact hne r hr⟩, by rw [List.length_set]; exact h.rl, h.nd, fun j q c' hj hc' => ?_, h.ge⟩
  · rw [List.length_set]
    exact blk_far hg (fun e => by rw [e, k] at hg; injection hg with hg; injection hg with _ hg; exact absurd hg (by decide)) _
  · rw [List.length_set]
    exact ownsRow_setCell_other o0 (apart o0 (by decide)) _
  · rw [List.length_set, show (s.set i ⟨r', c.o, c.t⟩).map tV = s.map tV by
      rw [List.map_set]
      exact set_same (by rw [List.getElem?_map, hc]; rfl)]
    exact ownsRow_setCell_other o1 (hne r hmem) _
  · rw [List.length_set, show (s.set i ⟨r', c.o, c.t⟩).map oV = s.map oV by
      rw [List.map_set]
      exact set_same (by rw [List.getElem?_map, hc]; rfl)]
    exact ownsRow_setCell_other o2 (apart o2 (by decide)) _
  · by_cases hij : i = j
    · subst hij
      rw [List.getElem?_set_self hi] at hc'
      injection hc' with hc'
      subst hc'
      rw [hr] at hj
      injection hj with hj
      subst hj
      refine ⟨?_, hge⟩
      have := blk_set k m (.bool x)
      rw [this, hset]
    · rw [List.getElem?_set_ne hij] at hc'
      obtain ⟨h3, h4⟩ := h.rows j q c' hj hc'
      refine ⟨blk_far h3 (fun e => ?_) _, h4⟩
      have e2 : q = r := e
      subst e2
      have hj1 := List.getElem?_eq_some_iff.1 hj
      have hi1 := List.getElem?_eq_some_iff.1 hr
      obtain ⟨a1, a2⟩ := hj1
      obtain ⟨a3, a4⟩ := hi1
      have hpw := List.pairwise_iff_getElem.1 h.nd
      rcases Nat.lt_or_gt_of_ne hij with hlt | hlt
      · exact hpw i j a3 a1 hlt (a4.trans a2.symm)
      · exact hpw j i a1 a3 hlt (a2.trans a4.symm)
theorem kept_rset {w : World} {B k : Nat} (h : RSet w B k) (j : Nat) (v : Value) : Kept w (w.setCell ⟨k, j, none⟩ v) (RSet w B) := kept_set (kept_refl _ _) h _ _
theorem bit_row : ∀ r : Nat, r < 16 → ∀ m : Nat, m < 4 → (∀ j : Nat, j < 4 → bit (r ||| 1 <<< m) j = if j = m then true else bit r j) := by decide +kernel
theorem row_set (r r' m : Nat) (x : Bool) (hm : m < 4) (h : ∀ j : Nat, j < 4 → bit r' j = if j = m then x else bit r j) : (rowB r).setIfInBounds m (.bool x) = rowB r' := by
  have h0 := h 0 (by omega)
  have h1 := h 1 (by omega)
  have h2 := h 2 (by omega)
  have h3 := h 3 (by omega)
  have : m = 0 ∨ m = 1 ∨ m = 2 ∨ m = 3 := by omega
  rcases this with rfl | rfl | rfl | rfl <;> simp_all [rowB]
theorem has_any {w : World} {B g : Nat} {rs : List Nat} {s : List C} (h : RIs w B g rs s) (hw : Wf s) (i : Int) : Calls Try.prog 36 #[.pointer (some ⟨g, 0, none⟩), .int .i64 i] w fun e w' => e = .returned (.bool (look s i).isSome) ∧ w = w' := by
  obtain ⟨A0, c0, A1, c1, A2, c2, hg, _⟩ := h.ex
  obtain ⟨x0, x1, x2⟩ := cells3 hg
  have hl := hw.1
  have e : (look s i).isSome = (decide (0 ≤ i) && decide (i < (s.length : Int))) := by
    cases hc : look s i with
    | none =>
      rcases look_none hc with h1 | h1
      · rw [decide_eq_false (show ¬ 0 ≤ i by omega)]; rfl
      · rw [decide_eq_false (show ¬ i < (s.length : Int) by omega)]; simp
    | some c =>
      obtain ⟨k, rfl, _, h2⟩ := look_some hc
      rw [decide_eq_true (show (0 : Int) ≤ (k : Int) by omega), decide_eq_true (show (k : Int) < (s.length : Int) by omega)]; rfl
  rw [e]
  clear e h hg hw
  generalize s.length = n at *
  by_cases h1 : 0 ≤ i
  · by_cases h2 : i < (n : Int)
    all_goals
      go_enter Try.func36, Try.ntmps36
      go_wp2
      go_ret
      exact ⟨by simp [h1, h2], rfl⟩
  · go_enter Try.func36, Try.ntmps36
    go_wp2
    go_ret
    exact ⟨by first | (simp [h1]; done) | (simp [h1]; omega), rfl⟩
set_option maxHeartbeats 1000000 in
theorem rtick_any {w : World} {B g : Nat} {rs : List Nat} {s : List C} (h : RIs w B g rs s) (hw : Wf s) (i : Int) :
    Calls Try.prog 16 #[.pointer (some ⟨g, 0, none⟩), .int .i64 i] w fun e w' => e = .returned (.bool (tickF s i).1) ∧ RIs w' B g rs (tickF s i).2 ∧ Kept w w' (RSet w B) := by
  have hh := has_any h hw i
  cases hl : look s i with
  | none =>
    have e0 : tickF s i = (false, s) := by simp [tickF, hl]
    rw [e0]
    rw [hl] at hh
    clear hl e0
    go_enter Try.func16, Try.ntmps16
    go_wp2_with (first | (go_at_call 36; with_reducible refine hh.mono ?_; rintro e w1 ⟨rfl, rfl⟩))
    go_ret
    exact ⟨rfl, h, kept_refl _ _⟩
  | some c =>
    obtain ⟨k, rfl, hc, hk⟩ := look_some hl
    have e0 : tickF s k = (true, s.set k ⟨c.r, c.o, true⟩) := by simp [tickF, hl]
    rw [e0]
    rw [hl] at hh
    obtain ⟨b0, b1, b2, r, c0, c1, c2, hr, ha⟩ := h.at_ hc
    have y1 := ha.h1
    have y2 := ha.x1
    have y3 := ha.f1
    have hl3 := hw.1
    clear hl e0
    have q1 : (k : Int) < (s.length : Int) := by omega
    go_enter Try.func16, Try.ntmps16
    go_wp2_with (first | (go_at_call 36; with_reducible refine hh.mono ?_; rintro e w1 ⟨rfl, rfl⟩))
    go_ret
    exact ⟨rfl, h.setT hc ha true, kept_rset ha.s1 _ _⟩
set_option maxHeartbeats 1000000 in
theorem renable_any {w : World} {B g : Nat} {rs : List Nat} {s : List C} (h : RIs w B g rs s) (hw : Wf s) (i : Int) (m : Nat) :
    Calls Try.prog 18 #[.pointer (some ⟨g, 0, none⟩), .int .i64 i, .int .u8 (m : Int)] w fun e w' => e = .returned (.bool (enableF s i m).1) ∧ RIs w' B g rs (enableF s i m).2 ∧ Kept w w' (RSet w B) := by
  have hh := has_any h hw i
  cases hl : look s i with
  | none =>
    have e0 : enableF s i m = (false, s) := by simp [enableF, hl]
    rw [e0]
    rw [hl] at hh
    clear hl e0
    go_enter Try.func18, Try.ntmps18
    go_wp2_with (first | (go_at_call 36; with_reducible refine hh.mono ?_; rintro e w1 ⟨rfl, rfl⟩))
    go_ret
    exact ⟨rfl, h, kept_refl _ _⟩
  | some c =>
    obtain ⟨k, rfl, hc, hk⟩ := look_some hl
    have e0 : enableF s k m = (true, s.set k ⟨c.r, m, c.t⟩) := by simp [enableF, hl]
    rw [e0]
    rw [hl] at hh
    obtain ⟨b0, b1, b2, r, c0, c1, c2, hr, ha⟩ := h.at_ hc
    have y1 := ha.h2
    have y2 := ha.x2
    have y3 := ha.f2
    have hl3 := hw.1
    clear hl e0
    have q1 : (k : Int) < (s.length : Int) := by omega
    go_enter Try.func18, Try.ntmps18
    go_wp2_with (first | (go_at_call 36; with_reducible refine hh.mono ?_; rintro e w1 ⟨rfl, rfl⟩))
    go_ret
    exact ⟨rfl, h.setO hc ha m, kept_rset ha.s2 _ _⟩
set_option maxHeartbeats 1000000 in
theorem rraise_any {w : World} {B g : Nat} {rs : List Nat} {s : List C} (h : RIs w B g rs s) (hw : Wf s) (i n : Int) :
    Calls Try.prog 14 #[.pointer (some ⟨g, 0, none⟩), .int .i64 i, .int .i64 n] w fun e w' => e = .returned (.bool (raiseF s i n).1) ∧ RIs w' B g rs (raiseF s i n).2 ∧ Kept w w' (RSet w B) := by
  have hh := has_any h hw i
  cases hl : look s i with
  | none =>
    have e0 : raiseF s i n = (false, s) := by simp [raiseF, hl]
    rw [e0]
    rw [hl] at hh
    clear hl e0
    go_enter Try.func14, Try.ntmps14
    go_wp2_with (first | (go_at_call 36; with_reducible refine hh.mono ?_; rintro e w1 ⟨rfl, rfl⟩))
    go_ret
    exact ⟨rfl, h, kept_refl _ _⟩
  | some c =>
    obtain ⟨k, rfl, hc, hk⟩ := look_some hl
    by_cases hn : 0 ≤ n ∧ n < 4
    · have e0 : raiseF s k n = (true, s.set k ⟨c.r ||| 1 <<< n.toNat, c.o, c.t⟩) := by simp [raiseF, hl, hn]
      rw [e0]
      rw [hl] at hh
      obtain ⟨b0, b1, b2, r, c0, c1, c2, hr, ha⟩ := h.at_ hc
      obtain ⟨m, rfl⟩ : ∃ m : Nat, n = m := ⟨n.toNat, by omega⟩
      have hm : m < 4 := by omega
      have y1 := ha.h0
      have y2 := ha.x0
      have y3 := ha.xr m hm
      have y4 := ha.fr m
      have hl3 := hw.1
      have hset := row_set c.r _ m true hm (bit_row c.r (hw.get hc).1 m hm)
      clear hl e0 hn
      have q1 : (k : Int) < (s.length : Int) := by omega
      have q2 : (m : Int) < 4 := by omega
      go_enter Try.func14, Try.ntmps14
      go_wp2_with (first | (go_at_call 36; with_reducible refine hh.mono ?_; rintro e w1 ⟨rfl, rfl⟩))
      go_ret
      exact ⟨rfl, h.setR hc hr true _ hset, kept_rset ha.sr _ _⟩
    · have e0 : raiseF s k n = (false, s) := by simp only [raiseF, hl, if_neg hn]
      rw [e0]
      rw [hl] at hh
      have hn' : n < 0 ∨ 4 ≤ n := by omega
      clear hl e0 hn
      rcases hn' with h1 | h1
      all_goals
        go_enter Try.func14, Try.ntmps14
        go_wp2_with (first | (go_at_call 36; with_reducible refine hh.mono ?_; rintro e w1 ⟨rfl, rfl⟩))
        go_ret
        exact ⟨rfl, h, kept_refl _ _⟩
end Go.Proofs.Ytmhglfidggjfdaa.Line
