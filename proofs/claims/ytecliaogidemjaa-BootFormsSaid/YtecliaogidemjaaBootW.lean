/- Which bills may be: the program's and the reference's check, walked. -/
import Derived.Test.YtecliaogidemjaaBootP
import Derived.Test.YtecliaogidemjaaSets
import Derived.BigQuiet
import Derived.Deep.QuietTactic
import Derived.IntWalk
namespace Go.Proofs.Ytecliaogidemjaa.Boot
open Go.RowKit Go.Proofs.Ytecliaogidemjaa.Mem Go.Proofs.Ytecliaogidemjaa.Kept Go.Proofs.Ytecliaogidemjaa.Sets Go.Proofs.Ytecliaogidemjaa.PBootAll
set_option linter.unusedVariables false
set_option linter.unusedSimpArgs false

def PartPost (w : World) (fb db n m : Nat) (u d : Int → Bool) (base cnt dev : Int) (ok : Bool) (e : Ending) (w' : World) : Prop :=
  e = .returned (.bool ok) ∧ Kept w w' (fun k => k = fb ∨ k = db) ∧ (ok = true → SetIs w' fb (n + 32) (addU u base cnt.toNat) ∧ SetIs w' db (m + 1) (addD d dev))

theorem wf_in {a : Int} (h : -9223372036854775808 ≤ a ∧ a ≤ 9223372036854775807) : (Lit.int .i64 a).wf = true := WalkArith.wf_i64 (by omega)
/-- Two boxes that the call made. -/
structure PS (w W : World) (v1 v2 : Array Value) (t1 t2 : TypeId) : Prop where
  bel : Below w.heap.size w W
  b1 : W.heap[w.heap.size]? = some (.cells v1 t1 (0, 0))
  b2 : W.heap[w.heap.size + 1]? = some (.cells v2 t2 (0, 0))
theorem ps_new (w : World) (v1 v2 : Array Value) (t1 t2 : TypeId) : PS w ((w.alloc (.cells v1 t1)).alloc (.cells v2 t2)) v1 v2 t1 t2 := by
  refine ⟨bel_alloc (bel_alloc (Below.refl _ _) _) _, blk_alloc (blk_new _ _) _, ?_⟩
  have := blk_new (w.alloc (.cells v1 t1)) (.cells v2 t2)
  have e : (w.alloc (Obj.cells v1 t1)).heap.size = w.heap.size + 1 := by show (w.heap.push _).size = _; simp
  rwa [e] at this
theorem PS.drewN {w W : World} {v1 v2 : Array Value} {t1 t2 : TypeId} (h : PS w W v1 v2 t1 t2) (n : Nat) : PS w (W.drewN n) v1 v2 t1 t2 := ⟨bel_drewN h.bel n, h.b1, h.b2⟩
theorem ret_b {a b : Bool} (h : a = b) : Ending.returned (.bool a) = .returned (.bool b) := by rw [h]
theorem ret_i {k : IntKind} {a b : Int} (h : a = b) : Ending.returned (.int k a) = .returned (.int k b) := by rw [h]

set_option maxRecDepth 100000 in
set_option maxHeartbeats 8000000 in
theorem part_bad (w : World) {fb db n m : Nat} {u d : Int → Bool} (F T S C : Int) (A : Option Addr) (ln cp : Nat) (hF : F ≤ 240) (hT : 0 ≤ T) (hS : 0 ≤ S) (hTS : T + S ≤ F)
    (s0 s1 s2 s3 s4 : Bool) (id base cnt dev : Int) (hdw : (Lit.int .i64 dev).wf = true) (hd : SetIs w db m d) (hX : okh F T S s0 base cnt dev d = false) :
    Calls Try.prog 36 #[.agg #[.int .i64 F, .int .i64 T, .int .i64 S, .int .i64 C, .slice A ln cp], .agg #[.bool s0, .bool s1, .bool s2, .bool s3, .bool s4, .int .u32 id, .int .i64 base, .int .i64 cnt, .int .i64 dev], .map (some fb), .map (some db)] w
      fun e w' => e = .returned (.bool false) ∧ Below w.heap.size w w' := by
  have hu41 := Try.underlying41
  have hu56 := Try.underlying56
  have HX := Lib.hid hX
  have HD := Lib.hid hd
  have HW := Lib.hid hdw
  obtain ⟨dd, hdd⟩ : ∃ x, d dev = x := ⟨_, rfl⟩
  have Hdd := Lib.hid hdd
  clear hX hd hdd
  cases s0
  · skip
    go_enter Try.func36, Try.ntmps36
    go_wp2
    go_quiet (fail)
    obtain ⟨W, hW⟩ : ∃ W, World.drewN ((w.alloc (.cells #[.int .i64 F, .int .i64 T, .int .i64 S, .int .i64 C, .slice A ln cp] 41)).alloc (.cells #[.bool false, .bool s1, .bool s2, .bool s3, .bool s4, .int .u32 id, .int .i64 base, .int .i64 cnt, .int .i64 dev] 56)) nq = W := ⟨_, rfl⟩
    rw [hW]
    have P := (ps_new w #[.int .i64 F, .int .i64 T, .int .i64 S, .int .i64 C, .slice A ln cp] #[.bool false, .bool s1, .bool s2, .bool s3, .bool s4, .int .u32 id, .int .i64 base, .int .i64 cnt, .int .i64 dev] 41 56).drewN nq
    rw [hW] at P
    clear hW nq
    have hc5 := cells5 P.b1
    have hc := cells9 P.b2
    have L := (HD.out.below P.bel).look hdw
    rw [Hdd.out] at L
    have hb := P.bel
    clear P
    cases dd
    all_goals
      go_wp2
    all_goals
      first
        | (go_ret; exact ⟨rfl, hb⟩)
        | (exfalso; have h := HX.out; have h2 := Hdd.out; unfold okh at h; simp [h2] at h; omega)
  · skip
    go_enter Try.func36, Try.ntmps36
    go_wp2
    go_quiet (fail)
    obtain ⟨W, hW⟩ : ∃ W, World.drewN ((w.alloc (.cells #[.int .i64 F, .int .i64 T, .int .i64 S, .int .i64 C, .slice A ln cp] 41)).alloc (.cells #[.bool true, .bool s1, .bool s2, .bool s3, .bool s4, .int .u32 id, .int .i64 base, .int .i64 cnt, .int .i64 dev] 56)) nq = W := ⟨_, rfl⟩
    rw [hW]
    have P := (ps_new w #[.int .i64 F, .int .i64 T, .int .i64 S, .int .i64 C, .slice A ln cp] #[.bool true, .bool s1, .bool s2, .bool s3, .bool s4, .int .u32 id, .int .i64 base, .int .i64 cnt, .int .i64 dev] 41 56).drewN nq
    rw [hW] at P
    clear hW nq
    have hc5 := cells5 P.b1
    have hc := cells9 P.b2
    go_wp2
    go_quiet (fail)
    obtain ⟨W2, hW2⟩ : ∃ W2, World.drewN W nq = W2 := ⟨_, rfl⟩
    rw [hW2]
    replace P := P.drewN nq
    rw [hW2] at P
    clear hW2 hc hc5 nq W
    have hc := cells9 P.b2
    have L := (HD.out.below P.bel).look hdw
    rw [Hdd.out] at L
    have hb := P.bel
    clear P
    cases dd
    all_goals
      go_wp2
    all_goals
      first
        | (go_ret; exact ⟨rfl, hb⟩)
        | (exfalso; have h := HX.out; have h2 := Hdd.out; unfold okh at h; simp [h2] at h; omega)
set_option maxRecDepth 100000 in
set_option maxHeartbeats 8000000 in
theorem part_good (w : World) {fb db n m : Nat} {u d : Int → Bool} (F T S C : Int) (A : Option Addr) (ln cp : Nat) (hF : F ≤ 240) (hT : 0 ≤ T) (hS : 0 ≤ S) (hTS : T + S ≤ F)
    (s0 s1 s2 s3 s4 : Bool) (id base cnt dev : Int) (hdw : (Lit.int .i64 dev).wf = true) (hu : SetIs w fb n u) (hd : SetIs w db m d) (hne : fb ≠ db) (hn : n ≤ 1000) (hm : m ≤ 1000) (hX : okh F T S s0 base cnt dev d = true) :
    Calls Try.prog 36 #[.agg #[.int .i64 F, .int .i64 T, .int .i64 S, .int .i64 C, .slice A ln cp], .agg #[.bool s0, .bool s1, .bool s2, .bool s3, .bool s4, .int .u32 id, .int .i64 base, .int .i64 cnt, .int .i64 dev], .map (some fb), .map (some db)] w
      (PartPost w fb db n m u d base cnt dev (frB u base cnt.toNat)) := by
  have hu41 := Try.underlying41
  have hu56 := Try.underlying56
  unfold okh at hX
  simp only [Bool.and_eq_true, decide_eq_true_eq, Bool.not_eq_true'] at hX
  obtain ⟨⟨⟨⟨⟨⟨h1, h2⟩, h3⟩, h4⟩, h5⟩, h6⟩, h7⟩ := hX
  obtain ⟨c, rfl⟩ : ∃ c : Nat, cnt = (c : Int) := ⟨cnt.toNat, by omega⟩
  rw [Int.toNat_natCast]
  obtain ⟨X, hX⟩ : ∃ X, frB u base c = X := ⟨_, rfl⟩
  rw [hX]
  have HX := Lib.hid hX
  have HU := Lib.hid hu
  have HD := Lib.hid hd
  have H7 := Lib.hid h7
  have g1 : 0 ≤ base := by cases s0 <;> simp at h3 <;> omega
  have g2 : base ≤ 240 - c := by cases s0 <;> simp at h4 <;> omega
  clear hX hu hd h7
  cases s0
  · simp only [if_true, if_false, Bool.false_eq_true] at h3 h4
    go_enter Try.func36, Try.ntmps36
    go_wp2
    go_quiet (fail)
    obtain ⟨W, hW⟩ : ∃ W, World.drewN ((w.alloc (.cells #[.int .i64 F, .int .i64 T, .int .i64 S, .int .i64 C, .slice A ln cp] 41)).alloc (.cells #[.bool false, .bool s1, .bool s2, .bool s3, .bool s4, .int .u32 id, .int .i64 base, .int .i64 (c : Int), .int .i64 dev] 56)) nq = W := ⟨_, rfl⟩
    rw [hW]
    have P := (ps_new w #[.int .i64 F, .int .i64 T, .int .i64 S, .int .i64 C, .slice A ln cp] #[.bool false, .bool s1, .bool s2, .bool s3, .bool s4, .int .u32 id, .int .i64 base, .int .i64 (c : Int), .int .i64 dev] 41 56).drewN nq
    rw [hW] at P
    clear hW nq
    have hc5 := cells5 P.b1
    have hc := cells9 P.b2
    have L := (HD.out.below P.bel).look hdw
    rw [H7.out] at L
    have hb := P.bel
    have HU2 := HU.out.below hb
    have HD2 := HD.out.below hb
    have B2 := P.b2
    have hlt := HU.out.lt
    have hlt2 := HD.out.lt
    have HB2 := Lib.hid B2
    clear P B2
    go_wp2_with (first
      | (at_mapUpdate; refine wp_put rfl (.tmp 67) (.tmp 69) (.tmp 72) rfl HD2 (by omega) dev _ rfl rfl rfl hdw ?_; intro w2 HD3 k2; have HU3 := HU2.kept k2 hne; have B3 := k2.blk HB2.out (by omega); replace hb := Lib.hid (kept_trans (kept_below (S := fun j => j = fb ∨ j = db) hb) (kept_wide k2 (fun k hk => Or.inr hk))); clear k2 hc L HU2; have hc := cells9 B3; have HB3 := Lib.hid B3; clear B3 HB2))
    go_loopw [75] (fun i wr => ∃ k : Nat, k ≤ c ∧ i = .int .i64 k ∧ Hid (frB u base k = true) ∧ SetIs wr fb (n + k) (addU u base k) ∧ SetIs wr db (m + 1) (addD d dev) ∧ Kept w wr (fun j => j = fb ∨ j = db) ∧ wr.heap[w.heap.size + 1]? = some (.cells #[.bool false, .bool s1, .bool s2, .bool s3, .bool s4, .int .u32 id, .int .i64 base, .int .i64 (c : Int), .int .i64 dev] 56 (0, 0))) (fun i _ => c - (intOf i).toNat)
    case atStart => exact ⟨0, by omega, rfl, Lib.hid rfl, by rw [addU_zero]; exact HU3, HD3, hb.out, HB3.out⟩
    case round =>
      obtain ⟨k, hk, rfl, HF, RU, RD, RK, RB⟩ := hrel
      clear hc HU3 HD3 hb HB3 HD2
      have hc := cells9 RB
      have HRB := Lib.hid RB
      clear RB
      by_cases hkc : k < c
      · have hwf : (Lit.int .i64 (base + k)).wf = true := wf_in (by omega)
        have L2 := RU.look hwf
        rw [addU_at] at L2
        obtain ⟨x, hx⟩ : ∃ x, u (base + k) = x := ⟨_, rfl⟩
        rw [hx] at L2
        have Hx := Lib.hid hx
        clear hx
        cases x
        · go_wp2_with (first
            | (at_mapUpdate; refine wp_put rfl (.tmp 84) (.tmp 88) (.const (.bool true)) rfl RU (by omega) (base + k) true rfl rfl rfl hwf ?_; intro w3 RU2 k3; have RD2 := RD.kept k3 (fun e => hne e.symm); have B4 := k3.blk HRB.out (by omega); have RK2 := Lib.hid (kept_trans RK (kept_wide k3 (fun k hk => Or.inl hk))); clear k3 RK RD hc L2 RU; have hc := cells9 B4; have HB4 := Lib.hid B4; clear B4 HRB))
          go_roundw
          case measure => simp [intOf]; omega
          case rel => exact ⟨k + 1, by omega, by go_num, Lib.hid (by unfold frB; rw [HF.out, Hx.out]; rfl), by rw [← addU_succ]; exact RU2, RD2, RK2.out, HB4.out⟩
        · go_wp2
          go_ret
          exact ⟨ret_b (by rw [← HX.out, frB_hit Hx.out hkc]), RK, fun h => by rw [← HX.out, frB_hit Hx.out hkc] at h; cases h⟩
      · have hkc2 : k = c := by omega
        subst hkc2
        go_wp2
        go_ret
        exact ⟨ret_b (by rw [← HX.out, HF.out]), RK, fun _ => ⟨by rw [Int.toNat_natCast]; exact RU.mono (by omega), RD⟩⟩
  · simp only [if_true, if_false, Bool.false_eq_true] at h3 h4
    go_enter Try.func36, Try.ntmps36
    go_wp2
    go_quiet (fail)
    obtain ⟨W, hW⟩ : ∃ W, World.drewN ((w.alloc (.cells #[.int .i64 F, .int .i64 T, .int .i64 S, .int .i64 C, .slice A ln cp] 41)).alloc (.cells #[.bool true, .bool s1, .bool s2, .bool s3, .bool s4, .int .u32 id, .int .i64 base, .int .i64 (c : Int), .int .i64 dev] 56)) nq = W := ⟨_, rfl⟩
    rw [hW]
    have P := (ps_new w #[.int .i64 F, .int .i64 T, .int .i64 S, .int .i64 C, .slice A ln cp] #[.bool true, .bool s1, .bool s2, .bool s3, .bool s4, .int .u32 id, .int .i64 base, .int .i64 (c : Int), .int .i64 dev] 41 56).drewN nq
    rw [hW] at P
    clear hW nq
    have hc5 := cells5 P.b1
    have hc := cells9 P.b2
    go_wp2
    go_quiet (fail)
    obtain ⟨W2, hW2⟩ : ∃ W2, World.drewN W nq = W2 := ⟨_, rfl⟩
    rw [hW2]
    replace P := P.drewN nq
    rw [hW2] at P
    clear hW2 hc hc5 nq W
    have hc := cells9 P.b2
    have L := (HD.out.below P.bel).look hdw
    rw [H7.out] at L
    have hb := P.bel
    have HU2 := HU.out.below hb
    have HD2 := HD.out.below hb
    have B2 := P.b2
    have hlt := HU.out.lt
    have hlt2 := HD.out.lt
    have HB2 := Lib.hid B2
    clear P B2
    go_wp2_with (first
      | (at_mapUpdate; refine wp_put rfl (.tmp 67) (.tmp 69) (.tmp 72) rfl HD2 (by omega) dev _ rfl rfl rfl hdw ?_; intro w2 HD3 k2; have HU3 := HU2.kept k2 hne; have B3 := k2.blk HB2.out (by omega); replace hb := Lib.hid (kept_trans (kept_below (S := fun j => j = fb ∨ j = db) hb) (kept_wide k2 (fun k hk => Or.inr hk))); clear k2 hc L HU2; have hc := cells9 B3; have HB3 := Lib.hid B3; clear B3 HB2))
    go_loopw [75] (fun i wr => ∃ k : Nat, k ≤ c ∧ i = .int .i64 k ∧ Hid (frB u base k = true) ∧ SetIs wr fb (n + k) (addU u base k) ∧ SetIs wr db (m + 1) (addD d dev) ∧ Kept w wr (fun j => j = fb ∨ j = db) ∧ wr.heap[w.heap.size + 1]? = some (.cells #[.bool true, .bool s1, .bool s2, .bool s3, .bool s4, .int .u32 id, .int .i64 base, .int .i64 (c : Int), .int .i64 dev] 56 (0, 0))) (fun i _ => c - (intOf i).toNat)
    case atStart => exact ⟨0, by omega, rfl, Lib.hid rfl, by rw [addU_zero]; exact HU3, HD3, hb.out, HB3.out⟩
    case round =>
      obtain ⟨k, hk, rfl, HF, RU, RD, RK, RB⟩ := hrel
      clear hc HU3 HD3 hb HB3 HD2
      have hc := cells9 RB
      have HRB := Lib.hid RB
      clear RB
      by_cases hkc : k < c
      · have hwf : (Lit.int .i64 (base + k)).wf = true := wf_in (by omega)
        have L2 := RU.look hwf
        rw [addU_at] at L2
        obtain ⟨x, hx⟩ : ∃ x, u (base + k) = x := ⟨_, rfl⟩
        rw [hx] at L2
        have Hx := Lib.hid hx
        clear hx
        cases x
        · go_wp2_with (first
            | (at_mapUpdate; refine wp_put rfl (.tmp 84) (.tmp 88) (.const (.bool true)) rfl RU (by omega) (base + k) true rfl rfl rfl hwf ?_; intro w3 RU2 k3; have RD2 := RD.kept k3 (fun e => hne e.symm); have B4 := k3.blk HRB.out (by omega); have RK2 := Lib.hid (kept_trans RK (kept_wide k3 (fun k hk => Or.inl hk))); clear k3 RK RD hc L2 RU; have hc := cells9 B4; have HB4 := Lib.hid B4; clear B4 HRB))
          go_roundw
          case measure => simp [intOf]; omega
          case rel => exact ⟨k + 1, by omega, by go_num, Lib.hid (by unfold frB; rw [HF.out, Hx.out]; rfl), by rw [← addU_succ]; exact RU2, RD2, RK2.out, HB4.out⟩
        · go_wp2
          go_ret
          exact ⟨ret_b (by rw [← HX.out, frB_hit Hx.out hkc]), RK, fun h => by rw [← HX.out, frB_hit Hx.out hkc] at h; cases h⟩
      · have hkc2 : k = c := by omega
        subst hkc2
        go_wp2
        go_ret
        exact ⟨ret_b (by rw [← HX.out, HF.out]), RK, fun _ => ⟨by rw [Int.toNat_natCast]; exact RU.mono (by omega), RD⟩⟩
end Go.Proofs.Ytecliaogidemjaa.Boot
