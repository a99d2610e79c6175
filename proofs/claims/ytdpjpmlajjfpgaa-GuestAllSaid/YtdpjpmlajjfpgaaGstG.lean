/- Contracts of package guest: device, at, Load, Store, of a memory and a device or none. -/
import Derived.Test.YtdpjpmlajjfpgaaWlkD
import Derived.Test.YtdpjpmlajjfpgaaPhaB
import Derived.Deep.RegionHeld3
import Derived.Test.YtdpjpmlajjfpgaaRWlk
import Derived.Deep.DeepCutAuto
namespace Go.Proofs.Ytdpjpmlajjfpgaa.Ram
open Go.RowKit Go.Proofs.Ytdpjpmlajjfpgaa.Mem Go.Proofs.Ytdpjpmlajjfpgaa.Kept Go.Proofs.Ytdpjpmlajjfpgaa.Slo Go.Proofs.Ytdpjpmlajjfpgaa.Bits
open Go.Proofs.Ytdpjpmlajjfpgaa.PWalkAll
open Go.Proofs.YtdpjpmlajjfpgaaW.PrintWords (nums ReadsInt results_ct results_ctt gate_dst box_event)
set_option linter.unusedVariables false
set_option linter.unusedSimpArgs false
theorem dev_nil (w : World) (p k : Int) : Calls Try.prog 58 #[.pointer none, .int .i64 p, .int .i64 k] w fun e w' => e = .returned (.bool false) ∧ w = w' := by
  go_enter Try.func58, Try.ntmps58
  go_wp2
  go_ret
  exact ⟨rfl, rfl⟩
def isDev (p k : Int) : Bool := decide (p = 3840) && decide (0 ≤ k) && decide (k < 16)
theorem dev_some (w : World) (a : Addr) (p k : Int) (o : Bool) (ho : isDev p k = o) : Calls Try.prog 58 #[.pointer (some a), .int .i64 p, .int .i64 k] w fun e w' => e = .returned (.bool o) ∧ w = w' := by
  subst ho
  unfold isDev
  by_cases h1 : p = 3840
  · by_cases h2 : 0 ≤ k
    · by_cases h3 : k < 16
      all_goals
        go_enter Try.func58, Try.ntmps58
        go_wp2
        go_ret
        exact ⟨by simp [h1, h2, h3], rfl⟩
    · go_enter Try.func58, Try.ntmps58
      go_wp2
      go_ret
      exact ⟨by first | (simp [h1, h2]; done) | (simp [h1, h2]; omega), rfl⟩
  · have h1' : (p == 3840) = false := by simpa using h1
    go_enter Try.func58, Try.ntmps58
    go_wp2
    go_ret
    exact ⟨by simp [h1], rfl⟩
/-- The frame of a page that one may use so, and the answer. -/
def gAt (n : Nat) (s : Int) (F : List Int) (root page k q : Int) : Int × Int :=
  if 0 ≤ k ∧ k < 16 ∧ (wk n s F root page).2.2.2 = 0 ∧ bits .and .i64 (wk n s F root page).2.1 q ≠ 0 then ((wk n s F root page).1, 0) else (0, -20)
set_option maxRecDepth 100000 in
set_option maxHeartbeats 4000000 in
theorem gat_any {w : World} {B g b n : Nat} {F : List Int} {s : Int} (h : Is w B g b n F s) (hF : ∀ x ∈ F, 0 ≤ x ∧ x ≤ 255) (root page k q f E : Int) (hr : gAt n s F root page k q = (f, E)) :
    Calls Try.prog 60 #[.pointer (some ⟨g, 0, none⟩), .int .i64 root, .int .i64 page, .int .i64 k, .int .i64 q] w fun e w' => e = .returned (.tuple #[.int .i64 f, .int .i64 E]) ∧ Below w.heap.size w w' := by
  have hu58 := Try.underlying58
  unfold gAt at hr
  obtain ⟨f0, p0, l0, E0, hw⟩ : ∃ a b c d, wk n s F root page = (a, b, c, d) := ⟨_, _, _, _, rfl⟩
  rw [hw] at hr
  have hcall := walk_i h hF root page f0 p0 l0 E0 hw
  obtain ⟨A, hA⟩ : ∃ A, bits .and .i64 p0 q = A := ⟨_, rfl⟩
  simp only at hr
  rw [hA] at hr
  clear hw h hF
  by_cases h0 : 0 ≤ k
  · by_cases h1 : k < 16
    · by_cases h2 : E0 = 0
      · by_cases h3 : A = 0
        · rw [if_neg (fun e => e.2.2.2 h3)] at hr
          injection hr with hr1 hr2
          subst hr1 hr2 h2 h3
          go_enter Try.func60, Try.ntmps60
          go_wp2_with (first | (go_at_call 31; refine hcall.mono ?_; rintro e w1 ⟨rfl, hb1⟩) | fail)
          go_ret2
          exact ⟨rfl, bel_alloc hb1 _⟩
        · rw [if_pos ⟨h0, h1, h2, h3⟩] at hr
          injection hr with hr1 hr2
          subst hr1 hr2 h2
          have h3' : (A == 0) = false := by simpa using h3
          go_enter Try.func60, Try.ntmps60
          go_wp2_with (first | (go_at_call 31; refine hcall.mono ?_; rintro e w1 ⟨rfl, hb1⟩) | fail)
          go_ret2
          exact ⟨rfl, bel_alloc hb1 _⟩
      · rw [if_neg (fun e => h2 e.2.2.1)] at hr
        injection hr with hr1 hr2
        subst hr1 hr2
        have h2' : (E0 == 0) = false := by simpa using h2
        go_enter Try.func60, Try.ntmps60
        go_wp2_with (first | (go_at_call 31; refine hcall.mono ?_; rintro e w1 ⟨rfl, hb1⟩) | fail)
        go_ret2
        exact ⟨rfl, bel_alloc hb1 _⟩
    · rw [if_neg (fun e => h1 e.2.1)] at hr
      injection hr with hr1 hr2
      subst hr1 hr2
      go_enter Try.func60, Try.ntmps60
      go_wp2
      go_ret2
      exact ⟨rfl, Below.refl _ _⟩
  · rw [if_neg (fun e => h0 e.1)] at hr
    injection hr with hr1 hr2
    subst hr1 hr2
    go_enter Try.func60, Try.ntmps60
    go_wp2
    go_ret2
    exact ⟨rfl, Below.refl _ _⟩
/-- What is loaded where there is no device; what is left of a store. -/
def gLoad (n : Nat) (s : Int) (F : List Int) (root page k : Int) : Int × Int := if (gAt n s F root page k 1).2 = 0 then (wdV n s F true (gAt n s F root page k 1).1 k, wdE n s true (gAt n s F root page k 1).1 k) else (0, -20)
def gStore (n : Nat) (s : Int) (F : List Int) (root page k v : Int) : List Int × Int := if (gAt n s F root page k 2).2 = 0 then (swF n s F true (gAt n s F root page k 2).1 k v, wdE n s true (gAt n s F root page k 2).1 k) else (F, -20)
theorem gload_nil {w : World} {B g b n : Nat} {F : List Int} {s : Int} (h : Is w B g b n F s) (hF : ∀ x ∈ F, 0 ≤ x ∧ x ≤ 255) (root page k x E : Int) (hr : gLoad n s F root page k = (x, E)) :
    Calls Try.prog 37 #[.pointer (some ⟨g, 0, none⟩), .int .i64 root, .pointer none, .int .i64 page, .int .i64 k] w fun e w' => e = .returned (.tuple #[.int .u64 x, .int .i64 E]) ∧ Below w.heap.size w w' := by
  unfold gLoad at hr
  obtain ⟨f, E0, ha⟩ : ∃ f E0, gAt n s F root page k 1 = (f, E0) := ⟨_, _, rfl⟩
  rw [ha] at hr
  simp only at hr
  have HI := Lib.hid h
  have HF := Lib.hid hF
  by_cases h0 : E0 = 0
  · rw [if_pos h0] at hr
    injection hr with hr1 hr2
    subst hr1 hr2 h0
    go_enter Try.func37, Try.ntmps37
    go_wp2_with (first
      | (go_at_call 58; refine (dev_nil _ _ _).mono ?_; rintro e w1 ⟨rfl, rfl⟩)
      | (go_at_call 60; refine (gat_any HI.out HF.out root page k 1 f 0 ha).mono ?_; rintro e w2 ⟨rfl, hb2⟩)
      | (go_at_call 39; refine (get_any (HI.out.below hb2) true f k HF.out).mono ?_; rintro e w3 ⟨rfl, rfl⟩)
      | fail)
    go_ret2
    exact ⟨rfl, hb2⟩
  · rw [if_neg h0] at hr
    injection hr with hr1 hr2
    subst hr1 hr2
    have h0' : (E0 == 0) = false := by simpa using h0
    go_enter Try.func37, Try.ntmps37
    go_wp2_with (first
      | (go_at_call 58; refine (dev_nil _ _ _).mono ?_; rintro e w1 ⟨rfl, rfl⟩)
      | (go_at_call 60; refine (gat_any HI.out HF.out root page k 1 f E0 ha).mono ?_; rintro e w2 ⟨rfl, hb2⟩)
      | fail)
    go_ret2
    exact ⟨rfl, hb2⟩
theorem bel_on {W0 w w2 : World} (hb : Below W0.heap.size W0 w) (h : Below w.heap.size w w2) : Below W0.heap.size W0 w2 := bel_chain hb h
theorem gstore_nil {W0 w : World} {B g b n : Nat} {F G : List Int} {s : Int} (h : Is w B g b n F s) (hF : ∀ x ∈ F, 0 ≤ x ∧ x ≤ 255) (root page k v E : Int) (hv : 0 ≤ v ∧ v ≤ 18446744073709551615) (hr : gStore n s F root page k v = (G, E)) (hB : W0.heap.size ≤ B) (hb : Below W0.heap.size W0 w) :
    Calls Try.prog 38 #[.pointer (some ⟨g, 0, none⟩), .int .i64 root, .pointer none, .int .i64 page, .int .i64 k, .int .u64 v] w fun e w' => e = .returned (.int .i64 E) ∧ Is w' B g b n G s ∧ Below W0.heap.size W0 w' := by
  unfold gStore at hr
  obtain ⟨f, E0, ha⟩ : ∃ f E0, gAt n s F root page k 2 = (f, E0) := ⟨_, _, rfl⟩
  rw [ha] at hr
  simp only at hr
  have HI := Lib.hid h
  have HF := Lib.hid hF
  by_cases h0 : E0 = 0
  · rw [if_pos h0] at hr
    injection hr with hr1 hr2
    subst hr1 hr2 h0
    go_enter Try.func38, Try.ntmps38
    go_wp2_with (first
      | (go_at_call 58; refine (dev_nil _ _ _).mono ?_; rintro e w1 ⟨rfl, rfl⟩)
      | (go_at_call 60; refine (gat_any HI.out HF.out root page k 2 f 0 ha).mono ?_; rintro e w2 ⟨rfl, hb2⟩)
      | (go_at_call 29; refine (setWord_any (HI.out.below hb2) true f k v hv).mono ?_; rintro e w3 ⟨rfl, H3, k3⟩; have hb3 := bel_own (bel_on hb hb2) (HI.out.below hb2) hB k3)
      | fail)
    go_ret
    exact ⟨rfl, H3, hb3⟩
  · rw [if_neg h0] at hr
    injection hr with hr1 hr2
    subst hr1 hr2
    have h0' : (E0 == 0) = false := by simpa using h0
    go_enter Try.func38, Try.ntmps38
    go_wp2_with (first
      | (go_at_call 58; refine (dev_nil _ _ _).mono ?_; rintro e w1 ⟨rfl, rfl⟩)
      | (go_at_call 60; refine (gat_any HI.out HF.out root page k 2 f E0 ha).mono ?_; rintro e w2 ⟨rfl, hb2⟩)
      | fail)
    go_ret
    exact ⟨rfl, HI.out.below hb2, bel_on hb hb2⟩
/-- A word of the device's page. -/
theorem gload_dev {w : World} {q g : Nat} {ps : Pha.PS} (hp : Pha.Is w q ps) (root page k x : Int) (hd : isDev page k = true) (hx : IntKind.u64.wrap (Pha.loadF ps k) = x) :
    Calls Try.prog 37 #[.pointer (some ⟨g, 0, none⟩), .int .i64 root, .pointer (some ⟨q, 0, none⟩), .int .i64 page, .int .i64 k] w fun e w' => e = .returned (.tuple #[.int .u64 x, .int .i64 0]) ∧ w = w' := by
  subst hx
  go_enter Try.func37, Try.ntmps37
  go_wp2_with (first
    | (go_at_call 58; refine (dev_some _ _ _ _ true hd).mono ?_; rintro e w1 ⟨rfl, rfl⟩)
    | (go_at_call 59; refine (Pha.load_same hp k).mono ?_; rintro e w2 ⟨rfl, rfl⟩)
    | fail)
  go_ret2
  exact ⟨rfl, rfl⟩
theorem gstore_dev {w : World} {q g : Nat} {ps ps' : Pha.PS} (hp : Pha.Is w q ps) (root page k v : Int) (hd : isDev page k = true) (hs : Pha.storeF ps k v = ps') :
    Calls Try.prog 38 #[.pointer (some ⟨g, 0, none⟩), .int .i64 root, .pointer (some ⟨q, 0, none⟩), .int .i64 page, .int .i64 k, .int .u64 v] w fun e w' => e = .returned (.int .i64 0) ∧ Pha.Is w' q ps' ∧ Kept w w' (fun j => j = q) := by
  subst hs
  go_enter Try.func38, Try.ntmps38
  go_wp2_with (first
    | (go_at_call 58; refine (dev_some _ _ _ _ true hd).mono ?_; rintro e w1 ⟨rfl, rfl⟩)
    | (go_at_call 61; refine (Pha.store_any hp k v).mono ?_; rintro e w2 ⟨rfl, H2, k2⟩)
    | fail)
  go_ret
  exact ⟨rfl, H2, k2⟩
/-- With a device, beside its words. -/
def gLoadD (n : Nat) (s : Int) (F : List Int) (root page k : Int) : Int × Int := if page = 3840 then (0, -20) else gLoad n s F root page k
def gStoreD (n : Nat) (s : Int) (F : List Int) (root page k v : Int) : List Int × Int := if page = 3840 then (F, -20) else gStore n s F root page k v
theorem gload_off {w : World} {B g b n : Nat} {a : Addr} {F : List Int} {s : Int} (h : Is w B g b n F s) (hF : ∀ x ∈ F, 0 ≤ x ∧ x ≤ 255) (root page k x E : Int) (hd : isDev page k = false) (hr : gLoadD n s F root page k = (x, E)) :
    Calls Try.prog 37 #[.pointer (some ⟨g, 0, none⟩), .int .i64 root, .pointer (some a), .int .i64 page, .int .i64 k] w fun e w' => e = .returned (.tuple #[.int .u64 x, .int .i64 E]) ∧ Below w.heap.size w w' := by
  obtain ⟨f, E0, ha⟩ : ∃ f E0, gAt n s F root page k 1 = (f, E0) := ⟨_, _, rfl⟩
  have HI := Lib.hid h
  have HF := Lib.hid hF
  unfold gLoadD gLoad at hr
  rw [ha] at hr
  simp only at hr
  by_cases hp : page = 3840
  · rw [if_pos hp] at hr
    injection hr with hr1 hr2
    subst hr1 hr2 hp
    by_cases h0 : E0 = 0
    · subst h0
      go_enter Try.func37, Try.ntmps37
      go_wp2_with (first
        | (go_at_call 58; refine (dev_some _ _ _ _ false hd).mono ?_; rintro e w1 ⟨rfl, rfl⟩)
        | (go_at_call 60; refine (gat_any HI.out HF.out root 3840 k 1 f 0 ha).mono ?_; rintro e w2 ⟨rfl, hb2⟩)
        | fail)
      go_ret2
      exact ⟨rfl, hb2⟩
    · have h0' : (E0 == 0) = false := by simpa using h0
      go_enter Try.func37, Try.ntmps37
      go_wp2_with (first
        | (go_at_call 58; refine (dev_some _ _ _ _ false hd).mono ?_; rintro e w1 ⟨rfl, rfl⟩)
        | (go_at_call 60; refine (gat_any HI.out HF.out root 3840 k 1 f E0 ha).mono ?_; rintro e w2 ⟨rfl, hb2⟩)
        | fail)
      go_ret2
      exact ⟨rfl, hb2⟩
  · rw [if_neg hp] at hr
    have hp' : (page == 3840) = false := by simpa using hp
    by_cases h0 : E0 = 0
    · rw [if_pos h0] at hr
      injection hr with hr1 hr2
      subst hr1 hr2 h0
      go_enter Try.func37, Try.ntmps37
      go_wp2_with (first
        | (go_at_call 58; refine (dev_some _ _ _ _ false hd).mono ?_; rintro e w1 ⟨rfl, rfl⟩)
        | (go_at_call 60; refine (gat_any HI.out HF.out root page k 1 f 0 ha).mono ?_; rintro e w2 ⟨rfl, hb2⟩)
        | (go_at_call 39; refine (get_any (HI.out.below hb2) true f k HF.out).mono ?_; rintro e w3 ⟨rfl, rfl⟩)
        | fail)
      go_ret2
      exact ⟨rfl, hb2⟩
    · rw [if_neg h0] at hr
      injection hr with hr1 hr2
      subst hr1 hr2
      have h0' : (E0 == 0) = false := by simpa using h0
      go_enter Try.func37, Try.ntmps37
      go_wp2_with (first
        | (go_at_call 58; refine (dev_some _ _ _ _ false hd).mono ?_; rintro e w1 ⟨rfl, rfl⟩)
        | (go_at_call 60; refine (gat_any HI.out HF.out root page k 1 f E0 ha).mono ?_; rintro e w2 ⟨rfl, hb2⟩)
        | fail)
      go_ret2
      exact ⟨rfl, hb2⟩
end Go.Proofs.Ytdpjpmlajjfpgaa.Ram
/- The statements on a guest: what they begin with. -/
namespace Go.Proofs.Ytdpjpmlajjfpgaa.Ram
open Go.RowKit Go.Proofs.Ytdpjpmlajjfpgaa.Mem Go.Proofs.Ytdpjpmlajjfpgaa.Kept Go.Proofs.Ytdpjpmlajjfpgaa.Slo Go.Proofs.Ytdpjpmlajjfpgaa.Bits
open Go.Proofs.Ytdpjpmlajjfpgaa.PWalkAll
open Go.Proofs.YtdpjpmlajjfpgaaW.PrintWords (nums ReadsInt results_ct results_ctt gate_dst box_event)
set_option linter.unusedVariables false
set_option linter.unusedSimpArgs false
theorem gstore_mem {n : Nat} {s : Int} {F : List Int} {root page k v : Int} (hF : ∀ x ∈ F, 0 ≤ x ∧ x ≤ 255) (hv : 0 ≤ v) : ∀ x ∈ (gStore n s F root page k v).1, 0 ≤ x ∧ x ≤ 255 := by
  unfold gStore
  split
  · exact swF_mem hF hv
  · exact hF
def gF1 : List Int := swF 6 6 (List.replicate (6 * 128) 0) true 0 0 4097
def gF2 : List Int := swF 6 6 gF1 true 1 0 8193
def gF3 : List Int := swF 6 6 gF2 true 2 0 16398
def gF4 : List Int := (gStore 6 6 gF3 0 0 2 9).1
theorem gF3_mem : ∀ x ∈ gF3, 0 ≤ x ∧ x ≤ 255 := swF_mem (swF_mem (swF_mem mem_zero (by decide)) (by decide)) (by decide)
theorem gF4_mem : ∀ x ∈ gF4, 0 ≤ x ∧ x ≤ 255 := gstore_mem gF3_mem (by decide)
theorem gS0 : gStore 6 6 gF3 0 0 2 9 = (gF4, 0) := Prod.ext rfl (show (gStore 6 6 gF3 0 0 2 9).2 = 0 by decide +kernel)
theorem gL0 : gLoad 6 6 gF4 0 0 2 = (9, 0) := by decide +kernel
theorem gL1 : gLoad 6 6 gF4 0 1 2 = (0, -20) := by decide +kernel
theorem pnew_c (w : World) : Calls Try.prog 40 #[] w fun e w' => ∃ q, e = .returned (.pointer (some ⟨q, 0, none⟩)) ∧ Pha.Is w' q ⟨0, 0, 0, 0, 0, 0⟩ ∧ Below w.heap.size w w' ∧ w.heap.size ≤ q ∧ q < w'.heap.size := (Pha.new_any w).mono fun e w' ⟨h1, h2, h3⟩ => ⟨_, h1, h2, h3, Nat.le_refl _, h2.blk.1⟩
theorem is_dev {w w' : World} {B g b n q : Nat} {F : List Int} {s : Int} (h : Is w B g b n F s) (hk : Kept w w' (fun j => j = q)) (hq : g < q ∧ (0 < n → b < q)) : Is w' B g b n F s :=
  h.kept hk (fun e => absurd e (Nat.ne_of_lt hq.1)) (fun hn e => absurd e (Nat.ne_of_lt (hq.2 hn)))
theorem is_lt {w : World} {B g b n q : Nat} {F : List Int} {s : Int} (h : Is w B g b n F s) (hq : w.heap.size ≤ q) : g < q ∧ (0 < n → b < q) := ⟨Nat.lt_of_lt_of_le h.lt.2 hq, fun hn => Nat.lt_of_lt_of_le (h.row hn).2.1 hq⟩
set_option maxRecDepth 100000 in
set_option maxHeartbeats 16000000 in
theorem gbegun (w : World) : Calls Try.prog 35 #[] w fun e w' => e = .returned (.bool true) ∧ Below w.heap.size w w' := by
  have hb := Below.refl w.heap.size w
  have hu51 := Try.underlying51
  have D0 : isDev 3840 0 = true := rfl
  have E0 : Pha.storeF ⟨0, 0, 0, 0, 0, 0⟩ 0 5 = ⟨5, 0, 0, 0, 0, 0⟩ := by kernel_rfl
  have X0 : IntKind.u64.wrap (Pha.loadF ⟨5, 0, 0, 0, 0, 0⟩ 0) = 5 := by decide +kernel
  have v9 : (0 : Int) ≤ 9 ∧ (9 : Int) ≤ 18446744073709551615 := by omega
  go_enter Try.func35, Try.ntmps35
  go_wp2_with (first
    | (go_at_call 26; (with_reducible refine (new_i w 6 6 6 6 (by decide) (by decide)).mono ?_); rintro e w2 ⟨g, b, rfl, H0, hb2⟩; have hB := Lib.hid (Nat.le_refl w.heap.size); have H := Lib.hid H0; replace hb := bel_chain hb hb2; clear hb2 H0)
    | (go_at_call 28; (with_reducible refine (slot_any _ 1 1 0 4097 (by decide) (by decide)).mono ?_); rintro e w3 ⟨rfl, hb3⟩; have H3 := Lib.hid (H.out.below hb3); replace hb := bel_chain hb hb3; clear hb3 H)
    | (go_at_call 29; (with_reducible refine (setWord_any H3.out true 0 0 4097 (by decide)).mono ?_); rintro e w4 ⟨rfl, H0, hk⟩; replace hb := bel_own hb H3.out hB.out hk; have H4 : Hid (Is w4 _ g b 6 gF1 6) := Lib.hid H0; clear hk H0 H3)
    | (go_at_call 28; (with_reducible refine (slot_any _ 1 2 0 8193 (by decide) (by decide)).mono ?_); rintro e w5 ⟨rfl, hb3⟩; have H5 := Lib.hid (H4.out.below hb3); replace hb := bel_chain hb hb3; clear hb3 H4)
    | (go_at_call 29; (with_reducible refine (setWord_any H5.out true 1 0 8193 (by decide)).mono ?_); rintro e w6 ⟨rfl, H0, hk⟩; replace hb := bel_own hb H5.out hB.out hk; have H6 : Hid (Is w6 _ g b 6 gF2 6) := Lib.hid H0; clear hk H0 H5)
    | (go_at_call 28; (with_reducible refine (slot_any _ 2 4 3 16398 (by decide) (by decide)).mono ?_); rintro e w7 ⟨rfl, hb3⟩; have H7 := Lib.hid (H6.out.below hb3); replace hb := bel_chain hb hb3; clear hb3 H6)
    | (go_at_call 29; (with_reducible refine (setWord_any H7.out true 2 0 16398 (by decide)).mono ?_); rintro e w8 ⟨rfl, H0, hk⟩; replace hb := bel_own hb H7.out hB.out hk; have H8 : Hid (Is w8 _ g b 6 gF3 6) := Lib.hid H0; clear hk H0 H7)
    | (go_at_call 38; (with_reducible refine (gstore_nil (W0 := w) H8.out gF3_mem 0 0 2 9 0 v9 gS0 hB.out hb).mono ?_); rintro e w9 ⟨rfl, H0, hb9⟩; have H9 := Lib.hid H0; replace hb := hb9; clear H0 hb9 H8)
    | (go_at_call 37; (with_reducible refine (gload_nil H9.out gF4_mem 0 0 2 9 0 gL0).mono ?_); rintro e w10 ⟨rfl, hb10⟩; have H10 := Lib.hid (H9.out.below hb10); replace hb := bel_chain hb hb10; clear hb10 H9)
    | (go_at_call 37; (with_reducible refine (gload_nil H10.out gF4_mem 0 1 2 0 (-20) gL1).mono ?_); rintro e w11 ⟨rfl, hb11⟩; have H11 := Lib.hid (H10.out.below hb11); replace hb := bel_chain hb hb11; clear hb11 H10)
    | (go_at_call 40; (with_reducible refine (pnew_c _).mono ?_); rintro e w12 ⟨q, rfl, P12, hb12, hq, hq2⟩; have hwq := Lib.hid (Nat.le_trans hb.size hq); replace hb := bel_chain hb hb12; clear hb12)
    | (go_at_call 38; (with_reducible refine (gstore_dev P12 0 3840 0 5 D0 E0).mono ?_); rintro e w13 ⟨rfl, P13, k13⟩; replace hb := k13.below hb hb.size (fun j e => by rw [e]; exact hwq.out); clear k13)
    | (go_at_call 37; (with_reducible refine (gload_dev P13 0 3840 0 5 D0 X0).mono ?_); rintro e w14 ⟨rfl, rfl⟩)
    | fail)
  go_ret
  exact ⟨rfl, hb⟩
end Go.Proofs.Ytdpjpmlajjfpgaa.Ram
/- The statements' set: memory whose tables say one page, with its permissions, or a block; the reference's beside it. -/
namespace Go.Proofs.Ytdpjpmlajjfpgaa.Ram
open Go.RowKit Go.Proofs.Ytdpjpmlajjfpgaa.Mem Go.Proofs.Ytdpjpmlajjfpgaa.Kept Go.Proofs.Ytdpjpmlajjfpgaa.Slo Go.Proofs.Ytdpjpmlajjfpgaa.Bits
open Go.Proofs.Ytdpjpmlajjfpgaa.PWalkAll
open Go.Proofs.YtdpjpmlajjfpgaaW.PrintWords (nums ReadsInt results_ct results_ctt gate_dst box_event)
set_option linter.unusedVariables false
set_option linter.unusedSimpArgs false
theorem rpath_in (w : World) (p : Int) (h0 : 0 ≤ p) (h1 : p < 4096) : Calls Try.prog 34 #[.int .i64 p] w fun e w' => e = .returned (.tuple #[.int .i64 (p / 256), .int .i64 (p / 16 % 16), .int .i64 (p % 16), .bool true]) ∧ Below w.heap.size w w' := by
  have hf : presidioref1_Path.f p = some (p / 256, p / 16 % 16, p % 16, true) := by
    unfold presidioref1_Path.f
    rw [if_neg (by omega), if_neg (by omega), Int.tdiv_eq_ediv_of_nonneg h0, Int.tdiv_eq_ediv_of_nonneg h0, Int.tmod_eq_emod_of_nonneg h0]
    rw [show wrap64 (p / 256) = p / 256 by unfold wrap64; omega, show wrap64 (p / 16) = p / 16 by unfold wrap64; omega, Int.tmod_eq_emod_of_nonneg (by omega)]
  exact (presidioref1_Path.calls p _ _ _ _ w hf).mono fun e w' h => ⟨h.1, h.2.below⟩
theorem rnew_c (w : World) (f s : Int) (N : Nat) (S : Int) (hN : frames f = N) (hS : secures f s = S) : Calls Try.prog 27 #[.int .i64 f, .int .i64 s] w fun e w' => ∃ g R, e = .returned (.pointer (some ⟨g, 0, none⟩)) ∧ RIs w' w.heap.size g R N (List.replicate (N * 128) 0) S ∧ Below w.heap.size w w' := by
  subst hN hS
  exact (rnew_any w f s).mono fun e w' h => h
def setV1 (f q : Int) (bl : Bool) : Int := if bl = true then 3 + 4 * q + 4096 * f else 8193
def setK (a b c f q : Int) (bl : Bool) : Nat → List Int
  | 0 => List.replicate (40 * 128) 0
  | 1 => swF 40 10 (List.replicate (40 * 128) 0) true 0 a 4097
  | 2 => swF 40 10 (swF 40 10 (List.replicate (40 * 128) 0) true 0 a 4097) true 1 b (setV1 f q bl)
  | _ => swF 40 10 (swF 40 10 (swF 40 10 (List.replicate (40 * 128) 0) true 0 a 4097) true 1 b (setV1 f q bl)) true 2 c (2 + 4 * q + 4096 * f)
def setF (page f q : Int) (bl : Bool) : List Int := setK (page / 256) (page / 16 % 16) (page % 16) f q bl 3
theorem setF_mem {page f q : Int} {bl : Bool} (hf : 0 ≤ f) (hq : 0 ≤ q) : ∀ x ∈ setF page f q bl, 0 ≤ x ∧ x ≤ 255 :=
  swF_mem (swF_mem (swF_mem mem_zero (by decide)) (by unfold setV1; split <;> omega)) (by omega)
def SetP (page f q : Int) (bl : Bool) (w : World) (e : Ending) (w' : World) : Prop :=
  ∃ g b g' R, e = .returned (.tuple #[.pointer (some ⟨g, 0, none⟩), .pointer (some ⟨g', 0, none⟩)]) ∧ Is w' w.heap.size g b 40 (setF page f q bl) 10 ∧ RIs w' w.heap.size g' R 40 (setF page f q bl) 10 ∧ Below w.heap.size w w'
theorem is_blk {w : World} {B g b n : Nat} {F : List Int} {s : Int} (h : Is w B g b n F s) (hn : 0 < n) : ∃ cs, w.heap[b]? = some (.cells cs 113 (0, 0)) := by
  obtain ⟨A, c, cur, _, _, _, _, _, _, _, hr⟩ := h
  exact ⟨cur, (hr hn).2.2.1⟩
theorem ris_blk {w : World} {B g k : Nat} {R : Option Nat} {n : Nat} {F : List Int} {s : Int} (h : RIs w B g R n F s) (hk : R = some k) : ∃ cs, w.heap[k]? = some (.cells cs 9 (0, 0)) := by
  obtain ⟨A, c, _, _, _, _, ho, rfl⟩ := h
  exact (own_lt ho hk).2.2
theorem blk_type {w : World} {a b : Nat} {cs cs' : Array Value} {t t' : TypeId} (h : w.heap[a]? = some (.cells cs t (0, 0))) (h' : w.heap[b]? = some (.cells cs' t' (0, 0))) (hne : t ≠ t') : a ≠ b := by
  intro e
  rw [e, h'] at h
  injection h with h
  injection h with _ h
  exact hne h.symm
theorem RIs.lower {w : World} {B B' g : Nat} {R : Option Nat} {n : Nat} {F : List Int} {s : Int} (h : RIs w B g R n F s) (hB : B' ≤ B) : RIs w B' g R n F s := by
  obtain ⟨A, c, h1, h2, h3, h4, ho, hR⟩ := h
  exact ⟨A, c, h1, Nat.le_trans hB h2, h3, h4, Go.Proofs.YtdpjpmlajjfpgaaW.PrintWords.own_less ho hB, hR⟩
theorem blk_new1 (w : World) (o1 o2 : Obj) : ((w.alloc o1).alloc o2).heap[w.heap.size + 1]? = some o2 := by
  show ((w.alloc o1).heap.push o2)[_]? = _
  rw [Array.getElem?_push, if_pos (by simp)]
/-- Both memories, and the two rows that are read. -/
structure Mr (W0 w : World) (g b : Nat) (F1 : List Int) (g' : Nat) (R : Option Nat) (F2 : List Int) (X Y : Nat) (xs ys : Array Value) : Prop where
  p : Is w W0.heap.size g b 40 F1 10
  r : RIs w W0.heap.size g' R 40 F2 10
  x : w.heap[X]? = some (.cells xs 51 (0, 0))
  y : w.heap[Y]? = some (.cells ys 3 (0, 0))
  bel : Below W0.heap.size W0 w
variable {W0 w w' : World} {g b g' X Y : Nat} {F F1 F2 : List Int} {R : Option Nat} {xs ys : Array Value}
theorem Mr.prog (T : Mr W0 w g b F1 g' R F2 X Y xs ys) (H : Is w' W0.heap.size g b 40 F 10) (hk : Kept w w' (fun j => 0 < 40 ∧ j = b)) : Mr W0 w' g b F g' R F2 X Y xs ys := by
  obtain ⟨cs, hc⟩ := is_blk T.p (by omega)
  exact ⟨H, ris_other T.p T.r hk, hk.blk T.x (fun ⟨_, e⟩ => absurd e (blk_type T.x hc (by decide))), hk.blk T.y (fun ⟨_, e⟩ => absurd e (blk_type T.y hc (by decide))), bel_own T.bel T.p (Nat.le_refl _) hk⟩
theorem Mr.ref (T : Mr W0 w g b F1 g' R F2 X Y xs ys) (H : RIs w' W0.heap.size g' R 40 F 10) (hk : Kept w w' (fun j => R = some j)) : Mr W0 w' g b F1 g' R F X Y xs ys :=
  ⟨is_other T.p T.r hk, H, hk.blk T.x (fun e => by obtain ⟨cs, hc⟩ := ris_blk T.r e; exact absurd rfl (blk_type T.x hc (by decide))), hk.blk T.y (fun e => by obtain ⟨cs, hc⟩ := ris_blk T.r e; exact absurd rfl (blk_type T.y hc (by decide))), bel_rown T.bel T.r (Nat.le_refl _) hk⟩
theorem Mr.below (T : Mr W0 w g b F1 g' R F2 X Y xs ys) (hb : Below w.heap.size w w') : Mr W0 w' g b F1 g' R F2 X Y xs ys :=
  ⟨T.p.below hb, T.r.below hb, blk_below T.x hb, blk_below T.y hb, bel_chain T.bel hb⟩
theorem Mr.drew (T : Mr W0 w g b F1 g' R F2 X Y xs ys) : Mr W0 w.drew g b F1 g' R F2 X Y xs ys := T.below (bel_drew (Below.refl _ _))

set_option maxRecDepth 100000 in
set_option maxHeartbeats 16000000 in
theorem set_false (W : World) (page f q : Int) (hp : 0 ≤ page ∧ page < 4096) (hf : 0 ≤ f ∧ f < 44) (hq : 1 ≤ q ∧ q ≤ 7) : Calls Try.prog 36 #[.int .i64 page, .int .i64 f, .int .i64 q, .bool false] W (SetP page f q false W) := by
  have m0 : mayB 1 1 0 = true := by decide
  have m1 : mayB 1 2 0 = true := by decide
  have m2 : mayB 2 f q = true := by simp [mayB]; omega
  have u1 : 8193 = setV1 f q false := rfl
  have hu51 := Try.underlying51
  obtain ⟨A, hA⟩ : ∃ A, page / 256 = A := ⟨_, rfl⟩
  obtain ⟨B, hB⟩ : ∃ A, page / 16 % 16 = A := ⟨_, rfl⟩
  obtain ⟨C, hC⟩ : ∃ A, page % 16 = A := ⟨_, rfl⟩
  have hpath := fun w => rpath_in w page hp.1 hp.2
  rw [hA, hB, hC] at hpath
  have HG : setF page f q false = setK A B C f q false 3 := by unfold setF; rw [hA, hB, hC]
  have hv1 : 0 ≤ setV1 f q false ∧ setV1 f q false ≤ 18446744073709551615 := by unfold setV1; split <;> omega
  have hv2 : 0 ≤ 2 + 4 * q + 4096 * f ∧ 2 + 4 * q + 4096 * f ≤ 18446744073709551615 := by omega
  have hv0 : (0 : Int) ≤ 4097 ∧ (4097 : Int) ≤ 18446744073709551615 := by omega
  have HGh := Lib.hid HG
  clear hA hB hC hp hf hq HG
  go_enter Try.func36, Try.ntmps36
  go_wp2_with (first
    | (go_at_call 26; (with_reducible refine (new_i W 40 10 40 10 (by decide) (by decide)).mono ?_); rintro e w1 ⟨g, b, rfl, H1, hb1⟩)
    | (go_at_call 27; (with_reducible refine (rnew_c w1 40 10 40 10 (by decide) (by decide)).mono ?_); rintro e w2 ⟨g', R, rfl, R2, hb2⟩; have H2 := H1.below hb2; have hle := hb1.size; have bel2 := bel_chain hb1 hb2; clear hb2 H1)
    | (go_at_call 34; refine (hpath _).mono ?_; rintro e w3 ⟨rfl, hb3⟩; have H3 := H2.below hb3; have R3 := (R2.below hb3).lower hle; have bel3 := bel_chain bel2 hb3; clear hb3 H2 R2 bel2)
    | fail)
  have M0 : Hid (Mr W ((w3.alloc (.cells #[.int .i64 1, .int .i64 1, .int .i64 0, .int .i64 1, .int .i64 2, .int .i64 0, .int .i64 2, .int .i64 f, .int .i64 q] 51)).alloc (.cells #[.int .i64 A, .int .i64 B, .int .i64 C] 3)) g b (setK A B C f q false 0) g' R (setK A B C f q false 0) w3.heap.size (w3.heap.size + 1) #[.int .i64 1, .int .i64 1, .int .i64 0, .int .i64 1, .int .i64 2, .int .i64 0, .int .i64 2, .int .i64 f, .int .i64 q] #[.int .i64 A, .int .i64 B, .int .i64 C]) :=
    Lib.hid ⟨(H3.below (bel_alloc (Below.refl _ _) _)).below (bel_alloc (Below.refl _ _) _), (R3.below (bel_alloc (Below.refl _ _) _)).below (bel_alloc (Below.refl _ _) _), blk_alloc (blk_new _ _) _, blk_new1 _ _ _, bel_alloc (bel_alloc bel3 _) _⟩
  obtain ⟨X, hX⟩ : ∃ X, w3.heap.size = X := ⟨_, rfl⟩
  obtain ⟨Y, hY⟩ : ∃ Y, X + 1 = Y := ⟨_, rfl⟩
  rw [hX, hY] at M0 ⊢
  clear hX hY H3 R3 bel3 hle hb1
  go_loopw [18] (fun i wr => ∃ (k : Nat), k ≤ 3 ∧ i = .int .i64 k ∧ Hid (Mr W wr g b (setK A B C f q false k) g' R (setK A B C f q false k) X Y #[.int .i64 1, .int .i64 1, .int .i64 0, .int .i64 1, .int .i64 2, .int .i64 0, .int .i64 2, .int .i64 f, .int .i64 q] #[.int .i64 A, .int .i64 B, .int .i64 C])) (fun i _ => 3 - (intOf i).toNat)
  case atStart => exact ⟨0, by omega, rfl, M0⟩
  case round =>
    clear M0
    obtain ⟨k, hk, rfl, HM⟩ := hrel
    have hk' : k = 0 ∨ k = 1 ∨ k = 2 ∨ k = 3 := by omega
    rcases hk' with rfl | rfl | rfl | rfl
    · go_wp2
      have T1 := HM.out.drew
      have a1 := (blk_cell T1.y 0).trans (show _ = some (Value.int .i64 A) from rfl)
      have a2 := (blk_cell T1.x 0).trans (show _ = some (Value.int .i64 1) from rfl)
      have a3 := (blk_cell T1.x 1).trans (show _ = some (Value.int .i64 1) from rfl)
      have a4 := (blk_cell T1.x 2).trans (show _ = some (Value.int .i64 0) from rfl)
      go_region_held3 (fun w' => w'.cell? ⟨Y, 0, none⟩ = some (.int .i64 A) ∧ w'.cell? ⟨X, 0, none⟩ = some (.int .i64 1) ∧ w'.cell? ⟨X, 1, none⟩ = some (.int .i64 1) ∧ w'.cell? ⟨X, 2, none⟩ = some (.int .i64 0)) (first | exact ⟨a1, a2, a3, a4⟩ | exact ⟨b1, b2, b3, b4⟩ | exact ⟨c1, c2, c3, c4⟩ | exact ⟨d1, d2, d3, d4⟩ | exact ⟨e1, e2, e3, e4⟩ | exact ⟨h1, h2, h3, h4⟩) (first | (go_at_call 28; refine (slot_any _ 1 1 0 4097 m0 (by decide)).mono ?_; rintro e w4 ⟨rfl, hb4⟩; have T4 := T1.below hb4; have b1 := (blk_cell T4.y 0).trans (show _ = some (Value.int .i64 A) from rfl); have b2 := (blk_cell T4.x 0).trans (show _ = some (Value.int .i64 1) from rfl); have b3 := (blk_cell T4.x 1).trans (show _ = some (Value.int .i64 1) from rfl); have b4 := (blk_cell T4.x 2).trans (show _ = some (Value.int .i64 0) from rfl)) | (go_at_call 29; refine (setWord_any T4.p true 0 A 4097 hv0).mono ?_; rintro e w5 ⟨rfl, H5, k5⟩; have T5 := T4.prog H5 k5; have c1 := (blk_cell T5.y 0).trans (show _ = some (Value.int .i64 A) from rfl); have c2 := (blk_cell T5.x 0).trans (show _ = some (Value.int .i64 1) from rfl); have c3 := (blk_cell T5.x 1).trans (show _ = some (Value.int .i64 1) from rfl); have c4 := (blk_cell T5.x 2).trans (show _ = some (Value.int .i64 0) from rfl)))
      have HT5 := Lib.hid T5
      clear T1 T4 T5 H5 k5 hb4 a1 a2 a3 a4 b1 b2 b3 b4 c1 c2 c3 c4
      go_wp2
      have T6 := HT5.out.drew
      have a1 := (blk_cell T6.y 0).trans (show _ = some (Value.int .i64 A) from rfl)
      have a2 := (blk_cell T6.x 0).trans (show _ = some (Value.int .i64 1) from rfl)
      have a3 := (blk_cell T6.x 1).trans (show _ = some (Value.int .i64 1) from rfl)
      have a4 := (blk_cell T6.x 2).trans (show _ = some (Value.int .i64 0) from rfl)
      go_region_held3 (fun w' => w'.cell? ⟨Y, 0, none⟩ = some (.int .i64 A) ∧ w'.cell? ⟨X, 0, none⟩ = some (.int .i64 1) ∧ w'.cell? ⟨X, 1, none⟩ = some (.int .i64 1) ∧ w'.cell? ⟨X, 2, none⟩ = some (.int .i64 0)) (first | exact ⟨a1, a2, a3, a4⟩ | exact ⟨b1, b2, b3, b4⟩ | exact ⟨c1, c2, c3, c4⟩ | exact ⟨d1, d2, d3, d4⟩ | exact ⟨e1, e2, e3, e4⟩ | exact ⟨h1, h2, h3, h4⟩) (first | (go_at_call 28; refine (slot_any _ 1 1 0 4097 m0 (by decide)).mono ?_; rintro e w7 ⟨rfl, hb7⟩; have T7 := T6.below hb7; have b1 := (blk_cell T7.y 0).trans (show _ = some (Value.int .i64 A) from rfl); have b2 := (blk_cell T7.x 0).trans (show _ = some (Value.int .i64 1) from rfl); have b3 := (blk_cell T7.x 1).trans (show _ = some (Value.int .i64 1) from rfl); have b4 := (blk_cell T7.x 2).trans (show _ = some (Value.int .i64 0) from rfl)) | (go_at_call 30; refine (rsetWord_any T7.r true 0 A 4097 hv0).mono ?_; rintro e w8 ⟨rfl, H8, k8⟩; have T8 := T7.ref H8 k8; have c1 := (blk_cell T8.y 0).trans (show _ = some (Value.int .i64 A) from rfl); have c2 := (blk_cell T8.x 0).trans (show _ = some (Value.int .i64 1) from rfl); have c3 := (blk_cell T8.x 1).trans (show _ = some (Value.int .i64 1) from rfl); have c4 := (blk_cell T8.x 2).trans (show _ = some (Value.int .i64 0) from rfl)))
      have HT8 := Lib.hid T8
      clear T6 T7 T8 H8 k8 hb7 a1 a2 a3 a4 b1 b2 b3 b4 c1 c2 c3 c4
      go_wp2
      go_roundw
      case rel => exact ⟨1, by omega, by go_num, Lib.hid HT8.out⟩
      case measure => simp [intOf]
    · go_wp2
      have T1 := HM.out.drew
      have a1 := (blk_cell T1.y 1).trans (show _ = some (Value.int .i64 B) from rfl)
      have a2 := (blk_cell T1.x 3).trans (show _ = some (Value.int .i64 1) from rfl)
      have a3 := (blk_cell T1.x 4).trans (show _ = some (Value.int .i64 2) from rfl)
      have a4 := (blk_cell T1.x 5).trans (show _ = some (Value.int .i64 0) from rfl)
      go_region_held3 (fun w' => w'.cell? ⟨Y, 1, none⟩ = some (.int .i64 B) ∧ w'.cell? ⟨X, 3, none⟩ = some (.int .i64 1) ∧ w'.cell? ⟨X, 4, none⟩ = some (.int .i64 2) ∧ w'.cell? ⟨X, 5, none⟩ = some (.int .i64 0)) (first | exact ⟨a1, a2, a3, a4⟩ | exact ⟨b1, b2, b3, b4⟩ | exact ⟨c1, c2, c3, c4⟩ | exact ⟨d1, d2, d3, d4⟩ | exact ⟨e1, e2, e3, e4⟩ | exact ⟨h1, h2, h3, h4⟩) (first | (go_at_call 28; refine (slot_any _ 1 2 0 (setV1 f q false) m1 (by rw [← u1] <;> omega)).mono ?_; rintro e w4 ⟨rfl, hb4⟩; have T4 := T1.below hb4; have b1 := (blk_cell T4.y 1).trans (show _ = some (Value.int .i64 B) from rfl); have b2 := (blk_cell T4.x 3).trans (show _ = some (Value.int .i64 1) from rfl); have b3 := (blk_cell T4.x 4).trans (show _ = some (Value.int .i64 2) from rfl); have b4 := (blk_cell T4.x 5).trans (show _ = some (Value.int .i64 0) from rfl)) | (go_at_call 29; refine (setWord_any T4.p true 1 B (setV1 f q false) hv1).mono ?_; rintro e w5 ⟨rfl, H5, k5⟩; have T5 := T4.prog H5 k5; have c1 := (blk_cell T5.y 1).trans (show _ = some (Value.int .i64 B) from rfl); have c2 := (blk_cell T5.x 3).trans (show _ = some (Value.int .i64 1) from rfl); have c3 := (blk_cell T5.x 4).trans (show _ = some (Value.int .i64 2) from rfl); have c4 := (blk_cell T5.x 5).trans (show _ = some (Value.int .i64 0) from rfl)))
      have HT5 := Lib.hid T5
      clear T1 T4 T5 H5 k5 hb4 a1 a2 a3 a4 b1 b2 b3 b4 c1 c2 c3 c4
      go_wp2
      have T6 := HT5.out.drew
      have a1 := (blk_cell T6.y 1).trans (show _ = some (Value.int .i64 B) from rfl)
      have a2 := (blk_cell T6.x 3).trans (show _ = some (Value.int .i64 1) from rfl)
      have a3 := (blk_cell T6.x 4).trans (show _ = some (Value.int .i64 2) from rfl)
      have a4 := (blk_cell T6.x 5).trans (show _ = some (Value.int .i64 0) from rfl)
      go_region_held3 (fun w' => w'.cell? ⟨Y, 1, none⟩ = some (.int .i64 B) ∧ w'.cell? ⟨X, 3, none⟩ = some (.int .i64 1) ∧ w'.cell? ⟨X, 4, none⟩ = some (.int .i64 2) ∧ w'.cell? ⟨X, 5, none⟩ = some (.int .i64 0)) (first | exact ⟨a1, a2, a3, a4⟩ | exact ⟨b1, b2, b3, b4⟩ | exact ⟨c1, c2, c3, c4⟩ | exact ⟨d1, d2, d3, d4⟩ | exact ⟨e1, e2, e3, e4⟩ | exact ⟨h1, h2, h3, h4⟩) (first | (go_at_call 28; refine (slot_any _ 1 2 0 (setV1 f q false) m1 (by rw [← u1] <;> omega)).mono ?_; rintro e w7 ⟨rfl, hb7⟩; have T7 := T6.below hb7; have b1 := (blk_cell T7.y 1).trans (show _ = some (Value.int .i64 B) from rfl); have b2 := (blk_cell T7.x 3).trans (show _ = some (Value.int .i64 1) from rfl); have b3 := (blk_cell T7.x 4).trans (show _ = some (Value.int .i64 2) from rfl); have b4 := (blk_cell T7.x 5).trans (show _ = some (Value.int .i64 0) from rfl)) | (go_at_call 30; refine (rsetWord_any T7.r true 1 B (setV1 f q false) hv1).mono ?_; rintro e w8 ⟨rfl, H8, k8⟩; have T8 := T7.ref H8 k8; have c1 := (blk_cell T8.y 1).trans (show _ = some (Value.int .i64 B) from rfl); have c2 := (blk_cell T8.x 3).trans (show _ = some (Value.int .i64 1) from rfl); have c3 := (blk_cell T8.x 4).trans (show _ = some (Value.int .i64 2) from rfl); have c4 := (blk_cell T8.x 5).trans (show _ = some (Value.int .i64 0) from rfl)))
      have HT8 := Lib.hid T8
      clear T6 T7 T8 H8 k8 hb7 a1 a2 a3 a4 b1 b2 b3 b4 c1 c2 c3 c4
      go_wp2
      go_roundw
      case rel => exact ⟨2, by omega, by go_num, Lib.hid HT8.out⟩
      case measure => simp [intOf]
    · go_wp2
      have T1 := HM.out.drew
      have a1 := (blk_cell T1.y 2).trans (show _ = some (Value.int .i64 C) from rfl)
      have a2 := (blk_cell T1.x 6).trans (show _ = some (Value.int .i64 2) from rfl)
      have a3 := (blk_cell T1.x 7).trans (show _ = some (Value.int .i64 f) from rfl)
      have a4 := (blk_cell T1.x 8).trans (show _ = some (Value.int .i64 q) from rfl)
      go_region_held3 (fun w' => w'.cell? ⟨Y, 2, none⟩ = some (.int .i64 C) ∧ w'.cell? ⟨X, 6, none⟩ = some (.int .i64 2) ∧ w'.cell? ⟨X, 7, none⟩ = some (.int .i64 f) ∧ w'.cell? ⟨X, 8, none⟩ = some (.int .i64 q)) (first | exact ⟨a1, a2, a3, a4⟩ | exact ⟨b1, b2, b3, b4⟩ | exact ⟨c1, c2, c3, c4⟩ | exact ⟨d1, d2, d3, d4⟩ | exact ⟨e1, e2, e3, e4⟩ | exact ⟨h1, h2, h3, h4⟩) (first | (go_at_call 28; refine (slot_any _ 2 f q (2 + 4 * q + 4096 * f) m2 (by omega)).mono ?_; rintro e w4 ⟨rfl, hb4⟩; have T4 := T1.below hb4; have b1 := (blk_cell T4.y 2).trans (show _ = some (Value.int .i64 C) from rfl); have b2 := (blk_cell T4.x 6).trans (show _ = some (Value.int .i64 2) from rfl); have b3 := (blk_cell T4.x 7).trans (show _ = some (Value.int .i64 f) from rfl); have b4 := (blk_cell T4.x 8).trans (show _ = some (Value.int .i64 q) from rfl)) | (go_at_call 29; refine (setWord_any T4.p true 2 C (2 + 4 * q + 4096 * f) hv2).mono ?_; rintro e w5 ⟨rfl, H5, k5⟩; have T5 := T4.prog H5 k5; have c1 := (blk_cell T5.y 2).trans (show _ = some (Value.int .i64 C) from rfl); have c2 := (blk_cell T5.x 6).trans (show _ = some (Value.int .i64 2) from rfl); have c3 := (blk_cell T5.x 7).trans (show _ = some (Value.int .i64 f) from rfl); have c4 := (blk_cell T5.x 8).trans (show _ = some (Value.int .i64 q) from rfl)))
      have HT5 := Lib.hid T5
      clear T1 T4 T5 H5 k5 hb4 a1 a2 a3 a4 b1 b2 b3 b4 c1 c2 c3 c4
      go_wp2
      have T6 := HT5.out.drew
      have a1 := (blk_cell T6.y 2).trans (show _ = some (Value.int .i64 C) from rfl)
      have a2 := (blk_cell T6.x 6).trans (show _ = some (Value.int .i64 2) from rfl)
      have a3 := (blk_cell T6.x 7).trans (show _ = some (Value.int .i64 f) from rfl)
      have a4 := (blk_cell T6.x 8).trans (show _ = some (Value.int .i64 q) from rfl)
      go_region_held3 (fun w' => w'.cell? ⟨Y, 2, none⟩ = some (.int .i64 C) ∧ w'.cell? ⟨X, 6, none⟩ = some (.int .i64 2) ∧ w'.cell? ⟨X, 7, none⟩ = some (.int .i64 f) ∧ w'.cell? ⟨X, 8, none⟩ = some (.int .i64 q)) (first | exact ⟨a1, a2, a3, a4⟩ | exact ⟨b1, b2, b3, b4⟩ | exact ⟨c1, c2, c3, c4⟩ | exact ⟨d1, d2, d3, d4⟩ | exact ⟨e1, e2, e3, e4⟩ | exact ⟨h1, h2, h3, h4⟩) (first | (go_at_call 28; refine (slot_any _ 2 f q (2 + 4 * q + 4096 * f) m2 (by omega)).mono ?_; rintro e w7 ⟨rfl, hb7⟩; have T7 := T6.below hb7; have b1 := (blk_cell T7.y 2).trans (show _ = some (Value.int .i64 C) from rfl); have b2 := (blk_cell T7.x 6).trans (show _ = some (Value.int .i64 2) from rfl); have b3 := (blk_cell T7.x 7).trans (show _ = some (Value.int .i64 f) from rfl); have b4 := (blk_cell T7.x 8).trans (show _ = some (Value.int .i64 q) from rfl)) | (go_at_call 30; refine (rsetWord_any T7.r true 2 C (2 + 4 * q + 4096 * f) hv2).mono ?_; rintro e w8 ⟨rfl, H8, k8⟩; have T8 := T7.ref H8 k8; have c1 := (blk_cell T8.y 2).trans (show _ = some (Value.int .i64 C) from rfl); have c2 := (blk_cell T8.x 6).trans (show _ = some (Value.int .i64 2) from rfl); have c3 := (blk_cell T8.x 7).trans (show _ = some (Value.int .i64 f) from rfl); have c4 := (blk_cell T8.x 8).trans (show _ = some (Value.int .i64 q) from rfl)))
      have HT8 := Lib.hid T8
      clear T6 T7 T8 H8 k8 hb7 a1 a2 a3 a4 b1 b2 b3 b4 c1 c2 c3 c4
      go_wp2
      go_roundw
      case rel => exact ⟨3, by omega, by go_num, Lib.hid HT8.out⟩
      case measure => simp [intOf]
    · have hG := HGh.out
      go_wp2
      go_ret2
      exact ⟨g, b, g', R, rfl, by rw [hG]; exact HM.out.p, by rw [hG]; exact HM.out.r, HM.out.bel⟩
set_option maxRecDepth 100000 in
set_option maxHeartbeats 16000000 in
theorem set_true (W : World) (page f q : Int) (hp : 0 ≤ page ∧ page < 4096) (hf : 0 ≤ f ∧ f < 44) (hq : 1 ≤ q ∧ q ≤ 7) : Calls Try.prog 36 #[.int .i64 page, .int .i64 f, .int .i64 q, .bool true] W (SetP page f q true W) := by
  have m0 : mayB 1 1 0 = true := by decide
  have m1 : mayB 3 f q = true := by simp [mayB]; omega
  have m2 : mayB 2 f q = true := by simp [mayB]; omega
  have u1 : 3 + 4 * q + 4096 * f = setV1 f q true := rfl
  have hu51 := Try.underlying51
  obtain ⟨A, hA⟩ : ∃ A, page / 256 = A := ⟨_, rfl⟩
  obtain ⟨B, hB⟩ : ∃ A, page / 16 % 16 = A := ⟨_, rfl⟩
  obtain ⟨C, hC⟩ : ∃ A, page % 16 = A := ⟨_, rfl⟩
  have hpath := fun w => rpath_in w page hp.1 hp.2
  rw [hA, hB, hC] at hpath
  have HG : setF page f q true = setK A B C f q true 3 := by unfold setF; rw [hA, hB, hC]
  have hv1 : 0 ≤ setV1 f q true ∧ setV1 f q true ≤ 18446744073709551615 := by unfold setV1; split <;> omega
  have hv2 : 0 ≤ 2 + 4 * q + 4096 * f ∧ 2 + 4 * q + 4096 * f ≤ 18446744073709551615 := by omega
  have hv0 : (0 : Int) ≤ 4097 ∧ (4097 : Int) ≤ 18446744073709551615 := by omega
  have HGh := Lib.hid HG
  clear hA hB hC hp hf hq HG
  go_enter Try.func36, Try.ntmps36
  go_wp2_with (first
    | (go_at_call 26; (with_reducible refine (new_i W 40 10 40 10 (by decide) (by decide)).mono ?_); rintro e w1 ⟨g, b, rfl, H1, hb1⟩)
    | (go_at_call 27; (with_reducible refine (rnew_c w1 40 10 40 10 (by decide) (by decide)).mono ?_); rintro e w2 ⟨g', R, rfl, R2, hb2⟩; have H2 := H1.below hb2; have hle := hb1.size; have bel2 := bel_chain hb1 hb2; clear hb2 H1)
    | (go_at_call 34; refine (hpath _).mono ?_; rintro e w3 ⟨rfl, hb3⟩; have H3 := H2.below hb3; have R3 := (R2.below hb3).lower hle; have bel3 := bel_chain bel2 hb3; clear hb3 H2 R2 bel2)
    | fail)
  have M0 : Hid (Mr W ((w3.alloc (.cells #[.int .i64 1, .int .i64 1, .int .i64 0, .int .i64 3, .int .i64 f, .int .i64 q, .int .i64 2, .int .i64 f, .int .i64 q] 51)).alloc (.cells #[.int .i64 A, .int .i64 B, .int .i64 C] 3)) g b (setK A B C f q true 0) g' R (setK A B C f q true 0) w3.heap.size (w3.heap.size + 1) #[.int .i64 1, .int .i64 1, .int .i64 0, .int .i64 3, .int .i64 f, .int .i64 q, .int .i64 2, .int .i64 f, .int .i64 q] #[.int .i64 A, .int .i64 B, .int .i64 C]) :=
    Lib.hid ⟨(H3.below (bel_alloc (Below.refl _ _) _)).below (bel_alloc (Below.refl _ _) _), (R3.below (bel_alloc (Below.refl _ _) _)).below (bel_alloc (Below.refl _ _) _), blk_alloc (blk_new _ _) _, blk_new1 _ _ _, bel_alloc (bel_alloc bel3 _) _⟩
  obtain ⟨X, hX⟩ : ∃ X, w3.heap.size = X := ⟨_, rfl⟩
  obtain ⟨Y, hY⟩ : ∃ Y, X + 1 = Y := ⟨_, rfl⟩
  rw [hX, hY] at M0 ⊢
  clear hX hY H3 R3 bel3 hle hb1
  go_loopw [18] (fun i wr => ∃ (k : Nat), k ≤ 3 ∧ i = .int .i64 k ∧ Hid (Mr W wr g b (setK A B C f q true k) g' R (setK A B C f q true k) X Y #[.int .i64 1, .int .i64 1, .int .i64 0, .int .i64 3, .int .i64 f, .int .i64 q, .int .i64 2, .int .i64 f, .int .i64 q] #[.int .i64 A, .int .i64 B, .int .i64 C])) (fun i _ => 3 - (intOf i).toNat)
  case atStart => exact ⟨0, by omega, rfl, M0⟩
  case round =>
    clear M0
    obtain ⟨k, hk, rfl, HM⟩ := hrel
    have hk' : k = 0 ∨ k = 1 ∨ k = 2 ∨ k = 3 := by omega
    rcases hk' with rfl | rfl | rfl | rfl
    · go_wp2
      have T1 := HM.out.drew
      have a1 := (blk_cell T1.y 0).trans (show _ = some (Value.int .i64 A) from rfl)
      have a2 := (blk_cell T1.x 0).trans (show _ = some (Value.int .i64 1) from rfl)
      have a3 := (blk_cell T1.x 1).trans (show _ = some (Value.int .i64 1) from rfl)
      have a4 := (blk_cell T1.x 2).trans (show _ = some (Value.int .i64 0) from rfl)
      go_region_held3 (fun w' => w'.cell? ⟨Y, 0, none⟩ = some (.int .i64 A) ∧ w'.cell? ⟨X, 0, none⟩ = some (.int .i64 1) ∧ w'.cell? ⟨X, 1, none⟩ = some (.int .i64 1) ∧ w'.cell? ⟨X, 2, none⟩ = some (.int .i64 0)) (first | exact ⟨a1, a2, a3, a4⟩ | exact ⟨b1, b2, b3, b4⟩ | exact ⟨c1, c2, c3, c4⟩ | exact ⟨d1, d2, d3, d4⟩ | exact ⟨e1, e2, e3, e4⟩ | exact ⟨h1, h2, h3, h4⟩) (first | (go_at_call 28; refine (slot_any _ 1 1 0 4097 m0 (by decide)).mono ?_; rintro e w4 ⟨rfl, hb4⟩; have T4 := T1.below hb4; have b1 := (blk_cell T4.y 0).trans (show _ = some (Value.int .i64 A) from rfl); have b2 := (blk_cell T4.x 0).trans (show _ = some (Value.int .i64 1) from rfl); have b3 := (blk_cell T4.x 1).trans (show _ = some (Value.int .i64 1) from rfl); have b4 := (blk_cell T4.x 2).trans (show _ = some (Value.int .i64 0) from rfl)) | (go_at_call 29; refine (setWord_any T4.p true 0 A 4097 hv0).mono ?_; rintro e w5 ⟨rfl, H5, k5⟩; have T5 := T4.prog H5 k5; have c1 := (blk_cell T5.y 0).trans (show _ = some (Value.int .i64 A) from rfl); have c2 := (blk_cell T5.x 0).trans (show _ = some (Value.int .i64 1) from rfl); have c3 := (blk_cell T5.x 1).trans (show _ = some (Value.int .i64 1) from rfl); have c4 := (blk_cell T5.x 2).trans (show _ = some (Value.int .i64 0) from rfl)))
      have HT5 := Lib.hid T5
      clear T1 T4 T5 H5 k5 hb4 a1 a2 a3 a4 b1 b2 b3 b4 c1 c2 c3 c4
      go_wp2
      have T6 := HT5.out.drew
      have a1 := (blk_cell T6.y 0).trans (show _ = some (Value.int .i64 A) from rfl)
      have a2 := (blk_cell T6.x 0).trans (show _ = some (Value.int .i64 1) from rfl)
      have a3 := (blk_cell T6.x 1).trans (show _ = some (Value.int .i64 1) from rfl)
      have a4 := (blk_cell T6.x 2).trans (show _ = some (Value.int .i64 0) from rfl)
      go_region_held3 (fun w' => w'.cell? ⟨Y, 0, none⟩ = some (.int .i64 A) ∧ w'.cell? ⟨X, 0, none⟩ = some (.int .i64 1) ∧ w'.cell? ⟨X, 1, none⟩ = some (.int .i64 1) ∧ w'.cell? ⟨X, 2, none⟩ = some (.int .i64 0)) (first | exact ⟨a1, a2, a3, a4⟩ | exact ⟨b1, b2, b3, b4⟩ | exact ⟨c1, c2, c3, c4⟩ | exact ⟨d1, d2, d3, d4⟩ | exact ⟨e1, e2, e3, e4⟩ | exact ⟨h1, h2, h3, h4⟩) (first | (go_at_call 28; refine (slot_any _ 1 1 0 4097 m0 (by decide)).mono ?_; rintro e w7 ⟨rfl, hb7⟩; have T7 := T6.below hb7; have b1 := (blk_cell T7.y 0).trans (show _ = some (Value.int .i64 A) from rfl); have b2 := (blk_cell T7.x 0).trans (show _ = some (Value.int .i64 1) from rfl); have b3 := (blk_cell T7.x 1).trans (show _ = some (Value.int .i64 1) from rfl); have b4 := (blk_cell T7.x 2).trans (show _ = some (Value.int .i64 0) from rfl)) | (go_at_call 30; refine (rsetWord_any T7.r true 0 A 4097 hv0).mono ?_; rintro e w8 ⟨rfl, H8, k8⟩; have T8 := T7.ref H8 k8; have c1 := (blk_cell T8.y 0).trans (show _ = some (Value.int .i64 A) from rfl); have c2 := (blk_cell T8.x 0).trans (show _ = some (Value.int .i64 1) from rfl); have c3 := (blk_cell T8.x 1).trans (show _ = some (Value.int .i64 1) from rfl); have c4 := (blk_cell T8.x 2).trans (show _ = some (Value.int .i64 0) from rfl)))
      have HT8 := Lib.hid T8
      clear T6 T7 T8 H8 k8 hb7 a1 a2 a3 a4 b1 b2 b3 b4 c1 c2 c3 c4
      go_wp2
      go_roundw
      case rel => exact ⟨1, by omega, by go_num, Lib.hid HT8.out⟩
      case measure => simp [intOf]
    · go_wp2
      have T1 := HM.out.drew
      have a1 := (blk_cell T1.y 1).trans (show _ = some (Value.int .i64 B) from rfl)
      have a2 := (blk_cell T1.x 3).trans (show _ = some (Value.int .i64 3) from rfl)
      have a3 := (blk_cell T1.x 4).trans (show _ = some (Value.int .i64 f) from rfl)
      have a4 := (blk_cell T1.x 5).trans (show _ = some (Value.int .i64 q) from rfl)
      go_region_held3 (fun w' => w'.cell? ⟨Y, 1, none⟩ = some (.int .i64 B) ∧ w'.cell? ⟨X, 3, none⟩ = some (.int .i64 3) ∧ w'.cell? ⟨X, 4, none⟩ = some (.int .i64 f) ∧ w'.cell? ⟨X, 5, none⟩ = some (.int .i64 q)) (first | exact ⟨a1, a2, a3, a4⟩ | exact ⟨b1, b2, b3, b4⟩ | exact ⟨c1, c2, c3, c4⟩ | exact ⟨d1, d2, d3, d4⟩ | exact ⟨e1, e2, e3, e4⟩ | exact ⟨h1, h2, h3, h4⟩) (first | (go_at_call 28; refine (slot_any _ 3 f q (setV1 f q true) m1 (by rw [← u1] <;> omega)).mono ?_; rintro e w4 ⟨rfl, hb4⟩; have T4 := T1.below hb4; have b1 := (blk_cell T4.y 1).trans (show _ = some (Value.int .i64 B) from rfl); have b2 := (blk_cell T4.x 3).trans (show _ = some (Value.int .i64 3) from rfl); have b3 := (blk_cell T4.x 4).trans (show _ = some (Value.int .i64 f) from rfl); have b4 := (blk_cell T4.x 5).trans (show _ = some (Value.int .i64 q) from rfl)) | (go_at_call 29; refine (setWord_any T4.p true 1 B (setV1 f q true) hv1).mono ?_; rintro e w5 ⟨rfl, H5, k5⟩; have T5 := T4.prog H5 k5; have c1 := (blk_cell T5.y 1).trans (show _ = some (Value.int .i64 B) from rfl); have c2 := (blk_cell T5.x 3).trans (show _ = some (Value.int .i64 3) from rfl); have c3 := (blk_cell T5.x 4).trans (show _ = some (Value.int .i64 f) from rfl); have c4 := (blk_cell T5.x 5).trans (show _ = some (Value.int .i64 q) from rfl)))
      have HT5 := Lib.hid T5
      clear T1 T4 T5 H5 k5 hb4 a1 a2 a3 a4 b1 b2 b3 b4 c1 c2 c3 c4
      go_wp2
      have T6 := HT5.out.drew
      have a1 := (blk_cell T6.y 1).trans (show _ = some (Value.int .i64 B) from rfl)
      have a2 := (blk_cell T6.x 3).trans (show _ = some (Value.int .i64 3) from rfl)
      have a3 := (blk_cell T6.x 4).trans (show _ = some (Value.int .i64 f) from rfl)
      have a4 := (blk_cell T6.x 5).trans (show _ = some (Value.int .i64 q) from rfl)
      go_region_held3 (fun w' => w'.cell? ⟨Y, 1, none⟩ = some (.int .i64 B) ∧ w'.cell? ⟨X, 3, none⟩ = some (.int .i64 3) ∧ w'.cell? ⟨X, 4, none⟩ = some (.int .i64 f) ∧ w'.cell? ⟨X, 5, none⟩ = some (.int .i64 q)) (first | exact ⟨a1, a2, a3, a4⟩ | exact ⟨b1, b2, b3, b4⟩ | exact ⟨c1, c2, c3, c4⟩ | exact ⟨d1, d2, d3, d4⟩ | exact ⟨e1, e2, e3, e4⟩ | exact ⟨h1, h2, h3, h4⟩) (first | (go_at_call 28; refine (slot_any _ 3 f q (setV1 f q true) m1 (by rw [← u1] <;> omega)).mono ?_; rintro e w7 ⟨rfl, hb7⟩; have T7 := T6.below hb7; have b1 := (blk_cell T7.y 1).trans (show _ = some (Value.int .i64 B) from rfl); have b2 := (blk_cell T7.x 3).trans (show _ = some (Value.int .i64 3) from rfl); have b3 := (blk_cell T7.x 4).trans (show _ = some (Value.int .i64 f) from rfl); have b4 := (blk_cell T7.x 5).trans (show _ = some (Value.int .i64 q) from rfl)) | (go_at_call 30; refine (rsetWord_any T7.r true 1 B (setV1 f q true) hv1).mono ?_; rintro e w8 ⟨rfl, H8, k8⟩; have T8 := T7.ref H8 k8; have c1 := (blk_cell T8.y 1).trans (show _ = some (Value.int .i64 B) from rfl); have c2 := (blk_cell T8.x 3).trans (show _ = some (Value.int .i64 3) from rfl); have c3 := (blk_cell T8.x 4).trans (show _ = some (Value.int .i64 f) from rfl); have c4 := (blk_cell T8.x 5).trans (show _ = some (Value.int .i64 q) from rfl)))
      have HT8 := Lib.hid T8
      clear T6 T7 T8 H8 k8 hb7 a1 a2 a3 a4 b1 b2 b3 b4 c1 c2 c3 c4
      go_wp2
      go_roundw
      case rel => exact ⟨2, by omega, by go_num, Lib.hid HT8.out⟩
      case measure => simp [intOf]
    · go_wp2
      have T1 := HM.out.drew
      have a1 := (blk_cell T1.y 2).trans (show _ = some (Value.int .i64 C) from rfl)
      have a2 := (blk_cell T1.x 6).trans (show _ = some (Value.int .i64 2) from rfl)
      have a3 := (blk_cell T1.x 7).trans (show _ = some (Value.int .i64 f) from rfl)
      have a4 := (blk_cell T1.x 8).trans (show _ = some (Value.int .i64 q) from rfl)
      go_region_held3 (fun w' => w'.cell? ⟨Y, 2, none⟩ = some (.int .i64 C) ∧ w'.cell? ⟨X, 6, none⟩ = some (.int .i64 2) ∧ w'.cell? ⟨X, 7, none⟩ = some (.int .i64 f) ∧ w'.cell? ⟨X, 8, none⟩ = some (.int .i64 q)) (first | exact ⟨a1, a2, a3, a4⟩ | exact ⟨b1, b2, b3, b4⟩ | exact ⟨c1, c2, c3, c4⟩ | exact ⟨d1, d2, d3, d4⟩ | exact ⟨e1, e2, e3, e4⟩ | exact ⟨h1, h2, h3, h4⟩) (first | (go_at_call 28; refine (slot_any _ 2 f q (2 + 4 * q + 4096 * f) m2 (by omega)).mono ?_; rintro e w4 ⟨rfl, hb4⟩; have T4 := T1.below hb4; have b1 := (blk_cell T4.y 2).trans (show _ = some (Value.int .i64 C) from rfl); have b2 := (blk_cell T4.x 6).trans (show _ = some (Value.int .i64 2) from rfl); have b3 := (blk_cell T4.x 7).trans (show _ = some (Value.int .i64 f) from rfl); have b4 := (blk_cell T4.x 8).trans (show _ = some (Value.int .i64 q) from rfl)) | (go_at_call 29; refine (setWord_any T4.p true 2 C (2 + 4 * q + 4096 * f) hv2).mono ?_; rintro e w5 ⟨rfl, H5, k5⟩; have T5 := T4.prog H5 k5; have c1 := (blk_cell T5.y 2).trans (show _ = some (Value.int .i64 C) from rfl); have c2 := (blk_cell T5.x 6).trans (show _ = some (Value.int .i64 2) from rfl); have c3 := (blk_cell T5.x 7).trans (show _ = some (Value.int .i64 f) from rfl); have c4 := (blk_cell T5.x 8).trans (show _ = some (Value.int .i64 q) from rfl)))
      have HT5 := Lib.hid T5
      clear T1 T4 T5 H5 k5 hb4 a1 a2 a3 a4 b1 b2 b3 b4 c1 c2 c3 c4
      go_wp2
      have T6 := HT5.out.drew
      have a1 := (blk_cell T6.y 2).trans (show _ = some (Value.int .i64 C) from rfl)
      have a2 := (blk_cell T6.x 6).trans (show _ = some (Value.int .i64 2) from rfl)
      have a3 := (blk_cell T6.x 7).trans (show _ = some (Value.int .i64 f) from rfl)
      have a4 := (blk_cell T6.x 8).trans (show _ = some (Value.int .i64 q) from rfl)
      go_region_held3 (fun w' => w'.cell? ⟨Y, 2, none⟩ = some (.int .i64 C) ∧ w'.cell? ⟨X, 6, none⟩ = some (.int .i64 2) ∧ w'.cell? ⟨X, 7, none⟩ = some (.int .i64 f) ∧ w'.cell? ⟨X, 8, none⟩ = some (.int .i64 q)) (first | exact ⟨a1, a2, a3, a4⟩ | exact ⟨b1, b2, b3, b4⟩ | exact ⟨c1, c2, c3, c4⟩ | exact ⟨d1, d2, d3, d4⟩ | exact ⟨e1, e2, e3, e4⟩ | exact ⟨h1, h2, h3, h4⟩) (first | (go_at_call 28; refine (slot_any _ 2 f q (2 + 4 * q + 4096 * f) m2 (by omega)).mono ?_; rintro e w7 ⟨rfl, hb7⟩; have T7 := T6.below hb7; have b1 := (blk_cell T7.y 2).trans (show _ = some (Value.int .i64 C) from rfl); have b2 := (blk_cell T7.x 6).trans (show _ = some (Value.int .i64 2) from rfl); have b3 := (blk_cell T7.x 7).trans (show _ = some (Value.int .i64 f) from rfl); have b4 := (blk_cell T7.x 8).trans (show _ = some (Value.int .i64 q) from rfl)) | (go_at_call 30; refine (rsetWord_any T7.r true 2 C (2 + 4 * q + 4096 * f) hv2).mono ?_; rintro e w8 ⟨rfl, H8, k8⟩; have T8 := T7.ref H8 k8; have c1 := (blk_cell T8.y 2).trans (show _ = some (Value.int .i64 C) from rfl); have c2 := (blk_cell T8.x 6).trans (show _ = some (Value.int .i64 2) from rfl); have c3 := (blk_cell T8.x 7).trans (show _ = some (Value.int .i64 f) from rfl); have c4 := (blk_cell T8.x 8).trans (show _ = some (Value.int .i64 q) from rfl)))
      have HT8 := Lib.hid T8
      clear T6 T7 T8 H8 k8 hb7 a1 a2 a3 a4 b1 b2 b3 b4 c1 c2 c3 c4
      go_wp2
      go_roundw
      case rel => exact ⟨3, by omega, by go_num, Lib.hid HT8.out⟩
      case measure => simp [intOf]
    · have hG := HGh.out
      go_wp2
      go_ret2
      exact ⟨g, b, g', R, rfl, by rw [hG]; exact HM.out.p, by rw [hG]; exact HM.out.r, HM.out.bel⟩
end Go.Proofs.Ytdpjpmlajjfpgaa.Ram
/- What is loaded and stored, where, and what is a fault: one contract each, with a device or none. -/
namespace Go.Proofs.Ytdpjpmlajjfpgaa.Ram
open Go.RowKit Go.Proofs.Ytdpjpmlajjfpgaa.Mem Go.Proofs.Ytdpjpmlajjfpgaa.Kept Go.Proofs.Ytdpjpmlajjfpgaa.Slo Go.Proofs.Ytdpjpmlajjfpgaa.Bits
open Go.Proofs.Ytdpjpmlajjfpgaa.PWalkAll
open Go.Proofs.YtdpjpmlajjfpgaaW.PrintWords (nums ReadsInt results_ct results_ctt gate_dst box_event)
set_option linter.unusedVariables false
set_option linter.unusedSimpArgs false
theorem lf_in {n : Nat} {f p l : Int} (hp : 0 ≤ p ∧ p ≤ 7) (hf : 0 ≤ f) : (0 ≤ (lf n f p l).2.1 ∧ (lf n f p l).2.1 ≤ 7) ∧ ((lf n f p l).2.2.2 = 0 → 0 ≤ (lf n f p l).1 ∧ (lf n f p l).1 < n) ∧ ((lf n f p l).2.2.2 ≠ 0 → (lf n f p l).1 = 0) := by
  unfold lf
  split
  · exact ⟨hp, fun _ => ⟨hf, by assumption⟩, fun h => absurd rfl h⟩
  · exact ⟨⟨by decide, by decide⟩, fun h => absurd h (by decide), fun _ => rfl⟩
theorem wk_in (n : Nat) (s : Int) (F : List Int) (root page : Int) : (0 ≤ (wk n s F root page).2.1 ∧ (wk n s F root page).2.1 ≤ 7) ∧ ((wk n s F root page).2.2.2 = 0 → 0 ≤ (wk n s F root page).1 ∧ (wk n s F root page).1 < n) ∧ ((wk n s F root page).2.2.2 ≠ 0 → (wk n s F root page).1 = 0) := by
  have bad : ((0 : Int) ≤ ((0, 0, 0, -20) : Int × Int × Int × Int).2.1 ∧ ((0, 0, 0, -20) : Int × Int × Int × Int).2.1 ≤ 7) ∧ (((0, 0, 0, -20) : Int × Int × Int × Int).2.2.2 = 0 → 0 ≤ ((0, 0, 0, -20) : Int × Int × Int × Int).1 ∧ ((0, 0, 0, -20) : Int × Int × Int × Int).1 < n) ∧ (((0, 0, 0, -20) : Int × Int × Int × Int).2.2.2 ≠ 0 → ((0, 0, 0, -20) : Int × Int × Int × Int).1 = 0) :=
    ⟨⟨by decide, by decide⟩, fun h => absurd h (by decide), fun _ => rfl⟩
  unfold wk
  split
  · split
    · dsimp only
      split
      · obtain ⟨a1, a2, a3, a4, _⟩ := ent_in n s F (ent n s F root (page / 256)).2.1 (page / 16 % 16)
        exact lf_in ⟨a3, a4⟩ (by omega)
      · split
        · split
          · obtain ⟨a1, a2, a3, a4, _⟩ := ent_in n s F (ent n s F (ent n s F root (page / 256)).2.1 (page / 16 % 16)).2.1 (page % 16)
            exact lf_in ⟨a3, a4⟩ a1
          · exact bad
        · exact bad
    · exact bad
  · exact bad
theorem perm_pos {p q : Int} (hp : 0 ≤ p ∧ p ≤ 7) (hq : q = 1 ∨ q = 2) : decide (bits .and .i64 p q ≠ 0) = decide (0 < bits .and .i64 p q) := by
  have h : p = 0 ∨ p = 1 ∨ p = 2 ∨ p = 3 ∨ p = 4 ∨ p = 5 ∨ p = 6 ∨ p = 7 := by omega
  rcases hq with rfl | rfl <;> rcases h with rfl | rfl | rfl | rfl | rfl | rfl | rfl | rfl <;> decide
/-- Whether a load or a store is none of a fault: where there is a device's word, or a page on which one may. -/
def ldc (isD word : Bool) (E p q : Int) : Bool := word && (isD || (decide (E = 0) && decide (0 < bits .and .i64 p q)))
theorem gat_c {n : Nat} {s : Int} {F : List Int} {root page k q f p l E : Int} (hw : wk n s F root page = (f, p, l, E)) (hq : q = 1 ∨ q = 2) :
    (ldc false (decide (0 ≤ k) && decide (k < 16)) E p q = true → gAt n s F root page k q = (f, 0)) ∧ (ldc false (decide (0 ≤ k) && decide (k < 16)) E p q = false → gAt n s F root page k q = (0, -20)) := by
  have hi := wk_in n s F root page
  rw [hw] at hi
  have hp := perm_pos hi.1 hq
  unfold gAt
  rw [hw]
  unfold ldc
  constructor
  · intro h
    simp only [Bool.false_or, Bool.and_eq_true, decide_eq_true_eq] at h
    rw [if_pos ⟨h.1.1, h.1.2, h.2.1, of_decide_eq_true (hp.trans (decide_eq_true h.2.2))⟩]
  · intro h
    rw [if_neg]
    rintro ⟨h1, h2, h3, h4⟩
    have h5 : decide (0 < bits .and .i64 p q) = true := hp.symm.trans (decide_eq_true h4)
    simp only [] at h3
    rw [h5, decide_eq_true h1, decide_eq_true h2, decide_eq_true h3] at h
    exact absurd h (by decide)
theorem may_c {n : Nat} {s : Int} {F : List Int} {root page k f p l E q : Int} (hw : wk n s F root page = (f, p, l, E)) (h : ldc false (decide (0 ≤ k) && decide (k < 16)) E p q = true) : mayW n s true f k = true := by
  have hi := (wk_in n s F root page).2.1
  rw [hw] at hi
  unfold ldc at h
  simp only [Bool.false_or, Bool.and_eq_true, decide_eq_true_eq] at h
  have hj := hi h.2.1
  exact mayW_mk hj.1 hj.2 h.1.1 h.1.2
/-- A device, or none. -/
def DV (w : World) (dv : Value) (dev : Bool) : Prop := (dev = false ∧ dv = .pointer none) ∨ (dev = true ∧ ∃ q ps, dv = .pointer (some ⟨q, 0, none⟩) ∧ Pha.Is w q ps)
/-- What is loaded. -/
def LPost (w : World) (n : Nat) (s : Int) (F : List Int) (f k : Int) (isD c : Bool) (e : Ending) (w' : World) : Prop :=
  ∃ x E, e = .returned (.tuple #[.int .u64 x, .int .i64 E]) ∧ (c = true → E = 0) ∧ (c = false → E = -20 ∧ x = 0) ∧ (c = true → isD = false → x = wdV n s F true f k) ∧ Below w.heap.size w w'
theorem gload_u {w : World} {B g b n : Nat} {F : List Int} {s : Int} (h : Is w B g b n F s) (hF : ∀ x ∈ F, 0 ≤ x ∧ x ≤ 255) (dv : Value) (dev : Bool) (at_ k : Int) (hd : DV w dv dev) (f p l E : Int) (hw : wk n s F 0 at_ = (f, p, l, E)) (isD word c : Bool) (hisD : (dev && decide (at_ = 3840)) = isD) (hword : (decide (0 ≤ k) && decide (k < 16)) = word) (hc : ldc isD word E p 1 = c) :
    Calls Try.prog 37 #[.pointer (some ⟨g, 0, none⟩), .int .i64 0, dv, .int .i64 at_, .int .i64 k] w (LPost w n s F f k isD c) := by
  subst hword
  have hgl : isD = false → ∃ x E', gLoad n s F 0 at_ k = (x, E') ∧ (c = true → E' = 0) ∧ (c = false → E' = -20 ∧ x = 0) ∧ (c = true → isD = false → x = wdV n s F true f k) := by
    intro hi
    subst hi
    obtain ⟨g1, g2⟩ := gat_c (k := k) hw (Or.inl rfl)
    rw [hc] at g1 g2
    unfold gLoad
    cases c with
    | true =>
      rw [g1 rfl]
      exact ⟨_, _, rfl, fun _ => by unfold wdE; exact if_pos (may_c hw hc), fun h => absurd h (by decide), fun _ _ => rfl⟩
    | false =>
      rw [g2 rfl]
      exact ⟨_, _, rfl, fun h => absurd h (by decide), fun _ => ⟨rfl, rfl⟩, fun h => absurd h (by decide)⟩
  rcases hd with ⟨rfl, rfl⟩ | ⟨rfl, q, ps, rfl, hps⟩
  · obtain ⟨x, E', hg, h1, h2, h3⟩ := hgl (by rw [← hisD]; rfl)
    exact (gload_nil h hF 0 at_ k x E' hg).mono fun e w' ⟨he, hb⟩ => ⟨x, E', he, h1, h2, h3, hb⟩
  · by_cases hdv : isDev at_ k = true
    · refine (gload_dev hps 0 at_ k _ hdv rfl).mono fun e w' ⟨he, hb⟩ => ?_
      have hcc : isD = true ∧ c = true := by
        unfold isDev at hdv
        simp only [Bool.and_eq_true, decide_eq_true_eq] at hdv
        have h1 : isD = true := by rw [← hisD, decide_eq_true hdv.1.1]; rfl
        refine ⟨h1, ?_⟩
        rw [← hc, h1, decide_eq_true hdv.1.2, decide_eq_true hdv.2]
        rfl
      obtain ⟨rfl, rfl⟩ := hcc
      exact ⟨_, 0, he, fun _ => rfl, fun h => absurd h (by decide), fun _ h => absurd h (by decide), hb ▸ Below.refl _ _⟩
    · have hdv' : isDev at_ k = false := by simpa using hdv
      by_cases hat : at_ = 3840
      · have hcc : c = false := by
          rw [← hc]
          unfold isDev at hdv'
          rw [decide_eq_true hat, Bool.true_and] at hdv'
          unfold ldc
          rw [hdv']
          rfl
        subst hcc
        exact (gload_off h hF 0 at_ k 0 (-20) hdv' (by unfold gLoadD; rw [if_pos hat])).mono fun e w' ⟨he, hb⟩ => ⟨0, -20, he, fun h => absurd h (by decide), fun _ => ⟨rfl, rfl⟩, fun h => absurd h (by decide), hb⟩
      · obtain ⟨x, E', hg, h1, h2, h3⟩ := hgl (by rw [← hisD]; simp [hat])
        exact (gload_off h hF 0 at_ k x E' hdv' (by unfold gLoadD; rw [if_neg hat, hg])).mono fun e w' ⟨he, hb⟩ => ⟨x, E', he, h1, h2, h3, hb⟩
set_option maxRecDepth 100000 in
set_option maxHeartbeats 4000000 in
theorem gstore_k {w : World} {B g b n : Nat} {F G : List Int} {s : Int} (h : Is w B g b n F s) (hF : ∀ x ∈ F, 0 ≤ x ∧ x ≤ 255) (dv : Value) (hdv : dv = .pointer none ∨ ∃ a, dv = .pointer (some a)) (root page k v E : Int) (hd : dv = .pointer none ∨ isDev page k = false) (hp : dv = .pointer none ∨ page ≠ 3840) (hv : 0 ≤ v ∧ v ≤ 18446744073709551615) (hr : gStore n s F root page k v = (G, E)) :
    Calls Try.prog 38 #[.pointer (some ⟨g, 0, none⟩), .int .i64 root, dv, .int .i64 page, .int .i64 k, .int .u64 v] w fun e w' => e = .returned (.int .i64 E) ∧ Is w' B g b n G s ∧ Kept w w' (fun j => 0 < n ∧ j = b) := by
  obtain ⟨f, E0, ha⟩ : ∃ f E0, gAt n s F root page k 2 = (f, E0) := ⟨_, _, rfl⟩
  have HI := Lib.hid h
  have HF := Lib.hid hF
  unfold gStore at hr
  rw [ha] at hr
  simp only at hr
  rcases hdv with rfl | ⟨a, rfl⟩
  · clear hd hp
    by_cases h0 : E0 = 0
    · rw [if_pos h0] at hr
      injection hr with hr1 hr2
      subst hr1 hr2 h0
      go_enter Try.func38, Try.ntmps38
      go_wp2_with (first
        | (go_at_call 58; refine (dev_nil _ _ _).mono ?_; rintro e w1 ⟨rfl, rfl⟩)
        | (go_at_call 60; refine (gat_any HI.out HF.out root page k 2 f 0 ha).mono ?_; rintro e w2 ⟨rfl, hb2⟩)
        | (go_at_call 29; refine (setWord_any (HI.out.below hb2) true f k v hv).mono ?_; rintro e w3 ⟨rfl, H3, k3⟩)
        | fail)
      go_ret
      exact ⟨rfl, H3, kept_trans (kept_below hb2) k3⟩
    · rw [if_neg h0] at hr
      injection hr with hr1 hr2
      subst hr1 hr2
      have h0' : (E0 == 0) = false := by simpa using h0
      go_enter Try.func38, Try.ntmps38
      go_wp2_with (first
        | (go_at_call 58; refine (dev_nil _ _ _).mono ?_; rintro e w1 ⟨rfl, rfl⟩)
        | (go_at_call 60; refine (gat_any HI.out HF.out root page k 2 f E0 ha).mono ?_; rintro e w2 ⟨rfl, hb2⟩)
        | fail)
      go_ret
      exact ⟨rfl, HI.out.below hb2, kept_below hb2⟩
  · replace hd : isDev page k = false := hd.resolve_left (by simp)
    replace hp : page ≠ 3840 := hp.resolve_left (by simp)
    have hp' : (page == 3840) = false := by simpa using hp
    by_cases h0 : E0 = 0
    · rw [if_pos h0] at hr
      injection hr with hr1 hr2
      subst hr1 hr2 h0
      go_enter Try.func38, Try.ntmps38
      go_wp2_with (first
        | (go_at_call 58; refine (dev_some _ _ _ _ false hd).mono ?_; rintro e w1 ⟨rfl, rfl⟩)
        | (go_at_call 60; refine (gat_any HI.out HF.out root page k 2 f 0 ha).mono ?_; rintro e w2 ⟨rfl, hb2⟩)
        | (go_at_call 29; refine (setWord_any (HI.out.below hb2) true f k v hv).mono ?_; rintro e w3 ⟨rfl, H3, k3⟩)
        | fail)
      go_ret
      exact ⟨rfl, H3, kept_trans (kept_below hb2) k3⟩
    · rw [if_neg h0] at hr
      injection hr with hr1 hr2
      subst hr1 hr2
      have h0' : (E0 == 0) = false := by simpa using h0
      go_enter Try.func38, Try.ntmps38
      go_wp2_with (first
        | (go_at_call 58; refine (dev_some _ _ _ _ false hd).mono ?_; rintro e w1 ⟨rfl, rfl⟩)
        | (go_at_call 60; refine (gat_any HI.out HF.out root page k 2 f E0 ha).mono ?_; rintro e w2 ⟨rfl, hb2⟩)
        | fail)
      go_ret
      exact ⟨rfl, HI.out.below hb2, kept_below hb2⟩
set_option maxRecDepth 100000 in
set_option maxHeartbeats 4000000 in
theorem gstore_page {w : World} {B g b n : Nat} {a : Addr} {F : List Int} {s : Int} (h : Is w B g b n F s) (hF : ∀ x ∈ F, 0 ≤ x ∧ x ≤ 255) (root k v : Int) (hd : isDev 3840 k = false) :
    Calls Try.prog 38 #[.pointer (some ⟨g, 0, none⟩), .int .i64 root, .pointer (some a), .int .i64 3840, .int .i64 k, .int .u64 v] w fun e w' => e = .returned (.int .i64 (-20)) ∧ Below w.heap.size w w' := by
  obtain ⟨f, E0, ha⟩ : ∃ f E0, gAt n s F root 3840 k 2 = (f, E0) := ⟨_, _, rfl⟩
  have HI := Lib.hid h
  have HF := Lib.hid hF
  by_cases h0 : E0 = 0
  · subst h0
    go_enter Try.func38, Try.ntmps38
    go_wp2_with (first
      | (go_at_call 58; refine (dev_some _ _ _ _ false hd).mono ?_; rintro e w1 ⟨rfl, rfl⟩)
      | (go_at_call 60; refine (gat_any HI.out HF.out root 3840 k 2 f 0 ha).mono ?_; rintro e w2 ⟨rfl, hb2⟩)
      | fail)
    go_ret
    exact ⟨rfl, hb2⟩
  · have h0' : (E0 == 0) = false := by simpa using h0
    go_enter Try.func38, Try.ntmps38
    go_wp2_with (first
      | (go_at_call 58; refine (dev_some _ _ _ _ false hd).mono ?_; rintro e w1 ⟨rfl, rfl⟩)
      | (go_at_call 60; refine (gat_any HI.out HF.out root 3840 k 2 f E0 ha).mono ?_; rintro e w2 ⟨rfl, hb2⟩)
      | fail)
    go_ret
    exact ⟨rfl, hb2⟩
/-- What is left of a store. -/
def stF (n : Nat) (s : Int) (F : List Int) (f k v : Int) (isD c : Bool) : List Int := if (c && !isD) = true then swF n s F true f k v else F
def SPost (w : World) (B g b n : Nat) (s : Int) (F : List Int) (f k v : Int) (isD c : Bool) (dv : Value) (e : Ending) (w' : World) : Prop :=
  ∃ E, e = .returned (.int .i64 E) ∧ (c = true → E = 0) ∧ (c = false → E = -20) ∧ Is w' B g b n (stF n s F f k v isD c) s ∧ Kept w w' (fun j => (0 < n ∧ j = b) ∨ (dv = .pointer (some ⟨j, 0, none⟩)))
theorem pha_blk {w : World} {q : Nat} {ps : Pha.PS} (h : Pha.Is w q ps) : ∃ cs, w.heap[q]? = some (.cells cs 108 (0, 0)) := h.blk.2
theorem is_pha {w w' : World} {B g b n q : Nat} {F : List Int} {s : Int} {ps : Pha.PS} (h : Is w B g b n F s) (hp : Pha.Is w q ps) (hk : Kept w w' (fun j => j = q)) : Is w' B g b n F s := by
  obtain ⟨cs, hq⟩ := pha_blk hp
  have h' := h
  obtain ⟨A, c, cur, h1, _, _, _, _, _, _, hr⟩ := h'
  exact h.kept hk (fun e => absurd e (blk_type h1 hq (by decide))) (fun hn e => absurd e (blk_type (hr hn).2.2.1 hq (by decide)))
theorem gstore_u {w : World} {B g b n : Nat} {F : List Int} {s : Int} (h : Is w B g b n F s) (hF : ∀ x ∈ F, 0 ≤ x ∧ x ≤ 255) (dv : Value) (dev : Bool) (at_ k v : Int) (hv : 0 ≤ v ∧ v ≤ 18446744073709551615) (hd : DV w dv dev) (f p l E : Int) (hw : wk n s F 0 at_ = (f, p, l, E)) (isD word c : Bool) (hisD : (dev && decide (at_ = 3840)) = isD) (hword : (decide (0 ≤ k) && decide (k < 16)) = word) (hc : ldc isD word E p 2 = c) :
    Calls Try.prog 38 #[.pointer (some ⟨g, 0, none⟩), .int .i64 0, dv, .int .i64 at_, .int .i64 k, .int .u64 v] w (SPost w B g b n s F f k v isD c dv) := by
  subst hword
  have hgl : isD = false → ∃ E', gStore n s F 0 at_ k v = (stF n s F f k v isD c, E') ∧ (c = true → E' = 0) ∧ (c = false → E' = -20) := by
    intro hi
    subst hi
    obtain ⟨g1, g2⟩ := gat_c (k := k) hw (Or.inr rfl)
    rw [hc] at g1 g2
    unfold gStore
    cases c with
    | true =>
      rw [g1 rfl]
      exact ⟨_, rfl, fun _ => by unfold wdE; exact if_pos (may_c hw hc), fun h => absurd h (by decide)⟩
    | false =>
      rw [g2 rfl]
      exact ⟨_, rfl, fun h => absurd h (by decide), fun _ => rfl⟩
  rcases hd with ⟨rfl, rfl⟩ | ⟨rfl, q, ps, rfl, hps⟩
  · obtain ⟨E', hg, h1, h2⟩ := hgl (by rw [← hisD]; rfl)
    exact (gstore_k h hF _ (Or.inl rfl) 0 at_ k v E' (Or.inl rfl) (Or.inl rfl) hv hg).mono fun e w' ⟨he, hi, hk⟩ => ⟨E', he, h1, h2, hi, kept_wide hk (fun j hj => Or.inl hj)⟩
  · by_cases hdv : isDev at_ k = true
    · refine (gstore_dev hps 0 at_ k v hdv rfl).mono fun e w' ⟨he, hp, hk⟩ => ?_
      have hcc : isD = true ∧ c = true := by
        unfold isDev at hdv
        simp only [Bool.and_eq_true, decide_eq_true_eq] at hdv
        have h1 : isD = true := by rw [← hisD, decide_eq_true hdv.1.1]; rfl
        refine ⟨h1, ?_⟩
        rw [← hc, h1, decide_eq_true hdv.1.2, decide_eq_true hdv.2]
        rfl
      obtain ⟨rfl, rfl⟩ := hcc
      exact ⟨0, he, fun _ => rfl, fun h => absurd h (by decide), is_pha h hps hk, kept_wide hk (fun j hj => Or.inr (by rw [hj]))⟩
    · have hdv' : isDev at_ k = false := by simpa using hdv
      by_cases hat : at_ = 3840
      · have hcc : c = false := by
          rw [← hc]
          unfold isDev at hdv'
          rw [decide_eq_true hat, Bool.true_and] at hdv'
          unfold ldc
          rw [hdv']
          rfl
        subst hcc hat
        exact (gstore_page h hF 0 k v hdv').mono fun e w' ⟨he, hb⟩ => ⟨-20, he, fun h => absurd h (by decide), fun _ => rfl, h.below hb, kept_below hb⟩
      · obtain ⟨E', hg, h1, h2⟩ := hgl (by rw [← hisD]; simp [hat])
        exact (gstore_k h hF _ (Or.inr ⟨_, rfl⟩) 0 at_ k v E' (Or.inr hdv') (Or.inr hat) hv hg).mono fun e w' ⟨he, hi, hk⟩ => ⟨E', he, h1, h2, hi, kept_wide hk (fun j hj => Or.inl hj)⟩
end Go.Proofs.Ytdpjpmlajjfpgaa.Ram
/- What is loaded and stored, where, and what is a fault: GuestAll walked. -/
namespace Go.Proofs.Ytdpjpmlajjfpgaa.Ram
open Go.RowKit Go.Proofs.Ytdpjpmlajjfpgaa.Mem Go.Proofs.Ytdpjpmlajjfpgaa.Kept Go.Proofs.Ytdpjpmlajjfpgaa.Slo Go.Proofs.Ytdpjpmlajjfpgaa.Bits
open Go.Proofs.Ytdpjpmlajjfpgaa.PWalkAll
open Go.Proofs.YtdpjpmlajjfpgaaW.PrintWords (nums ReadsInt results_ct results_ctt gate_dst box_event)
set_option linter.unusedVariables false
set_option linter.unusedSimpArgs false
theorem rwalk_j {w : World} {B g n : Nat} {R : Option Nat} {F : List Int} {s : Int} (h : RIs w B g R n F s) (hF : ∀ x ∈ F, 0 ≤ x ∧ x ≤ 255) (root page f p l E : Int) (hr : wk n s F root page = (f, p, l, E)) :
    Calls Try.prog 32 #[.pointer (some ⟨g, 0, none⟩), .int .i64 root, .int .i64 page] w fun e w' => e = .returned (.tuple #[.agg #[.int .i64 f, .int .i64 p], .int .i64 l, .int .i64 E]) ∧ Below w.heap.size w w' :=
  (rwalk_any h hF root page).mono fun e w' h => by rw [hr] at h; exact h
/-- Both memories, and the row of pages. -/
structure Gs (W0 w : World) (g b g' : Nat) (R : Option Nat) (F : List Int) (P : Nat) (PG : Array Value) : Prop where
  p : Is w W0.heap.size g b 40 F 10
  r : RIs w W0.heap.size g' R 40 F 10
  m : ∀ x ∈ F, 0 ≤ x ∧ x ≤ 255
  y : w.heap[P]? = some (.cells PG 3 (0, 0))
  bel : Below W0.heap.size W0 w
/-- The same, with where the page lies. -/
structure Gx (W0 w : World) (g b : Nat) (F1 : List Int) (g' : Nat) (R : Option Nat) (F2 : List Int) (P : Nat) (PG : Array Value) (X : Nat) (LF : Array Value) : Prop where
  p : Is w W0.heap.size g b 40 F1 10
  r : RIs w W0.heap.size g' R 40 F2 10
  y : w.heap[P]? = some (.cells PG 3 (0, 0))
  x : w.heap[X]? = some (.cells LF 58 (0, 0))
  bel : Below W0.heap.size W0 w
/-- The device, a block of the call's own, or none. -/
structure D2 (W0 w : World) (dv : Value) (dev : Bool) : Prop where
  d : DV w dv dev
  q : ∀ q, dv = .pointer (some ⟨q, 0, none⟩) → W0.heap.size ≤ q
theorem D2.below {W0 w w' : World} {dv : Value} {dev : Bool} (h : D2 W0 w dv dev) (hb : Below w.heap.size w w') : D2 W0 w' dv dev :=
  ⟨h.d.imp id (fun ⟨h1, q, ps, h2, h3⟩ => ⟨h1, q, ps, h2, h3.below hb⟩), h.q⟩
section
variable {W0 w w' : World} {g b g' P X : Nat} {F F1 F2 G : List Int} {R : Option Nat} {PG LF : Array Value} {dv : Value} {dev : Bool}
theorem Gs.below (T : Gs W0 w g b g' R F P PG) (hb : Below w.heap.size w w') : Gs W0 w' g b g' R F P PG := ⟨T.p.below hb, T.r.below hb, T.m, blk_below T.y hb, bel_chain T.bel hb⟩
theorem Gx.below (T : Gx W0 w g b F1 g' R F2 P PG X LF) (hb : Below w.heap.size w w') : Gx W0 w' g b F1 g' R F2 P PG X LF := ⟨T.p.below hb, T.r.below hb, blk_below T.y hb, blk_below T.x hb, bel_chain T.bel hb⟩
theorem dv_blk {q : Nat} (h : D2 W0 w dv dev) (hq : dv = .pointer (some ⟨q, 0, none⟩)) : ∃ cs, w.heap[q]? = some (.cells cs 108 (0, 0)) := by
  rcases h.d with ⟨_, h1⟩ | ⟨_, q', ps, h1, h2⟩
  · rw [h1] at hq; simp at hq
  · rw [h1] at hq
    injection hq with hq
    injection hq with hq
    injection hq with hq
    subst hq
    exact pha_blk h2
theorem Gx.store (T : Gx W0 w g b F1 g' R F2 P PG X LF) (hd : D2 W0 w dv dev) (H : Is w' W0.heap.size g b 40 G 10) (hk : Kept w w' (fun j => (0 < 40 ∧ j = b) ∨ (dv = .pointer (some ⟨j, 0, none⟩)))) : Gx W0 w' g b G g' R F2 P PG X LF := by
  obtain ⟨cb, hcb⟩ := is_blk T.p (by omega)
  have far : ∀ {k : Nat} {cs : Array Value} {t : TypeId}, w.heap[k]? = some (.cells cs t (0, 0)) → t ≠ 113 → t ≠ 108 → ¬ ((0 < 40 ∧ k = b) ∨ (dv = .pointer (some ⟨k, 0, none⟩))) := by
    intro k cs t hc h1 h2 he
    rcases he with ⟨_, e⟩ | e
    · exact absurd e (blk_type hc hcb h1)
    · obtain ⟨cd, hcd⟩ := dv_blk hd e
      exact absurd rfl (blk_type hc hcd h2)
  refine ⟨H, ?_, hk.blk T.y (far T.y (by decide) (by decide)), hk.blk T.x (far T.x (by decide) (by decide)), hk.below T.bel T.bel.size (fun j hj => ?_)⟩
  · have hr := T.r
    obtain ⟨A, c, h1, _⟩ := hr
    exact T.r.kept hk (far h1 (by decide) (by decide)) (fun k hR => by obtain ⟨cs, hc⟩ := ris_blk T.r hR; exact far hc (by decide) (by decide))
  · rcases hj with ⟨_, e⟩ | e
    · rw [e]; exact (T.p.row (by omega)).1
    · exact hd.q _ e
theorem Gx.ref (T : Gx W0 w g b F1 g' R F2 P PG X LF) (H : RIs w' W0.heap.size g' R 40 G 10) (hk : Kept w w' (fun j => R = some j)) : Gx W0 w' g b F1 g' R G P PG X LF :=
  ⟨is_other T.p T.r hk, H, hk.blk T.y (fun e => by obtain ⟨cs, hc⟩ := ris_blk T.r e; exact absurd rfl (blk_type T.y hc (by decide))), hk.blk T.x (fun e => by obtain ⟨cs, hc⟩ := ris_blk T.r e; exact absurd rfl (blk_type T.x hc (by decide))), bel_rown T.bel T.r (Nat.le_refl _) hk⟩
theorem Gx.gs (T : Gx W0 w g b F g' R F P PG X LF) (m : ∀ x ∈ F, 0 ≤ x ∧ x ≤ 255) : Gs W0 w g b g' R F P PG := ⟨T.p, T.r, m, T.y, T.bel⟩
end
theorem stf_mem {n : Nat} {s : Int} {F : List Int} {f k v : Int} {isD c : Bool} (hF : ∀ x ∈ F, 0 ≤ x ∧ x ≤ 255) (hv : 0 ≤ v) : ∀ x ∈ stF n s F f k v isD c, 0 ≤ x ∧ x ≤ 255 := by
  unfold stF
  split
  · exact swF_mem hF hv
  · exact hF
set_option maxRecDepth 100000 in
set_option maxHeartbeats 16000000 in
theorem guest_all (W : World) (a0 a1 a2 : Int) (bl : Bool) (look kk v : Int) (dev : Bool) (h0 : 0 ≤ a0 ∧ a0 ≤ 65535) (h1 : 0 ≤ a1 ∧ a1 ≤ 65535) (h2 : 0 ≤ a2 ∧ a2 ≤ 65535) (hv : 0 ≤ v ∧ v ≤ 18446744073709551615) :
    Calls Try.prog 13 #[.int .u16 a0, .int .u16 a1, .int .u16 a2, .bool bl, .int .i64 look, .int .i64 kk, .int .u64 v, .bool dev] W fun e w' => e = .returned (.bool true) ∧ Below W.heap.size W w' := by
  have hu58 := Try.underlying58
  obtain ⟨pg, hpg⟩ : ∃ z, Int.tmod a0 4096 = z := ⟨_, rfl⟩
  obtain ⟨f, hf⟩ : ∃ z, Int.tmod a1 44 = z := ⟨_, rfl⟩
  obtain ⟨q0, hq0⟩ : ∃ z, Int.tmod a2 7 = z := ⟨_, rfl⟩
  have hpg' : a0 % 4096 = pg := by rw [← hpg, Int.tmod_eq_emod_of_nonneg h0.1]
  have bp : 0 ≤ pg ∧ pg < 4096 := by omega
  have bf : 0 ≤ f ∧ f < 44 := by rw [← hf, Int.tmod_eq_emod_of_nonneg h1.1]; omega
  have bq : 0 ≤ q0 ∧ q0 ≤ 6 := by rw [← hq0, Int.tmod_eq_emod_of_nonneg h2.1]; omega
  have up : IntKind.u16.wrap pg = pg := by show IntKind.wrap _ _ = _; unfold IntKind.wrap; simp [IntKind.bits, IntKind.signed]; omega
  have uf : IntKind.u16.wrap f = f := by unfold IntKind.wrap; simp [IntKind.bits, IntKind.signed]; omega
  have uq : IntKind.u16.wrap q0 = q0 := by unfold IntKind.wrap; simp [IntKind.bits, IntKind.signed]; omega
  have vp : IntKind.i64.wrap pg = pg := IntWalk.i64_in _ (by omega)
  have vf : IntKind.i64.wrap f = f := IntWalk.i64_in _ (by omega)
  have vq : IntKind.i64.wrap q0 = q0 := IntWalk.i64_in _ (by omega)
  have vq1 : IntKind.i64.wrap (1 + q0) = 1 + q0 := IntWalk.i64_in _ (by omega)
  have M0 := setF_mem (page := pg) (f := f) (q := 1 + q0) (bl := bl) bf.1 (by omega)
  have HS : Hid (∀ w, Calls Try.prog 36 #[.int .i64 pg, .int .i64 f, .int .i64 (1 + q0), .bool bl] w fun e w' => ∃ g b g' R, e = .returned (.tuple #[.pointer (some ⟨g, 0, none⟩), .pointer (some ⟨g', 0, none⟩)]) ∧ Is w' w.heap.size g b 40 (setF pg f (1 + q0) bl) 10 ∧ RIs w' w.heap.size g' R 40 (setF pg f (1 + q0) bl) 10 ∧ Below w.heap.size w w') :=
    Lib.hid (fun w => by cases bl with | true => exact set_true w pg f (1 + q0) bp bf (by omega) | false => exact set_false w pg f (1 + q0) bp bf (by omega))
  have HM := Lib.hid M0
  have HV := Lib.hid hv
  clear M0 hv
  go_enter Try.func13, Try.ntmps13
  go_upto_region 6 with (first
    | (go_at_call 35; refine (gbegun _).mono ?_; rintro e w1 ⟨rfl, hb1⟩)
    | (go_at_call 36; with_reducible refine (HS.out _).mono ?_; rintro e w2 ⟨g, b, g', R, rfl, H2, R2, hb2⟩; have hB := hb1.size; have bel2 := bel_chain hb1 hb2)
    | fail)
  obtain ⟨X1, hX1⟩ : ∃ z, bits BinOp.xor IntKind.i64 pg 1 = z := ⟨_, rfl⟩
  obtain ⟨X2, hX2⟩ : ∃ z, bits BinOp.andNot IntKind.i64 pg 15 = z := ⟨_, rfl⟩
  rw [hX1, hX2]
  obtain ⟨PG, hPG⟩ : ∃ z : Array Value, #[.int .i64 look, .int .i64 pg, .int .i64 X1, .int .i64 X2, .int .i64 3840] = z := ⟨_, rfl⟩
  have hat : ∀ k, k < 5 → ∃ a, PG[k]? = some (.int .i64 a) := by
    intro k hk
    rw [← hPG]
    rcases (show k = 0 ∨ k = 1 ∨ k = 2 ∨ k = 3 ∨ k = 4 by omega) with rfl | rfl | rfl | rfl | rfl <;> exact ⟨_, rfl⟩
  rw [hPG]
  have T0 : Hid (Gs W (w2.alloc (.cells PG 3)) g b g' R (setF pg f (1 + q0) bl) w2.heap.size PG) :=
    Lib.hid ⟨(H2.below (bel_alloc (Below.refl _ _) _)).lower hB, (R2.below (bel_alloc (Below.refl _ _) _)).lower hB, HM.out, blk_new _ _, bel_alloc bel2 _⟩
  obtain ⟨P, hP⟩ : ∃ z, w2.heap.size = z := ⟨_, rfl⟩
  obtain ⟨F0, hF0⟩ : ∃ z, setF pg f (1 + q0) bl = z := ⟨_, rfl⟩
  obtain ⟨W2, hW2⟩ : ∃ z, w2.alloc (.cells PG 3) = z := ⟨_, rfl⟩
  rw [hP, hW2, hF0] at T0
  rw [hP, hW2]
  have HAT := Lib.hid hat
  clear hP hW2 hF0 H2 R2 HM HS bel2 hb2 hb1 hB hX1 hX2 hPG up uf uq vp vf vq vq1 bp bf bq hpg hf hq0 hpg' h0 h1 h2 hat
  go_wp2
  go_loopw [23] (fun i wr => ∃ (k : Nat) (F : List Int), k ≤ 5 ∧ i = .int .i64 k ∧ Hid (Gs W wr g b g' R F P PG)) (fun i _ => 5 - (intOf i).toNat)
  case atStart => exact ⟨0, _, by omega, rfl, T0⟩
  case round =>
    clear T0
    obtain ⟨k, F, hk, rfl, HT⟩ := hrel
    by_cases hk5 : k < 5
    · obtain ⟨at_, hat⟩ := HAT.out k hk5
      have cp := (blk_cell HT.out.y k).trans hat
      have dk : decide ((k : Int) < 5) = true := decide_eq_true (by omega)
      clear hat
      go_upto_if 80 with (fail)
      go_cut [25] (fun v25 wc => Hid (D2 W wc v25 dev) ∧ Hid (Gs W wc g b g' R F P PG))
      case first => as_aux_lemma =>
        cases dev with
        | false =>
          go_wp2
          go_meet
          case rel => exact ⟨Lib.hid ⟨Or.inl ⟨rfl, rfl⟩, fun q h => by simp at h⟩, HT⟩
        | true =>
          go_wp2_with (first
            | (go_at_call 40; with_reducible refine (pnew_c _).mono ?_; rintro e w3 ⟨q, rfl, P3, hb3, hq, hq2⟩)
            | fail)
          go_meet
          case rel => exact ⟨Lib.hid ⟨Or.inr ⟨rfl, q, _, rfl, P3⟩, fun q' h => by injection h with h; injection h with h; injection h with h; rw [← h]; exact Nat.le_trans HT.out.bel.size hq⟩, Lib.hid (HT.out.below hb3)⟩
      case rest =>
      obtain ⟨HD, HT'⟩ := hcut
      replace HT := HT'
      clear HT' cp
      obtain ⟨lf_, lp, ll, lE, hwk⟩ : ∃ f p l E, wk 40 10 F 0 at_ = (f, p, l, E) := ⟨_, _, _, _, rfl⟩
      have HW := Lib.hid hwk
      clear hwk
      have HM := Lib.hid HT.out.m
      go_upto_region 14 with (first
        | (go_at_call 32; (with_reducible refine (rwalk_j HT.out.r HM.out 0 at_ _ _ _ _ HW.out).mono ?_); rintro e w4 ⟨rfl, hb4⟩; replace HT := Lib.hid (HT.out.below hb4); replace HD := Lib.hid (HD.out.below hb4); clear hb4)
        | fail)
      have HX : Hid (Gx W (w4.alloc (.cells #[.int .i64 lf_, .int .i64 lp] 58)) g b F g' R F P PG w4.heap.size #[.int .i64 lf_, .int .i64 lp]) :=
        Lib.hid ⟨HT.out.p.below (bel_alloc (Below.refl _ _) _), HT.out.r.below (bel_alloc (Below.refl _ _) _), blk_alloc HT.out.y _, blk_new _ _, bel_alloc HT.out.bel _⟩
      replace HD := Lib.hid (HD.out.below (bel_alloc (Below.refl _ w4) (.cells #[.int .i64 lf_, .int .i64 lp] 58)))
      obtain ⟨X, hX⟩ : ∃ z, w4.heap.size = z := ⟨_, rfl⟩
      obtain ⟨W4, hW4⟩ : ∃ z, w4.alloc (.cells #[.int .i64 lf_, .int .i64 lp] 58) = z := ⟨_, rfl⟩
      rw [hX, hW4] at HX
      rw [hW4] at HD
      rw [hX, hW4]
      clear hX hW4 HT
      obtain ⟨isD, hisD⟩ : ∃ z, (dev && decide (at_ = 3840)) = z := ⟨_, rfl⟩
      obtain ⟨word, hword⟩ : ∃ z, (decide (0 ≤ kk) && decide (kk < 16)) = z := ⟨_, rfl⟩
      obtain ⟨cL, hcL⟩ : ∃ z, ldc isD word lE lp 1 = z := ⟨_, rfl⟩
      obtain ⟨cS, hcS⟩ : ∃ z, ldc isD word lE lp 2 = z := ⟨_, rfl⟩
      have HisD := Lib.hid hisD
      have Hword := Lib.hid hword
      have HcL := Lib.hid hcL
      have HcS := Lib.hid hcS
      clear hisD hword hcL hcS
      go_cut [29] (fun v29 wc => v29 = .bool isD ∧ wc = W4)
      case first => as_aux_lemma =>
        have hisD := HisD.out
        clear HisD
        cases dev with
        | false =>
          have e : isD = false := by rw [← hisD]; rfl
          clear hisD
          go_wp2
          go_meet
          case rel => exact ⟨by rw [e], rfl⟩
        | true =>
          by_cases ha : at_ = 3840
          · have e : isD = true := by rw [← hisD]; simp [ha]
            have q1 : (at_ == 3840) = true := by rw [ha]; rfl
            clear hisD ha
            go_wp2
            go_meet
            case rel => exact ⟨by rw [e], rfl⟩
          · have e : isD = false := by rw [← hisD]; simp [ha]
            have q1 : (at_ == 3840) = false := beq_eq_false_iff_ne.mpr ha
            clear hisD ha
            go_wp2
            go_meet
            case rel => exact ⟨by rw [e], rfl⟩
      case rest =>
      obtain ⟨rfl, hwc⟩ := hcut
      replace hwc := hwc.symm
      subst hwc
      go_upto_region 15 with (fail)
      go_cut [30] (fun v30 wc => v30 = .bool word ∧ wc = W4)
      case first => as_aux_lemma =>
        have hword := Hword.out
        clear Hword
        by_cases g0 : 0 ≤ kk
        · have d0 : decide (0 ≤ kk) = true := decide_eq_true g0
          by_cases g1 : kk < 16
          · have d1 : decide (kk < 16) = true := decide_eq_true g1
            have e : word = true := by rw [← hword, d0, d1]; rfl
            clear hword
            go_wp2
            go_meet
            case rel => exact ⟨by rw [e], rfl⟩
          · have d1 : decide (kk < 16) = false := decide_eq_false g1
            have e : word = false := by rw [← hword, d0, d1]; rfl
            clear hword
            go_wp2
            go_meet
            case rel => exact ⟨by rw [e], rfl⟩
        · have d0 : decide (0 ≤ kk) = false := decide_eq_false g0
          have e : word = false := by rw [← hword, d0]; rfl
          clear hword
          go_wp2
          go_meet
          case rel => exact ⟨by rw [e], rfl⟩
      case rest =>
      obtain ⟨rfl, hwc⟩ := hcut
      replace hwc := hwc.symm
      subst hwc
      obtain ⟨x0, x1, x2, x3⟩ := cells2f HX.out.x
      go_upto_region 16 with (fail)
      go_cut [31] (fun v wc => v = .bool cL ∧ wc = W4)
      case first => as_aux_lemma =>
        have hc := HcL.out
        clear HcL
        obtain ⟨A, hA⟩ : ∃ z, bits .and .i64 lp 1 = z := ⟨_, rfl⟩
        cases word with
        | false =>
          have e : cL = false := by rw [← hc]; rfl
          clear hc
          go_wp2
          go_meet
          case rel => exact ⟨by rw [e], rfl⟩
        | true =>
          cases isD with
          | true =>
            have e : cL = true := by rw [← hc]; rfl
            clear hc
            go_wp2
            go_meet
            case rel => exact ⟨by rw [e], rfl⟩
          | false =>
            by_cases hE : lE = 0
            · have q1 : (lE == 0) = true := by rw [hE]; rfl
              by_cases hpos : 0 < A
              · have d1 : decide (0 < A) = true := decide_eq_true hpos
                have e : cL = true := by rw [← hc]; unfold ldc; rw [hA, d1, decide_eq_true hE]; rfl
                clear hc hpos hE
                go_wp2
                go_meet
                case rel => exact ⟨by rw [e], rfl⟩
              · have d1 : decide (0 < A) = false := decide_eq_false hpos
                have e : cL = false := by rw [← hc]; unfold ldc; rw [hA, d1, decide_eq_true hE]; rfl
                clear hc hpos hE
                go_wp2
                go_meet
                case rel => exact ⟨by rw [e], rfl⟩
            · have q1 : (lE == 0) = false := beq_eq_false_iff_ne.mpr hE
              have e : cL = false := by rw [← hc]; unfold ldc; rw [decide_eq_false hE]; rfl
              clear hc hE
              go_wp2
              go_meet
              case rel => exact ⟨by rw [e], rfl⟩
      case rest =>
      obtain ⟨rfl, hwc⟩ := hcut
      replace hwc := hwc.symm
      subst hwc
      go_upto_region 17 with (fail)
      go_cut [32] (fun v wc => v = .bool cS ∧ wc = W4)
      case first => as_aux_lemma =>
        have hc := HcS.out
        clear HcS
        obtain ⟨A, hA⟩ : ∃ z, bits .and .i64 lp 2 = z := ⟨_, rfl⟩
        cases word with
        | false =>
          have e : cS = false := by rw [← hc]; rfl
          clear hc
          go_wp2
          go_meet
          case rel => exact ⟨by rw [e], rfl⟩
        | true =>
          cases isD with
          | true =>
            have e : cS = true := by rw [← hc]; rfl
            clear hc
            go_wp2
            go_meet
            case rel => exact ⟨by rw [e], rfl⟩
          | false =>
            by_cases hE : lE = 0
            · have q1 : (lE == 0) = true := by rw [hE]; rfl
              by_cases hpos : 0 < A
              · have d1 : decide (0 < A) = true := decide_eq_true hpos
                have e : cS = true := by rw [← hc]; unfold ldc; rw [hA, d1, decide_eq_true hE]; rfl
                clear hc hpos hE
                go_wp2
                go_meet
                case rel => exact ⟨by rw [e], rfl⟩
              · have d1 : decide (0 < A) = false := decide_eq_false hpos
                have e : cS = false := by rw [← hc]; unfold ldc; rw [hA, d1, decide_eq_true hE]; rfl
                clear hc hpos hE
                go_wp2
                go_meet
                case rel => exact ⟨by rw [e], rfl⟩
            · have q1 : (lE == 0) = false := beq_eq_false_iff_ne.mpr hE
              have e : cS = false := by rw [← hc]; unfold ldc; rw [decide_eq_false hE]; rfl
              clear hc hE
              go_wp2
              go_meet
              case rel => exact ⟨by rw [e], rfl⟩
      case rest =>
      obtain ⟨rfl, hwc⟩ := hcut
      replace hwc := hwc.symm
      subst hwc
      go_upto_region 20 with (first
        | (go_at_call 41; (with_reducible refine (rget_any HX.out.r true lf_ kk HM.out).mono ?_); rintro e w5 ⟨rfl, hb5⟩; have HX5 := Lib.hid (HX.out.below hb5); have HD5 := Lib.hid (HD.out.below hb5); clear hb5 x0 x1 x2 x3)
        | (go_at_call 37; (with_reducible refine (gload_u HX5.out.p HM.out _ dev at_ kk HD5.out.d lf_ lp ll lE HW.out isD word cL HisD.out Hword.out HcL.out).mono ?_); rintro e w6 ⟨x, E, rfl, l1, l2, l3, hb6⟩; have HX6 := Lib.hid (HX5.out.below hb6); have HD6 := Lib.hid (HD5.out.below hb6); clear hb6 HX5 HD5)
        | fail)
      go_cut [171] (fun v wc => v = .bool false ∧ wc = w6)
      case first => as_aux_lemma =>
        cases cL with
        | true =>
          have hE := l1 rfl
          subst hE
          cases isD with
          | true =>
            clear l1 l2 l3
            go_wp2
            go_meet
            case rel => exact ⟨rfl, rfl⟩
          | false =>
            have hx := l3 rfl rfl
            subst hx
            clear l1 l2 l3
            go_wp2
            go_meet
            case rel => exact ⟨rfl, rfl⟩
        | false =>
          obtain ⟨hE, hx⟩ := l2 rfl
          subst hE hx
          clear l1 l2 l3
          go_wp2
          go_meet
          case rel => exact ⟨rfl, rfl⟩
      case rest =>
      obtain ⟨rfl, hwc⟩ := hcut
      replace hwc := hwc.symm
      subst hwc
      clear l1 l2 l3
      go_upto_region 23 with (first
        | (go_at_call 38; (with_reducible refine (gstore_u HX6.out.p HM.out _ dev at_ kk v HV.out HD6.out.d lf_ lp ll lE HW.out isD word cS HisD.out Hword.out HcS.out).mono ?_); rintro e w7 ⟨E2, rfl, l1, l2, h7, k7⟩; have HX7 := Lib.hid (HX6.out.store HD6.out h7 k7); clear h7 k7 HX6 HD6)
        | fail)
      go_cut [189] (fun v wc => v = .bool false ∧ wc = w7)
      case first => as_aux_lemma =>
        cases cS with
        | true =>
          have hE := l1 rfl
          subst hE
          clear l1 l2
          go_wp2
          go_meet
          case rel => exact ⟨rfl, rfl⟩
        | false =>
          have hE := l2 rfl
          subst hE
          clear l1 l2
          go_wp2
          go_meet
          case rel => exact ⟨rfl, rfl⟩
      case rest =>
      obtain ⟨rfl, hwc⟩ := hcut
      replace hwc := hwc.symm
      subst hwc
      clear l1 l2
      go_upto_region 25 with (fail)
      go_cut [194] (fun v wc => v = .bool (cS && !isD) ∧ wc = w7)
      case first => as_aux_lemma =>
        cases cS <;> cases isD
        all_goals
          go_wp2
          go_meet
          case rel => exact ⟨rfl, rfl⟩
      case rest =>
      obtain ⟨rfl, hwc⟩ := hcut
      replace hwc := hwc.symm
      subst hwc
      go_upto_if 194 with (fail)
      go_cut [] (fun wc => Hid (Gs W wc g b g' R (stF 40 10 F lf_ kk v isD cS) P PG))
      case first => as_aux_lemma =>
        obtain ⟨x0, x1, x2, x3⟩ := cells2f HX7.out.x
        have hmem := Lib.hid (stf_mem (n := 40) (s := 10) (f := lf_) (k := kk) (isD := isD) (c := cS) HM.out HV.out.1)
        obtain ⟨GF, hGF⟩ : ∃ z, stF 40 10 F lf_ kk v isD cS = z := ⟨_, rfl⟩
        rw [hGF] at hmem
        have HGF := Lib.hid hGF
        clear hGF
        cases hcc : (cS && !isD) with
        | true =>
          have e : swF 40 10 F true lf_ kk v = GF := by rw [← HGF.out]; unfold stF; rw [if_pos hcc]
          have He := Lib.hid e
          clear e hcc
          go_wp2_with (first
            | (go_at_call 30; (with_reducible refine (rsetWord_any HX7.out.r true lf_ kk v HV.out).mono ?_); rintro e w8 ⟨rfl, h8, k8⟩; have HX8 := Lib.hid (HX7.out.ref h8 k8); clear h8 k8 x0 x1 x2 x3)
            | fail)
          go_meet
          case rel => rw [HGF.out]; exact Lib.hid (Gx.gs (by have := HX8.out; rw [HGF.out, He.out] at this; exact this) hmem.out)
        | false =>
          have e : F = GF := by rw [← HGF.out]; unfold stF; rw [if_neg (by rw [hcc]; decide)]
          have He := Lib.hid e
          clear e hcc
          go_wp2
          go_meet
          case rel => rw [HGF.out]; exact Lib.hid (Gx.gs (by have := HX7.out; rw [HGF.out, He.out] at this; exact this) hmem.out)
      case rest =>
      have HT := hcut
      clear HX7 HM HcL HcS HisD Hword HW
      obtain ⟨GF, hGF⟩ : ∃ z, stF 40 10 F lf_ kk v isD cS = z := ⟨_, rfl⟩
      rw [hGF] at HT
      clear hGF
      go_wp2
      go_loopw [38] (fun i wr => ∃ (j : Nat), j ≤ 40 ∧ i = .int .i64 j ∧ Hid (Gs W wr g b g' R GF P PG)) (fun i _ => 40 - (intOf i).toNat)
      case atStart => exact ⟨0, by omega, rfl, HT⟩
      case round =>
        clear HT hcut
        obtain ⟨j, hj, rfl, HT⟩ := hrel
        by_cases hj40 : j < 40
        · have dj : decide ((j : Int) < 40) = true := decide_eq_true (by omega)
          go_wp2_with (first
            | (go_at_call 42; (refine (read_any HT.out.p true j 0 128).mono ?_); rintro e w5 ⟨A5, m5, c5, rfl, hr5, hb5, _⟩; replace HT := Lib.hid (HT.out.below hb5); have D5 := Lib.hid hr5; clear hr5 hb5)
            | (go_at_call 43; (refine (rread_any HT.out.r true j 0 128 HT.out.m).mono ?_); rintro e w6 ⟨A6, m6, c6, rfl, hr6, hb6, _⟩; replace HT := Lib.hid (HT.out.below hb6); have cv5 := conv (c := c5) (D5.out.below hb6); have cv6 := conv (c := c6) hr6; clear hr6 hb6)
            | fail)
          go_roundw
          case measure => simp [intOf]; omega
          case rel => exact ⟨j + 1, by omega, by go_num, HT⟩
        · have hj' : j = 40 := by omega
          subst hj'
          go_wp2
          go_roundw
          case measure => simp [intOf]; omega
          case rel => exact ⟨k + 1, _, by omega, by go_num, HT⟩
    · have hk' : k = 5 := by omega
      subst hk'
      go_wp2
      go_ret
      exact ⟨rfl, HT.out.bel⟩

end Go.Proofs.Ytdpjpmlajjfpgaa.Ram
