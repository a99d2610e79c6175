/- Contracts of package guest: device, at, Load, Store, of a memory and a device or none. -/
import Derived.Test.YtdpjpmlajjfpgaaWlkD
import Derived.Test.YtdpjpmlajjfpgaaPhaB
import Derived.Deep.RegionHeld3
namespace Go.Proofs.Ytdpjpmlajjfpgaa.Ram
open Go.RowKit Go.Proofs.Ytdpjpmlajjfpgaa.Mem Go.Proofs.Ytdpjpmlajjfpgaa.Kept Go.Proofs.Ytdpjpmlajjfpgaa.Slo Go.Proofs.Ytdpjpmlajjfpgaa.Bits
open Go.Proofs.Ytdpjpmlajjfpgaa.PWalkAll
open Go.Proofs.YtdpjpmlajjfpgaaW.PrintWords (nums ReadsInt results_ct results_ctt gate_dst box_event)
set_option linter.unusedVariables false
set_option linter.unusedSimpArgs false
theorem dev_nil (w : World) (p k : Int) : Calls Try.prog 58 #[.pointer none, .int .i64 p, .int .i64 k] w fun e w' => e = .returned (.bool false) ∧ w = w' := by
  go_enter Try.func58, Try.ntmps58
  go_wp2
  go_ret
  exact ⟨rfl, rfl⟩
def isDev (p k : Int) : Bool := decide (p = 3840) && decide (0 ≤ k) && decide (k < 16)
theorem dev_some (w : World) (a : Addr) (p k : Int) (o : Bool) (ho : isDev p k = o) : Calls Try.prog 58 #[.pointer (some a), .int .i64 p, .int .i64 k] w fun e w' => e = .returned (.bool o) ∧ w = w' := by
  subst ho
  unfold isDev
  by_cases h1 : p = 3840
  · by_cases h2 : 0 ≤ k
    · by_cases h3 : k < 16
      all_goals
        go_enter Try.func58, Try.ntmps58
        go_wp2
        go_ret
        exact ⟨by simp [h1, h2, h3], rfl⟩
    · go_enter Try.func58, Try.ntmps58
      go_wp2
      go_ret
      exact ⟨by first | (simp [h1, h2]; done) | (simp [h1, h2]; omega), rfl⟩
  · have h1' : (p == 3840) = false := by simpa using h1
    go_enter Try.func58, Try.ntmps58
    go_wp2
    go_ret
    exact ⟨by simp [h1], rfl⟩
/-- The frame of a page that one may use so, and the answer. -/
def gAt (n : Nat) (s : Int) (F : List Int) (root page k q : Int) : Int × Int :=
  if 0 ≤ k ∧ k < 16 ∧ (wk n s F root page).2.2.2 = 0 ∧ bits .and .i64 (wk n s F root page).2.1 q ≠ 0 then ((wk n s F root page).1, 0) else (0, -20)
set_option maxRecDepth 100000 in
set_option maxHeartbeats 4000000 in
theorem gat_any {w : World} {B g b n : Nat} {F : List Int} {s : Int} (h : Is w B g b n F s) (hF : ∀ x ∈ F, 0 ≤ x ∧ x ≤ 255) (root page k q f E : Int) (hr : gAt n s F root page k q = (f, E)) :
    Calls Try.prog 60 #[.pointer (some ⟨g, 0, none⟩), .int .i64 root, .int .i64 page, .int .i64 k, .int .i64 q] w fun e w' => e = .returned (.tuple #[.int .i64 f, .int .i64 E]) ∧ Below w.heap.size w w' := by
  have hu58 := Try.underlying58
  unfold gAt at hr
  obtain ⟨f0, p0, l0, E0, hw⟩ : ∃ a b c d, wk n s F root page = (a, b, c, d) := ⟨_, _, _, _, rfl⟩
  rw [hw] at hr
  have hcall := walk_i h hF root page f0 p0 l0 E0 hw
  obtain ⟨A, hA⟩ : ∃ A, bits .and .i64 p0 q = A := ⟨_, rfl⟩
  simp only at hr
  rw [hA] at hr
  clear hw h hF
  by_cases h0 : 0 ≤ k
  · by_cases h1 : k < 16
    · by_cases h2 : E0 = 0
      · by_cases h3 : A = 0
        · rw [if_neg (fun e => e.2.2.2 h3)] at hr
          injection hr with hr1 hr2
          subst hr1 hr2 h2 h3
          go_enter Try.func60, Try.ntmps60
          go_wp2_with (first | (go_at_call 31; refine hcall.mono ?_; rintro e w1 ⟨rfl, hb1⟩) | fail)
          go_ret2
          exact ⟨rfl, bel_alloc hb1 _⟩
        · rw [if_pos ⟨h0, h1, h2, h3⟩] at hr
          injection hr with hr1 hr2
          subst hr1 hr2 h2
          have h3' : (A == 0) = false := by simpa using h3
          go_enter Try.func60, Try.ntmps60
          go_wp2_with (first | (go_at_call 31; refine hcall.mono ?_; rintro e w1 ⟨rfl, hb1⟩) | fail)
          go_ret2
          exact ⟨rfl, bel_alloc hb1 _⟩
      · rw [if_neg (fun e => h2 e.2.2.1)] at hr
        injection hr with hr1 hr2
        subst hr1 hr2
        have h2' : (E0 == 0) = false := by simpa using h2
        go_enter Try.func60, Try.ntmps60
        go_wp2_with (first | (go_at_call 31; refine hcall.mono ?_; rintro e w1 ⟨rfl, hb1⟩) | fail)
        go_ret2
        exact ⟨rfl, bel_alloc hb1 _⟩
    · rw [if_neg (fun e => h1 e.2.1)] at hr
      injection hr with hr1 hr2
      subst hr1 hr2
      go_enter Try.func60, Try.ntmps60
      go_wp2
      go_ret2
      exact ⟨rfl, Below.refl _ _⟩
  · rw [if_neg (fun e => h0 e.1)] at hr
    injection hr with hr1 hr2
    subst hr1 hr2
    go_enter Try.func60, Try.ntmps60
    go_wp2
    go_ret2
    exact ⟨rfl, Below.refl _ _⟩
/-- What is loaded where there is no device; what is left of a store. -/
def gLoad (n : Nat) (s : Int) (F : List Int) (root page k : Int) : Int × Int := if (gAt n s F root page k 1).2 = 0 then (wdV n s F true (gAt n s F root page k 1).1 k, wdE n s true (gAt n s F root page k 1).1 k) else (0, -20)
def gStore (n : Nat) (s : Int) (F : List Int) (root page k v : Int) : List Int × Int := if (gAt n s F root page k 2).2 = 0 then (swF n s F true (gAt n s F root page k 2).1 k v, wdE n s true (gAt n s F root page k 2).1 k) else (F, -20)
theorem gload_nil {w : World} {B g b n : Nat} {F : List Int} {s : Int} (h : Is w B g b n F s) (hF : ∀ x ∈ F, 0 ≤ x ∧ x ≤ 255) (root page k x E : Int) (hr : gLoad n s F root page k = (x, E)) :
    Calls Try.prog 37 #[.pointer (some ⟨g, 0, none⟩), .int .i64 root, .pointer none, .int .i64 page, .int .i64 k] w fun e w' => e = .returned (.tuple #[.int .u64 x, .int .i64 E]) ∧ Below w.heap.size w w' := by
  unfold gLoad at hr
  obtain ⟨f, E0, ha⟩ : ∃ f E0, gAt n s F root page k 1 = (f, E0) := ⟨_, _, rfl⟩
  rw [ha] at hr
  simp only at hr
  have HI := Lib.hid h
  have HF := Lib.hid hF
  by_cases h0 : E0 = 0
  · rw [if_pos h0] at hr
    injection hr with hr1 hr2
    subst hr1 hr2 h0
    go_enter Try.func37, Try.ntmps37
    go_wp2_with (first
      | (go_at_call 58; refine (dev_nil _ _ _).mono ?_; rintro e w1 ⟨rfl, rfl⟩)
      | (go_at_call 60; refine (gat_any HI.out HF.out root page k 1 f 0 ha).mono ?_; rintro e w2 ⟨rfl, hb2⟩)
      | (go_at_call 39; refine (get_any (HI.out.below hb2) true f k HF.out).mono ?_; rintro e w3 ⟨rfl, rfl⟩)
      | fail)
    go_ret2
    exact ⟨rfl, hb2⟩
  · rw [if_neg h0] at hr
    injection hr with hr1 hr2
    subst hr1 hr2
    have h0' : (E0 == 0) = false := by simpa using h0
    go_enter Try.func37, Try.ntmps37
    go_wp2_with (first
      | (go_at_call 58; refine (dev_nil _ _ _).mono ?_; rintro e w1 ⟨rfl, rfl⟩)
      | (go_at_call 60; refine (gat_any HI.out HF.out root page k 1 f E0 ha).mono ?_; rintro e w2 ⟨rfl, hb2⟩)
      | fail)
    go_ret2
    exact ⟨rfl, hb2⟩
theorem bel_on {W0 w w2 : World} (hb : Below W0.heap.size W0 w) (h : Below w.heap.size w w2) : Below W0.heap.size W0 w2 := bel_chain hb h
theorem gstore_nil {W0 w : World} {B g b n : Nat} {F G : List Int} {s : Int} (h : Is w B g b n F s) (hF : ∀ x ∈ F, 0 ≤ x ∧ x ≤ 255) (root page k v E : Int) (hv : 0 ≤ v ∧ v ≤ 18446744073709551615) (hr : gStore n s F root page k v = (G, E)) (hB : W0.heap.size ≤ B) (hb : Below W0.heap.size W0 w) :
    Calls Try.prog 38 #[.pointer (some ⟨g, 0, none⟩), .int .i64 root, .pointer none, .int .i64 page, .int .i64 k, .int .u64 v] w fun e w' => e = .returned (.int .i64 E) ∧ Is w' B g b n G s ∧ Below W0.heap.size W0 w' := by
  unfold gStore at hr
  obtain ⟨f, E0, ha⟩ : ∃ f E0, gAt n s F root page k 2 = (f, E0) := ⟨_, _, rfl⟩
  rw [ha] at hr
  simp only at hr
  have HI := Lib.hid h
  have HF := Lib.hid hF
  by_cases h0 : E0 = 0
  · rw [if_pos h0] at hr
    injection hr with hr1 hr2
    subst hr1 hr2 h0
    go_enter Try.func38, Try.ntmps38
    go_wp2_with (first
      | (go_at_call 58; refine (dev_nil _ _ _).mono ?_; rintro e w1 ⟨rfl, rfl⟩)
      | (go_at_call 60; refine (gat_any HI.out HF.out root page k 2 f 0 ha).mono ?_; rintro e w2 ⟨rfl, hb2⟩)
      | (go_at_call 29; refine (setWord_any (HI.out.below hb2) true f k v hv).mono ?_; rintro e w3 ⟨rfl, H3, k3⟩; have hb3 := bel_own (bel_on hb hb2) (HI.out.below hb2) hB k3)
      | fail)
    go_ret
    exact ⟨rfl, H3, hb3⟩
  · rw [if_neg h0] at hr
    injection hr with hr1 hr2
    subst hr1 hr2
    have h0' : (E0 == 0) = false := by simpa using h0
    go_enter Try.func38, Try.ntmps38
    go_wp2_with (first
      | (go_at_call 58; refine (dev_nil _ _ _).mono ?_; rintro e w1 ⟨rfl, rfl⟩)
      | (go_at_call 60; refine (gat_any HI.out HF.out root page k 2 f E0 ha).mono ?_; rintro e w2 ⟨rfl, hb2⟩)
      | fail)
    go_ret
    exact ⟨rfl, HI.out.below hb2, bel_on hb hb2⟩
/-- A word of the device's page. -/
theorem gload_dev {w : World} {q g : Nat} {ps : Pha.PS} (hp : Pha.Is w q ps) (root page k x : Int) (hd : isDev page k = true) (hx : IntKind.u64.wrap (Pha.loadF ps k) = x) :
    Calls Try.prog 37 #[.pointer (some ⟨g, 0, none⟩), .int .i64 root, .pointer (some ⟨q, 0, none⟩), .int .i64 page, .int .i64 k] w fun e w' => e = .returned (.tuple #[.int .u64 x, .int .i64 0]) ∧ w = w' := by
  subst hx
  go_enter Try.func37, Try.ntmps37
  go_wp2_with (first
    | (go_at_call 58; refine (dev_some _ _ _ _ true hd).mono ?_; rintro e w1 ⟨rfl, rfl⟩)
    | (go_at_call 59; refine (Pha.load_same hp k).mono ?_; rintro e w2 ⟨rfl, rfl⟩)
    | fail)
  go_ret2
  exact ⟨rfl, rfl⟩
theorem gstore_dev {w : World} {q g : Nat} {ps ps' : Pha.PS} (hp : Pha.Is w q ps) (root page k v : Int) (hd : isDev page k = true) (hs : Pha.storeF ps k v = ps') :
    Calls Try.prog 38 #[.pointer (some ⟨g, 0, none⟩), .int .i64 root, .pointer (some ⟨q, 0, none⟩), .int .i64 page, .int .i64 k, .int .u64 v] w fun e w' => e = .returned (.int .i64 0) ∧ Pha.Is w' q ps' ∧ Kept w w' (fun j => j = q) := by
  subst hs
  go_enter Try.func38, Try.ntmps38
  go_wp2_with (first
    | (go_at_call 58; refine (dev_some _ _ _ _ true hd).mono ?_; rintro e w1 ⟨rfl, rfl⟩)
    | (go_at_call 61; refine (Pha.store_any hp k v).mono ?_; rintro e w2 ⟨rfl, H2, k2⟩)
    | fail)
  go_ret
  exact ⟨rfl, H2, k2⟩
/-- With a device, beside its words. -/
def gLoadD (n : Nat) (s : Int) (F : List Int) (root page k : Int) : Int × Int := if page = 3840 then (0, -20) else gLoad n s F root page k
def gStoreD (n : Nat) (s : Int) (F : List Int) (root page k v : Int) : List Int × Int := if page = 3840 then (F, -20) else gStore n s F root page k v
theorem gload_off {w : World} {B g b n : Nat} {a : Addr} {F : List Int} {s : Int} (h : Is w B g b n F s) (hF : ∀ x ∈ F, 0 ≤ x ∧ x ≤ 255) (root page k x E : Int) (hd : isDev page k = false) (hr : gLoadD n s F root page k = (x, E)) :
    Calls Try.prog 37 #[.pointer (some ⟨g, 0, none⟩), .int .i64 root, .pointer (some a), .int .i64 page, .int .i64 k] w fun e w' => e = .returned (.tuple #[.int .u64 x, .int .i64 E]) ∧ Below w.heap.size w w' := by
  obtain ⟨f, E0, ha⟩ : ∃ f E0, gAt n s F root page k 1 = (f, E0) := ⟨_, _, rfl⟩
  have HI := Lib.hid h
  have HF := Lib.hid hF
  unfold gLoadD gLoad at hr
  rw [ha] at hr
  simp only at hr
  by_cases hp : page = 3840
  · rw [if_pos hp] at hr
    injection hr with hr1 hr2
    subst hr1 hr2 hp
    by_cases h0 : E0 = 0
    · subst h0
      go_enter Try.func37, Try.ntmps37
      go_wp2_with (first
        | (go_at_call 58; refine (dev_some _ _ _ _ false hd).mono ?_; rintro e w1 ⟨rfl, rfl⟩)
        | (go_at_call 60; refine (gat_any HI.out HF.out root 3840 k 1 f 0 ha).mono ?_; rintro e w2 ⟨rfl, hb2⟩)
        | fail)
      go_ret2
      exact ⟨rfl, hb2⟩
    · have h0' : (E0 == 0) = false := by simpa using h0
      go_enter Try.func37, Try.ntmps37
      go_wp2_with (first
        | (go_at_call 58; refine (dev_some _ _ _ _ false hd).mono ?_; rintro e w1 ⟨rfl, rfl⟩)
        | (go_at_call 60; refine (gat_any HI.out HF.out root 3840 k 1 f E0 ha).mono ?_; rintro e w2 ⟨rfl, hb2⟩)
        | fail)
      go_ret2
      exact ⟨rfl, hb2⟩
  · rw [if_neg hp] at hr
    have hp' : (page == 3840) = false := by simpa using hp
    by_cases h0 : E0 = 0
    · rw [if_pos h0] at hr
      injection hr with hr1 hr2
      subst hr1 hr2 h0
      go_enter Try.func37, Try.ntmps37
      go_wp2_with (first
        | (go_at_call 58; refine (dev_some _ _ _ _ false hd).mono ?_; rintro e w1 ⟨rfl, rfl⟩)
        | (go_at_call 60; refine (gat_any HI.out HF.out root page k 1 f 0 ha).mono ?_; rintro e w2 ⟨rfl, hb2⟩)
        | (go_at_call 39; refine (get_any (HI.out.below hb2) true f k HF.out).mono ?_; rintro e w3 ⟨rfl, rfl⟩)
        | fail)
      go_ret2
      exact ⟨rfl, hb2⟩
    · rw [if_neg h0] at hr
      injection hr with hr1 hr2
      subst hr1 hr2
      have h0' : (E0 == 0) = false := by simpa using h0
      go_enter Try.func37, Try.ntmps37
      go_wp2_with (first
        | (go_at_call 58; refine (dev_some _ _ _ _ false hd).mono ?_; rintro e w1 ⟨rfl, rfl⟩)
        | (go_at_call 60; refine (gat_any HI.out HF.out root page k 1 f E0 ha).mono ?_; rintro e w2 ⟨rfl, hb2⟩)
        | fail)
      go_ret2
      exact ⟨rfl, hb2⟩
end Go.Proofs.Ytdpjpmlajjfpgaa.Ram
/- The statements on a guest: what they begin with. -/
namespace Go.Proofs.Ytdpjpmlajjfpgaa.Ram
open Go.RowKit Go.Proofs.Ytdpjpmlajjfpgaa.Mem Go.Proofs.Ytdpjpmlajjfpgaa.Kept Go.Proofs.Ytdpjpmlajjfpgaa.Slo Go.Proofs.Ytdpjpmlajjfpgaa.Bits
open Go.Proofs.Ytdpjpmlajjfpgaa.PWalkAll
open Go.Proofs.YtdpjpmlajjfpgaaW.PrintWords (nums ReadsInt results_ct results_ctt gate_dst box_event)
set_option linter.unusedVariables false
set_option linter.unusedSimpArgs false
theorem gstore_mem {n : Nat} {s : Int} {F : List Int} {root page k v : Int} (hF : ∀ x ∈ F, 0 ≤ x ∧ x ≤ 255) (hv : 0 ≤ v) : ∀ x ∈ (gStore n s F root page k v).1, 0 ≤ x ∧ x ≤ 255 := by
  unfold gStore
  split
  · exact swF_mem hF hv
  · exact hF
def gF1 : List Int := swF 6 6 (List.replicate (6 * 128) 0) true 0 0 4097
def gF2 : List Int := swF 6 6 gF1 true 1 0 8193
def gF3 : List Int := swF 6 6 gF2 true 2 0 16398
def gF4 : List Int := (gStore 6 6 gF3 0 0 2 9).1
theorem gF3_mem : ∀ x ∈ gF3, 0 ≤ x ∧ x ≤ 255 := swF_mem (swF_mem (swF_mem mem_zero (by decide)) (by decide)) (by decide)
theorem gF4_mem : ∀ x ∈ gF4, 0 ≤ x ∧ x ≤ 255 := gstore_mem gF3_mem (by decide)
theorem gS0 : gStore 6 6 gF3 0 0 2 9 = (gF4, 0) := Prod.ext rfl (show (gStore 6 6 gF3 0 0 2 9).2 = 0 by decide +kernel)
theorem gL0 : gLoad 6 6 gF4 0 0 2 = (9, 0) := by decide +kernel
theorem gL1 : gLoad 6 6 gF4 0 1 2 = (0, -20) := by decide +kernel
theorem pnew_c (w : World) : Calls Try.prog 40 #[] w fun e w' => ∃ q, e = .returned (.pointer (some ⟨q, 0, none⟩)) ∧ Pha.Is w' q ⟨0, 0, 0, 0, 0, 0⟩ ∧ Below w.heap.size w w' ∧ w.heap.size ≤ q ∧ q < w'.heap.size := (Pha.new_any w).mono fun e w' ⟨h1, h2, h3⟩ => ⟨_, h1, h2, h3, Nat.le_refl _, h2.blk.1⟩
theorem is_dev {w w' : World} {B g b n q : Nat} {F : List Int} {s : Int} (h : Is w B g b n F s) (hk : Kept w w' (fun j => j = q)) (hq : g < q ∧ (0 < n → b < q)) : Is w' B g b n F s :=
  h.kept hk (fun e => absurd e (Nat.ne_of_lt hq.1)) (fun hn e => absurd e (Nat.ne_of_lt (hq.2 hn)))
theorem is_lt {w : World} {B g b n q : Nat} {F : List Int} {s : Int} (h : Is w B g b n F s) (hq : w.heap.size ≤ q) : g < q ∧ (0 < n → b < q) := ⟨Nat.lt_of_lt_of_le h.lt.2 hq, fun hn => Nat.lt_of_lt_of_le (h.row hn).2.1 hq⟩
set_option maxRecDepth 100000 in
set_option maxHeartbeats 16000000 in
theorem gbegun (w : World) : Calls Try.prog 35 #[] w fun e w' => e = .returned (.bool true) ∧ Below w.heap.size w w' := by
  have hb := Below.refl w.heap.size w
  have hu51 := Try.underlying51
  have D0 : isDev 3840 0 = true := rfl
  have E0 : Pha.storeF ⟨0, 0, 0, 0, 0, 0⟩ 0 5 = ⟨5, 0, 0, 0, 0, 0⟩ := by kernel_rfl
  have X0 : IntKind.u64.wrap (Pha.loadF ⟨5, 0, 0, 0, 0, 0⟩ 0) = 5 := by decide +kernel
  have v9 : (0 : Int) ≤ 9 ∧ (9 : Int) ≤ 18446744073709551615 := by omega
  go_enter Try.func35, Try.ntmps35
  go_wp2_with (first
    | (go_at_call 26; (with_reducible refine (new_i w 6 6 6 6 (by decide) (by decide)).mono ?_); rintro e w2 ⟨g, b, rfl, H0, hb2⟩; have hB := Lib.hid (Nat.le_refl w.heap.size); have H := Lib.hid H0; replace hb := bel_chain hb hb2; clear hb2 H0)
    | (go_at_call 28; (with_reducible refine (slot_any _ 1 1 0 4097 (by decide) (by decide)).mono ?_); rintro e w3 ⟨rfl, hb3⟩; have H3 := Lib.hid (H.out.below hb3); replace hb := bel_chain hb hb3; clear hb3 H)
    | (go_at_call 29; (with_reducible refine (setWord_any H3.out true 0 0 4097 (by decide)).mono ?_); rintro e w4 ⟨rfl, H0, hk⟩; replace hb := bel_own hb H3.out hB.out hk; have H4 : Hid (Is w4 _ g b 6 gF1 6) := Lib.hid H0; clear hk H0 H3)
    | (go_at_call 28; (with_reducible refine (slot_any _ 1 2 0 8193 (by decide) (by decide)).mono ?_); rintro e w5 ⟨rfl, hb3⟩; have H5 := Lib.hid (H4.out.below hb3); replace hb := bel_chain hb hb3; clear hb3 H4)
    | (go_at_call 29; (with_reducible refine (setWord_any H5.out true 1 0 8193 (by decide)).mono ?_); rintro e w6 ⟨rfl, H0, hk⟩; replace hb := bel_own hb H5.out hB.out hk; have H6 : Hid (Is w6 _ g b 6 gF2 6) := Lib.hid H0; clear hk H0 H5)
    | (go_at_call 28; (with_reducible refine (slot_any _ 2 4 3 16398 (by decide) (by decide)).mono ?_); rintro e w7 ⟨rfl, hb3⟩; have H7 := Lib.hid (H6.out.below hb3); replace hb := bel_chain hb hb3; clear hb3 H6)
    | (go_at_call 29; (with_reducible refine (setWord_any H7.out true 2 0 16398 (by decide)).mono ?_); rintro e w8 ⟨rfl, H0, hk⟩; replace hb := bel_own hb H7.out hB.out hk; have H8 : Hid (Is w8 _ g b 6 gF3 6) := Lib.hid H0; clear hk H0 H7)
    | (go_at_call 38; (with_reducible refine (gstore_nil (W0 := w) H8.out gF3_mem 0 0 2 9 0 v9 gS0 hB.out hb).mono ?_); rintro e w9 ⟨rfl, H0, hb9⟩; have H9 := Lib.hid H0; replace hb := hb9; clear H0 hb9 H8)
    | (go_at_call 37; (with_reducible refine (gload_nil H9.out gF4_mem 0 0 2 9 0 gL0).mono ?_); rintro e w10 ⟨rfl, hb10⟩; have H10 := Lib.hid (H9.out.below hb10); replace hb := bel_chain hb hb10; clear hb10 H9)
    | (go_at_call 37; (with_reducible refine (gload_nil H10.out gF4_mem 0 1 2 0 (-20) gL1).mono ?_); rintro e w11 ⟨rfl, hb11⟩; have H11 := Lib.hid (H10.out.below hb11); replace hb := bel_chain hb hb11; clear hb11 H10)
    | (go_at_call 40; (with_reducible refine (pnew_c _).mono ?_); rintro e w12 ⟨q, rfl, P12, hb12, hq, hq2⟩; have hwq := Lib.hid (Nat.le_trans hb.size hq); replace hb := bel_chain hb hb12; clear hb12)
    | (go_at_call 38; (with_reducible refine (gstore_dev P12 0 3840 0 5 D0 E0).mono ?_); rintro e w13 ⟨rfl, P13, k13⟩; replace hb := k13.below hb hb.size (fun j e => by rw [e]; exact hwq.out); clear k13)
    | (go_at_call 37; (with_reducible refine (gload_dev P13 0 3840 0 5 D0 X0).mono ?_); rintro e w14 ⟨rfl, rfl⟩)
    | fail)
  go_ret
  exact ⟨rfl, hb⟩
end Go.Proofs.Ytdpjpmlajjfpgaa.Ram
/- The statements' set: memory whose tables say one page, with its permissions, or a block; the reference's beside it. -/
namespace Go.Proofs.Ytdpjpmlajjfpgaa.Ram
open Go.RowKit Go.Proofs.Ytdpjpmlajjfpgaa.Mem Go.Proofs.Ytdpjpmlajjfpgaa.Kept Go.Proofs.Ytdpjpmlajjfpgaa.Slo Go.Proofs.Ytdpjpmlajjfpgaa.Bits
open Go.Proofs.Ytdpjpmlajjfpgaa.PWalkAll
open Go.Proofs.YtdpjpmlajjfpgaaW.PrintWords (nums ReadsInt results_ct results_ctt gate_dst box_event)
set_option linter.unusedVariables false
set_option linter.unusedSimpArgs false
theorem rpath_in (w : World) (p : Int) (h0 : 0 ≤ p) (h1 : p < 4096) : Calls Try.prog 34 #[.int .i64 p] w fun e w' => e = .returned (.tuple #[.int .i64 (p / 256), .int .i64 (p / 16 % 16), .int .i64 (p % 16), .bool true]) ∧ Below w.heap.size w w' := by
  have hf : presidioref1_Path.f p = some (p / 256, p / 16 % 16, p % 16, true) := by
    unfold presidioref1_Path.f
    rw [if_neg (by omega), if_neg (by omega), Int.tdiv_eq_ediv_of_nonneg h0, Int.tdiv_eq_ediv_of_nonneg h0, Int.tmod_eq_emod_of_nonneg h0]
    rw [show wrap64 (p / 256) = p / 256 by unfold wrap64; omega, show wrap64 (p / 16) = p / 16 by unfold wrap64; omega, Int.tmod_eq_emod_of_nonneg (by omega)]
  exact (presidioref1_Path.calls p _ _ _ _ w hf).mono fun e w' h => ⟨h.1, h.2.below⟩
theorem rnew_c (w : World) (f s : Int) (N : Nat) (S : Int) (hN : frames f = N) (hS : secures f s = S) : Calls Try.prog 27 #[.int .i64 f, .int .i64 s] w fun e w' => ∃ g R, e = .returned (.pointer (some ⟨g, 0, none⟩)) ∧ RIs w' w.heap.size g R N (List.replicate (N * 128) 0) S ∧ Below w.heap.size w w' := by
  subst hN hS
  exact (rnew_any w f s).mono fun e w' h => h
def setV1 (f q : Int) (bl : Bool) : Int := if bl = true then 3 + 4 * q + 4096 * f else 8193
def setK (a b c f q : Int) (bl : Bool) : Nat → List Int
  | 0 => List.replicate (40 * 128) 0
  | 1 => swF 40 10 (List.replicate (40 * 128) 0) true 0 a 4097
  | 2 => swF 40 10 (swF 40 10 (List.replicate (40 * 128) 0) true 0 a 4097) true 1 b (setV1 f q bl)
  | _ => swF 40 10 (swF 40 10 (swF 40 10 (List.replicate (40 * 128) 0) true 0 a 4097) true 1 b (setV1 f q bl)) true 2 c (2 + 4 * q + 4096 * f)
def setF (page f q : Int) (bl : Bool) : List Int := setK (page / 256) (page / 16 % 16) (page % 16) f q bl 3
theorem setF_mem {page f q : Int} {bl : Bool} (hf : 0 ≤ f) (hq : 0 ≤ q) : ∀ x ∈ setF page f q bl, 0 ≤ x ∧ x ≤ 255 :=
  swF_mem (swF_mem (swF_mem mem_zero (by decide)) (by unfold setV1; split <;> omega)) (by omega)
def SetP (page f q : Int) (bl : Bool) (w : World) (e : Ending) (w' : World) : Prop :=
  ∃ g b g' R, e = .returned (.tuple #[.pointer (some ⟨g, 0, none⟩), .pointer (some ⟨g', 0, none⟩)]) ∧ Is w' w.heap.size g b 40 (setF page f q bl) 10 ∧ RIs w' w.heap.size g' R 40 (setF page f q bl) 10 ∧ Below w.heap.size w w'
theorem is_blk {w : World} {B g b n : Nat} {F : List Int} {s : Int} (h : Is w B g b n F s) (hn : 0 < n) : ∃ cs, w.heap[b]? = some (.cells cs 113 (0, 0)) := by
  obtain ⟨A, c, cur, _, _, _, _, _, _, _, hr⟩ := h
  exact ⟨cur, (hr hn).2.2.1⟩
theorem ris_blk {w : World} {B g k : Nat} {R : Option Nat} {n : Nat} {F : List Int} {s : Int} (h : RIs w B g R n F s) (hk : R = some k) : ∃ cs, w.heap[k]? = some (.cells cs 9 (0, 0)) := by
  obtain ⟨A, c, _, _, _, _, ho, rfl⟩ := h
  exact (own_lt ho hk).2.2
theorem blk_type {w : World} {a b : Nat} {cs cs' : Array Value} {t t' : TypeId} (h : w.heap[a]? = some (.cells cs t (0, 0))) (h' : w.heap[b]? = some (.cells cs' t' (0, 0))) (hne : t ≠ t') : a ≠ b := by
  intro e
  rw [e, h'] at h
  injection h with h
  injection h with _ h
  exact hne h.symm
theorem RIs.lower {w : World} {B B' g : Nat} {R : Option Nat} {n : Nat} {F : List Int} {s : Int} (h : RIs w B g R n F s) (hB : B' ≤ B) : RIs w B' g R n F s := by
  obtain ⟨A, c, h1, h2, h3, h4, ho, hR⟩ := h
  exact ⟨A, c, h1, Nat.le_trans hB h2, h3, h4, Go.Proofs.YtdpjpmlajjfpgaaW.PrintWords.own_less ho hB, hR⟩
theorem blk_new1 (w : World) (o1 o2 : Obj) : ((w.alloc o1).alloc o2).heap[w.heap.size + 1]? = some o2 := by
  show ((w.alloc o1).heap.push o2)[_]? = _
  rw [Array.getElem?_push, if_pos (by simp)]
/-- Both memories, and the two rows that are read. -/
structure Mr (W0 w : World) (g b : Nat) (F1 : List Int) (g' : Nat) (R : Option Nat) (F2 : List Int) (X Y : Nat) (xs ys : Array Value) : Prop where
  p : Is w W0.heap.size g b 40 F1 10
  r : RIs w W0.heap.size g' R 40 F2 10
  x : w.heap[X]? = some (.cells xs 51 (0, 0))
  y : w.heap[Y]? = some (.cells ys 3 (0, 0))
  bel : Below W0.heap.size W0 w
variable {W0 w w' : World} {g b g' X Y : Nat} {F F1 F2 : List Int} {R : Option Nat} {xs ys : Array Value}
theorem Mr.prog (T : Mr W0 w g b F1 g' R F2 X Y xs ys) (H : Is w' W0.heap.size g b 40 F 10) (hk : Kept w w' (fun j => 0 < 40 ∧ j = b)) : Mr W0 w' g b F g' R F2 X Y xs ys := by
  obtain ⟨cs, hc⟩ := is_blk T.p (by omega)
  exact ⟨H, ris_other T.p T.r hk, hk.blk T.x (fun ⟨_, e⟩ => absurd e (blk_type T.x hc (by decide))), hk.blk T.y (fun ⟨_, e⟩ => absurd e (blk_type T.y hc (by decide))), bel_own T.bel T.p (Nat.le_refl _) hk⟩
theorem Mr.ref (T : Mr W0 w g b F1 g' R F2 X Y xs ys) (H : RIs w' W0.heap.size g' R 40 F 10) (hk : Kept w w' (fun j => R = some j)) : Mr W0 w' g b F1 g' R F X Y xs ys :=
  ⟨is_other T.p T.r hk, H, hk.blk T.x (fun e => by obtain ⟨cs, hc⟩ := ris_blk T.r e; exact absurd rfl (blk_type T.x hc (by decide))), hk.blk T.y (fun e => by obtain ⟨cs, hc⟩ := ris_blk T.r e; exact absurd rfl (blk_type T.y hc (by decide))), bel_rown T.bel T.r (Nat.le_refl _) hk⟩
theorem Mr.below (T : Mr W0 w g b F1 g' R F2 X Y xs ys) (hb : Below w.heap.size w w') : Mr W0 w' g b F1 g' R F2 X Y xs ys :=
  ⟨T.p.below hb, T.r.below hb, blk_below T.x hb, blk_below T.y hb, bel_chain T.bel hb⟩
theorem Mr.drew (T : Mr W0 w g b F1 g' R F2 X Y xs ys) : Mr W0 w.drew g b F1 g' R F2 X Y xs ys := T.below (bel_drew (Below.refl _ _))

set_option maxRecDepth 100000 in
set_option maxHeartbeats 16000000 in
theorem set_false (W : World) (page f q : Int) (hp : 0 ≤ page ∧ page < 4096) (hf : 0 ≤ f ∧ f < 44) (hq : 1 ≤ q ∧ q ≤ 7) : Calls Try.prog 36 #[.int .i64 page, .int .i64 f, .int .i64 q, .bool false] W (SetP page f q false W) := by
  have m0 : mayB 1 1 0 = true := by decide
  have m1 : mayB 1 2 0 = true := by decide
  have m2 : mayB 2 f q = true := by simp [mayB]; omega
  have u1 : 8193 = setV1 f q false := rfl
  have hu51 := Try.underlying51
  obtain ⟨A, hA⟩ : ∃ A, page / 256 = A := ⟨_, rfl⟩
  obtain ⟨B, hB⟩ : ∃ A, page / 16 % 16 = A := ⟨_, rfl⟩
  obtain ⟨C, hC⟩ : ∃ A, page % 16 = A := ⟨_, rfl⟩
  have hpath := fun w => rpath_in w page hp.1 hp.2
  rw [hA, hB, hC] at hpath
  have HG : setF page f q false = setK A B C f q false 3 := by unfold setF; rw [hA, hB, hC]
  have hv1 : 0 ≤ setV1 f q false ∧ setV1 f q false ≤ 18446744073709551615 := by unfold setV1; split <;> omega
  have hv2 : 0 ≤ 2 + 4 * q + 4096 * f ∧ 2 + 4 * q + 4096 * f ≤ 18446744073709551615 := by omega
  have hv0 : (0 : Int) ≤ 4097 ∧ (4097 : Int) ≤ 18446744073709551615 := by omega
  have HGh := Lib.hid HG
  clear hA hB hC hp hf hq HG
  go_enter Try.func36, Try.ntmps36
  go_wp2_with (first
    | (go_at_call 26; (with_reducible refine (new_i W 40 10 40 10 (by decide) (by decide)).mono ?_); rintro e w1 ⟨g, b, rfl, H1, hb1⟩)
    | (go_at_call 27; (with_reducible refine (rnew_c w1 40 10 40 10 (by decide) (by decide)).mono ?_); rintro e w2 ⟨g', R, rfl, R2, hb2⟩; have H2 := H1.below hb2; have hle := hb1.size; have bel2 := bel_chain hb1 hb2; clear hb2 H1)
    | (go_at_call 34; refine (hpath _).mono ?_; rintro e w3 ⟨rfl, hb3⟩; have H3 := H2.below hb3; have R3 := (R2.below hb3).lower hle; have bel3 := bel_chain bel2 hb3; clear hb3 H2 R2 bel2)
    | fail)
  have M0 : Hid (Mr W ((w3.alloc (.cells #[.int .i64 1, .int .i64 1, .int .i64 0, .int .i64 1, .int .i64 2, .int .i64 0, .int .i64 2, .int .i64 f, .int .i64 q] 51)).alloc (.cells #[.int .i64 A, .int .i64 B, .int .i64 C] 3)) g b (setK A B C f q false 0) g' R (setK A B C f q false 0) w3.heap.size (w3.heap.size + 1) #[.int .i64 1, .int .i64 1, .int .i64 0, .int .i64 1, .int .i64 2, .int .i64 0, .int .i64 2, .int .i64 f, .int .i64 q] #[.int .i64 A, .int .i64 B, .int .i64 C]) :=
    Lib.hid ⟨(H3.below (bel_alloc (Below.refl _ _) _)).below (bel_alloc (Below.refl _ _) _), (R3.below (bel_alloc (Below.refl _ _) _)).below (bel_alloc (Below.refl _ _) _), blk_alloc (blk_new _ _) _, blk_new1 _ _ _, bel_alloc (bel_alloc bel3 _) _⟩
  obtain ⟨X, hX⟩ : ∃ X, w3.heap.size = X := ⟨_, rfl⟩
  obtain ⟨Y, hY⟩ : ∃ Y, X + 1 = Y := ⟨_, rfl⟩
  rw [hX, hY] at M0 ⊢
  clear hX hY H3 R3 bel3 hle hb1
  go_loopw [18] (fun i wr => ∃ (k : Nat), k ≤ 3 ∧ i = .int .i64 k ∧ Hid (Mr W wr g b (setK A B C f q false k) g' R (setK A B C f q false k) X Y #[.int .i64 1, .int .i64 1, .int .i64 0, .int .i64 1, .int .i64 2, .int .i64 0, .int .i64 2, .int .i64 f, .int .i64 q] #[.int .i64 A, .int .i64 B, .int .i64 C])) (fun i _ => 3 - (intOf i).toNat)
  case atStart => exact ⟨0, by omega, rfl, M0⟩
  case round =>
    clear M0
    obtain ⟨k, hk, rfl, HM⟩ := hrel
    have hk' : k = 0 ∨ k = 1 ∨ k = 2 ∨ k = 3 := by omega
    rcases hk' with rfl | rfl | rfl | rfl
    · go_wp2
      have T1 := HM.out.drew
      have a1 := (blk_cell T1.y 0).trans (show _ = some (Value.int .i64 A) from rfl)
      have a2 := (blk_cell T1.x 0).trans (show _ = some (Value.int .i64 1) from rfl)
      have a3 := (blk_cell T1.x 1).trans (show _ = some (Value.int .i64 1) from rfl)
      have a4 := (blk_cell T1.x 2).trans (show _ = some (Value.int .i64 0) from rfl)
      go_region_held3 (fun w' => w'.cell? ⟨Y, 0, none⟩ = some (.int .i64 A) ∧ w'.cell? ⟨X, 0, none⟩ = some (.int .i64 1) ∧ w'.cell? ⟨X, 1, none⟩ = some (.int .i64 1) ∧ w'.cell? ⟨X, 2, none⟩ = some (.int .i64 0)) (first | exact ⟨a1, a2, a3, a4⟩ | exact ⟨b1, b2, b3, b4⟩ | exact ⟨c1, c2, c3, c4⟩ | exact ⟨d1, d2, d3, d4⟩ | exact ⟨e1, e2, e3, e4⟩ | exact ⟨h1, h2, h3, h4⟩) (first | (go_at_call 28; refine (slot_any _ 1 1 0 4097 m0 (by decide)).mono ?_; rintro e w4 ⟨rfl, hb4⟩; have T4 := T1.below hb4; have b1 := (blk_cell T4.y 0).trans (show _ = some (Value.int .i64 A) from rfl); have b2 := (blk_cell T4.x 0).trans (show _ = some (Value.int .i64 1) from rfl); have b3 := (blk_cell T4.x 1).trans (show _ = some (Value.int .i64 1) from rfl); have b4 := (blk_cell T4.x 2).trans (show _ = some (Value.int .i64 0) from rfl)) | (go_at_call 29; refine (setWord_any T4.p true 0 A 4097 hv0).mono ?_; rintro e w5 ⟨rfl, H5, k5⟩; have T5 := T4.prog H5 k5; have c1 := (blk_cell T5.y 0).trans (show _ = some (Value.int .i64 A) from rfl); have c2 := (blk_cell T5.x 0).trans (show _ = some (Value.int .i64 1) from rfl); have c3 := (blk_cell T5.x 1).trans (show _ = some (Value.int .i64 1) from rfl); have c4 := (blk_cell T5.x 2).trans (show _ = some (Value.int .i64 0) from rfl)))
      have HT5 := Lib.hid T5
      clear T1 T4 T5 H5 k5 hb4 a1 a2 a3 a4 b1 b2 b3 b4 c1 c2 c3 c4
      go_wp2
      have T6 := HT5.out.drew
      have a1 := (blk_cell T6.y 0).trans (show _ = some (Value.int .i64 A) from rfl)
      have a2 := (blk_cell T6.x 0).trans (show _ = some (Value.int .i64 1) from rfl)
      have a3 := (blk_cell T6.x 1).trans (show _ = some (Value.int .i64 1) from rfl)
      have a4 := (blk_cell T6.x 2).trans (show _ = some (Value.int .i64 0) from rfl)
      go_region_held3 (fun w' => w'.cell? ⟨Y, 0, none⟩ = some (.int .i64 A) ∧ w'.cell? ⟨X, 0, none⟩ = some (.int .i64 1) ∧ w'.cell? ⟨X, 1, none⟩ = some (.int .i64 1) ∧ w'.cell? ⟨X, 2, none⟩ = some (.int .i64 0)) (first | exact ⟨a1, a2, a3, a4⟩ | exact ⟨b1, b2, b3, b4⟩ | exact ⟨c1, c2, c3, c4⟩ | exact ⟨d1, d2, d3, d4⟩ | exact ⟨e1, e2, e3, e4⟩ | exact ⟨h1, h2, h3, h4⟩) (first | (go_at_call 28; refine (slot_any _ 1 1 0 4097 m0 (by decide)).mono ?_; rintro e w7 ⟨rfl, hb7⟩; have T7 := T6.below hb7; have b1 := (blk_cell T7.y 0).trans (show _ = some (Value.int .i64 A) from rfl); have b2 := (blk_cell T7.x 0).trans (show _ = some (Value.int .i64 1) from rfl); have b3 := (blk_cell T7.x 1).trans (show _ = some (Value.int .i64 1) from rfl); have b4 := (blk_cell T7.x 2).trans (show _ = some (Value.int .i64 0) from rfl)) | (go_at_call 30; refine (rsetWord_any T7.r true 0 A 4097 hv0).mono ?_; rintro e w8 ⟨rfl, H8, k8⟩; have T8 := T7.ref H8 k8; have c1 := (blk_cell T8.y 0).trans (show _ = some (Value.int .i64 A) from rfl); have c2 := (blk_cell T8.x 0).trans (show _ = some (Value.int .i64 1) from rfl); have c3 := (blk_cell T8.x 1).trans (show _ = some (Value.int .i64 1) from rfl); have c4 := (blk_cell T8.x 2).trans (show _ = some (Value.int .i64 0) from rfl)))
      have HT8 := Lib.hid T8
      clear T6 T7 T8 H8 k8 hb7 a1 a2 a3 a4 b1 b2 b3 b4 c1 c2 c3 c4
      go_wp2
      go_roundw
      case rel => exact ⟨1, by omega, by go_num, Lib.hid HT8.out⟩
      case measure => simp [intOf]
    · go_wp2
      have T1 := HM.out.drew
      have a1 := (blk_cell T1.y 1).trans (show _ = some (Value.int .i64 B) from rfl)
      have a2 := (blk_cell T1.x 3).trans (show _ = some (Value.int .i64 1) from rfl)
      have a3 := (blk_cell T1.x 4).trans (show _ = some (Value.int .i64 2) from rfl)
      have a4 := (blk_cell T1.x 5).trans (show _ = some (Value.int .i64 0) from rfl)
      go_region_held3 (fun w' => w'.cell? ⟨Y, 1, none⟩ = some (.int .i64 B) ∧ w'.cell? ⟨X, 3, none⟩ = some (.int .i64 1) ∧ w'.cell? ⟨X, 4, none⟩ = some (.int .i64 2) ∧ w'.cell? ⟨X, 5, none⟩ = some (.int .i64 0)) (first | exact ⟨a1, a2, a3, a4⟩ | exact ⟨b1, b2, b3, b4⟩ | exact ⟨c1, c2, c3, c4⟩ | exact ⟨d1, d2, d3, d4⟩ | exact ⟨e1, e2, e3, e4⟩ | exact ⟨h1, h2, h3, h4⟩) (first | (go_at_call 28; refine (slot_any _ 1 2 0 (setV1 f q false) m1 (by rw [← u1] <;> omega)).mono ?_; rintro e w4 ⟨rfl, hb4⟩; have T4 := T1.below hb4; have b1 := (blk_cell T4.y 1).trans (show _ = some (Value.int .i64 B) from rfl); have b2 := (blk_cell T4.x 3).trans (show _ = some (Value.int .i64 1) from rfl); have b3 := (blk_cell T4.x 4).trans (show _ = some (Value.int .i64 2) from rfl); have b4 := (blk_cell T4.x 5).trans (show _ = some (Value.int .i64 0) from rfl)) | (go_at_call 29; refine (setWord_any T4.p true 1 B (setV1 f q false) hv1).mono ?_; rintro e w5 ⟨rfl, H5, k5⟩; have T5 := T4.prog H5 k5; have c1 := (blk_cell T5.y 1).trans (show _ = some (Value.int .i64 B) from rfl); have c2 := (blk_cell T5.x 3).trans (show _ = some (Value.int .i64 1) from rfl); have c3 := (blk_cell T5.x 4).trans (show _ = some (Value.int .i64 2) from rfl); have c4 := (blk_cell T5.x 5).trans (show _ = some (Value.int .i64 0) from rfl)))
      have HT5 := Lib.hid T5
      clear T1 T4 T5 H5 k5 hb4 a1 a2 a3 a4 b1 b2 b3 b4 c1 c2 c3 c4
      go_wp2
      have T6 := HT5.out.drew
      have a1 := (blk_cell T6.y 1).trans (show _ = some (Value.int .i64 B) from rfl)
      have a2 := (blk_cell T6.x 3).trans (show _ = some (Value.int .i64 1) from rfl)
      have a3 := (blk_cell T6.x 4).trans (show _ = some (Value.int .i64 2) from rfl)
      have a4 := (blk_cell T6.x 5).trans (show _ = some (Value.int .i64 0) from rfl)
      go_region_held3 (fun w' => w'.cell? ⟨Y, 1, none⟩ = some (.int .i64 B) ∧ w'.cell? ⟨X, 3, none⟩ = some (.int .i64 1) ∧ w'.cell? ⟨X, 4, none⟩ = some (.int .i64 2) ∧ w'.cell? ⟨X, 5, none⟩ = some (.int .i64 0)) (first | exact ⟨a1, a2, a3, a4⟩ | exact ⟨b1, b2, b3, b4⟩ | exact ⟨c1, c2, c3, c4⟩ | exact ⟨d1, d2, d3, d4⟩ | exact ⟨e1, e2, e3, e4⟩ | exact ⟨h1, h2, h3, h4⟩) (first | (go_at_call 28; refine (slot_any _ 1 2 0 (setV1 f q false) m1 (by rw [← u1] <;> omega)).mono ?_; rintro e w7 ⟨rfl, hb7⟩; have T7 := T6.below hb7; have b1 := (blk_cell T7.y 1).trans (show _ = some (Value.int .i64 B) from rfl); have b2 := (blk_cell T7.x 3).trans (show _ = some (Value.int .i64 1) from rfl); have b3 := (blk_cell T7.x 4).trans (show _ = some (Value.int .i64 2) from rfl); have b4 := (blk_cell T7.x 5).trans (show _ = some (Value.int .i64 0) from rfl)) | (go_at_call 30; refine (rsetWord_any T7.r true 1 B (setV1 f q false) hv1).mono ?_; rintro e w8 ⟨rfl, H8, k8⟩; have T8 := T7.ref H8 k8; have c1 := (blk_cell T8.y 1).trans (show _ = some (Value.int .i64 B) from rfl); have c2 := (blk_cell T8.x 3).trans (show _ = some (Value.int .i64 1) from rfl); have c3 := (blk_cell T8.x 4).trans (show _ = some (Value.int .i64 2) from rfl); have c4 := (blk_cell T8.x 5).trans (show _ = some (Value.int .i64 0) from rfl)))
      have HT8 := Lib.hid T8
      clear T6 T7 T8 H8 k8 hb7 a1 a2 a3 a4 b1 b2 b3 b4 c1 c2 c3 c4
      go_wp2
      go_roundw
      case rel => exact ⟨2, by omega, by go_num, Lib.hid HT8.out⟩
      case measure => simp [intOf]
    · go_wp2
      have T1 := HM.out.drew
      have a1 := (blk_cell T1.y 2).trans (show _ = some (Value.int .i64 C) from rfl)
      have a2 := (blk_cell T1.x 6).trans (show _ = some (Value.int .i64 2) from rfl)
      have a3 := (blk_cell T1.x 7).trans (show _ = some (Value.int .i64 f) from rfl)
      have a4 := (blk_cell T1.x 8).trans (show _ = some (Value.int .i64 q) from rfl)
      go_region_held3 (fun w' => w'.cell? ⟨Y, 2, none⟩ = some (.int .i64 C) ∧ w'.cell? ⟨X, 6, none⟩ = some (.int .i64 2) ∧ w'.cell? ⟨X, 7, none⟩ = some (.int .i64 f) ∧ w'.cell? ⟨X, 8, none⟩ = some (.int .i64 q)) (first | exact ⟨a1, a2, a3, a4⟩ | exact ⟨b1, b2, b3, b4⟩ | exact ⟨c1, c2, c3, c4⟩ | exact ⟨d1, d2, d3, d4⟩ | exact ⟨e1, e2, e3, e4⟩ | exact ⟨h1, h2, h3, h4⟩) (first | (go_at_call 28; refine (slot_any _ 2 f q (2 + 4 * q + 4096 * f) m2 (by omega)).mono ?_; rintro e w4 ⟨rfl, hb4⟩; have T4 := T1.below hb4; have b1 := (blk_cell T4.y 2).trans (show _ = some (Value.int .i64 C) from rfl); have b2 := (blk_cell T4.x 6).trans (show _ = some (Value.int .i64 2) from rfl); have b3 := (blk_cell T4.x 7).trans (show _ = some (Value.int .i64 f) from rfl); have b4 := (blk_cell T4.x 8).trans (show _ = some (Value.int .i64 q) from rfl)) | (go_at_call 29; refine (setWord_any T4.p true 2 C (2 + 4 * q + 4096 * f) hv2).mono ?_; rintro e w5 ⟨rfl, H5, k5⟩; have T5 := T4.prog H5 k5; have c1 := (blk_cell T5.y 2).trans (show _ = some (Value.int .i64 C) from rfl); have c2 := (blk_cell T5.x 6).trans (show _ = some (Value.int .i64 2) from rfl); have c3 := (blk_cell T5.x 7).trans (show _ = some (Value.int .i64 f) from rfl); have c4 := (blk_cell T5.x 8).trans (show _ = some (Value.int .i64 q) from rfl)))
      have HT5 := Lib.hid T5
      clear T1 T4 T5 H5 k5 hb4 a1 a2 a3 a4 b1 b2 b3 b4 c1 c2 c3 c4
      go_wp2
      have T6 := HT5.out.drew
      have a1 := (blk_cell T6.y 2).trans (show _ = some (Value.int .i64 C) from rfl)
      have a2 := (blk_cell T6.x 6).trans (show _ = some (Value.int .i64 2) from rfl)
      have a3 := (blk_cell T6.x 7).trans (show _ = some (Value.int .i64 f) from rfl)
      have a4 := (blk_cell T6.x 8).trans (show _ = some (Value.int .i64 q) from rfl)
      go_region_held3 (fun w' => w'.cell? ⟨Y, 2, none⟩ = some (.int .i64 C) ∧ w'.cell? ⟨X, 6, none⟩ = some (.int .i64 2) ∧ w'.cell? ⟨X, 7, none⟩ = some (.int .i64 f) ∧ w'.cell? ⟨X, 8, none⟩ = some (.int .i64 q)) (first | exact ⟨a1, a2, a3, a4⟩ | exact ⟨b1, b2, b3, b4⟩ | exact ⟨c1, c2, c3, c4⟩ | exact ⟨d1, d2, d3, d4⟩ | exact ⟨e1, e2, e3, e4⟩ | exact ⟨h1, h2, h3, h4⟩) (first | (go_at_call 28; refine (slot_any _ 2 f q (2 + 4 * q + 4096 * f) m2 (by omega)).mono ?_; rintro e w7 ⟨rfl, hb7⟩; have T7 := T6.below hb7; have b1 := (blk_cell T7.y 2).trans (show _ = some (Value.int .i64 C) from rfl); have b2 := (blk_cell T7.x 6).trans (show _ = some (Value.int .i64 2) from rfl); have b3 := (blk_cell T7.x 7).trans (show _ = some (Value.int .i64 f) from rfl); have b4 := (blk_cell T7.x 8).trans (show _ = some (Value.int .i64 q) from rfl)) | (go_at_call 30; refine (rsetWord_any T7.r true 2 C (2 + 4 * q + 4096 * f) hv2).mono ?_; rintro e w8 ⟨rfl, H8, k8⟩; have T8 := T7.ref H8 k8; have c1 := (blk_cell T8.y 2).trans (show _ = some (Value.int .i64 C) from rfl); have c2 := (blk_cell T8.x 6).trans (show _ = some (Value.int .i64 2) from rfl); have c3 := (blk_cell T8.x 7).trans (show _ = some (Value.int .i64 f) from rfl); have c4 := (blk_cell T8.x 8).trans (show _ = some (Value.int .i64 q) from rfl)))
      have HT8 := Lib.hid T8
      clear T6 T7 T8 H8 k8 hb7 a1 a2 a3 a4 b1 b2 b3 b4 c1 c2 c3 c4
      go_wp2
      go_roundw
      case rel => exact ⟨3, by omega, by go_num, Lib.hid HT8.out⟩
      case measure => simp [intOf]
    · have hG := HGh.out
      go_wp2
      go_ret2
      exact ⟨g, b, g', R, rfl, by rw [hG]; exact HM.out.p, by rw [hG]; exact HM.out.r, HM.out.bel⟩
set_option maxRecDepth 100000 in
set_option maxHeartbeats 16000000 in
theorem set_true (W : World) (page f q : Int) (hp : 0 ≤ page ∧ page < 4096) (hf : 0 ≤ f ∧ f < 44) (hq : 1 ≤ q ∧ q ≤ 7) : Calls Try.prog 36 #[.int .i64 page, .int .i64 f, .int .i64 q, .bool true] W (SetP page f q true W) := by
  have m0 : mayB 1 1 0 = true := by decide
  have m1 : mayB 3 f q = true := by simp [mayB]; omega
  have m2 : mayB 2 f q = true := by simp [mayB]; omega
  have u1 : 3 + 4 * q + 4096 * f = setV1 f q true := rfl
  have hu51 := Try.underlying51
  obtain ⟨A, hA⟩ : ∃ A, page / 256 = A := ⟨_, rfl⟩
  obtain ⟨B, hB⟩ : ∃ A, page / 16 % 16 = A := ⟨_, rfl⟩
  obtain ⟨C, hC⟩ : ∃ A, page % 16 = A := ⟨_, rfl⟩
  have hpath := fun w => rpath_in w page hp.1 hp.2
  rw [hA, hB, hC] at hpath
  have HG : setF page f q true = setK A B C f q true 3 := by unfold setF; rw [hA, hB, hC]
  have hv1 : 0 ≤ setV1 f q true ∧ setV1 f q true ≤ 18446744073709551615 := by unfold setV1; split <;> omega
  have hv2 : 0 ≤ 2 + 4 * q + 4096 * f ∧ 2 + 4 * q + 4096 * f ≤ 18446744073709551615 := by omega
  have hv0 : (0 : Int) ≤ 4097 ∧ (4097 : Int) ≤ 18446744073709551615 := by omega
  have HGh := Lib.hid HG
  clear hA hB hC hp hf hq HG
  go_enter Try.func36, Try.ntmps36
  go_wp2_with (first
    | (go_at_call 26; (with_reducible refine (new_i W 40 10 40 10 (by decide) (by decide)).mono ?_); rintro e w1 ⟨g, b, rfl, H1, hb1⟩)
    | (go_at_call 27; (with_reducible refine (rnew_c w1 40 10 40 10 (by decide) (by decide)).mono ?_); rintro e w2 ⟨g', R, rfl, R2, hb2⟩; have H2 := H1.below hb2; have hle := hb1.size; have bel2 := bel_chain hb1 hb2; clear hb2 H1)
    | (go_at_call 34; refine (hpath _).mono ?_; rintro e w3 ⟨rfl, hb3⟩; have H3 := H2.below hb3; have R3 := (R2.below hb3).lower hle; have bel3 := bel_chain bel2 hb3; clear hb3 H2 R2 bel2)
    | fail)
  have M0 : Hid (Mr W ((w3.alloc (.cells #[.int .i64 1, .int .i64 1, .int .i64 0, .int .i64 3, .int .i64 f, .int .i64 q, .int .i64 2, .int .i64 f, .int .i64 q] 51)).alloc (.cells #[.int .i64 A, .int .i64 B, .int .i64 C] 3)) g b (setK A B C f q true 0) g' R (setK A B C f q true 0) w3.heap.size (w3.heap.size + 1) #[.int .i64 1, .int .i64 1, .int .i64 0, .int .i64 3, .int .i64 f, .int .i64 q, .int .i64 2, .int .i64 f, .int .i64 q] #[.int .i64 A, .int .i64 B, .int .i64 C]) :=
    Lib.hid ⟨(H3.below (bel_alloc (Below.refl _ _) _)).below (bel_alloc (Below.refl _ _) _), (R3.below (bel_alloc (Below.refl _ _) _)).below (bel_alloc (Below.refl _ _) _), blk_alloc (blk_new _ _) _, blk_new1 _ _ _, bel_alloc (bel_alloc bel3 _) _⟩
  obtain ⟨X, hX⟩ : ∃ X, w3.heap.size = X := ⟨_, rfl⟩
  obtain ⟨Y, hY⟩ : ∃ Y, X + 1 = Y := ⟨_, rfl⟩
  rw [hX, hY] at M0 ⊢
  clear hX hY H3 R3 bel3 hle hb1
  go_loopw [18] (fun i wr => ∃ (k : Nat), k ≤ 3 ∧ i = .int .i64 k ∧ Hid (Mr W wr g b (setK A B C f q true k) g' R (setK A B C f q true k) X Y #[.int .i64 1, .int .i64 1, .int .i64 0, .int .i64 3, .int .i64 f, .int .i64 q, .int .i64 2, .int .i64 f, .int .i64 q] #[.int .i64 A, .int .i64 B, .int .i64 C])) (fun i _ => 3 - (intOf i).toNat)
  case atStart => exact ⟨0, by omega, rfl, M0⟩
  case round =>
    clear M0
    obtain ⟨k, hk, rfl, HM⟩ := hrel
    have hk' : k = 0 ∨ k = 1 ∨ k = 2 ∨ k = 3 := by omega
    rcases hk' with rfl | rfl | rfl | rfl
    · go_wp2
      have T1 := HM.out.drew
      have a1 := (blk_cell T1.y 0).trans (show _ = some (Value.int .i64 A) from rfl)
      have a2 := (blk_cell T1.x 0).trans (show _ = some (Value.int .i64 1) from rfl)
      have a3 := (blk_cell T1.x 1).trans (show _ = some (Value.int .i64 1) from rfl)
      have a4 := (blk_cell T1.x 2).trans (show _ = some (Value.int .i64 0) from rfl)
      go_region_held3 (fun w' => w'.cell? ⟨Y, 0, none⟩ = some (.int .i64 A) ∧ w'.cell? ⟨X, 0, none⟩ = some (.int .i64 1) ∧ w'.cell? ⟨X, 1, none⟩ = some (.int .i64 1) ∧ w'.cell? ⟨X, 2, none⟩ = some (.int .i64 0)) (first | exact ⟨a1, a2, a3, a4⟩ | exact ⟨b1, b2, b3, b4⟩ | exact ⟨c1, c2, c3, c4⟩ | exact ⟨d1, d2, d3, d4⟩ | exact ⟨e1, e2, e3, e4⟩ | exact ⟨h1, h2, h3, h4⟩) (first | (go_at_call 28; refine (slot_any _ 1 1 0 4097 m0 (by decide)).mono ?_; rintro e w4 ⟨rfl, hb4⟩; have T4 := T1.below hb4; have b1 := (blk_cell T4.y 0).trans (show _ = some (Value.int .i64 A) from rfl); have b2 := (blk_cell T4.x 0).trans (show _ = some (Value.int .i64 1) from rfl); have b3 := (blk_cell T4.x 1).trans (show _ = some (Value.int .i64 1) from rfl); have b4 := (blk_cell T4.x 2).trans (show _ = some (Value.int .i64 0) from rfl)) | (go_at_call 29; refine (setWord_any T4.p true 0 A 4097 hv0).mono ?_; rintro e w5 ⟨rfl, H5, k5⟩; have T5 := T4.prog H5 k5; have c1 := (blk_cell T5.y 0).trans (show _ = some (Value.int .i64 A) from rfl); have c2 := (blk_cell T5.x 0).trans (show _ = some (Value.int .i64 1) from rfl); have c3 := (blk_cell T5.x 1).trans (show _ = some (Value.int .i64 1) from rfl); have c4 := (blk_cell T5.x 2).trans (show _ = some (Value.int .i64 0) from rfl)))
      have HT5 := Lib.hid T5
      clear T1 T4 T5 H5 k5 hb4 a1 a2 a3 a4 b1 b2 b3 b4 c1 c2 c3 c4
      go_wp2
      have T6 := HT5.out.drew
      have a1 := (blk_cell T6.y 0).trans (show _ = some (Value.int .i64 A) from rfl)
      have a2 := (blk_cell T6.x 0).trans (show _ = some (Value.int .i64 1) from rfl)
      have a3 := (blk_cell T6.x 1).trans (show _ = some (Value.int .i64 1) from rfl)
      have a4 := (blk_cell T6.x 2).trans (show _ = some (Value.int .i64 0) from rfl)
      go_region_held3 (fun w' => w'.cell? ⟨Y, 0, none⟩ = some (.int .i64 A) ∧ w'.cell? ⟨X, 0, none⟩ = some (.int .i64 1) ∧ w'.cell? ⟨X, 1, none⟩ = some (.int .i64 1) ∧ w'.cell? ⟨X, 2, none⟩ = some (.int .i64 0)) (first | exact ⟨a1, a2, a3, a4⟩ | exact ⟨b1, b2, b3, b4⟩ | exact ⟨c1, c2, c3, c4⟩ | exact ⟨d1, d2, d3, d4⟩ | exact ⟨e1, e2, e3, e4⟩ | exact ⟨h1, h2, h3, h4⟩) (first | (go_at_call 28; refine (slot_any _ 1 1 0 4097 m0 (by decide)).mono ?_; rintro e w7 ⟨rfl, hb7⟩; have T7 := T6.below hb7; have b1 := (blk_cell T7.y 0).trans (show _ = some (Value.int .i64 A) from rfl); have b2 := (blk_cell T7.x 0).trans (show _ = some (Value.int .i64 1) from rfl); have b3 := (blk_cell T7.x 1).trans (show _ = some (Value.int .i64 1) from rfl); have b4 := (blk_cell T7.x 2).trans (show _ = some (Value.int .i64 0) from rfl)) | (go_at_call 30; refine (rsetWord_any T7.r true 0 A 4097 hv0).mono ?_; rintro e w8 ⟨rfl, H8, k8⟩; have T8 := T7.ref H8 k8; have c1 := (blk_cell T8.y 0).trans (show _ = some (Value.int .i64 A) from rfl); have c2 := (blk_cell T8.x 0).trans (show _ = some (Value.int .i64 1) from rfl); have c3 := (blk_cell T8.x 1).trans (show _ = some (Value.int .i64 1) from rfl); have c4 := (blk_cell T8.x 2).trans (show _ = some (Value.int .i64 0) from rfl)))
      have HT8 := Lib.hid T8
      clear T6 T7 T8 H8 k8 hb7 a1 a2 a3 a4 b1 b2 b3 b4 c1 c2 c3 c4
      go_wp2
      go_roundw
      case rel => exact ⟨1, by omega, by go_num, Lib.hid HT8.out⟩
      case measure => simp [intOf]
    · go_wp2
      have T1 := HM.out.drew
      have a1 := (blk_cell T1.y 1).trans (show _ = some (Value.int .i64 B) from rfl)
      have a2 := (blk_cell T1.x 3).trans (show _ = some (Value.int .i64 3) from rfl)
      have a3 := (blk_cell T1.x 4).trans (show _ = some (Value.int .i64 f) from rfl)
      have a4 := (blk_cell T1.x 5).trans (show _ = some (Value.int .i64 q) from rfl)
      go_region_held3 (fun w' => w'.cell? ⟨Y, 1, none⟩ = some (.int .i64 B) ∧ w'.cell? ⟨X, 3, none⟩ = some (.int .i64 3) ∧ w'.cell? ⟨X, 4, none⟩ = some (.int .i64 f) ∧ w'.cell? ⟨X, 5, none⟩ = some (.int .i64 q)) (first | exact ⟨a1, a2, a3, a4⟩ | exact ⟨b1, b2, b3, b4⟩ | exact ⟨c1, c2, c3, c4⟩ | exact ⟨d1, d2, d3, d4⟩ | exact ⟨e1, e2, e3, e4⟩ | exact ⟨h1, h2, h3, h4⟩) (first | (go_at_call 28; refine (slot_any _ 3 f q (setV1 f q true) m1 (by rw [← u1] <;> omega)).mono ?_; rintro e w4 ⟨rfl, hb4⟩; have T4 := T1.below hb4; have b1 := (blk_cell T4.y 1).trans (show _ = some (Value.int .i64 B) from rfl); have b2 := (blk_cell T4.x 3).trans (show _ = some (Value.int .i64 3) from rfl); have b3 := (blk_cell T4.x 4).trans (show _ = some (Value.int .i64 f) from rfl); have b4 := (blk_cell T4.x 5).trans (show _ = some (Value.int .i64 q) from rfl)) | (go_at_call 29; refine (setWord_any T4.p true 1 B (setV1 f q true) hv1).mono ?_; rintro e w5 ⟨rfl, H5, k5⟩; have T5 := T4.prog H5 k5; have c1 := (blk_cell T5.y 1).trans (show _ = some (Value.int .i64 B) from rfl); have c2 := (blk_cell T5.x 3).trans (show _ = some (Value.int .i64 3) from rfl); have c3 := (blk_cell T5.x 4).trans (show _ = some (Value.int .i64 f) from rfl); have c4 := (blk_cell T5.x 5).trans (show _ = some (Value.int .i64 q) from rfl)))
      have HT5 := Lib.hid T5
      clear T1 T4 T5 H5 k5 hb4 a1 a2 a3 a4 b1 b2 b3 b4 c1 c2 c3 c4
      go_wp2
      have T6 := HT5.out.drew
      have a1 := (blk_cell T6.y 1).trans (show _ = some (Value.int .i64 B) from rfl)
      have a2 := (blk_cell T6.x 3).trans (show _ = some (Value.int .i64 3) from rfl)
      have a3 := (blk_cell T6.x 4).trans (show _ = some (Value.int .i64 f) from rfl)
      have a4 := (blk_cell T6.x 5).trans (show _ = some (Value.int .i64 q) from rfl)
      go_region_held3 (fun w' => w'.cell? ⟨Y, 1, none⟩ = some (.int .i64 B) ∧ w'.cell? ⟨X, 3, none⟩ = some (.int .i64 3) ∧ w'.cell? ⟨X, 4, none⟩ = some (.int .i64 f) ∧ w'.cell? ⟨X, 5, none⟩ = some (.int .i64 q)) (first | exact ⟨a1, a2, a3, a4⟩ | exact ⟨b1, b2, b3, b4⟩ | exact ⟨c1, c2, c3, c4⟩ | exact ⟨d1, d2, d3, d4⟩ | exact ⟨e1, e2, e3, e4⟩ | exact ⟨h1, h2, h3, h4⟩) (first | (go_at_call 28; refine (slot_any _ 3 f q (setV1 f q true) m1 (by rw [← u1] <;> omega)).mono ?_; rintro e w7 ⟨rfl, hb7⟩; have T7 := T6.below hb7; have b1 := (blk_cell T7.y 1).trans (show _ = some (Value.int .i64 B) from rfl); have b2 := (blk_cell T7.x 3).trans (show _ = some (Value.int .i64 3) from rfl); have b3 := (blk_cell T7.x 4).trans (show _ = some (Value.int .i64 f) from rfl); have b4 := (blk_cell T7.x 5).trans (show _ = some (Value.int .i64 q) from rfl)) | (go_at_call 30; refine (rsetWord_any T7.r true 1 B (setV1 f q true) hv1).mono ?_; rintro e w8 ⟨rfl, H8, k8⟩; have T8 := T7.ref H8 k8; have c1 := (blk_cell T8.y 1).trans (show _ = some (Value.int .i64 B) from rfl); have c2 := (blk_cell T8.x 3).trans (show _ = some (Value.int .i64 3) from rfl); have c3 := (blk_cell T8.x 4).trans (show _ = some (Value.int .i64 f) from rfl); have c4 := (blk_cell T8.x 5).trans (show _ = some (Value.int .i64 q) from rfl)))
      have HT8 := Lib.hid T8
      clear T6 T7 T8 H8 k8 hb7 a1 a2 a3 a4 b1 b2 b3 b4 c1 c2 c3 c4
      go_wp2
      go_roundw
      case rel => exact ⟨2, by omega, by go_num, Lib.hid HT8.out⟩
      case measure => simp [intOf]
    · go_wp2
      have T1 := HM.out.drew
      have a1 := (blk_cell T1.y 2).trans (show _ = some (Value.int .i64 C) from rfl)
      have a2 := (blk_cell T1.x 6).trans (show _ = some (Value.int .i64 2) from rfl)
      have a3 := (blk_cell T1.x 7).trans (show _ = some (Value.int .i64 f) from rfl)
      have a4 := (blk_cell T1.x 8).trans (show _ = some (Value.int .i64 q) from rfl)
      go_region_held3 (fun w' => w'.cell? ⟨Y, 2, none⟩ = some (.int .i64 C) ∧ w'.cell? ⟨X, 6, none⟩ = some (.int .i64 2) ∧ w'.cell? ⟨X, 7, none⟩ = some (.int .i64 f) ∧ w'.cell? ⟨X, 8, none⟩ = some (.int .i64 q)) (first | exact ⟨a1, a2, a3, a4⟩ | exact ⟨b1, b2, b3, b4⟩ | exact ⟨c1, c2, c3, c4⟩ | exact ⟨d1, d2, d3, d4⟩ | exact ⟨e1, e2, e3, e4⟩ | exact ⟨h1, h2, h3, h4⟩) (first | (go_at_call 28; refine (slot_any _ 2 f q (2 + 4 * q + 4096 * f) m2 (by omega)).mono ?_; rintro e w4 ⟨rfl, hb4⟩; have T4 := T1.below hb4; have b1 := (blk_cell T4.y 2).trans (show _ = some (Value.int .i64 C) from rfl); have b2 := (blk_cell T4.x 6).trans (show _ = some (Value.int .i64 2) from rfl); have b3 := (blk_cell T4.x 7).trans (show _ = some (Value.int .i64 f) from rfl); have b4 := (blk_cell T4.x 8).trans (show _ = some (Value.int .i64 q) from rfl)) | (go_at_call 29; refine (setWord_any T4.p true 2 C (2 + 4 * q + 4096 * f) hv2).mono ?_; rintro e w5 ⟨rfl, H5, k5⟩; have T5 := T4.prog H5 k5; have c1 := (blk_cell T5.y 2).trans (show _ = some (Value.int .i64 C) from rfl); have c2 := (blk_cell T5.x 6).trans (show _ = some (Value.int .i64 2) from rfl); have c3 := (blk_cell T5.x 7).trans (show _ = some (Value.int .i64 f) from rfl); have c4 := (blk_cell T5.x 8).trans (show _ = some (Value.int .i64 q) from rfl)))
      have HT5 := Lib.hid T5
      clear T1 T4 T5 H5 k5 hb4 a1 a2 a3 a4 b1 b2 b3 b4 c1 c2 c3 c4
      go_wp2
      have T6 := HT5.out.drew
      have a1 := (blk_cell T6.y 2).trans (show _ = some (Value.int .i64 C) from rfl)
      have a2 := (blk_cell T6.x 6).trans (show _ = some (Value.int .i64 2) from rfl)
      have a3 := (blk_cell T6.x 7).trans (show _ = some (Value.int .i64 f) from rfl)
      have a4 := (blk_cell T6.x 8).trans (show _ = some (Value.int .i64 q) from rfl)
      go_region_held3 (fun w' => w'.cell? ⟨Y, 2, none⟩ = some (.int .i64 C) ∧ w'.cell? ⟨X, 6, none⟩ = some (.int .i64 2) ∧ w'.cell? ⟨X, 7, none⟩ = some (.int .i64 f) ∧ w'.cell? ⟨X, 8, none⟩ = some (.int .i64 q)) (first | exact ⟨a1, a2, a3, a4⟩ | exact ⟨b1, b2, b3, b4⟩ | exact ⟨c1, c2, c3, c4⟩ | exact ⟨d1, d2, d3, d4⟩ | exact ⟨e1, e2, e3, e4⟩ | exact ⟨h1, h2, h3, h4⟩) (first | (go_at_call 28; refine (slot_any _ 2 f q (2 + 4 * q + 4096 * f) m2 (by omega)).mono ?_; rintro e w7 ⟨rfl, hb7⟩; have T7 := T6.below hb7; have b1 := (blk_cell T7.y 2).trans (show _ = some (Value.int .i64 C) from rfl); have b2 := (blk_cell T7.x 6).trans (show _ = some (Value.int .i64 2) from rfl); have b3 := (blk_cell T7.x 7).trans (show _ = some (Value.int .i64 f) from rfl); have b4 := (blk_cell T7.x 8).trans (show _ = some (Value.int .i64 q) from rfl)) | (go_at_call 30; refine (rsetWord_any T7.r true 2 C (2 + 4 * q + 4096 * f) hv2).mono ?_; rintro e w8 ⟨rfl, H8, k8⟩; have T8 := T7.ref H8 k8; have c1 := (blk_cell T8.y 2).trans (show _ = some (Value.int .i64 C) from rfl); have c2 := (blk_cell T8.x 6).trans (show _ = some (Value.int .i64 2) from rfl); have c3 := (blk_cell T8.x 7).trans (show _ = some (Value.int .i64 f) from rfl); have c4 := (blk_cell T8.x 8).trans (show _ = some (Value.int .i64 q) from rfl)))
      have HT8 := Lib.hid T8
      clear T6 T7 T8 H8 k8 hb7 a1 a2 a3 a4 b1 b2 b3 b4 c1 c2 c3 c4
      go_wp2
      go_roundw
      case rel => exact ⟨3, by omega, by go_num, Lib.hid HT8.out⟩
      case measure => simp [intOf]
    · have hG := HGh.out
      go_wp2
      go_ret2
      exact ⟨g, b, g', R, rfl, by rw [hG]; exact HM.out.p, by rw [hG]; exact HM.out.r, HM.out.bel⟩
end Go.Proofs.Ytdpjpmlajjfpgaa.Ram
