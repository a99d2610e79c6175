/- Contract of package line's New; what the statements begin with. -/
import Derived.Test.YtmhglfidggjfdaaLineC
namespace Go.Proofs.Ytmhglfidggjfdaa.Line
open Go.RowKit Go.Proofs.Ytmhglfidggjfdaa.Mem Go.Proofs.Ytmhglfidggjfdaa.Kept
open Go.Proofs.YtmhglfidggjfdaaW.PrintWords.Kd (event_run)
set_option linter.unusedVariables false
set_option linter.unusedSimpArgs false

/-- New processors, the first k of n with their lines on. -/
def mk (n k : Nat) : List C := (List.range n).map fun i => if i < k then ⟨0, 255, false⟩ else ⟨0, 0, false⟩
theorem mk_len (n k : Nat) : (mk n k).length = n := by simp [mk]
theorem mk_at {n k i : Nat} (h : i < n) : (mk n k)[i]? = some (if i < k then ⟨0, 255, false⟩ else ⟨0, 0, false⟩) := by simp [mk, h]
theorem mk_set (n k : Nat) (h : k < n) (hn : n ≤ 3) : (mk n k).set k ⟨0, 255, false⟩ = mk n (k + 1) := by
  have : (n = 1 ∧ k = 0) ∨ (n = 2 ∧ k = 0) ∨ (n = 2 ∧ k = 1) ∨ (n = 3 ∧ k = 0) ∨ (n = 3 ∧ k = 1) ∨ (n = 3 ∧ k = 2) := by omega
  rcases this with ⟨rfl, rfl⟩ | ⟨rfl, rfl⟩ | ⟨rfl, rfl⟩ | ⟨rfl, rfl⟩ | ⟨rfl, rfl⟩ | ⟨rfl, rfl⟩ <;> rfl
def clip (n : Int) : Nat := if n < 0 then 0 else if 3 < n then 3 else n.toNat
def newS (n : Int) : List C := mk (clip n) (clip n)
theorem clip_le (n : Int) : clip n ≤ 3 := by unfold clip; split <;> (try split) <;> omega
theorem new_wf (n : Int) : Wf (newS n) := by
  refine ⟨by rw [newS, mk_len]; exact clip_le n, fun c hc => ?_⟩
  simp only [newS, mk, List.mem_map] at hc
  obtain ⟨i, _, rfl⟩ := hc
  split <;> exact ⟨by decide, by decide⟩
theorem info65 : (Try.prog.info? 65).map (fun i => (i.zero, i.size, i.bytes)) = some (some (.agg #[.int .u8 0, .int .u8 0, .bool false]), 3, 3) := by kernel_rfl
theorem under63 : Try.prog.underlying 63 = some (.slice 65) := by kernel_rfl
theorem made0 : madeCells (Value.agg #[.int .u8 0, .int .u8 0, .bool false]).cells (0 * 3) = (flat (mk 0 0)).toArray := by kernel_rfl
theorem made1 : madeCells (Value.agg #[.int .u8 0, .int .u8 0, .bool false]).cells (1 * 3) = (flat (mk 1 0)).toArray := by kernel_rfl
theorem made2 : madeCells (Value.agg #[.int .u8 0, .int .u8 0, .bool false]).cells (2 * 3) = (flat (mk 2 0)).toArray := by kernel_rfl
theorem made3 : madeCells (Value.agg #[.int .u8 0, .int .u8 0, .bool false]).cells (3 * 3) = (flat (mk 3 0)).toArray := by kernel_rfl
theorem made (n : Nat) (hn : n ≤ 3) : madeCells (Value.agg #[.int .u8 0, .int .u8 0, .bool false]).cells (n * 3) = (flat (mk n 0)).toArray := by
  have : n = 0 ∨ n = 1 ∨ n = 2 ∨ n = 3 := by omega
  rcases this with rfl | rfl | rfl | rfl
  · exact made0
  · exact made1
  · exact made2
  · exact made3
theorem make_c {ops : Array Oper} {rest : List Oper} {o : Oper} {a : Act} {Q : Exit → Act → World → Prop} (W : World) (hgd : o.guard = none) (x y : Operand)
    (ho : o.op = .makeSlice 63 x y) (z : Int) (n : Nat) (hx : a.eval x = .int .i64 z) (hy : a.eval y = .int .i64 z) (hz : z = (n : Int)) (hn : n ≤ 3)
    (h : wpList Try.prog ops Q rest (a.put o.dst (.slice (some ⟨W.heap.size, 0, none⟩) n n)) (W.alloc (.cells (flat (mk n 0)).toArray 65))) :
    wpList Try.prog ops Q (o :: rest) a W := by
  subst hz
  obtain ⟨i0, hi, hz0, hz1, hz2⟩ := info_parts info65
  have hr := run_make (P := Try.prog) W 63 65 i0 _ under63 hi hz0 .i64 .i64 (n : Int) (n : Int) (by omega) (by omega) (by rw [hz2]; omega) (by omega)
  rw [Int.toNat_natCast, hz1, made n hn] at hr
  exact event_run hgd (by simp [execOp, ho, hx, hy, hr]) h
def New (n : Int) (w : World) (e : Ending) (w' : World) : Prop := ∃ g b, e = .returned (.pointer (some ⟨g, 0, none⟩)) ∧ Is w' w.heap.size g b (newS n) ∧ Below w.heap.size w w'
set_option maxHeartbeats 2000000 in
theorem new_n (w : World) (z : Int) (n : Nat) (hz : clip z = n) (hcase : (z < 0 ∧ n = 0) ∨ (z = n) ∨ (3 < z ∧ n = 3)) (hn : n ≤ 3) : Calls Try.prog 11 #[.int .i64 z] w (New z w) := by
  have hb := bel_alloc (Below.refl w.heap.size w) (.cells (flat (mk n 0)).toArray 65)
  have hbk := blk_new w (.cells (flat (mk n 0)).toArray 65)
  have HB := Lib.hid hb
  have HK := Lib.hid hbk
  have HZ := Lib.hid hz
  clear hb hbk hz
  have hN : (n : Int) ≤ 3 := by omega
  have HE : Hid (∀ W : World, W.heap[w.heap.size]? = some (.cells (flat (mk n n)).toArray 65 (0, 0)) → Below w.heap.size w W → New z w (.returned (.pointer (some ⟨W.heap.size, 0, none⟩))) (W.alloc (.cells #[.slice (some ⟨w.heap.size, 0, none⟩) n n] 67))) := by
    refine Lib.hid (fun W h1 h2 => ⟨W.heap.size, w.heap.size, rfl, ⟨?_, ?_, h2.size, Nat.le_refl _⟩, bel_alloc h2 _⟩)
    · rw [newS, HZ.out, mk_len]; exact blk_new _ _
    · rw [newS, HZ.out]; exact blk_alloc h1 _
  clear HZ
  rcases hcase with ⟨hz, rfl⟩ | rfl | ⟨hz, rfl⟩
  all_goals
    go_enter Try.func11, Try.ntmps11
    go_wp2_with (first
      | (at_make; refine make_c w rfl (.tmp 7) (.tmp 7) rfl _ _ rfl rfl (by first | rfl | omega) hn ?_)
      | fail)
  · go_loopw [11] (fun i wr => ∃ (k : Nat), k ≤ 0 ∧ i = .int .i64 k ∧ wr.heap[w.heap.size]? = some (.cells (flat (mk 0 k)).toArray 65 (0, 0)) ∧ Below w.heap.size w wr) (fun i _ => 0 - (intOf i).toNat)
    case atStart => exact ⟨0, Nat.zero_le _, rfl, HK.out, HB.out⟩
    case round =>
      obtain ⟨k, hkl, rfl, h1, h2⟩ := hrel
      obtain rfl : k = 0 := by omega
      have H1 := Lib.hid h1
      clear h1
      go_wp2
      go_ret
      exact HE.out _ H1.out h2
  · go_loopw [11] (fun i wr => ∃ (k : Nat), k ≤ n ∧ i = .int .i64 k ∧ wr.heap[w.heap.size]? = some (.cells (flat (mk n k)).toArray 65 (0, 0)) ∧ Below w.heap.size w wr) (fun i _ => n - (intOf i).toNat)
    case atStart => exact ⟨0, Nat.zero_le _, rfl, HK.out, HB.out⟩
    case round =>
      obtain ⟨k, hkl, rfl, h1, h2⟩ := hrel
      have H1 := Lib.hid h1
      have x0 := blk_free h1 (k * 3 + 1)
      have hlt : w.heap.size < wr.heap.size := blk_lt h1
      clear h1
      by_cases hk : k < n
      · have x1 : wr.cell? ⟨w.heap.size, k * 3 + 1, none⟩ = some (.int .u8 0) := by
          have := (flat_at (mk n k) k _ (mk_at hk)).2.1
          rw [if_neg (Nat.lt_irrefl k)] at this
          rw [blk_cell H1.out]; simpa using this
        have hset : (flat (mk n k)).set (k * 3 + 1) (.int .u8 255) = flat (mk n (k + 1)) := by
          have := flat_set_o (mk n k) k _ 255 (mk_at hk)
          rw [if_neg (Nat.lt_irrefl k)] at this
          rw [← mk_set n k hk hn]; exact this
        go_wp2
        go_roundw
        case rel => exact ⟨k + 1, by omega, by go_num, by have := blk_set H1.out (k * 3 + 1) (.int .u8 255); rw [this]; simp [hset], bel_set h2 (Nat.le_refl _) _ _⟩
        case measure => simp [intOf]; omega
      · obtain rfl : k = n := by omega
        go_wp2
        go_ret
        exact HE.out _ H1.out h2
  · go_loopw [11] (fun i wr => ∃ (k : Nat), k ≤ 3 ∧ i = .int .i64 k ∧ wr.heap[w.heap.size]? = some (.cells (flat (mk 3 k)).toArray 65 (0, 0)) ∧ Below w.heap.size w wr) (fun i _ => 3 - (intOf i).toNat)
    case atStart => exact ⟨0, Nat.zero_le _, rfl, HK.out, HB.out⟩
    case round =>
      obtain ⟨k, hkl, rfl, h1, h2⟩ := hrel
      have H1 := Lib.hid h1
      have x0 := blk_free h1 (k * 3 + 1)
      have hlt : w.heap.size < wr.heap.size := blk_lt h1
      clear h1
      by_cases hk : k < 3
      · have x1 : wr.cell? ⟨w.heap.size, k * 3 + 1, none⟩ = some (.int .u8 0) := by
          have := (flat_at (mk 3 k) k _ (mk_at hk)).2.1
          rw [if_neg (Nat.lt_irrefl k)] at this
          rw [blk_cell H1.out]; simpa using this
        have hset : (flat (mk 3 k)).set (k * 3 + 1) (.int .u8 255) = flat (mk 3 (k + 1)) := by
          have := flat_set_o (mk 3 k) k _ 255 (mk_at hk)
          rw [if_neg (Nat.lt_irrefl k)] at this
          rw [← mk_set 3 k hk hn]; exact this
        go_wp2
        go_roundw
        case rel => exact ⟨k + 1, by omega, by go_num, by have := blk_set H1.out (k * 3 + 1) (.int .u8 255); rw [this]; simp [hset], bel_set h2 (Nat.le_refl _) _ _⟩
        case measure => simp [intOf]; omega
      · obtain rfl : k = 3 := by omega
        go_wp2
        go_ret
        exact HE.out _ H1.out h2
theorem new_any (w : World) (z : Int) : Calls Try.prog 11 #[.int .i64 z] w (New z w) := by
  refine new_n w z (clip z) rfl ?_ (clip_le z)
  unfold clip
  split
  · exact .inl ⟨by assumption, rfl⟩
  · split
    · exact .inr (.inr ⟨by assumption, rfl⟩)
    · exact .inr (.inl (by omega))
theorem raise_c {w : World} {B g b : Nat} {s s' : List C} {r : Bool} (h : Is w B g b s) (hw : Wf s) (i n : Int) (he : raiseF s i n = (r, s')) :
    Calls Try.prog 13 #[.pointer (some ⟨g, 0, none⟩), .int .i64 i, .int .i64 n] w fun e w' => e = .returned (.bool r) ∧ Is w' B g b s' ∧ Wf s' ∧ Kept w w' (fun k => k = b) := by
  refine (raise_any h hw i n).mono fun e w' ⟨h1, h2, h3⟩ => ?_
  have := raise_wf hw i n
  rw [he] at h1 h2 this
  exact ⟨h1, h2, this, h3⟩
theorem tick_c {w : World} {B g b : Nat} {s s' : List C} {r : Bool} (h : Is w B g b s) (hw : Wf s) (i : Int) (he : tickF s i = (r, s')) :
    Calls Try.prog 15 #[.pointer (some ⟨g, 0, none⟩), .int .i64 i] w fun e w' => e = .returned (.bool r) ∧ Is w' B g b s' ∧ Wf s' ∧ Kept w w' (fun k => k = b) := by
  refine (tick_any h hw i).mono fun e w' ⟨h1, h2, h3⟩ => ?_
  have := tick_wf hw i
  rw [he] at h1 h2 this
  exact ⟨h1, h2, this, h3⟩
theorem enable_c {w : World} {B g b : Nat} {s s' : List C} {r : Bool} (h : Is w B g b s) (hw : Wf s) (i m : Int) (hm : 0 ≤ m ∧ m < 256) (he : enableF s i m.toNat = (r, s')) :
    Calls Try.prog 17 #[.pointer (some ⟨g, 0, none⟩), .int .i64 i, .int .u8 m] w fun e w' => e = .returned (.bool r) ∧ Is w' B g b s' ∧ Wf s' ∧ Kept w w' (fun k => k = b) := by
  obtain ⟨k, rfl⟩ : ∃ k : Nat, m = k := ⟨m.toNat, by omega⟩
  rw [Int.toNat_natCast] at he
  refine (enable_any h hw i k).mono fun e w' ⟨h1, h2, h3⟩ => ?_
  have := enable_wf hw i k (by omega)
  rw [he] at h1 h2 this
  exact ⟨h1, h2, this, h3⟩
theorem next_c {w : World} {B g b : Nat} {s s' : List C} {n : Nat} {x y : Bool} (h : Is w B g b s) (hw : Wf s) (i : Int) (he : nextF s i = ((n, x, y), s')) :
    Calls Try.prog 19 #[.pointer (some ⟨g, 0, none⟩), .int .i64 i] w fun e w' => e = .returned (.tuple #[.int .i64 n, .bool x, .bool y]) ∧ Is w' B g b s' ∧ Wf s' ∧ Kept w w' (fun k => k = b) := by
  refine (next_any h hw i).mono fun e w' ⟨h1, h2, h3⟩ => ?_
  have := next_wf hw i
  rw [he] at h1 h2 this
  exact ⟨h1, h2, this, h3⟩
theorem waits_c {w : World} {B g b : Nat} {s : List C} {n : Nat} (h : Is w B g b s) (hw : Wf s) (i : Int) (he : waitsF s i = n) :
    Calls Try.prog 21 #[.pointer (some ⟨g, 0, none⟩), .int .i64 i] w fun e w' => e = .returned (.int .i64 n) ∧ w = w' := by
  subst he; exact waits_any h hw i
theorem bel_row {w w1 w2 : World} {B g b : Nat} {s : List C} (hb : Below w.heap.size w w1) (h : Is w1 B g b s) (hB : w.heap.size ≤ B) (hk : Kept w1 w2 (fun k => k = b)) : Below w.heap.size w w2 :=
  hk.below hb hb.size (fun k e => by have := h.lt; omega)
set_option maxRecDepth 100000 in
set_option maxHeartbeats 4000000 in
/-- What the statements begin with. -/
theorem begun (w : World) : Calls Try.prog 10 #[] w fun e w' => e = .returned (.bool true) ∧ Below w.heap.size w w' := by
  have hle := Nat.le_refl w.heap.size
  have hb := Below.refl w.heap.size w
  have W0 : Wf [⟨0, 255, false⟩] := new_wf 1
  have E1 : raiseF [⟨0, 255, false⟩] 0 2 = (true, [⟨4, 255, false⟩]) := by rfl
  have E2 : raiseF [⟨4, 255, false⟩] 0 1 = (true, [⟨6, 255, false⟩]) := by rfl
  have E3 : nextF [⟨6, 255, false⟩] 0 = ((1, false, true), [⟨4, 255, false⟩]) := by rfl
  have E4 : tickF [⟨4, 255, false⟩] 0 = (true, [⟨4, 255, true⟩]) := by rfl
  have E5 : nextF [⟨4, 255, true⟩] 0 = ((0, true, true), [⟨4, 255, false⟩]) := by rfl
  have E6 : waitsF [⟨4, 255, false⟩] 0 = 1 := by rfl
  have E7 : enableF [⟨4, 255, false⟩] 0 (0 : Int).toNat = (true, [⟨4, 0, false⟩]) := by rfl
  have E8 : raiseF [⟨4, 0, false⟩] 1 0 = (false, [⟨4, 0, false⟩]) := by rfl
  have E9 : (0 : Int) ≤ 0 ∧ (0 : Int) < 256 := by omega
  go_enter Try.func10, Try.ntmps10
  go_wp2_with (first
    | (go_at_call 11; refine (new_any _ _).mono ?_; rintro e w1 ⟨g, b, rfl, H1, hb1⟩; replace H1 : Is w1 _ g b [⟨0, 255, false⟩] := H1)
    | (go_at_call 13; with_reducible refine (raise_c (s' := [⟨4, 255, false⟩]) (r := true) H1 W0 _ _ E1).mono ?_; rintro e w2 ⟨rfl, H2, W2, k2⟩; have hb2 := bel_row hb1 H1 hle k2)
    | (go_at_call 13; with_reducible refine (raise_c (s' := [⟨6, 255, false⟩]) (r := true) H2 W2 _ _ E2).mono ?_; rintro e w3 ⟨rfl, H3, W3, k3⟩; have hb3 := bel_row hb2 H2 hle k3)
    | (go_at_call 19; with_reducible refine (next_c (s' := [⟨4, 255, false⟩]) (n := 1) (x := false) (y := true) H3 W3 _ E3).mono ?_; rintro e w4 ⟨rfl, H4, W4, k4⟩; have hb4 := bel_row hb3 H3 hle k4)
    | (go_at_call 15; with_reducible refine (tick_c (s' := [⟨4, 255, true⟩]) (r := true) H4 W4 _ E4).mono ?_; rintro e w5 ⟨rfl, H5, W5, k5⟩; have hb5 := bel_row hb4 H4 hle k5)
    | (go_at_call 19; with_reducible refine (next_c (s' := [⟨4, 255, false⟩]) (n := 0) (x := true) (y := true) H5 W5 _ E5).mono ?_; rintro e w6 ⟨rfl, H6, W6, k6⟩; have hb6 := bel_row hb5 H5 hle k6)
    | (go_at_call 21; with_reducible refine (waits_c (n := 1) H6 W6 _ E6).mono ?_; rintro e w7 ⟨rfl, rfl⟩)
    | (go_at_call 17; with_reducible refine (enable_c (s' := [⟨4, 0, false⟩]) (r := true) H6 W6 _ _ E9 E7).mono ?_; rintro e w8 ⟨rfl, H8, W8, k8⟩; have hb8 := bel_row hb6 H6 hle k8)
    | (go_at_call 13; with_reducible refine (raise_c (s' := [⟨4, 0, false⟩]) (r := false) H8 W8 _ _ E8).mono ?_; rintro e w9 ⟨rfl, H9, W9, k9⟩; have hb9 := bel_row hb8 H8 hle k9)
    | fail)
  go_ret
  exact ⟨rfl, hb9⟩
end Go.Proofs.Ytmhglfidggjfdaa.Line
