/- Which bytes deals are, and which deals bytes: the reference comes to the same. -/
import Derived.Test.YtdpjpmlajjfpgaaDealL
import Derived.Test.YtdpjpmlajjfpgaaPDealQx11
namespace Go.Proofs.Ytdpjpmlajjfpgaa.Deal
open Go Go.RowKit Go.Proofs.Ytdpjpmlajjfpgaa.PDealK Go.Proofs.Ytdpjpmlajjfpgaa.PDealQ
open Go.Proofs.YtdpjpmlajjfpgaaW.PrintWords hiding add_at blk_alloc blk_below blk_cell blk_drewN blk_far blk_lt blk_new blk_set
set_option linter.unusedVariables false
set_option linter.unusedSimpArgs false
theorem low2 {k : Nat} (hk : 3 ≤ k) {v : Int} (h0 : 0 ≤ v) (h1 : v ≤ 65535) : presidioref1_Low.f k (IntKind.u64.wrap v) 2 = some [v % 256, v / 256 % 256] := by
  obtain ⟨k, rfl⟩ : ∃ m, k = m + 3 := ⟨k - 3, by omega⟩
  have e1 : IntKind.u64.wrap v = v := IntWalk.u64_in _ (by omega)
  have t1 : Int.tdiv v 256 = v / 256 := Int.tdiv_eq_ediv_of_nonneg h0
  have t2 : Int.tmod v 256 = v % 256 := Int.tmod_eq_emod_of_nonneg h0
  have t3 : Int.tmod (v / 256) 256 = v / 256 % 256 := Int.tmod_eq_emod_of_nonneg (by omega)
  have e2 : IntKind.u64.wrap (v / 256) = v / 256 := IntWalk.u64_in _ (by omega)
  have w1 : wrap64 (0 + 1) = 1 := by unfold wrap64; omega
  have w2 : wrap64 (1 + 1) = 2 := by unfold wrap64; omega
  unfold presidioref1_Low.f
  rw [e1]
  simp only [presidioref1_Low.l0]
  rw [if_pos (by decide), if_pos (by simp), w1, if_pos (by decide), if_pos (by simp), w2, if_neg (by decide), t1, t2, e2, t3]
  simp
theorem num2 {k : Nat} (hk : 3 ≤ k) {x y : Int} (hx : 0 ≤ x ∧ x ≤ 255) (hy : 0 ≤ y ∧ y ≤ 255) : presidioref1_Num.f k [x, y] = some (x + 256 * y) := by
  obtain ⟨k, rfl⟩ : ∃ m, k = m + 3 := ⟨k - 3, by omega⟩
  have w0 : wrap64 ((([x, y] : List Int).length : Int) - 1) = 1 := by simp; unfold wrap64; omega
  have w1 : wrap64 (1 - 1) = 0 := by unfold wrap64; omega
  have w2 : wrap64 (0 - 1) = -1 := by unfold wrap64; omega
  have r0 : rd [x, y] 0 = x := rfl
  have r1 : rd [x, y] 1 = y := rfl
  unfold presidioref1_Num.f
  rw [w0]
  simp only [presidioref1_Num.l0]
  rw [if_pos (by decide), if_pos (by decide), if_pos (by simp), w1, if_pos (by decide), if_pos (by decide), if_pos (by simp), w2, if_neg (by decide), r0, r1]
  have e1 : IntKind.u64.wrap (0 * 256) = 0 := by decide
  have e2 : IntKind.u64.wrap y = y := IntWalk.u64_in _ (by omega)
  have e3 : IntKind.u64.wrap x = x := IntWalk.u64_in _ (by omega)
  rw [e1, e2, e3, show IntKind.u64.wrap (0 + y) = y by rw [Int.zero_add]; exact e2, show IntKind.u64.wrap (y * 256) = y * 256 from IntWalk.u64_in _ (by omega), show IntKind.u64.wrap (y * 256 + x) = y * 256 + x from IntWalk.u64_in _ (by omega)]
  congr 1
  omega
theorem pg_in : ∀ (l : List SP) (f : Int → Bool) (out : List Int), (pgGo f out l).2 = true → ∀ s ∈ l, 0 ≤ s.f0 ∧ s.f0 + s.f1 ≤ 4096 ∧ 1 ≤ s.f1 ∧ s.f1 ≤ 40
  | [], f, out, h, s, hs => by cases hs
  | s :: t, f, out, h, x, hx => by
    have h' : (if spBad out.length s.f0 s.f1 = true ∨ frR f s.f0 s.f1.toNat = false then (([], false) : List Int × Bool) else pgGo (addR f s.f0 s.f1.toNat) (out ++ spanTo s.f0 s.f1.toNat) t).2 = true := h
    split at h'
    · cases h'
    · rename_i hb
      rcases List.mem_cons.1 hx with rfl | hx
      · have : ¬ spBad out.length x.f0 x.f1 = true := fun e => hb (Or.inl e)
        rw [sp_dec] at this
        omega
      · exact pg_in t _ _ h' x hx
theorem may_in {a s : Int} {z : Bool} {rv : List RV} {sp : List SP} (h : mayD a s z rv sp = true) : ∀ s ∈ sp, 0 ≤ s.f0 ∧ s.f0 + s.f1 ≤ 4096 ∧ 1 ≤ s.f1 ∧ s.f1 ≤ 40 := by
  unfold mayD pgs at h
  simp only [Bool.and_eq_true] at h
  have h2 := h.2
  split at h2
  · cases h2
  · exact pg_in _ _ _ h2
theorem rput_l1 (a s : Int) (z : Bool) (rv : List RV) (sp : List SP) (hs : sp.length ≤ 8) (hp : ∀ s ∈ sp, 0 ≤ s.f0 ∧ s.f0 + s.f1 ≤ 4096 ∧ 1 ≤ s.f1 ∧ s.f1 ≤ 40) : ∀ (d i k : Nat) (acc : List Int), i + d = sp.length → d + 6 ≤ k → acc.length ≤ 1000 + 3 * i → presidioref18_PutDeal.l1 k acc i a s z rv sp = some (acc ++ flatS (sp.drop i)) := by
  intro d
  induction d with
  | zero =>
    intro i k acc hi hk ha
    obtain ⟨k, rfl⟩ : ∃ m, k = m + 1 := ⟨k - 1, by omega⟩
    simp only [presidioref18_PutDeal.l1]
    rw [if_neg (by omega), List.drop_of_length_le (by omega)]
    simp [flatS]
  | succ d ih =>
    intro i k acc hi hk ha
    obtain ⟨k, rfl⟩ : ∃ m, k = m + 1 := ⟨k - 1, by omega⟩
    have hlt : i < sp.length := by omega
    have hpi := hp sp[i] (List.getElem_mem hlt)
    simp only [presidioref18_PutDeal.l1]
    rw [if_pos (by omega), if_pos (by omega), rdS hlt, low2 (by omega) hpi.1 (by omega), Option.bind_some, if_pos (by simp; omega), Option.bind_some, Option.bind_some, if_pos (by simp; omega), show wrap64 ((i : Int) + 1) = ((i + 1 : Nat) : Int) by unfold wrap64; omega, ih (i + 1) k _ (by omega) (by omega) (by simp; omega)]
    have e : flatS (sp.drop i) = [sp[i].f0 % 256, sp[i].f0 / 256 % 256, sp[i].f1 % 256] ++ flatS (sp.drop (i + 1)) := by rw [List.drop_eq_getElem_cons hlt]; rfl
    rw [e]
    simp only [List.append_assoc]
    rfl
theorem rput_l0 (a s : Int) (z : Bool) (rv : List RV) (sp : List SP) (hr : rv.length ≤ 4) (hs : sp.length ≤ 8) (hp : ∀ s ∈ sp, 0 ≤ s.f0 ∧ s.f0 + s.f1 ≤ 4096 ∧ 1 ≤ s.f1 ∧ s.f1 ≤ 40) : ∀ (d i k : Nat) (acc : List Int), i + d = rv.length → d + 20 ≤ k → acc.length ≤ 100 + 2 * i →
    presidioref18_PutDeal.l0 k acc i a s z rv sp = some (acc ++ flatR (rv.drop i) ++ [(sp.length : Int) % 256] ++ flatS sp) := by
  intro d
  induction d with
  | zero =>
    intro i k acc hi hk ha
    obtain ⟨k, rfl⟩ : ∃ m, k = m + 1 := ⟨k - 1, by omega⟩
    simp only [presidioref18_PutDeal.l0]
    have := rput_l1 a s z rv sp hs hp sp.length 0 k (acc ++ [(sp.length : Int) % 256]) (by omega) (by omega) (by simp; omega)
    rw [if_neg (by omega), Option.bind_some, if_pos (by simp; omega), List.drop_of_length_le (by omega)]
    rw [show ((0 : Nat) : Int) = 0 from rfl] at this
    rw [this]
    simp [flatR]
  | succ d ih =>
    intro i k acc hi hk ha
    obtain ⟨k, rfl⟩ : ∃ m, k = m + 1 := ⟨k - 1, by omega⟩
    have hlt : i < rv.length := by omega
    simp only [presidioref18_PutDeal.l0]
    rw [if_pos (by omega), if_pos (by omega), Option.bind_some, if_pos (by simp; omega), rdR hlt, show wrap64 ((i : Int) + 1) = ((i + 1 : Nat) : Int) by unfold wrap64; omega, ih (i + 1) k _ (by omega) (by omega) (by simp; omega)]
    have e : flatR (rv.drop i) = [rv[i].f0 % 256, rv[i].f1 % 256] ++ flatR (rv.drop (i + 1)) := by rw [List.drop_eq_getElem_cons hlt]; rfl
    rw [e]
    simp only [List.append_assoc]
theorem rput_f {k : Nat} (hk : 50 ≤ k) (a s : Int) (z : Bool) (rv : List RV) (sp : List SP) : presidioref18_PutDeal.f k a s z rv sp = some (putD a s z rv sp) := by
  unfold presidioref18_PutDeal.f putD
  rw [rmay_f (by omega), Option.bind_some]
  by_cases h : mayD a s z rv sp = true
  · obtain ⟨h1, h2, h3⟩ := may_len h
    rw [if_pos h, if_pos h]
    obtain ⟨k, rfl⟩ : ∃ m, k = m + 1 := ⟨k - 1, by omega⟩
    have key := fun c => rput_l0 a s z rv sp h1 h3 (may_in h) rv.length 0 k [a % 256, s % 256, c, (rv.length : Int) % 256] (by omega) (by omega) (by simp)
    rw [show ((0 : Nat) : Int) = 0 from rfl, List.drop_zero] at key
    cases z with
    | true => rw [if_pos rfl]; simp only [presidioref18_PutDeal.j0]; exact key _
    | false => rw [if_neg (by decide)]; simp only [presidioref18_PutDeal.j0]; exact key _
  · rw [if_neg h, if_neg h]
theorem putD_len {a s : Int} {z : Bool} {rv : List RV} {sp : List SP} (h : mayD a s z rv sp = true) : (putD a s z rv sp).length = 5 + 2 * rv.length + 3 * sp.length := by
  have e1 : ∀ l : List RV, (flatR l).length = 2 * l.length := by
    intro l
    induction l with
    | nil => rfl
    | cons x t ih => show (([_, _] : List Int) ++ flatR t).length = _; rw [List.length_append, ih]; simp; omega
  have e2 : ∀ l : List SP, (flatS l).length = 3 * l.length := by
    intro l
    induction l with
    | nil => rfl
    | cons x t ih => show (([_, _, _] : List Int) ++ flatS t).length = _; rw [List.length_append, ih]; simp; omega
  unfold putD
  rw [if_pos h]
  simp only [List.length_append, e1, e2, List.length_cons, List.length_nil]
  omega
theorem str_iff {a b : List Int} (ha : ∀ x ∈ a, 0 ≤ x ∧ x ≤ 255) (hb : ∀ x ∈ b, 0 ≤ x ∧ x ≤ 255) : (strOfNums a).toList = (strOfNums b).toList ↔ a = b := by
  constructor
  · intro e
    rw [ByteArray.toList_eq, ByteArray.toList_eq, strOfNums_data, strOfNums_data] at e
    exact map_u8 (l := []) ha hb e
  · rintro rfl; rfl
theorem recvs_len : ∀ (m : Nat) (r : List Int), (recvsO m r).length ≤ m ∧ (2 * m ≤ r.length → (recvsO m r).length = m)
  | 0, r => ⟨Nat.le_refl _, fun _ => rfl⟩
  | m + 1, r => by
    by_cases h : 2 ≤ r.length
    · rw [recvs_more h]
      have := recvs_len m (r.drop 2)
      rw [List.length_drop] at this
      simp only [List.length_cons]
      exact ⟨by omega, fun h => by rw [this.2 (by omega)]⟩
    · rw [recvs_end (Or.inr (by omega))]
      exact ⟨Nat.zero_le _, fun h => by omega⟩
theorem spans_len : ∀ (m : Nat) (r : List Int), (spansO m r).length ≤ m ∧ (3 * m ≤ r.length → (spansO m r).length = m) ∧ (r.length < 3 * m → (spansO m r).length < m)
  | 0, r => ⟨Nat.le_refl _, fun _ => rfl, fun h => by omega⟩
  | m + 1, r => by
    by_cases h : 3 ≤ r.length
    · rw [spans_more h]
      have := spans_len m (r.drop 3)
      rw [List.length_drop] at this
      simp only [List.length_cons]
      exact ⟨by omega, fun h => by rw [this.2.1 (by omega)], fun h => by have := this.2.2 (by omega); omega⟩
    · rw [spans_end (Or.inr (by omega))]
      exact ⟨Nat.zero_le _, fun h => by omega, fun h => by simp⟩
theorem two_of {b : List Int} {j : Nat} (h : j + 2 ≤ b.length) : (b.take (j + 2)).drop j = [rd b j, rd b ((j + 1 : Nat) : Int)] := by
  apply List.ext_getElem?
  intro i
  rw [List.getElem?_drop, List.getElem?_take]
  unfold rd
  rw [Int.toNat_natCast, Int.toNat_natCast]
  rcases i with _ | _ | i
  · rw [if_pos (by omega), List.getD_eq_getElem?_getD, List.getElem?_eq_getElem (show j + 0 < b.length by omega)]
    simp [List.getElem?_eq_getElem (show j < b.length by omega)]
  · rw [if_pos (by omega), List.getD_eq_getElem?_getD, List.getD_eq_getElem?_getD, List.getElem?_eq_getElem (show j + (0 + 1) < b.length by omega)]
    simp [List.getElem?_eq_getElem (show j + 1 < b.length by omega)]
  · rw [if_neg (by omega)]
    simp
def endD (b : List Int) (rv : List RV) (sp : List SP) : Option DT := if putD (rd b 0) (rd b 1) (rd b 2 == 1) rv sp = b then some (rd b 0, rd b 1, rd b 2 == 1, rv, sp, 0) else some badD
theorem pageO_eq {r : List Int} (hr : ∀ x ∈ r, 0 ≤ x ∧ x ≤ 255) : pageO r = rd r 0 + 256 * rd r 1 := by
  have h0 := byte_rd hr 0
  have h1 := byte_rd hr 1
  unfold pageO
  rw [Bits.or_comm, Bits.join_i64 8 _ _ (by omega) (by omega) (by omega) h0.1 (by omega) (by decide)]
  omega
theorem rtake_l1 {b : List Int} (hb : ∀ x ∈ b, 0 ≤ x ∧ x ≤ 255) (hl : b.length ≤ 10000) (rv : List RV) {c m : Nat} (hm : c + 3 * m = b.length) : ∀ (d i k : Nat) (M : List SP), i + d = m → d + 60 ≤ k → M.length ≤ i →
    presidioref18_TakeDeal.l1 k b ((c + 3 * i : Nat) : Int) m i (rd b 0) (rd b 1) (rd b 2 == 1) rv M = endD b rv (M ++ spansO d (b.drop (c + 3 * i))) := by
  intro d
  induction d with
  | zero =>
    intro i k M hi hk hM
    obtain ⟨k, rfl⟩ : ∃ m, k = m + 1 := ⟨k - 1, by omega⟩
    simp only [presidioref18_TakeDeal.l1]
    rw [if_neg (by omega), rput_f (by omega), Option.bind_some, show spansO 0 (b.drop (c + 3 * i)) = [] from rfl, List.append_nil]
    unfold endD
    by_cases h : putD (rd b 0) (rd b 1) (rd b 2 == 1) rv M = b
    · rw [if_pos h, if_pos ((str_iff (putD_bytes _ _ _ _ _) hb).2 h)]
    · rw [if_neg h, if_neg (fun e => h ((str_iff (putD_bytes _ _ _ _ _) hb).1 e))]
      rfl
  | succ d ih =>
    intro i k M hi hk hM
    obtain ⟨k, rfl⟩ : ∃ m, k = m + 1 := ⟨k - 1, by omega⟩
    simp only [presidioref18_TakeDeal.l1]
    have w2 : wrap64 (((c + 3 * i : Nat) : Int) + 2) = ((c + 3 * i + 2 : Nat) : Int) := by unfold wrap64; omega
    have w3 : wrap64 (((c + 3 * i : Nat) : Int) + 3) = ((c + 3 * (i + 1) : Nat) : Int) := by unfold wrap64; omega
    have w1 : wrap64 ((i : Int) + 1) = ((i + 1 : Nat) : Int) := by unfold wrap64; omega
    have b0 := byte_rd hb ((c + 3 * i : Nat) : Int)
    have b1 := byte_rd hb ((c + 3 * i + 1 : Nat) : Int)
    have b2 := byte_rd hb ((c + 3 * i + 2 : Nat) : Int)
    rw [if_pos (by omega), if_pos (by omega), w2, if_pos (by omega), if_pos (by omega), Int.toNat_natCast, Int.toNat_natCast, two_of (by omega), num2 (by omega) b0 b1, Option.bind_some, if_pos (by omega), if_pos (by omega), if_pos (by omega), w3, w1]
    rw [show wrap64 (rd b ((c + 3 * i : Nat) : Int) + 256 * rd b ((c + 3 * i + 1 : Nat) : Int)) = rd b ((c + 3 * i : Nat) : Int) + 256 * rd b ((c + 3 * i + 1 : Nat) : Int) by unfold wrap64; omega, show wrap64 (rd b ((c + 3 * i + 2 : Nat) : Int)) = rd b ((c + 3 * i + 2 : Nat) : Int) by unfold wrap64; omega]
    rw [ih (i + 1) k _ (by omega) (by omega) (by simp; omega)]
    have hd : 3 ≤ (b.drop (c + 3 * i)).length := by rw [List.length_drop]; omega
    rw [spans_more hd, pageO_eq (fun x hx => hb x (List.mem_of_mem_drop hx))]
    have e0 : rd (b.drop (c + 3 * i)) 0 = rd b ((c + 3 * i : Nat) : Int) := rd_drop _ 0
    have e1 : rd (b.drop (c + 3 * i)) 1 = rd b ((c + 3 * i + 1 : Nat) : Int) := rd_drop _ 1
    have e2 : rd (b.drop (c + 3 * i)) 2 = rd b ((c + 3 * i + 2 : Nat) : Int) := rd_drop _ 2
    rw [e0, e1, e2, List.drop_drop, List.append_assoc, show c + 3 * i + 3 = c + 3 * (i + 1) by omega]
    rfl
def midD (b : List Int) (rv : List RV) : Option DT := if b.length = 5 + 2 * nR b + 3 * nS b then endD b rv (spO b) else some badD
theorem rtake_l0 {b : List Int} (hb : ∀ x ∈ b, 0 ≤ x ∧ x ≤ 255) (hl : b.length ≤ 10000) (hn : 5 + 2 * nR b ≤ b.length) : ∀ (d i k : Nat) (L : List RV), i + d = nR b → d + 400 ≤ k → L.length ≤ i →
    presidioref18_TakeDeal.l0 k b ((4 + 2 * i : Nat) : Int) (nR b) i (rd b 0) (rd b 1) (rd b 2 == 1) L = midD b (L ++ recvsO d (b.drop (4 + 2 * i))) := by
  intro d
  induction d with
  | zero =>
    intro i k L hi hk hL
    obtain ⟨k, rfl⟩ : ∃ m, k = m + 1 := ⟨k - 1, by omega⟩
    simp only [presidioref18_TakeDeal.l0]
    obtain rfl : i = nR b := by omega
    have hbyte := byte_rd hb ((4 + 2 * nR b : Nat) : Int)
    have hnS : rd b ((4 + 2 * nR b : Nat) : Int) = ((nS b : Nat) : Int) := by unfold nS; omega
    have w1 : wrap64 (((4 + 2 * nR b : Nat) : Int) + 1) = ((5 + 2 * nR b : Nat) : Int) := by unfold wrap64; omega
    have hs := nS_le hb
    have w2 : wrap64 ((nS b : Nat) : Int) = ((nS b : Nat) : Int) := by unfold wrap64; omega
    have w3 : wrap64 (3 * ((nS b : Nat) : Int)) = ((3 * nS b : Nat) : Int) := by unfold wrap64; omega
    have w4 : wrap64 (((5 + 2 * nR b : Nat) : Int) + ((3 * nS b : Nat) : Int)) = ((5 + 2 * nR b + 3 * nS b : Nat) : Int) := by unfold wrap64; omega
    rw [if_neg (by omega), if_pos (by omega), if_pos (by omega), hnS, w1, w2, w3, w4, show recvsO 0 (b.drop (4 + 2 * nR b)) = [] from rfl, List.append_nil]
    unfold midD
    by_cases h : b.length = 5 + 2 * nR b + 3 * nS b
    · rw [if_pos (by omega), if_pos h]
      have := rtake_l1 hb hl L (c := 5 + 2 * nR b) (m := nS b) h.symm (nS b) 0 k [] (by omega) (by omega) (by simp)
      rw [Nat.mul_zero, Nat.add_zero, show ((0 : Nat) : Int) = 0 from rfl, List.nil_append] at this
      rw [this]
      rfl
    · rw [if_neg (by omega), if_neg h]
      rfl
  | succ d ih =>
    intro i k L hi hk hL
    obtain ⟨k, rfl⟩ : ∃ m, k = m + 1 := ⟨k - 1, by omega⟩
    simp only [presidioref18_TakeDeal.l0]
    have w1 : wrap64 (((4 + 2 * i : Nat) : Int) + 1) = ((4 + 2 * i + 1 : Nat) : Int) := by unfold wrap64; omega
    have w3 : wrap64 (((4 + 2 * i : Nat) : Int) + 2) = ((4 + 2 * (i + 1) : Nat) : Int) := by unfold wrap64; omega
    have w2 : wrap64 ((i : Int) + 1) = ((i + 1 : Nat) : Int) := by unfold wrap64; omega
    have b0 := byte_rd hb ((4 + 2 * i : Nat) : Int)
    have b1 := byte_rd hb ((4 + 2 * i + 1 : Nat) : Int)
    rw [if_pos (by omega), if_pos (by omega), if_pos (by omega), w1, if_pos (by omega), if_pos (by omega), if_pos (by omega), w3, w2]
    rw [show wrap64 (rd b ((4 + 2 * i : Nat) : Int)) = rd b ((4 + 2 * i : Nat) : Int) by unfold wrap64; omega, show wrap64 (rd b ((4 + 2 * i + 1 : Nat) : Int)) = rd b ((4 + 2 * i + 1 : Nat) : Int) by unfold wrap64; omega]
    rw [ih (i + 1) k _ (by omega) (by omega) (by simp; omega)]
    have hd : 2 ≤ (b.drop (4 + 2 * i)).length := by rw [List.length_drop]; omega
    rw [recvs_more hd]
    have e0 : rd (b.drop (4 + 2 * i)) 0 = rd b ((4 + 2 * i : Nat) : Int) := rd_drop _ 0
    have e1 : rd (b.drop (4 + 2 * i)) 1 = rd b ((4 + 2 * i + 1 : Nat) : Int) := rd_drop _ 1
    rw [e0, e1, List.drop_drop, List.append_assoc, show 4 + 2 * i + 2 = 4 + 2 * (i + 1) by omega]
    rfl
theorem putD_at {a s : Int} {z : Bool} {rv : List RV} {sp : List SP} (h : mayD a s z rv sp = true) : rd (putD a s z rv sp) ((4 + 2 * rv.length : Nat) : Int) = (sp.length : Int) % 256 := by
  have e1 : ∀ l : List RV, (flatR l).length = 2 * l.length := by
    intro l
    induction l with
    | nil => rfl
    | cons x t ih => show (([_, _] : List Int) ++ flatR t).length = _; rw [List.length_append, ih]; simp; omega
  unfold putD rd
  rw [if_pos h, Int.toNat_natCast, List.append_assoc, List.getD_eq_getElem?_getD, List.getElem?_append_right (by simp [e1]; omega)]
  have e3 : 4 + 2 * rv.length - (2 * rv.length + 1 + 1 + 1 + 1) = 0 := by omega
  simp [e1, e3]
theorem rtake_f {k : Nat} (hk : 700 ≤ k) {b : List Int} (hb : ∀ x ∈ b, 0 ≤ x ∧ x ≤ 255) (hl : b.length ≤ 10000) : presidioref18_TakeDeal.f k b = some (takeD b) := by
  unfold presidioref18_TakeDeal.f
  by_cases h5 : (b.length : Int) < 5
  · rw [if_pos h5, bad_len (Or.inr (by omega))]; rfl
  rw [if_neg h5, if_pos (by omega), if_pos (by omega), if_pos (by omega), if_pos (by omega)]
  have r0 := byte_rd hb 0
  have r1 := byte_rd hb 1
  have r3 := byte_rd hb 3
  have hR := nR_le hb
  have hnR : rd b 3 = ((nR b : Nat) : Int) := by unfold nR; omega
  rw [show wrap64 (rd b 0) = rd b 0 by unfold wrap64; omega, show wrap64 (rd b 1) = rd b 1 by unfold wrap64; omega, hnR]
  rw [show wrap64 ((nR b : Nat) : Int) = ((nR b : Nat) : Int) by unfold wrap64; omega, show wrap64 (2 * ((nR b : Nat) : Int)) = ((2 * nR b : Nat) : Int) by unfold wrap64; omega, show wrap64 (4 + ((2 * nR b : Nat) : Int)) = ((4 + 2 * nR b : Nat) : Int) by unfold wrap64; omega, show wrap64 (((4 + 2 * nR b : Nat) : Int) + 1) = ((5 + 2 * nR b : Nat) : Int) by unfold wrap64; omega]
  by_cases hn : 5 + 2 * nR b ≤ b.length
  rotate_left
  · rw [if_pos (by omega), bad_len (Or.inr (by omega))]; rfl
  rw [if_neg (by omega)]
  have := rtake_l0 hb hl hn (nR b) 0 k [] (by omega) (by omega) (by simp)
  rw [Nat.mul_zero, Nat.add_zero, show ((0 : Nat) : Int) = 0 from rfl, List.nil_append, show ((4 : Nat) : Int) = 4 from rfl] at this
  rw [this]
  show midD b (rvO b) = _
  have hrl : (rvO b).length = nR b := (recvs_len _ _).2 (by rw [List.length_drop]; omega)
  unfold midD
  by_cases hq : putD (rd b 0) (rd b 1) (rd b 2 == 1) (rvO b) (spO b) = b
  · have hm : mayD (rd b 0) (rd b 1) (rd b 2 == 1) (rvO b) (spO b) = true := by
      by_cases hm : mayD (rd b 0) (rd b 1) (rd b 2 == 1) (rvO b) (spO b) = true
      · exact hm
      · unfold putD at hq
        rw [if_neg hm] at hq
        rw [← hq] at h5
        simp at h5
    have hlen := putD_len hm
    rw [hq, hrl] at hlen
    have hat := putD_at hm
    rw [hq, hrl] at hat
    have hbyte := byte_rd hb ((4 + 2 * nR b : Nat) : Int)
    have hnS : rd b ((4 + 2 * nR b : Nat) : Int) = ((nS b : Nat) : Int) := by unfold nS; omega
    have h8 := (may_len hm).2.2
    have hs : (spO b).length = nS b := by rw [hnS] at hat; omega
    rw [if_pos (by omega), good_t (by omega) (by omega) hm hq]
    unfold endD
    rw [if_pos hq]
  · rw [bad_put hq]
    unfold endD
    rw [if_neg hq]
    split <;> rfl
theorem same_l1 (a s : Int) (z : Bool) (rv : List RV) (sp : List SP) (hs : sp.length ≤ 1000) : ∀ (d i k : Nat), i + d = sp.length → d + 1 ≤ k → presidioref18_SameDeal.l1 k i a s z rv sp a s z rv sp = some true := by
  intro d
  induction d with
  | zero =>
    intro i k hi hk
    obtain ⟨k, rfl⟩ : ∃ m, k = m + 1 := ⟨k - 1, by omega⟩
    simp only [presidioref18_SameDeal.l1]
    rw [if_neg (by omega)]
  | succ d ih =>
    intro i k hi hk
    obtain ⟨k, rfl⟩ : ∃ m, k = m + 1 := ⟨k - 1, by omega⟩
    simp only [presidioref18_SameDeal.l1]
    rw [if_pos (by omega), if_pos (by omega), if_pos (by omega), if_neg (by simp), show wrap64 ((i : Int) + 1) = ((i + 1 : Nat) : Int) by unfold wrap64; omega, ih (i + 1) k (by omega) (by omega)]
theorem same_l0 (a s : Int) (z : Bool) (rv : List RV) (sp : List SP) (hr : rv.length ≤ 1000) (hs : sp.length ≤ 1000) : ∀ (d i k : Nat), i + d = rv.length → d + sp.length + 2 ≤ k → presidioref18_SameDeal.l0 k i a s z rv sp a s z rv sp = some true := by
  intro d
  induction d with
  | zero =>
    intro i k hi hk
    obtain ⟨k, rfl⟩ : ∃ m, k = m + 1 := ⟨k - 1, by omega⟩
    simp only [presidioref18_SameDeal.l0]
    rw [if_neg (by omega)]
    exact same_l1 a s z rv sp hs sp.length 0 k (by omega) (by omega)
  | succ d ih =>
    intro i k hi hk
    obtain ⟨k, rfl⟩ : ∃ m, k = m + 1 := ⟨k - 1, by omega⟩
    simp only [presidioref18_SameDeal.l0]
    rw [if_pos (by omega), if_pos (by omega), if_pos (by omega), if_neg (by simp), show wrap64 ((i : Int) + 1) = ((i + 1 : Nat) : Int) by unfold wrap64; omega, ih (i + 1) k (by omega) (by omega)]
theorem same_f {k : Nat} (a s : Int) (z : Bool) (rv : List RV) (sp : List SP) (hr : rv.length ≤ 1000) (hs : sp.length ≤ 1000) (hk : rv.length + sp.length + 4 ≤ k) : presidioref18_SameDeal.f k a s z rv sp a s z rv sp = some true := by
  obtain ⟨k, rfl⟩ : ∃ m, k = m + 1 := ⟨k - 1, by omega⟩
  unfold presidioref18_SameDeal.f
  rw [if_pos rfl, if_pos rfl, if_neg (by simp), if_pos rfl, show (((sp.length : Int)) != (sp.length : Int)) = false by simp]
  simp only [presidioref18_SameDeal.j0]
  rw [if_neg (by decide)]
  exact same_l0 a s z rv sp hr hs rv.length 0 k (by omega) (by omega)
theorem takeD_small (b : List Int) : (takeD b).2.2.2.1.length ≤ 4 ∧ (takeD b).2.2.2.2.1.length ≤ 8 := by
  unfold takeD
  split
  · rename_i h
    have := may_len h.2.2.1
    exact ⟨this.1, this.2.2⟩
  · exact ⟨by simp [badD], by simp [badD]⟩
end Go.Proofs.Ytdpjpmlajjfpgaa.Deal
