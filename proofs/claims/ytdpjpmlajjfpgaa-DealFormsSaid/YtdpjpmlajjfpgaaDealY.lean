/- Deals that are put and taken come back; cut off or longer they are none. -/
import Derived.Test.YtdpjpmlajjfpgaaDealN
import Derived.Test.YtdpjpmlajjfpgaaDealB
import Derived.Test.YtdpjpmlajjfpgaaPDealQx6
namespace Go.Proofs.Ytdpjpmlajjfpgaa.Deal
open Go Go.RowKit Go.Proofs.Ytdpjpmlajjfpgaa.PDealK Go.Proofs.Ytdpjpmlajjfpgaa.PDealQ
open Go.Proofs.YtdpjpmlajjfpgaaW.PrintWords hiding add_at blk_alloc blk_below blk_cell blk_drewN blk_far blk_lt blk_new blk_set
set_option linter.unusedVariables false
set_option linter.unusedSimpArgs false
theorem len_bad {b : List Int} (hb : ∀ x ∈ b, 0 ≤ x ∧ x ≤ 255) (h : b.length ≠ 5 + 2 * nR b + 3 * nS b) : takeD b = badD := by
  by_cases h5 : 5 + 2 * nR b ≤ b.length
  rotate_left
  · exact bad_len (Or.inr (by omega))
  by_cases hq : putD (rd b 0) (rd b 1) (rd b 2 == 1) (rvO b) (spO b) = b
  · exfalso
    have hrl : (rvO b).length = nR b := (recvs_len _ _).2 (by rw [List.length_drop]; omega)
    have hm : mayD (rd b 0) (rd b 1) (rd b 2 == 1) (rvO b) (spO b) = true := by
      by_cases hm : mayD (rd b 0) (rd b 1) (rd b 2 == 1) (rvO b) (spO b) = true
      · exact hm
      · unfold putD at hq
        rw [if_neg hm] at hq
        rw [← hq] at h5
        simp at h5
    have hlen := putD_len hm
    rw [hq, hrl] at hlen
    have hat := putD_at hm
    rw [hq, hrl] at hat
    have hbyte := byte_rd hb ((4 + 2 * nR b : Nat) : Int)
    have hnS : rd b ((4 + 2 * nR b : Nat) : Int) = ((nS b : Nat) : Int) := by unfold nS; omega
    have h8 := (may_len hm).2.2
    have hs : (spO b).length = nS b := by rw [hnS] at hat; omega
    omega
  · exact bad_put hq
theorem rcv_in : ∀ (l : List RV) (f : Int → Bool), rcvGo f l = true → ∀ r ∈ l, 0 ≤ r.f0 ∧ r.f0 < 6 ∧ 1 ≤ r.f1 ∧ r.f1 ≤ 7
  | [], f, h, r, hr => by cases hr
  | x :: t, f, h, r, hr => by
    have h' : (!rcvBad f x.f0 x.f1 && rcvGo (addS f x.f0) t) = true := h
    rw [Bool.and_eq_true] at h'
    rcases List.mem_cons.1 hr with rfl | hr
    · have : ¬ rcvBad f r.f0 r.f1 = true := by simpa using h'.1
      rw [bad_dec] at this
      omega
    · exact rcv_in t _ h'.2 r hr
theorem recvs_flat : ∀ (l : List RV) (X : List Int), (∀ r ∈ l, 0 ≤ r.f0 ∧ r.f0 < 6 ∧ 1 ≤ r.f1 ∧ r.f1 ≤ 7) → recvsO l.length (flatR l ++ X) = l
  | [], X, h => rfl
  | r :: t, X, h => by
    have hr := h r (List.mem_cons_self ..)
    have e : flatR (r :: t) ++ X = (r.f0 % 256) :: (r.f1 % 256) :: (flatR t ++ X) := rfl
    rw [e]
    show recvsO (t.length + 1) _ = _
    rw [recvs_more (by simp)]
    show (⟨r.f0 % 256, r.f1 % 256⟩ : RV) :: recvsO t.length (flatR t ++ X) = _
    rw [recvs_flat t X (fun x hx => h x (List.mem_cons_of_mem _ hx)), show r.f0 % 256 = r.f0 by omega, show r.f1 % 256 = r.f1 by omega]
theorem spans_flat : ∀ (l : List SP), (∀ s ∈ l, 0 ≤ s.f0 ∧ s.f0 + s.f1 ≤ 4096 ∧ 1 ≤ s.f1 ∧ s.f1 ≤ 40) → spansO l.length (flatS l) = l
  | [], h => rfl
  | s :: t, h => by
    have hs := h s (List.mem_cons_self ..)
    have e : flatS (s :: t) = (s.f0 % 256) :: (s.f0 / 256 % 256) :: (s.f1 % 256) :: flatS t := rfl
    have hp : pageO (flatS (s :: t)) = s.f0 := by
      rw [e]
      unfold pageO
      show Go.bits .or .i64 (s.f0 % 256) (s.f0 / 256 % 256 * 256) = s.f0
      rw [Bits.or_comm, Bits.join_i64 8 _ _ (by omega) (by omega) (by omega) (by omega) (by omega) (by decide)]
      omega
    show spansO (t.length + 1) _ = _
    rw [spans_more (by rw [e]; simp), hp]
    show (⟨s.f0, s.f1 % 256⟩ : SP) :: spansO t.length (flatS t) = _
    rw [spans_flat t (fun x hx => h x (List.mem_cons_of_mem _ hx)), show s.f1 % 256 = s.f1 by omega]
theorem put_shape {a s : Int} {z : Bool} {rv : List RV} {sp : List SP} (h : mayD a s z rv sp = true) :
    putD a s z rv sp = a :: s :: (if z then 1 else 0) :: (rv.length : Int) :: (flatR rv ++ ((sp.length : Int) :: flatS sp)) := by
  have h' := h
  have hl := may_len h
  unfold mayD at h'
  simp only [Bool.and_eq_true, decide_eq_true_eq] at h'
  unfold putD
  rw [if_pos h, show a % 256 = a by omega, show s % 256 = s by omega, show (rv.length : Int) % 256 = rv.length by omega, show (sp.length : Int) % 256 = sp.length by omega]
  simp
theorem nR_put {a s : Int} {z : Bool} {rv : List RV} {sp : List SP} (h : mayD a s z rv sp = true) : nR (putD a s z rv sp) = rv.length := by
  unfold nR
  rw [put_shape h]
  show ((rv.length : Int)).toNat = _
  omega
theorem flatR_len : ∀ l : List RV, (flatR l).length = 2 * l.length
  | [] => rfl
  | x :: t => by show (([_, _] : List Int) ++ flatR t).length = _; rw [List.length_append, flatR_len t]; simp; omega
theorem nS_put {a s : Int} {z : Bool} {rv : List RV} {sp : List SP} (h : mayD a s z rv sp = true) : nS (putD a s z rv sp) = sp.length := by
  unfold nS
  rw [nR_put h, putD_at h]
  have := may_len h
  omega
theorem take_put {a s : Int} {z : Bool} {rv : List RV} {sp : List SP} (h : mayD a s z rv sp = true) : takeD (putD a s z rv sp) = (a, s, z, rv, sp, 0) := by
  have hlen := putD_len h
  have hsh := put_shape h
  have h0 : rd (putD a s z rv sp) 0 = a := by rw [hsh]; rfl
  have h1 : rd (putD a s z rv sp) 1 = s := by rw [hsh]; rfl
  have h2 : (rd (putD a s z rv sp) 2 == 1) = z := by rw [hsh]; show ((if z then 1 else 0 : Int) == 1) = z; cases z <;> rfl
  have hr : rvO (putD a s z rv sp) = rv := by
    unfold rvO
    rw [nR_put h, hsh]
    show recvsO rv.length (flatR rv ++ _) = rv
    have h' := h
    unfold mayD rcvB at h'
    simp only [Bool.and_eq_true] at h'
    exact recvs_flat _ _ (rcv_in _ _ h'.1.2.2)
  have hs : spO (putD a s z rv sp) = sp := by
    unfold spO
    rw [nR_put h, nS_put h, hsh]
    have : (a :: s :: (if z then 1 else 0) :: (rv.length : Int) :: (flatR rv ++ ((sp.length : Int) :: flatS sp))).drop (5 + 2 * rv.length) = flatS sp := by
      rw [show 5 + 2 * rv.length = 2 * rv.length + 1 + 4 by omega]
      show (flatR rv ++ ((sp.length : Int) :: flatS sp)).drop (2 * rv.length + 1) = _
      rw [List.drop_append, List.drop_of_length_le (by rw [flatR_len]; omega), flatR_len, show 2 * rv.length + 1 - 2 * rv.length = 1 by omega]
      rfl
    rw [this]
    exact spans_flat _ (may_in h)
  have key := good_t (b := putD a s z rv sp) (by omega) (by rw [nR_put h]; omega) (by rw [h0, h1, h2, hr, hs]; exact h) (by rw [h0, h1, h2, hr, hs])
  rw [key, h0, h1, h2, hr, hs]
theorem rd_take {b : List Int} {j : Nat} {i : Nat} (h : i < j) : rd (b.take j) (i : Int) = rd b i := by
  unfold rd
  rw [Int.toNat_natCast, List.getD_eq_getElem?_getD, List.getD_eq_getElem?_getD, List.getElem?_take, if_pos h]
theorem cut_bad {b : List Int} (hb : ∀ x ∈ b, 0 ≤ x ∧ x ≤ 255) (h : b.length = 5 + 2 * nR b + 3 * nS b) {j : Nat} (hj : j < b.length) : takeD (b.take j) = badD := by
  have hlen : (b.take j).length = j := by rw [List.length_take]; omega
  by_cases h5 : j < 5
  · exact bad_len (Or.inr (by omega))
  have e1 : nR (b.take j) = nR b := by
    unfold nR
    rw [show (3 : Int) = ((3 : Nat) : Int) from rfl, rd_take (by omega)]
  by_cases h6 : j < 5 + 2 * nR b
  · exact bad_len (Or.inr (by omega))
  have e2 : nS (b.take j) = nS b := by
    unfold nS
    rw [e1, rd_take (by omega)]
  exact len_bad (fun x hx => hb x (List.mem_of_mem_take hx)) (by omega)
theorem rd_app {b X : List Int} {i : Nat} (h : i < b.length) : rd (b ++ X) (i : Int) = rd b i := by
  unfold rd
  rw [Int.toNat_natCast, List.getD_eq_getElem?_getD, List.getD_eq_getElem?_getD, List.getElem?_append_left h]
theorem more_bad {b : List Int} (hb : ∀ x ∈ b, 0 ≤ x ∧ x ≤ 255) (h : b.length = 5 + 2 * nR b + 3 * nS b) {y : Int} (hy : 0 ≤ y ∧ y ≤ 255) : takeD (b ++ [y]) = badD := by
  have e1 : nR (b ++ [y]) = nR b := by
    unfold nR
    rw [show (3 : Int) = ((3 : Nat) : Int) from rfl, rd_app (by omega)]
  have e2 : nS (b ++ [y]) = nS b := by
    unfold nS
    rw [e1, rd_app (by omega)]
  refine len_bad (fun x hx => ?_) (by rw [List.length_append, e1, e2]; simp; omega)
  rcases List.mem_append.1 hx with hx | hx
  · exact hb x hx
  · rw [List.mem_singleton.1 hx]; exact hy
def lightB (rv : List RV) (sp : List SP) : Bool := decide (rv.length ≤ 8) && decide (sp.length ≤ 12)
theorem light_c (W : World) (k s : Int) (z r : Bool) {A B : Option Addr} {c d n m : Nat} {rv : List RV} {sp : List SP} (hn : rv.length = n) (hm : sp.length = m) (h3 : Kd.C k40 W A n rv) (hc3 : n ≤ c) (h4 : Kd.C k42 W B m sp) (hc4 : m ≤ d) (hr : lightB rv sp = r) :
    Calls Try.prog 15 #[.agg #[.int .i64 k, .int .i64 s, .bool z, .slice A n c, .slice B m d]] W fun e w' => e = .returned (.bool r) ∧ Below W.heap.size W w' := by
  subst hn hm
  refine presidiolaw18_light.calls k s z A c rv B d sp r W h3 hc3 h4 hc4 ?_
  rw [← hr]
  unfold presidiolaw18_light.f lightB
  by_cases g : rv.length ≤ 8
  · rw [if_pos (by omega), decide_eq_true g]
    congr 1
    rw [Bool.true_and, Bool.eq_iff_iff]
    simp
    omega
  · rw [if_neg (by omega), decide_eq_false g]; rfl
end Go.Proofs.Ytdpjpmlajjfpgaa.Deal
