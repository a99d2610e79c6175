/- The deal and the reference's: contracts with lengths as letters, for DealAll. -/
import Derived.Test.YtdpjpmlajjfpgaaDealY
import Derived.Test.YtdpjpmlajjfpgaaDealN
import Derived.Test.YtdpjpmlajjfpgaaCRow
import Derived.Test.YtdpjpmlajjfpgaaPDealQx12
namespace Go.Proofs.Ytdpjpmlajjfpgaa.Deal
open Go Go.RowKit Go.Proofs.Ytdpjpmlajjfpgaa.Mem Go.Proofs.Ytdpjpmlajjfpgaa.Kept Go.Proofs.Ytdpjpmlajjfpgaa.PDealK Go.Proofs.Ytdpjpmlajjfpgaa.PDealQ
open Go.Proofs.YtdpjpmlajjfpgaaW.PrintWords hiding add_at blk_alloc blk_below blk_cell blk_drewN blk_far blk_lt blk_new blk_set
set_option linter.unusedVariables false
set_option linter.unusedSimpArgs false
theorem lent_c {w : World} {g n : Nat} {l : List Int} (hn : l.length = n) (hl : n ≤ 1000) (h : Loan.Lent w g l) : Kd.C (Kd.int .u8) w (some ⟨g, 0, Option.none⟩) n l := by
  subst hn
  obtain ⟨cs, t, hg, hc⟩ := h
  refine CRow.c_row (b := g) (o := 0) (by omega) (fun _ => rfl) (fun i hi => ?_)
  rw [Mem.blk_cell hg, Nat.zero_add, hc i (by omega), List.getD_eq_getElem?_getD, List.getElem?_append_left hi, List.getD_eq_getElem?_getD]
theorem loan_c (w : World) {a : Option Addr} {cap n : Nat} {l : List Int} (hn : l.length = n) (hl : n ≤ 1000) (hr : Kd.C (Kd.int .u8) w a n l) :
    Calls Try.prog 16 #[.slice a n cap] w fun e w' => ∃ g c, e = .returned (.slice (some ⟨g, 0, Option.none⟩) n c) ∧ n + 5 ≤ c ∧ c ≤ 9223372036854775807 ∧ Loan.Lent w' g l ∧ Below w.heap.size w w' := by
  subst hn
  exact (Loan.loan_any w a cap l hl (reads_c hr)).mono fun e w' ⟨g, c, h1, h2, h3, h4, h5, _⟩ => ⟨g, c, h1, h2, h3, h4, h5⟩
theorem lsame_c (w : World) {g c : Nat} {a : Option Addr} {cap n : Nat} {l : List Int} (hn : l.length = n) (hl : n ≤ 1000) (hc : n + 5 ≤ c) (hc2 : c ≤ 9223372036854775807) (hL : Loan.Lent w g l) (hr : Kd.C (Kd.int .u8) w a n l) :
    Calls Try.prog 24 #[.slice (some ⟨g, 0, Option.none⟩) n c, .slice a n cap] w fun e w' => e = .returned (.bool true) ∧ Below w.heap.size w w' := by
  subst hn
  exact (Loan.same_any w g c a cap l hl hc hc2 hL (reads_c hr)).mono fun _ _ ⟨h1, n, h2⟩ => ⟨h1, by rw [h2]; exact Mem.bel_drewN (Below.refl _ _) _⟩
theorem rmay_c (W : World) (k s : Int) (z r : Bool) {A B : Option Addr} {c d n m : Nat} {rv : List RV} {sp : List SP} (hn : rv.length = n) (hm : sp.length = m) (h3 : Kd.C k40 W A n rv) (hc3 : n ≤ c) (h4 : Kd.C k42 W B m sp) (hc4 : m ≤ d) (hr : mayD k s z rv sp = r) :
    Calls Try.prog 20 #[.agg #[.int .i64 k, .int .i64 s, .bool z, .slice A n c, .slice B m d]] W fun e w' => e = .returned (.bool r) ∧ Below W.heap.size W w' := by
  subst hn hm
  exact presidioref18_MayDeal.calls 50 k s z A c rv B d sp r W h3 hc3 h4 hc4 (by rw [rmay_f (by decide), hr])
theorem rput_c (W : World) (k s : Int) (z : Bool) {A B : Option Addr} {c d n m q : Nat} {rv : List RV} {sp : List SP} {b : List Int} (hn : rv.length = n) (hm : sp.length = m) (h3 : Kd.C k40 W A n rv) (hc3 : n ≤ c) (h4 : Kd.C k42 W B m sp) (hc4 : m ≤ d) (hr : putD k s z rv sp = b) (hq : b.length = q) :
    Calls Try.prog 22 #[.agg #[.int .i64 k, .int .i64 s, .bool z, .slice A n c, .slice B m d]] W fun e w' => ∃ A3 c3, e = .returned (.slice A3 q c3) ∧ q ≤ c3 ∧ Kd.C (Kd.int .u8) w' A3 q b ∧ Below W.heap.size W w' := by
  subst hn hm
  refine (presidioref18_PutDeal.calls 50 k s z A c rv B d sp b W h3 hc3 h4 hc4 (by rw [rput_f (by decide), hr])).mono ?_
  rintro e w' ⟨v, rfl, h1, h2⟩
  obtain ⟨A3, c3, rfl, h5, h6⟩ := r_open h1 hq
  exact ⟨A3, c3, rfl, h5, h6, h2⟩
theorem rtake_c (W : World) {A : Option Addr} {c n p q : Nat} {b : List Int} {k s e : Int} {z : Bool} {rv : List RV} {sp : List SP} (hn : b.length = n) (hl : n ≤ 1000) (h : Kd.C (Kd.int .u8) W A n b) (hc : n ≤ c) (hb : ∀ x ∈ b, 0 ≤ x ∧ x ≤ 255) (hr : takeD b = (k, s, z, rv, sp, e)) (hp : rv.length = p) (hq : sp.length = q) :
    Calls Try.prog 18 #[.slice A n c] W fun e' w' => ∃ A3 c3 A4 c4, e' = .returned (.tuple #[.agg #[.int .i64 k, .int .i64 s, .bool z, .slice A3 p c3, .slice A4 q c4], .int .i64 e]) ∧ p ≤ c3 ∧ Kd.C k40 w' A3 p rv ∧ q ≤ c4 ∧ Kd.C k42 w' A4 q sp ∧ Below W.heap.size W w' := by
  subst hn
  refine (presidioref18_TakeDeal.calls 700 A c b k s z rv sp e W h hc (by rw [rtake_f (by omega) hb (by omega), hr])).mono ?_
  rintro e' w' ⟨v, u, he, h1, h2, h3⟩
  obtain ⟨A3, c3, rfl, h5, h6⟩ := r_open h1 hp
  obtain ⟨A4, c4, rfl, h7, h8⟩ := r_open h2 hq
  exact ⟨A3, c3, A4, c4, he, h5, h6, h7, h8, h3⟩
end Go.Proofs.Ytdpjpmlajjfpgaa.Deal
