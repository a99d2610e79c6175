/- A row of bytes that comes in, as the printed words read it. -/
import Derived.Test.YtdpjpmlajjfpgaaKept
import Derived.Test.YtdpjpmlajjfpgaaWWords
namespace Go.Proofs.Ytdpjpmlajjfpgaa.CRow
open Go Go.Proofs.YtdpjpmlajjfpgaaW.PrintWords
theorem c_row {w : World} {k : IntKind} {a : Option Addr} {b o : Nat} {l : List Int} (hl : l.length ≤ 9223372036854775807) (ha : 0 < l.length → a = some ⟨b, o, none⟩) (hc : ∀ i, i < l.length → w.cell? ⟨b, o + i, none⟩ = some (.int k (l.getD i 0))) :
    Kd.C (Kd.int k) w a l.length l := by
  refine ⟨rfl, hl, fun h0 => ⟨_, ha h0, fun j p hj => ?_⟩⟩
  obtain ⟨hlt, rfl⟩ := List.getElem?_eq_some_iff.1 hj
  refine ⟨[.int k l[j]], rfl, rfl, fun i u hi => ?_⟩
  rcases i with _ | i
  · injection hi with hi
    subst hi
    show w.cell? ((⟨b, o, none⟩ : Addr).add (j * 1 + 0)) = _
    rw [Kept.add_at, show o + (j * 1 + 0) = o + j by omega, hc j hlt]
    simp [List.getD_eq_getElem?_getD, List.getElem?_eq_getElem hlt]
  · simp at hi
end Go.Proofs.Ytdpjpmlajjfpgaa.CRow
