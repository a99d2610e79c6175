/- What frames say, to which world, in any run: whatever comes in. -/
import Derived.Test.YtbcdkhgfjdbjoaaRamA
namespace Go.Proofs.Ytbcdkhgfjdbjoaa.Ram
open Go.RowKit Go.Proofs.Ytbcdkhgfjdbjoaa.Mem Go.Proofs.Ytbcdkhgfjdbjoaa.Kept
open Go.Proofs.YtbcdkhgfjdbjoaaW.PrintWords (nums ReadsInt)
set_option linter.unusedVariables false

set_option maxRecDepth 100000 in
set_option maxHeartbeats 4000000 in
theorem all_out (w : World) (fr sc : Int) (a : Option Addr) (len cap : Nat) (nn : Int) (h : 25 < len) :
    Calls Try.prog 8 #[.int .i64 fr, .int .i64 sc, .slice a len cap, .int .i64 nn] w fun e w' => e = .returned (.bool true) ∧ Below w.heap.size w w' := by
  have hb := Below.refl w.heap.size w
  have h1 : (25 : Int) < (len : Int) := by omega
  go_enter Try.func8, Try.ntmps8
  go_wp2_with (first
    | (go_at_call 22; (with_reducible refine (begun _).mono ?_); rintro e w1 ⟨rfl, hb1⟩; replace hb := bel_chain hb hb1; clear hb1)
    | fail)
  all_goals go_ret
  all_goals exact ⟨rfl, hb⟩
theorem reads_plainB {w : World} {a : Option Addr} {b off : Nat} {l : List Int} (hl : l.length ≤ 9223372036854775807) (ha : 0 < l.length → a = some ⟨b, off, none⟩) (hc : ∀ i, i < l.length → w.cell? ⟨b, off + i, none⟩ = some (.int .u8 (l.getD i 0))) : ReadsInt w .u8 a l.length l :=
  ⟨rfl, hl, fun h => ⟨_, ha h, fun j hj => by rw [add_at]; exact hc j hj⟩⟩
theorem all_any (w : World) (fr sc : Int) (a : Option Addr) (bl ol len cap : Nat) (nn : Int) (ha : 0 < len → a = some ⟨bl, ol, none⟩) (hcap : len ≤ cap) (hd : ∀ i, i < len → Deed w bl (ol + i * 6)) :
    Calls Try.prog 8 #[.int .i64 fr, .int .i64 sc, .slice a len cap, .int .i64 nn] w fun e w' => e = .returned (.bool true) ∧ Below w.heap.size w w' := by
  by_cases h : 25 < len
  · exact all_out w fr sc a len cap nn h
  · exact all_run w fr sc bl ol len cap nn a ha (by omega) hcap hd
end Go.Proofs.Ytbcdkhgfjdbjoaa.Ram
