/- A narrow call sees narrow words, a wide one all, and which calls there are: no condition. -/
import Derived.Test.YtecliaogidemjaaWordCA
import Derived.Test.YtecliaogidemjaaWordCB
import Derived.Test.YtecliaogidemjaaWordCC
namespace Go.Proofs.Ytecliaogidemjaa.Word
open Go.RowKit Go.Proofs.Ytecliaogidemjaa.Mem
set_option linter.unusedVariables false

theorem wide_narrow {v : Int} (h : isIn narrowL v = false) : isIn wideL v = false := by
  have hs : ∀ x ∈ wideL, isIn narrowL x = true := by decide
  cases hc : isIn wideL v with
  | false => rfl
  | true =>
    rw [isIn_true] at hc
    rw [hs v hc] at h
    cases h
theorem low_wide {v : Int} (h : v < 2147483648) : isIn wideL v = false := by
  have hs : ∀ x ∈ wideL, 2147483648 ≤ x := by decide
  cases hc : isIn wideL v with
  | false => rfl
  | true => rw [isIn_true] at hc; exact absurd (hs v hc) (by omega)
theorem calls (w : World) (n : Int) (hn : 0 ≤ n ∧ n ≤ 65535) (r0 r1 r2 r3 r4 r5 r6 r7 : Int) (h0 : 0 ≤ r0 ∧ r0 ≤ 18446744073709551615) (h1 : 0 ≤ r1 ∧ r1 ≤ 18446744073709551615) (h2 : 0 ≤ r2 ∧ r2 ≤ 18446744073709551615) (h3 : 0 ≤ r3 ∧ r3 ≤ 18446744073709551615)
    (h4 : 0 ≤ r4 ∧ r4 ≤ 18446744073709551615) (h5 : 0 ≤ r5 ∧ r5 ≤ 18446744073709551615) (h6 : 0 ≤ r6 ∧ r6 ≤ 18446744073709551615) (h7 : 0 ≤ r7 ∧ r7 ≤ 18446744073709551615) :
    Calls Try.prog 3 #[.int .u16 n, .agg #[.int .u64 r0, .int .u64 r1, .int .u64 r2, .int .u64 r3, .int .u64 r4, .int .u64 r5, .int .u64 r6, .int .u64 r7]] w fun e w' => e = .returned (.bool true) ∧ Below w.heap.size w w' := by
  cases hc : isIn narrowL (2214592608 + n % 64)
  · exact callsA w n _ hn rfl r0 r1 r2 r3 r4 r5 r6 r7 h0 h1 h2 h3 h4 h5 h6 h7 hc (wide_narrow hc) (low_wide (by omega))
  · cases hd : isIn wideL (2214592608 + n % 64)
    · exact callsC w n _ hn rfl r0 r1 r2 r3 r4 r5 r6 r7 h0 h1 h2 h3 h4 h5 h6 h7 hc hd
    · exact callsB w n _ hn rfl r0 r1 r2 r3 r4 r5 r6 r7 h0 h1 h2 h3 h4 h5 h6 h7 hc hd
end Go.Proofs.Ytecliaogidemjaa.Word
