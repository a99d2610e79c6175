/- Contracts of package ram: Clear, SetWord, Word. -/
import Derived.Test.YtdpjpmlajjfpgaaRamC
import Derived.Test.YtdpjpmlajjfpgaaBits
namespace Go.Proofs.Ytdpjpmlajjfpgaa.Ram
open Go.RowKit Go.Proofs.Ytdpjpmlajjfpgaa.Mem Go.Proofs.Ytdpjpmlajjfpgaa.Kept
open Go.Proofs.YtdpjpmlajjfpgaaW.PrintWords (nums ReadsInt own_reads own_reads' own_le own_lit print_append_row)
set_option linter.unusedVariables false
set_option linter.unusedSimpArgs false

/-- clear of a part of a row of bytes. -/
theorem wpList_clear {w : World} {ops : Array Oper} {rest : List Oper} {o : Oper} {a : Act} {Q : Exit → Act → World → Prop} (hgd : o.guard = none) (x : Operand)
    (ho : o.op = .call { callee := .builtin .clear, args := #[x], argTypes := #[26] }) (b off n c : Nat) (hx : a.eval x = .slice (some ⟨b, off, none⟩) n c) (hn : 0 < n)
    (cur : Array Value) (t : TypeId) (hg : w.heap[b]? = some (.cells cur t (0, 0))) (hfit : off + n ≤ cur.size)
    (h : wpList Try.prog ops Q rest (a.put o.dst (.tuple #[])) (w.setRow b (splice cur.toList off (nums .u8 (List.replicate n 0))).toArray)) : wpList Try.prog ops Q (o :: rest) a w := by
  refine wpList_plain hgd fun K hK => ?_
  have hz : ∀ w, (zeroValue 5).run Try.prog w = .ok (.int .u8 0) w := by
    obtain ⟨i0, hi, hz0, hz1, hz2⟩ := info_parts info5
    intro w; simp [zeroValue, typeInfo, hi, hz0]
  have hrun : (Builtin.clear_ #[26] o.type #[.slice (some ⟨b, off, none⟩) n c]).run Try.prog w = .ok (.tuple #[]) (w.setRow b (splice cur.toList off (nums .u8 (List.replicate n 0))).toArray) := by
    have hzc : (Builtin.zeroCells (Value.int .u8 0).cells n).toList = nums .u8 (List.replicate n 0) := by
      rw [show (Value.int .u8 0).cells = #[.int .u8 0] from rfl]
      apply List.ext_getElem
      · simp [Builtin.zeroCells, nums]
      · intro i h1 h2
        simp [Builtin.zeroCells, nums, Nat.mod_one]
    have hst := run_storeCells_at Try.prog b off t (nums .u8 (List.replicate n 0)) 0 cur w hg (by simpa [nums] using hfit) (by intro v hv; simp [nums] at hv; rw [hv.2]; rfl)
    obtain ⟨m, rfl⟩ : ∃ m, n = m + 1 := ⟨n - 1, by omega⟩
    simp only [Nat.add_zero, List.append_assoc] at hst
    simp [Builtin.clear_, run_underlying underB, hz, hzc, hst, splice]
  unfold Oper.wp
  simp [execOp, ho, resolve, invoke, builtin, hx, hrun, Result.andThen]
  exact hK _ _ h
theorem may_frame (n : Nat) (s f : Int) : may n s true f 0 128 = (decide (0 ≤ f) && decide (f < n)) := by
  unfold may; simp
end Go.Proofs.Ytdpjpmlajjfpgaa.Ram
