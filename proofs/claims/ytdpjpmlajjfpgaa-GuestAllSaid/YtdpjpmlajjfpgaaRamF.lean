/- Contracts of package ram: Copy. -/
import Derived.Test.YtdpjpmlajjfpgaaRamE
import Derived.Test.YtdpjpmlajjfpgaaRegH
namespace Go.Proofs.Ytdpjpmlajjfpgaa.Ram
open Go.RowKit Go.Proofs.Ytdpjpmlajjfpgaa.Mem Go.Proofs.Ytdpjpmlajjfpgaa.Kept
open Go.Proofs.YtdpjpmlajjfpgaaW.PrintWords (nums ReadsInt own_reads own_reads' own_le own_lit print_append_row)
set_option linter.unusedVariables false
set_option linter.unusedSimpArgs false

/-- What a memory's frames are cloned to. -/
def Cloned (w : World) (n : Nat) (F : List Int) (e : Ending) (w' : World) : Prop :=
  ∃ A c, e = .returned (.slice A n c) ∧ w'.ownsRow w.heap.size 113 128 (.slice A n c) n (nums .u8 F) ∧ Below w.heap.size w w'
theorem cells_one {n : Nat} : ∀ v ∈ nums .u8 (List.replicate n 0), v.oneCell' = true := by intro v hv; simp [nums] at hv; rw [hv.2]; rfl
theorem bel_lit {w w' : World} {t : TypeId} (hg : (w.alloc (.cells #[] t)).grownBy w' (some w.heap.size)) : Below w.heap.size w w' :=
  (bel_alloc (Below.refl _ _) _).grown hg (bel_alloc (Below.refl _ _) _).size (fun k hk => by cases hk; exact Nat.le_refl _)
theorem own_slice {w : World} {base size n : Nat} {e : TypeId} {v : Value} {xs : List Value} (h : w.ownsRow base e size v n xs) : ∃ A c, v = .slice A n c := by
  rcases h.2 with ⟨h1, h2⟩ | ⟨g, cap, cur, h1, _⟩
  · exact ⟨none, 0, by rw [h1, h2]⟩
  · exact ⟨_, cap, h1⟩
end Go.Proofs.Ytdpjpmlajjfpgaa.Ram
