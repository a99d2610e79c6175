/- The closed statement on pleas: the plea named is the bytes named, the four bad ones are no bytes, and noughts are a plea just at eleven bytes. No condition. -/
import Derived.Test.YtlohonlcoedfhaaPPleaFormsx3
namespace Go.Proofs.Ytlohonlcoedfhaa.Pure
open Go.RowKit Go.Proofs.Ytlohonlcoedfhaa.PPleaForms Go.Proofs.YtlohonlcoedfhaaW.PrintWords Go.Proofs.YtlohonlcoedfhaaW.PrintLast

/-- YOURS: ∃ k, presidiolaw19_PleaForms.f k  = some true
What it reaches (each with k first where it has rounds; `.mono`: more rounds tell the same; `.l0`, ..: its loops, with `.mono_l`): plea_Take.f, plea_Put.f, presidiolaw19_begun.f, presidiolaw19_PleaForms.f -/
theorem PleaForms : presidiolaw19_PleaForms.Pure := by
  exact ⟨40, by decide +kernel⟩

end Go.Proofs.Ytlohonlcoedfhaa.Pure
