/- The closed statement on slots: each slot and word of the lists is refused, and the four slots named are the words named. No condition. -/
import Derived.Test.YtlohonlcoedfhaaPSlotFormsx3
namespace Go.Proofs.Ytlohonlcoedfhaa.Pure
open Go.RowKit Go.Proofs.Ytlohonlcoedfhaa.PSlotForms Go.Proofs.YtlohonlcoedfhaaW.PrintWords Go.Proofs.YtlohonlcoedfhaaW.PrintLast

/-- YOURS: ∃ k, presidiolaw2_SlotForms.f k  = some true
What it reaches (each with k first where it has rounds; `.mono`: more rounds tell the same; `.l0`, ..: its loops, with `.mono_l`): slot_May.f, slot_Put.f, slot_Take.f, presidiolaw2_begun.f, presidiolaw2_SlotForms.f -/
theorem SlotForms : presidiolaw2_SlotForms.Pure := by
  exact ⟨24, by decide +kernel⟩

end Go.Proofs.Ytlohonlcoedfhaa.Pure
