/- Who is there: the plain law of RollForms, out of RollP. -/
import Derived.Test.YtecliaogidemjaaRollP
namespace Go.Proofs.Ytecliaogidemjaa.Pure
theorem RollForms : Go.Proofs.Ytecliaogidemjaa.PRollQ.presidiolaw16_RollForms.Pure := Go.Proofs.Ytecliaogidemjaa.RollP.RollForms
end Go.Proofs.Ytecliaogidemjaa.Pure
