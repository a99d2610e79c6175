/- Who is there: the plain law of RollAll, out of RollP. -/
import Derived.Test.YtecliaogidemjaaRollP
namespace Go.Proofs.Ytecliaogidemjaa.Pure
theorem RollAll : Go.Proofs.Ytecliaogidemjaa.PRollQ.presidiolaw16_RollAll.Pure := Go.Proofs.Ytecliaogidemjaa.RollP.RollAll
end Go.Proofs.Ytecliaogidemjaa.Pure
