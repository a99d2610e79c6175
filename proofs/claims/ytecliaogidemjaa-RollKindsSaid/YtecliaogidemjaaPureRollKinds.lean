/- Those of all kinds are all: the plain law of RollKinds, out of RollK. -/
import Derived.Test.YtecliaogidemjaaRollK
namespace Go.Proofs.Ytecliaogidemjaa.Pure
theorem RollKinds : Go.Proofs.Ytecliaogidemjaa.PRollQ.presidiolaw16_RollKinds.Pure := Go.Proofs.Ytecliaogidemjaa.RollC.RollKinds
end Go.Proofs.Ytecliaogidemjaa.Pure
