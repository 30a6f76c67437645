/- Contracts of the laws' own functions sz... No conditions. -/
import Derived.Test.YtgbggaddpbghfaaGreatTy
namespace Go.Proofs.YtgbggaddpbghfaaGreat
open Go Go.KA Go.Proofs
set_option maxRecDepth 100000
end Go.Proofs.YtgbggaddpbghfaaGreat
