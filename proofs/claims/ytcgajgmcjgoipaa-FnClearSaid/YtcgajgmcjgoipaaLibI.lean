/- Small facts of the pure side: what the laws' copies, comparisons and marks of whole numbers answer. -/
import Derived.Test.YtcgajgmcjgoipaaPAllx0
import Derived.Test.YtcgajgmcjgoipaaLibB
namespace Go.Proofs.Ytcgajgmcjgoipaa.Pure
open Go.RowKit Go.Proofs.Ytcgajgmcjgoipaa.PAll Go.Proofs.YtcgajgmcjgoipaaW.PrintWords Go.Proofs.YtcgajgmcjgoipaaW.PrintLast Go.Proofs.Ytcgajgmcjgoipaa.Base


end Go.Proofs.Ytcgajgmcjgoipaa.Pure
