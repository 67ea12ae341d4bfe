/- How an argument's list reads: each element's cells, and what is known of it. No condition. -/
import Derived.Test.YtghhepailkkneaaV
import Derived.Deep.Strs
import Derived.Lib.SmallJoins
namespace Go.Proofs.Ytghhepailkkneaa.Opens
open Go.ChangeShapes Go.WideShapes Go.RowKit Go.Proofs.YtghhepailkkneaaW.PrintWords
end Go.Proofs.Ytghhepailkkneaa.Opens
