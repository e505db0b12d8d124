/- Arguments of the type api.Frame, opened whole. -/
import Derived.Test.YtnjnpnjjpodnnaaRYO
import Derived.Test.YtnjnpnjjpodnnaaRGa
import Derived.Deep.SlicePairs
namespace Go.Proofs.Ytnjnpnjjpodnnaa
open Go.RowKit Go.Deep Go.ChangeShapes Go.WideShapes
set_option maxRecDepth 20000

end Go.Proofs.Ytnjnpnjjpodnnaa
