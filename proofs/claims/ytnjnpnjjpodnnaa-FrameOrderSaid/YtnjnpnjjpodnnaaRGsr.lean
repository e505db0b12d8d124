/- The same frames: the contract. -/
import Derived.Test.YtnjnpnjjpodnnaaRGo
import Derived.Test.YtnjnpnjjpodnnaaRGsf
namespace Go.Proofs.Ytnjnpnjjpodnnaa
open Go.RowKit Go.Shelf
set_option linter.unusedVariables false
set_option linter.unusedSimpArgs false

end Go.Proofs.Ytnjnpnjjpodnnaa
