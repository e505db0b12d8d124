/- The document's frames: what is wrong with values; what is wrong ahead. -/
import Derived.Test.YtnjnpnjjpodnnaaRGra
import Derived.Test.YtnjnpnjjpodnnaaRGw
namespace Go.Proofs.Ytnjnpnjjpodnnaa
open Go.RowKit Go.Shelf
set_option linter.unusedVariables false
set_option linter.unusedSimpArgs false

end Go.Proofs.Ytnjnpnjjpodnnaa
