/- The document's frames: what stands in a payload. -/
import Derived.Test.YtnjnpnjjpodnnaaRGra
import Derived.Test.YtnjnpnjjpodnnaaRGx
namespace Go.Proofs.Ytnjnpnjjpodnnaa
open Go.RowKit Go.Shelf
set_option linter.unusedVariables false
set_option linter.unusedSimpArgs false

end Go.Proofs.Ytnjnpnjjpodnnaa
