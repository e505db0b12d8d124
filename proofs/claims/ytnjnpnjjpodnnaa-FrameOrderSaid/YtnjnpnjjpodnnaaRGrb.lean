/- The document's frames: what is put. -/
import Derived.Test.YtnjnpnjjpodnnaaRGra
namespace Go.Proofs.Ytnjnpnjjpodnnaa
open Go.RowKit Go.Shelf
set_option linter.unusedVariables false
set_option linter.unusedSimpArgs false

end Go.Proofs.Ytnjnpnjjpodnnaa
