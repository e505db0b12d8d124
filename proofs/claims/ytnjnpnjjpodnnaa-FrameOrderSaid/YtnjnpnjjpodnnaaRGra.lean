/- The document's frames: has, far, long, ahead, set. -/
import Derived.Test.YtnjnpnjjpodnnaaRGq
namespace Go.Proofs.Ytnjnpnjjpodnnaa
open Go.RowKit Go.Shelf
set_option linter.unusedVariables false
set_option linter.unusedSimpArgs false

end Go.Proofs.Ytnjnpnjjpodnnaa
