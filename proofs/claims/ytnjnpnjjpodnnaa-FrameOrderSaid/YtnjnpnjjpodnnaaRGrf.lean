/- The document's frames: Parse. -/
import Derived.Test.YtnjnpnjjpodnnaaRGrd
import Derived.Test.YtnjnpnjjpodnnaaRGre
import Derived.Test.YtnjnpnjjpodnnaaRGxe
import Derived.Deep.Cut
namespace Go.Proofs.Ytnjnpnjjpodnnaa
open Go.RowKit Go.Shelf
set_option linter.unusedVariables false
set_option linter.unusedSimpArgs false

end Go.Proofs.Ytnjnpnjjpodnnaa
