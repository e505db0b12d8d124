/- Which frames may be: the contract. -/
import Derived.Test.YtnjnpnjjpodnnaaRGt0
import Derived.Test.YtnjnpnjjpodnnaaRGsr
import Derived.Test.YtnjnpnjjpodnnaaRGrb
import Derived.Test.YtnjnpnjjpodnnaaRGrf
namespace Go.Proofs.Ytnjnpnjjpodnnaa
open Go.RowKit Go.Shelf
set_option linter.unusedVariables false
set_option linter.unusedSimpArgs false

end Go.Proofs.Ytnjnpnjjpodnnaa
