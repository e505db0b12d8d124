/- Which frames may be: the contract. -/
import Derived.Test.YtnjnpnjjpodnnaaOGt0
import Derived.Test.YtnjnpnjjpodnnaaOGsr
import Derived.Test.YtnjnpnjjpodnnaaOGrb
import Derived.Test.YtnjnpnjjpodnnaaOGrf
namespace Go.Proofs.Ytnjnpnjjpodnnaa
open Go.RowKit Go.Shelf
set_option linter.unusedVariables false
set_option linter.unusedSimpArgs false

end Go.Proofs.Ytnjnpnjjpodnnaa
