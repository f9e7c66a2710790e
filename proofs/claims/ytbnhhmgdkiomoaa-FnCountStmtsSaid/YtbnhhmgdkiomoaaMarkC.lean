/- mark and held of the laws, for memories, machines and codes of the call's own. Condition: at most 2^20 elements and rows. -/
import Derived.Test.YtbnhhmgdkiomoaaMarkM
import Derived.WalkKit
import Derived.ProofKit
import Derived.Test.YtbnhhmgdkiomoaaShort
namespace Go.Proofs.Ytbnhhmgdkiomoaa.MarkC
open Go.RowKit Kit
set_option linter.unusedVariables false
end Go.Proofs.Ytbnhhmgdkiomoaa.MarkC
