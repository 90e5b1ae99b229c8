-- words
import Derived.Test.YtfjbhccapgnkiaaWInv
import Derived.Test.YtfjbhccapgnkiaaWFootNe
namespace Go.Proofs.YtfjbhccapgnkiaaW.PrintWords
open Go.RowKit
end Go.Proofs.YtfjbhccapgnkiaaW.PrintWords
namespace Go.Proofs.YtfjbhccapgnkiaaW.PrintLast
section
variable {ops : Array Oper} {a : Act} {o og : Oper} {g : Nat} {t : Tmp} {u : Bool}
end
end Go.Proofs.YtfjbhccapgnkiaaW.PrintLast
