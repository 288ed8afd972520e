/- Words out of the kit's print, cut by a program of this session to what this claim tells; no condition beyond those that each theorem names. -/
import Derived.Test.YtbppgngfiijclaaVWInv
import Derived.Test.YtbppgngfiijclaaVWFootNe
namespace Go.Proofs.YtbppgngfiijclaaW.PrintWords
open Go.RowKit
end Go.Proofs.YtbppgngfiijclaaW.PrintWords
namespace Go.Proofs.YtbppgngfiijclaaW.PrintLast
section
variable {ops : Array Oper} {a : Act} {o og : Oper} {g : Nat} {t : Tmp} {u : Bool}
end
end Go.Proofs.YtbppgngfiijclaaW.PrintLast
