/- Words out of the kit's print, cut by a program of this session to what this claim tells; no condition beyond those that each theorem names. -/
import Derived.Test.YtkabmhjnhcfkcaaVWInv
import Derived.Test.YtkabmhjnhcfkcaaVWFootNe
namespace Go.Proofs.YtkabmhjnhcfkcaaW.PrintWords
open Go.RowKit
end Go.Proofs.YtkabmhjnhcfkcaaW.PrintWords
namespace Go.Proofs.YtkabmhjnhcfkcaaW.PrintLast
section
variable {ops : Array Oper} {a : Act} {o og : Oper} {g : Nat} {t : Tmp} {u : Bool}
end
end Go.Proofs.YtkabmhjnhcfkcaaW.PrintLast
