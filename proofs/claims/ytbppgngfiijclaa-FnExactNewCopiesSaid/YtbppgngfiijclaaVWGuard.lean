/- Words out of the kit's print, cut by a program of this session to what this claim tells; no condition beyond those that each theorem names. -/
import Derived.Test.YtbppgngfiijclaaVWWords
/-! ### 58. A guarded operation whose guard is known to want it: the same goal without the guard -/
namespace Go.Proofs.YtbppgngfiijclaaW.PrintWords
open Go.RowKit
section
variable {P : Program} {ops : Array Oper} {rest : List Oper} {o : Oper} {a : Act} {Q : Exit → Act → World → Prop} {W : World}
end
end Go.Proofs.YtbppgngfiijclaaW.PrintWords
