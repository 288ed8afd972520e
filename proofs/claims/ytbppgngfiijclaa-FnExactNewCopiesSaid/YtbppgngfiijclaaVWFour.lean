/- Words out of the kit's print, cut by a program of this session to what this claim tells; no condition beyond those that each theorem names. -/
import Derived.Test.YtbppgngfiijclaaVWTab
/-! ### 56. Four, five, six operations that may come up next, in any order -/
namespace Go.Proofs.YtbppgngfiijclaaW.PrintLast
section
variable {P : Program} {ops : Array Oper} {Q : Exit → Act → World → Prop} {md : Region.Mode} {S : World → Prop} {ds : List Nat} {T : Bool × List (List Nat × List Nat)}
end
end Go.Proofs.YtbppgngfiijclaaW.PrintLast
