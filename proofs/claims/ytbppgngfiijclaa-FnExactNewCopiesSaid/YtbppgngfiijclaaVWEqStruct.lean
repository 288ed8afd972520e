/- Words out of the kit's print, cut by a program of this session to what this claim tells; no condition beyond those that each theorem names. -/
import Derived.Test.YtbppgngfiijclaaVWWords
import Derived.Laws.StructEq
/-! ### 53. '==' of structs as_ one Bool -/
namespace Go.Proofs.YtbppgngfiijclaaW.PrintWords
open Go.RowKit
section
variable {P : Program} {d : Nat} {xs ys : Array Value} {f : Field} {fs : List Field} {a b : Value} {r s : Bool} {w : World}
end
end Go.Proofs.YtbppgngfiijclaaW.PrintWords
