import Derived.Test.YtckempgpaojljaaTWInv
import Derived.Test.YtckempgpaojljaaTWFootNe
namespace Go.Proofs.YtckempgpaojljaaW.PrintWords
open Go.RowKit
end Go.Proofs.YtckempgpaojljaaW.PrintWords
namespace Go.Proofs.YtckempgpaojljaaW.PrintLast
section
variable {ops : Array Oper} {a : Act} {o og : Oper} {g : Nat} {t : Tmp} {u : Bool}
theorem eval_of {v : Value} (h : a.tmps[t]? = some v) : a.eval (.tmp t) = v := by simp [Act.eval, h]
end
end Go.Proofs.YtckempgpaojljaaW.PrintLast
