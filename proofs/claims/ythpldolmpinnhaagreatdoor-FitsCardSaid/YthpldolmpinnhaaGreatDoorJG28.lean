import Derived.Test.YthpldolmpinnhaaGreatDoorJG27
import Derived.Laws.IdiomRangeMap
namespace Go.Proofs.YthpldolmpinnhaaGreatDoor
open Go Go.RowKit
set_option maxRecDepth 10000
section
variable {P q g mb:Nat} {vC vI cv ov:Value} {rs:List (Value×Value)} {mi po gr:Int} {fi ne:Nat} {dg:List UInt8} {t:Wd} {w:World}
end
end Go.Proofs.YthpldolmpinnhaaGreatDoor
