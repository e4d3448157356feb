import Derived.Test.YthpldolmpinnhaaGreatDoorJG24
import Derived.Lib.SmallJoins
namespace Go.Proofs.YthpldolmpinnhaaGreatDoor
open Go Go.RowKit
abbrev LD(c o:Value)(mi po gr fi ne:Int)(dg:ByteArray):Value :=
 .agg #[c,o,.int .i32 mi,.int .i32 po,.int .i32 gr,.int .u8 fi,.int .u8 ne,.string dg]
end Go.Proofs.YthpldolmpinnhaaGreatDoor
