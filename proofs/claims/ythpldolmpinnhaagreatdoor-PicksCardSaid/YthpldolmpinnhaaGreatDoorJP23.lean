import Derived.Test.YthpldolmpinnhaaGreatDoorJP22
import Derived.Lib.SmallJoins
namespace Go.Proofs.YthpldolmpinnhaaGreatDoor
open Go Go.RowKit
abbrev IL(c o:Value)(mi po gr fi ne:Int)(dg:ByteArray):Value :=
 .agg #[c,o,.int .i32 mi,.int .i32 po,.int .i32 gr,.int .u8 fi,.int .u8 ne,.string dg]
def YW(Gr:List (List UInt8))(ds:List UInt8):List UInt8 :=
 if Gr=[] then ds else ds.flatMap (fun c=>Gr.getD (c.toNat - 48) [])
end Go.Proofs.YthpldolmpinnhaaGreatDoor
