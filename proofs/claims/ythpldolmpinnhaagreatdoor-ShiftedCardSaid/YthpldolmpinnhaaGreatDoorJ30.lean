import Derived.Test.YthpldolmpinnhaaGreatDoorJ29
import Derived.Laws.Externs
import Derived.Lib.BytesEntry
import Derived.Lib.BufferMore
namespace Go.Proofs.YthpldolmpinnhaaGreatDoor
open Go Go.RowKit
set_option maxRecDepth 10000
theorem BytesAt.below {w w':World} {a:Option Addr} {l:List Int} (h:BytesAt w a l) (hb:Below w.heap.size w w'):BytesAt w' a l:=fun j hj=>by
 obtain ⟨b,h1,h2⟩:=h j hj;refine ⟨b,h1,?_⟩;rw [hb.cell (World.block_lt_of_cell? w _ h2)];exact h2
theorem digs_vals0 (l:List UInt8):digs l=(vals l).map (Value.int .u8):=by simp [digs,vals]
end Go.Proofs.YthpldolmpinnhaaGreatDoor
