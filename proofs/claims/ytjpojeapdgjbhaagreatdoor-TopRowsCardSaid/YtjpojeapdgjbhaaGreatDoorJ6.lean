/- part -/
import Derived.Test.YtjpojeapdgjbhaaGreatDoorJ4
import Derived.Test.YtjpojeapdgjbhaaGreatDoorJ5
import Derived.StillTailTactics
import Derived.Sort.Grow
namespace Go.Proofs.YtjpojeapdgjbhaaGreatDoor
open Go.RowKit
theorem und_int:Tryz.prog.underlying 37=some (.slice 3):=Tryz.underlying37
theorem info_int:(Tryz.prog.info? 3).map (fun i=>(i.zero,i.size,i.bytes))=some (some (.int .i64 0),1,8):=by kernel_rfl
section
variable (w:World)
end
end Go.Proofs.YtjpojeapdgjbhaaGreatDoor
