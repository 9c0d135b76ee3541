/- the reference's yard: Yard, Enough, Unit; together, On -/
import Derived.Test.YtchignmnnbepnaaGreatJ7
import Derived.Test.YtchignmnnbepnaaGreatJ17
namespace Go.Proofs.YtchignmnnbepnaaGreat
open Go.RowKit
section
variable (w : World)
end

end Go.Proofs.YtchignmnnbepnaaGreat
