/- References, on right heaps: which blocks are live, their places, an address's index, what a list of moves says, an object's references. -/
import Derived.Test.YtpcajamacpbjcaaGreatZR13R
import Derived.Test.YtpcajamacpbjcaaGreatZKFix
import Derived.Test.YtpcajamacpbjcaaGreatZKMove
import Derived.Test.YtpcajamacpbjcaaGreatZKPlace
set_option maxHeartbeats 16000000
set_option linter.all false
namespace Go.Proofs.YtpcajamacpbjcaaGreat
open Go.RowKit
def blkV (b:Bk):Value:=.agg #[.int .i64 b.at_,.int .i64 b.size,.int .i64 b.kind,.int .i64 b.typ,.bool b.mark,.int .u64 (b.next:Int)]
end Go.Proofs.YtpcajamacpbjcaaGreat
