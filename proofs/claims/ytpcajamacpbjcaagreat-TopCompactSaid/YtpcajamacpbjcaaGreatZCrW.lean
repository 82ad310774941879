/- CompactCrash: the walk. -/
import Derived.Test.YtpcajamacpbjcaaGreatZGE
import Derived.Test.YtpcajamacpbjcaaGreatZGG
import Derived.Test.YtpcajamacpbjcaaGreatZKCo
import Derived.Test.YtpcajamacpbjcaaGreatZSameW
import Derived.Test.YtpcajamacpbjcaaGreatZKR19
set_option maxHeartbeats 16000000
set_option linter.all false
namespace Go.Proofs.YtpcajamacpbjcaaGreat
open Go.RowKit
theorem tF{a b:List Nat}{k n:Nat}(ha:a.length=n)(hb:b.length=n)(h:∀j,k<=j->wd a j=wd b j):a.drop k=b.drop k:=by
 apply kx8;intro i;rw[kxr,kxr];have:=h (k+i) (by omega);unfold wd at this;by_cases hi:k+i<n
 .rw[kql (by omega),kql (by omega)] at this |-;exact congrArg some this
 rw[kzc (by omega),kzc (by omega)]
end Go.Proofs.YtpcajamacpbjcaaGreat
