/- Clean devices: images behind changes, and how many operations they take. Plain. -/
import Derived.Test.YtpcajamacpbjcaaGreatZGD
import Derived.Test.YtpcajamacpbjcaaGreatZKEff
set_option maxHeartbeats 16000000
set_option linter.all false
namespace Go.Proofs.YtpcajamacpbjcaaGreat
open Go.RowKit
structure Ran (k:Nat) (d x:Dv):Prop where
 free:d.left = -1->x.left = -1/\x.down=d.down
 few:0<=d.left->(k:Int)<=d.left->x.left=d.left-k/\x.down=d.down
 many:0<=d.left->d.left<k->x.left=0/\x.down=true
structure Cln (d:Dv):Prop where
 ok:fX d=true
 dw:d.dw=[]
theorem F2:∀(l:List Nat) (a:Int),(lsE a l).length=l.length:=by
 intro l
 induction l with
 | nil=>intro a;rfl
 | cons v l ih=>intro a;simp only[lsE,kq1,ih]
end Go.Proofs.YtpcajamacpbjcaaGreat
