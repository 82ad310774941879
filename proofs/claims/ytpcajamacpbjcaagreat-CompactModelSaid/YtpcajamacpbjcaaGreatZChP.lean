/- CompactHandles: the plain half. -/
import Derived.Test.YtpcajamacpbjcaaGreatZKCp2
import Derived.Test.YtpcajamacpbjcaaGreatZKLy1
set_option maxHeartbeats 16000000
set_option linter.all false
namespace Go.Proofs.YtpcajamacpbjcaaGreat
open Go.RowKit
def ES (a:List Int) (v:Int):Nat->Int
 | 0 => -1
 | k+1=>if a[k]?.getD 0=v then (k:Int) else ES a v k
structure ChF (w z:List Nat):Prop where
 rw_:ax w=0
 rz:ax z=0
 len:(aR z).length=(aR w).length
 gen:∀i,i<16->(slAt z i).gen=(slAt w i).gen
 used:∀i,i<16->(slAt z i).used=(slAt w i).used
 at_:∀i,i<16->(slAt w i).used=true->∃m:Nat,m<(aR w).length/\∃h2:m<(aR z).length,ES (aR w) (slAt w i).at_ (aR w).length=(m:Int)/\(aR z)[m]=(slAt z i).at_
 wa:ib z=0
 free:∀k (h:k<(gJ z).length),(gJ z)[k].kind=2->k+1=(gJ z).length
theorem CZ{z:List Nat}{t:Nat}(L:Lay z t):ib z=0/\gJ z=aa z:=by
 obtain⟨d,l,c,h3,a⟩:=ao L.hp;have b:=L.adj;rw[a] at b;have e:ib z=0:=by unfold ib;rw[if_pos d,fF c,b];rfl
 exact⟨e,by unfold gJ;rw[if_pos e,c,a];rfl⟩
end Go.Proofs.YtpcajamacpbjcaaGreat
