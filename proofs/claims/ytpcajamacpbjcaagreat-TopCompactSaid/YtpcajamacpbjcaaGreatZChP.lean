/- CompactHandles: the plain half. -/
import Derived.Test.YtpcajamacpbjcaaGreatZKCp2
import Derived.Test.YtpcajamacpbjcaaGreatZKLy1
set_option maxHeartbeats 16000000
set_option linter.all false
namespace Go.Proofs.YtpcajamacpbjcaaGreat
open Go.RowKit
def GU (a:List Int) (v:Int):Nat->Int
 | 0 => -1
 | k+1=>if a[k]?.getD 0=v then (k:Int) else GU a v k
structure ChF (w z:List Nat):Prop where
 rw_:aC w=0
 rz:aC z=0
 len:(dm z).length=(dm w).length
 gen:∀i,i<16->(slAt z i).gen=(slAt w i).gen
 used:∀i,i<16->(slAt z i).used=(slAt w i).used
 at_:∀i,i<16->(slAt w i).used=true->∃m:Nat,m<(dm w).length/\∃h2:m<(dm z).length,GU (dm w) (slAt w i).at_ (dm w).length=(m:Int)/\(dm z)[m]=(slAt z i).at_
 wa:jl z=0
 free:∀k (h:k<(iw z).length),(iw z)[k].kind=2->k+1=(iw z).length
theorem wa_hp{z:List Nat}{t:Nat}(L:Lay z t):jl z=0/\iw z=ah z:=by
 obtain⟨d,l,a,h3,c⟩:=aA L.hp;have b:=L.adj;rw[c] at b;have e:jl z=0:=by unfold jl;rw[if_pos d,gK a,b];rfl
 exact⟨e,by unfold iw;rw[if_pos e,a,c];rfl⟩
end Go.Proofs.YtpcajamacpbjcaaGreat
