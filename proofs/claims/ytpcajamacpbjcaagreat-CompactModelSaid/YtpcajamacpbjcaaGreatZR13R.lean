/- The reference's types, read: what it returns for right types. -/
import Derived.Test.YtpcajamacpbjcaaGreatZKImage
import Derived.Test.YtpcajamacpbjcaaGreatZKHeap
set_option maxHeartbeats 16000000
set_option linter.all false
namespace Go.Proofs.YtpcajamacpbjcaaGreat
open Go.RowKit
theorem qE{a b:Nat}(h:bN a b=true):a%256<=8/\dd (cP a)=true/\gc a=b/\a/256/4 ^ (a%256)=0:=by
 have c:=h;rw[jw] at c;simp only[kqz,kzz,kqx] at c;obtain⟨⟨f,d⟩,h4,g⟩:=c;refine⟨f,d,g,?_⟩;have i:=sA (cP a) 4 (λk j=>((cv _).1 d k j).2);rw[ei] at i;have h7:a=(a%256)+mm (cP a) 4:=by have:gx (cP a)=(cP a).length+mm (cP a) 4:=rfl;rw[ei] at this;omega
 have h8:(4:Nat) ^ (4+a%256)=256*4 ^ (a%256):=by rw[kj4]
 have e:a<256*4 ^ (a%256):=by omega
 rw[kxg];exact Nat.div_eq_of_lt e
theorem z7(a k:Nat):a/256/4 ^ k%4=a/4 ^ (k+4)%4/\a/256/4 ^ k/4=a/256/4 ^ (k+1):=by
 refine⟨?_,?_⟩
 .rw[kxg,show (4:Nat) ^ (k+4)=256*4 ^ k by rw[kj4,kjd]]
 rw[kxg (a/256),kji]
end Go.Proofs.YtpcajamacpbjcaaGreat
