/- The reference's types, read: what it returns for right types. -/
import Derived.Test.YtpcajamacpbjcaaGreatZKImage
import Derived.Test.YtpcajamacpbjcaaGreatZKHeap
set_option maxHeartbeats 16000000
set_option linter.all false
namespace Go.Proofs.YtpcajamacpbjcaaGreat
open Go.RowKit
theorem rK{a b:Nat}(h:cD a b=true):a%256<=8/\eD (dJ a)=true/\iz a=b/\a/256/4 ^ (a%256)=0:=by
 have c:=h;rw[kF] at c;simp only[kqu,kzd,kqx] at c;obtain⟨⟨e,d⟩,h4,f⟩:=c;refine⟨e,d,f,?_⟩;have g:=uB (dJ a) 4 (λk i=>((cZ _).1 d k i).2);rw[fk] at g;have h7:a=(a%256)+nc (dJ a) 4:=by have:iG (dJ a)=(dJ a).length+nc (dJ a) 4:=rfl;rw[fk] at this;omega
 have h8:(4:Nat) ^ (4+a%256)=256*4 ^ (a%256):=by rw[kka]
 have j:a<256*4 ^ (a%256):=by omega
 rw[kxe];exact Nat.div_eq_of_lt j
theorem DE(a k:Nat):a/256/4 ^ k%4=a/4 ^ (k+4)%4/\a/256/4 ^ k/4=a/256/4 ^ (k+1):=by
 refine⟨?_,?_⟩
 .rw[kxe,show (4:Nat) ^ (k+4)=256*4 ^ k by rw[kka,kje]]
 rw[kxe (a/256),kjm]
end Go.Proofs.YtpcajamacpbjcaaGreat
