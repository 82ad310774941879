/- The reference's types, read: what it returns for right types. -/
import Derived.Test.YtpcajamacpbjcaaGreatZKImage
import Derived.Test.YtpcajamacpbjcaaGreatZKHeap
set_option maxHeartbeats 16000000
set_option linter.all false
namespace Go.Proofs.YtpcajamacpbjcaaGreat
open Go.RowKit
theorem rh{a b:Nat}(h:cr a b=true):a%256<=8/\dN (dB a)=true/\ig a=b/\a/256/4 ^ (a%256)=0:=by
 have c:=h;rw[ko] at c;simp only[kqt,kzc,kqw] at c;obtain⟨⟨f,d⟩,h4,g⟩:=c;refine⟨f,d,g,?_⟩;have i:=tX (dB a) 4 (λk e=>((cQ _).1 d k e).2);rw[eZ] at i;have h7:a=(a%256)+mV (dB a) 4:=by have:iL (dB a)=(dB a).length+mV (dB a) 4:=rfl;rw[eZ] at this;omega
 have h8:(4:Nat) ^ (4+a%256)=256*4 ^ (a%256):=by rw[kj3]
 have j:a<256*4 ^ (a%256):=by omega
 rw[kxe];exact Nat.div_eq_of_lt j
theorem Ac(a k:Nat):a/256/4 ^ k%4=a/4 ^ (k+4)%4/\a/256/4 ^ k/4=a/256/4 ^ (k+1):=by
 refine⟨?_,?_⟩
 .rw[kxe,show (4:Nat) ^ (k+4)=256*4 ^ k by rw[kj3,kjd]]
 rw[kxe (a/256),kjm]
end Go.Proofs.YtpcajamacpbjcaaGreat
