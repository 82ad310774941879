/- The reference's types, read: what it returns for right types. -/
import Derived.Test.YtpcajamacpbjcaaGreatZKImage
import Derived.Test.YtpcajamacpbjcaaGreatZKHeap
set_option maxHeartbeats 16000000
set_option linter.all false
namespace Go.Proofs.YtpcajamacpbjcaaGreat
open Go.RowKit
theorem rk{a b:Nat}(h:ch a b=true):a%256<=8/\dE (dl a)=true/\gM a=b/\a/256/4 ^ (a%256)=0:=by
 have c:=h;rw[j9] at c;simp only[kqt,kzc,kqw] at c;obtain⟨⟨f,d⟩,h4,i⟩:=c;refine⟨f,d,i,?_⟩;have g:=s6 (dl a) 4 (λk j=>((cU _).1 d k j).2);rw[eY] at g;have h7:a=(a%256)+mz (dl a) 4:=by have:gV (dl a)=(dl a).length+mz (dl a) 4:=rfl;rw[eY] at this;omega
 have h8:(4:Nat) ^ (4+a%256)=256*4 ^ (a%256):=by rw[kj3]
 have e:a<256*4 ^ (a%256):=by omega
 rw[kxd];exact Nat.div_eq_of_lt e
theorem zC(a k:Nat):a/256/4 ^ k%4=a/4 ^ (k+4)%4/\a/256/4 ^ k/4=a/256/4 ^ (k+1):=by
 refine⟨?_,?_⟩
 .rw[kxd,show (4:Nat) ^ (k+4)=256*4 ^ k by rw[kj3,kjd]]
 rw[kxd (a/256),kji]
end Go.Proofs.YtpcajamacpbjcaaGreat
