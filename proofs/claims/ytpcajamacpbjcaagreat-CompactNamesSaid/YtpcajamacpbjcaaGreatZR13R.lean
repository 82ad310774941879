/- The reference's types, read: what it returns for right types. -/
import Derived.Test.YtpcajamacpbjcaaGreatZKImage
import Derived.Test.YtpcajamacpbjcaaGreatZKHeap
set_option maxHeartbeats 16000000
set_option linter.all false
namespace Go.Proofs.YtpcajamacpbjcaaGreat
open Go.RowKit
theorem Ba{a b:Nat}(h:cw a b=true):a%256<=8/\eV (fc a)=true/\iX a=b/\a/256/4 ^ (a%256)=0:=by
 have c:=h;rw[j8] at c;simp only[kqo,kzc,kqw] at c;obtain⟨⟨f,d⟩,h4,g⟩:=c;refine⟨f,d,g,?_⟩;have j:=sj (fc a) 4 (λk e=>((cQ _).1 d k e).2);rw[fP] at j;have h7:a=(a%256)+qZ (fc a) 4:=by have:iN (fc a)=(fc a).length+qZ (fc a) 4:=rfl;rw[fP] at this;omega
 have h8:(4:Nat) ^ (4+a%256)=256*4 ^ (a%256):=by rw[kkf]
 have i:a<256*4 ^ (a%256):=by omega
 rw[kjn];exact Nat.div_eq_of_lt i
end Go.Proofs.YtpcajamacpbjcaaGreat
