/- Going on is linear in the heap: what the changes that are left take at most. Plain. -/
import Derived.Test.YtpcajamacpbjcaaGreatZKRs
import Derived.Test.YtpcajamacpbjcaaGreatZKEff
set_option maxHeartbeats 16000000
set_option linter.all false
namespace Go.Proofs.YtpcajamacpbjcaaGreat
open Go.RowKit
def cst (E:List En):Nat:=3*E.length+2
theorem BR{ad:List Int}(h1:ad.Pairwise (· < ·))(h2:∀a∈ad,0<=a/\a<2048):∀k,k<=ad.length->iq ad k=true:=by
 have b:∀k,k<ad.length->∀i,i<=k->cc ad (ad[k]?.getD 0) i=false:=by
  intro k c i
  induction i with
  | zero=>intro _;rfl
  | succ i ih =>intro hi;have hp:=kzj.1 h1 i k (by omega) c (by omega);simp only[cc,ih (by omega),kvk,kqi];rw[kql (by omega),kql c,kq5,kq5];omega
 intro k
 induction k with
 | zero=>intro _;rfl
 | succ k ih =>
  intro c;have d:=h2 _ (kqn (show k<ad.length by omega));refine mx (ih (by omega)) ?_ ?_ (b k (by omega) k (kqa _))
  .rw[kql (by omega),kq5];exact d.1
  rw[kql (by omega),kq5];exact d.2
theorem Dh{n:Nat}{E:List En}(h:Small n E)(hn:n<=2048):f8 (av E)=0/\ofS (av E)<=(cst E:Nat)/\ofF (av E)<=(cst E:Nat)/\ofN (av E)<=(cst E:Nat):=by
 have b:=aU E;have c:f8 (av E)=0:=by
  refine vV (by rw[b];exact h.le) (BR ?_ (λa d=>?_) _ (kqa _))
  .unfold av;rw[kjy];exact h.inc
  obtain⟨e,f,rfl⟩:=kzx.1 d;have:=h.ins e f;omega
 have hp:=h.pos;have hnl:=li (av E) E.length;refine⟨c,?_,?_,?_⟩
 .unfold ofS gV cst;rw[if_pos c,b];split<;>omega
 .unfold ofF fo cst;rw[if_pos c,b];split<;>omega
 unfold ofN gG cst;rw[if_pos c,b];split<;>omega
end Go.Proofs.YtpcajamacpbjcaaGreat
