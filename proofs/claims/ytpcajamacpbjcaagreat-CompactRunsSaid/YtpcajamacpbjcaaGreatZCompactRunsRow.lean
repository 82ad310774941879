/- CompactRuns: the statement, out of the walk of the law's own function: for every input the call returns true and leaves what it was handed as it was. -/
import Derived.Test.YtpcajamacpbjcaaGreatZGRc
import Derived.Test.YtpcajamacpbjcaaGreatZGRe
set_option maxHeartbeats 16000000
set_option maxRecDepth 100000
set_option linter.all false
namespace Go.Proofs.YtpcajamacpbjcaaGreat
open Go.ChangeShapes Go.WideShapes Go.ChangeAt Go.RowKit
open Go.Proofs.Tryz
theorem compactRuns_lifted(I:Os)(d:I.Started)(H:Type)(enc:TypeId × Value->H):
 ReturnsInHanded {} checked I 7 .any (Rows.compactRunsSpec.pre6 enc prog Tryz.f7 Rows.compactRunsRow.domain false) (Rows.compactRunsSpec.post enc prog Tryz.f7 false true false false):=by
 refine returnsInHanded_of_change (C:=checked) own d (by kernel_rfl) func7
  (ChangeSpec.witness6 (enc:=enc) (C:=checked) false ⟨#[],#[.agg #[.slice none 0 0,.slice none 0 0,.int .i64 0,.bool false]],[]⟩ 8 (by kernel_rfl) (by kernel_rfl) (by kernel_rfl) (by kernel_rfl)) ?_
 intro W s a N gs before b F _ _;have f:∀(j:Nat) t v,Tryz.f7.params[j]? = some t->a[j]? = some v->Value.okWide prog W .any s t v:=b;have y:=F;obtain⟨p,q,e,P,rfl,hfz,hnd⟩:=F;have E:DataW.TrodAll enc prog W 0 (λ_=>true) true Tryz.f7.params.toList a.toList N p:=e;rw[params7] at E f;obtain⟨J,vs0,d0,ds0,X,q0,hargs,rfl,rfl,D,Y⟩:=trodAll_cons E;obtain⟨rfl,rfl,rfl⟩:=trodAll_nil Y;obtain rfl:a=#[J]:=by cases a;simp_all
 obtain⟨rfl,rfl⟩:=trodVars_none P;obtain⟨u,rfl,hcs⟩:=okWide_struct underlying79 (f 0 79 J rfl rfl);have G:=D;have B:∀x∈X,x.block<W.heap.size:=by obtain⟨m,R⟩:=G;exact DataW.trod_lt m _ _ _ R
 obtain⟨A,n,c,g,m,r,l,k,o,i,w,S,T,U,V,K,L,M,z⟩:∃(A:Option Addr) (n c:Nat) (g:Option Addr) (m r:Nat) (l:List Nat) (k:List Dw) (o:Int) (i:Bool),u=#[.slice A n c,.slice g m r,.int .i64 o,.bool i]/\l.length=n/\n<=maxLen/\n<=c/\RdW W W.heap.size A l/\k.length=m/\m<=maxLen/\RdQ W W.heap.size g k/\DvLt ⟨l,k,o,i⟩:=by obtain⟨fuel,Q⟩:=D;obtain⟨A,n,c,g,m,r,l,k,o,i,w,h⟩:=tZ Q;refine⟨A,n,c,g,m,r,l,k,o,i,?_,h⟩;have O:u.toList=[.slice A n c,.slice g m r,.int .i64 o,.bool i]:=w;rw[<-Array.toArray_toList (xs:=u),O]
 subst w;clear e b;refine (ms A g l k o i n c m r W S K (by unfold maxLen at T;omega) (by unfold maxLen at L;omega) U z V M).mono λe W' ⟨e,b⟩=>?_;subst e;exact⟨_,rfl,_,_,_,[],_,[],y,trodAll_mk1 (shut_bool underlying4 _),(trodAll_cons_mk (Below.trod laidOut (by kernel_rfl) (of_decide_eq_true (by kernel_rfl)) G b B) trodAll_mk0),rfl,b.frame _,λh=>by cases h⟩
theorem compactRuns_holds:Rows.CompactRunsSaid:=
 OpenClaim.holds_of_wide 7 Tryz.f7 rfl rfl rfl rfl rfl rfl rfl ⟨rfl,rfl,rfl,rfl,rfl⟩ rfl rfl rfl rfl rfl (by kernel_rfl) func7 tg
  (of_decide_eq_true (by kernel_rfl)) (by unfold Func.isWrapper;first | (rw[if_pos (by decide +kernel)];kernel_rfl) | (rw[if_neg (by decide +kernel)];exact⟨rfl,rfl⟩))
  (λc a H b _=>compactRuns_lifted c a H b)
end Go.Proofs.YtpcajamacpbjcaaGreat
