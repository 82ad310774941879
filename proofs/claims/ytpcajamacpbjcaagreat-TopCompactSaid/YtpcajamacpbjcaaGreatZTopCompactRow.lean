/- TopCompact: the statement, out of the walk of the law's own function: for every input the call returns true and leaves what it was handed as it was. -/
import Derived.Test.YtpcajamacpbjcaaGreatZTpW
import Derived.Test.YtpcajamacpbjcaaGreatZGI
import Derived.ChangeOld
set_option maxHeartbeats 16000000
set_option maxRecDepth 100000
set_option linter.all false
namespace Go.Proofs.YtpcajamacpbjcaaGreat
open Go.ChangeShapes Go.WideShapes Go.ChangeAt Go.RowKit
open Go.Proofs.Tryz
theorem topCompact_lifted(os:Os)(started:os.Started)(H:Type)(enc:TypeId × Value->H):
 ReturnsInHanded {} checked os 3 .any (Rows.topCompactSpec.pre6 enc prog Tryz.f3 Rows.topCompactRow.domain false) (Rows.topCompactSpec.post enc prog Tryz.f3 false true false false):=by
 refine returnsInHanded_of_change (C:=checked) own started (by kernel_rfl) func3
  (ChangeSpec.witness6 (enc:=enc) (C:=checked) false ⟨#[],#[.slice none 0 0,.int .i64 0],[]⟩ 8 (by kernel_rfl) (by kernel_rfl) (by kernel_rfl) (by kernel_rfl)) ?_
 intro W g a G gs before c D _ _;have b:∀(j:Nat) t v,Tryz.f3.params[j]? = some t->a[j]? = some v->Value.okWide prog W .any g t v:=c;have w:=D;obtain⟨p,q,i,N,rfl,hfz,hnd⟩:=D;have A:DataW.TrodAll enc prog W 0 (λ_=>true) true Tryz.f3.params.toList a.toList G p:=i;rw[params3] at A b;obtain⟨B,vs0,d0,ds0,P,q0,hargs,rfl,rfl,F,K⟩:=trodAll_cons A;obtain⟨v1,vs1,d1,ds1,p1,q1,rfl,rfl,rfl,L,O⟩:=trodAll_cons K;obtain⟨rfl,rfl,rfl⟩:=trodAll_nil O;obtain rfl:a=#[B,v1]:=by cases a;simp_all
 obtain⟨rfl,rfl⟩:=trodVars_none N;obtain⟨E,d,f,rfl⟩:=okWide_slice underlying22 (b 0 22 B rfl rfl);have y:=F;have o:∀x∈P,x.block<W.heap.size:=by obtain⟨m,R⟩:=y;exact DataW.trod_lt m _ _ _ R
 obtain⟨I,rfl,u,n,s,r⟩:∃l:List Nat,l.length=d/\d<=maxLen/\d<=f/\RdW W W.heap.size E l/\∀x∈l,x<18446744073709551616:=by obtain⟨fuel,Q⟩:=F;exact yL Q
 obtain⟨M,rfl,rfl,rfl,z⟩:=open_int underlying3 (b 1 3 v1 rfl rfl) L;clear i c;refine (pd W E I f u n s r M (CG z)).mono λe W' ⟨J,k⟩=>?_;subst J;exact⟨_,rfl,_,_,_,[],_,[],w,trodAll_mk1 (shut_bool underlying4 _),(trodAll_cons_mk (Below.trod laidOut (by kernel_rfl) (of_decide_eq_true (by kernel_rfl)) y k o) (trodAll_cons_mk (shut_int underlying3 z) trodAll_mk0)),rfl,k.frame _,λh=>by cases h⟩
theorem topCompact_holds:Rows.TopCompactSaid:=
 OpenClaim.holds_of_wide 3 Tryz.f3 rfl rfl rfl rfl rfl rfl rfl ⟨rfl,rfl,rfl,rfl,rfl⟩ rfl rfl rfl rfl rfl (by kernel_rfl) func3 (by kernel_rfl)
  (of_decide_eq_true (by kernel_rfl)) (by unfold Func.isWrapper;first | (rw[if_pos (by decide +kernel)];kernel_rfl) | (rw[if_neg (by decide +kernel)];exact⟨rfl,rfl⟩))
  (λb a H enc _=>topCompact_lifted b a H enc)
end Go.Proofs.YtpcajamacpbjcaaGreat
