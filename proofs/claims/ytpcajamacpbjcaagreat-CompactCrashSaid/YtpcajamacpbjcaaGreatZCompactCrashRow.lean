/- CompactCrash: the statement, out of the walk of the law's own function: for every input the call returns true and leaves what it was handed as it was. -/
import Derived.Test.YtpcajamacpbjcaaGreatZCrW
import Derived.Test.YtpcajamacpbjcaaGreatZGI
import Derived.ChangeOld
set_option maxHeartbeats 16000000
set_option maxRecDepth 100000
set_option linter.all false
namespace Go.Proofs.YtpcajamacpbjcaaGreat
open Go.ChangeShapes Go.WideShapes Go.ChangeAt Go.RowKit
open Go.Proofs.Tryz
theorem compactCrash_lifted(os:Os)(started:os.Started)(H:Type)(enc:TypeId × Value->H):
 ReturnsInHanded {} checked os 8 .any (Rows.compactCrashSpec.pre6 enc prog Tryz.f8 Rows.compactCrashRow.domain false) (Rows.compactCrashSpec.post enc prog Tryz.f8 false true false false):=by
 refine returnsInHanded_of_change (C:=checked) own started (by kernel_rfl) func8
  (ChangeSpec.witness6 (enc:=enc) (C:=checked) false ⟨#[],#[.slice none 0 0,.int .i64 0],[]⟩ 8 (by kernel_rfl) (by kernel_rfl) (by kernel_rfl) (by kernel_rfl)) ?_
 intro W g a O gs before b D _ _;have c:∀(j:Nat) t v,Tryz.f8.params[j]? = some t->a[j]? = some v->Value.okWide prog W .any g t v:=b;have o:=D;obtain⟨p,q,i,P,rfl,hfz,hnd⟩:=D;have A:DataW.TrodAll enc prog W 0 (λ_=>true) true Tryz.f8.params.toList a.toList O p:=i;rw[params8] at A c;obtain⟨B,vs0,d0,ds0,M,q0,hargs,rfl,rfl,z,G⟩:=trodAll_cons A;obtain⟨v1,vs1,d1,ds1,p1,q1,rfl,rfl,rfl,J,L⟩:=trodAll_cons G;obtain⟨rfl,rfl,rfl⟩:=trodAll_nil L;obtain rfl:a=#[B,v1]:=by cases a;simp_all
 obtain⟨rfl,rfl⟩:=trodVars_none P;obtain⟨y,d,f,rfl⟩:=okWide_slice underlying22 (c 0 22 B rfl rfl);have F:=z;have w:∀x∈M,x.block<W.heap.size:=by obtain⟨m,I⟩:=F;exact DataW.trod_lt m _ _ _ I
 obtain⟨N,rfl,n,u,r,s⟩:∃l:List Nat,l.length=d/\d<=maxLen/\d<=f/\RdW W W.heap.size y l/\∀x∈l,x<18446744073709551616:=by obtain⟨fuel,R⟩:=z;exact vq R
 obtain⟨K,rfl,rfl,rfl,E⟩:=open_int underlying3 (c 1 3 v1 rfl rfl) J;clear i b;refine (me W y N f n u r s K (z8 E)).mono λe W' ⟨Q,k⟩=>?_;subst Q;exact⟨_,rfl,_,_,_,[],_,[],o,trodAll_mk1 (shut_bool underlying4 _),(trodAll_cons_mk (Below.trod laidOut (by kernel_rfl) (of_decide_eq_true (by kernel_rfl)) F k w) (trodAll_cons_mk (shut_int underlying3 E) trodAll_mk0)),rfl,k.frame _,λh=>by cases h⟩
theorem compactCrash_holds:Rows.CompactCrashSaid:=
 OpenClaim.holds_of_wide 8 Tryz.f8 rfl rfl rfl rfl rfl rfl rfl ⟨rfl,rfl,rfl,rfl,rfl⟩ rfl rfl rfl rfl rfl (by kernel_rfl) func8 (by kernel_rfl)
  (of_decide_eq_true (by kernel_rfl)) (by unfold Func.isWrapper;first | (rw[if_pos (by decide +kernel)];kernel_rfl) | (rw[if_neg (by decide +kernel)];exact⟨rfl,rfl⟩))
  (λb a H enc _=>compactCrash_lifted b a H enc)
end Go.Proofs.YtpcajamacpbjcaaGreat
