/- CompactViews: the statement, out of the walk of the law's own function: for every input the call returns true and leaves what it was handed as it was. -/
import Derived.Test.YtpcajamacpbjcaaGreatZGVf
import Derived.Test.YtpcajamacpbjcaaGreatZGI
import Derived.ChangeOld
set_option maxHeartbeats 16000000
set_option maxRecDepth 100000
set_option linter.all false
namespace Go.Proofs.YtpcajamacpbjcaaGreat
open Go.ChangeShapes Go.WideShapes Go.ChangeAt Go.RowKit
open Go.Proofs.Tryz
theorem compactViews_lifted(os:Os)(started:os.Started)(H:Type)(enc:TypeId × Value->H):
 ReturnsInHanded {} checked os 5 .any (Rows.compactViewsSpec.pre6 enc prog Tryz.f5 Rows.compactViewsRow.domain false) (Rows.compactViewsSpec.post enc prog Tryz.f5 false true false false):=by
 refine returnsInHanded_of_change (C:=checked) own started (by kernel_rfl) func5
  (ChangeSpec.witness6 (enc:=enc) (C:=checked) false ⟨#[],#[.slice none 0 0],[]⟩ 8 (by kernel_rfl) (by kernel_rfl) (by kernel_rfl) (by kernel_rfl)) ?_
 intro W k a J gs before c z _ _;have f:∀(j:Nat) t v,Tryz.f5.params[j]? = some t->a[j]? = some v->Value.okWide prog W .any k t v:=c;have u:=z;obtain⟨p,q,g,K,rfl,hfz,hnd⟩:=z;have y:DataW.TrodAll enc prog W 0 (λ_=>true) true Tryz.f5.params.toList a.toList J p:=g;rw[params5] at y f;obtain⟨E,vs0,d0,ds0,N,q0,hargs,rfl,rfl,D,G⟩:=trodAll_cons y;obtain⟨rfl,rfl,rfl⟩:=trodAll_nil G;obtain rfl:a=#[E]:=by cases a;simp_all
 obtain⟨rfl,rfl⟩:=trodVars_none K;obtain⟨B,b,d,rfl⟩:=okWide_slice underlying22 (f 0 22 E rfl rfl);have A:=D;have n:∀x∈N,x.block<W.heap.size:=by obtain⟨m,M⟩:=A;exact DataW.trod_lt m _ _ _ M
 obtain⟨I,rfl,o,s,r,w⟩:∃l:List Nat,l.length=b/\b<=maxLen/\b<=d/\RdW W W.heap.size B l/\∀x∈l,x<18446744073709551616:=by obtain⟨fuel,F⟩:=D;exact vN F
 clear g c;refine (lJ W B I d o s r w).mono λe W' ⟨L,i⟩=>?_;subst L;exact⟨_,rfl,_,_,_,[],_,[],u,trodAll_mk1 (shut_bool underlying4 _),(trodAll_cons_mk (Below.trod laidOut (by kernel_rfl) (of_decide_eq_true (by kernel_rfl)) A i n) trodAll_mk0),rfl,i.frame _,λh=>by cases h⟩
theorem compactViews_holds:Rows.CompactViewsSaid:=
 OpenClaim.holds_of_wide 5 Tryz.f5 rfl rfl rfl rfl rfl rfl rfl ⟨rfl,rfl,rfl,rfl,rfl⟩ rfl rfl rfl rfl rfl (by kernel_rfl) func5 (by kernel_rfl)
  (of_decide_eq_true (by kernel_rfl)) (by unfold Func.isWrapper;first | (rw[if_pos (by decide +kernel)];kernel_rfl) | (rw[if_neg (by decide +kernel)];exact⟨rfl,rfl⟩))
  (λb a H enc _=>compactViews_lifted b a H enc)
end Go.Proofs.YtpcajamacpbjcaaGreat
