/- CompactNames: the statement, out of the walk of the law's own function: for every input the call returns true and leaves what it was handed as it was. -/
import Derived.Test.YtpcajamacpbjcaaGreatZCnW
import Derived.Test.YtpcajamacpbjcaaGreatZGI
import Derived.ChangeOld
set_option maxHeartbeats 16000000
set_option maxRecDepth 100000
set_option linter.all false
namespace Go.Proofs.YtpcajamacpbjcaaGreat
open Go.ChangeShapes Go.WideShapes Go.ChangeAt Go.RowKit
open Go.Proofs.Tryz
theorem compactNames_lifted(os:Os)(started:os.Started)(H:Type)(enc:TypeId × Value->H):
 ReturnsInHanded {} checked os 9 .any (Rows.compactNamesSpec.pre6 enc prog Tryz.f9 Rows.compactNamesRow.domain false) (Rows.compactNamesSpec.post enc prog Tryz.f9 false true false false):=by
 refine returnsInHanded_of_change (C:=checked) own started (by kernel_rfl) func9
  (ChangeSpec.witness6 (enc:=enc) (C:=checked) false ⟨#[],#[],[]⟩ 8 (by kernel_rfl) (by kernel_rfl) (by kernel_rfl) (by kernel_rfl)) ?_
 intro W f a o gs before b l _ _;have d:∀(j:Nat) t v,Tryz.f9.params[j]? = some t->a[j]? = some v->Value.okWide prog W .any f t v:=b;have g:=l;obtain⟨p,q,c,m,rfl,hfz,hnd⟩:=l;have k:DataW.TrodAll enc prog W 0 (λ_=>true) true Tryz.f9.params.toList a.toList o p:=c;rw[params9] at k d;obtain⟨hargs,rfl,rfl⟩:=trodAll_nil k;obtain rfl:a=#[]:=by cases a;simp_all
 obtain⟨rfl,rfl⟩:=trodVars_none m;clear c b;refine (lk W ).mono λe W' ⟨n,i⟩=>?_;subst n;exact⟨_,rfl,_,_,_,[],_,[],g,trodAll_mk1 (shut_bool underlying4 _),trodAll_mk0,rfl,i.frame _,λh=>by cases h⟩
theorem compactNames_holds:Rows.CompactNamesSaid:=
 OpenClaim.holds_of_wide 9 Tryz.f9 rfl rfl rfl rfl rfl rfl rfl ⟨rfl,rfl,rfl,rfl,rfl⟩ rfl rfl rfl rfl rfl (by kernel_rfl) func9 (by kernel_rfl)
  (of_decide_eq_true (by kernel_rfl)) (by unfold Func.isWrapper;first | (rw[if_pos (by decide +kernel)];kernel_rfl) | (rw[if_neg (by decide +kernel)];exact⟨rfl,rfl⟩))
  (λb a H enc _=>compactNames_lifted b a H enc)
end Go.Proofs.YtpcajamacpbjcaaGreat
