/- CompactDevice: the statement, out of the walk of the law's own function: for every input the call returns true and leaves what it was handed as it was. -/
import Derived.Test.YtpcajamacpbjcaaGreatZDeW
import Derived.Test.YtpcajamacpbjcaaGreatZGI
import Derived.ChangeOld
set_option maxHeartbeats 16000000
set_option maxRecDepth 100000
set_option linter.all false
namespace Go.Proofs.YtpcajamacpbjcaaGreat
open Go.ChangeShapes Go.WideShapes Go.ChangeAt Go.RowKit
open Go.Proofs.Tryz
theorem compactDevice_lifted(os:Os)(started:os.Started)(H:Type)(enc:TypeId × Value->H):
 ReturnsInHanded {} checked os 10 .any (Rows.compactDeviceSpec.pre6 enc prog Tryz.f10 Rows.compactDeviceRow.domain false) (Rows.compactDeviceSpec.post enc prog Tryz.f10 false true false false):=by
 refine returnsInHanded_of_change (C:=checked) own started (by kernel_rfl) func10
  (ChangeSpec.witness6 (enc:=enc) (C:=checked) false ⟨#[],#[.slice none 0 0],[]⟩ 8 (by kernel_rfl) (by kernel_rfl) (by kernel_rfl) (by kernel_rfl)) ?_
 intro W i a N gs before b A _ _;have f:∀(j:Nat) t v,Tryz.f10.params[j]? = some t->a[j]? = some v->Value.okWide prog W .any i t v:=b;have u:=A;obtain⟨p,q,k,I,rfl,hfz,hnd⟩:=A;have y:DataW.TrodAll enc prog W 0 (λ_=>true) true Tryz.f10.params.toList a.toList N p:=k;rw[params10] at y f;obtain⟨z,vs0,d0,ds0,K,q0,hargs,rfl,rfl,B,J⟩:=trodAll_cons y;obtain⟨rfl,rfl,rfl⟩:=trodAll_nil J;obtain rfl:a=#[z]:=by cases a;simp_all
 obtain⟨rfl,rfl⟩:=trodVars_none I;obtain⟨D,c,d,rfl⟩:=okWide_slice underlying22 (f 0 22 z rfl rfl);have E:=B;have n:∀x∈K,x.block<W.heap.size:=by obtain⟨m,G⟩:=E;exact DataW.trod_lt m _ _ _ G
 obtain⟨M,rfl,s,r,o,w⟩:∃l:List Nat,l.length=c/\c<=maxLen/\c<=d/\RdW W W.heap.size D l/\∀x∈l,x<18446744073709551616:=by obtain⟨fuel,F⟩:=B;exact yq F
 clear k b;refine (lP W D M d s r o w).mono λe W' ⟨L,g⟩=>?_;subst L;exact⟨_,rfl,_,_,_,[],_,[],u,trodAll_mk1 (shut_bool underlying4 _),(trodAll_cons_mk (Below.trod laidOut (by kernel_rfl) (of_decide_eq_true (by kernel_rfl)) E g n) trodAll_mk0),rfl,g.frame _,λh=>by cases h⟩
theorem compactDevice_holds:Rows.CompactDeviceSaid:=
 OpenClaim.holds_of_wide 10 Tryz.f10 rfl rfl rfl rfl rfl rfl rfl ⟨rfl,rfl,rfl,rfl,rfl⟩ rfl rfl rfl rfl rfl (by kernel_rfl) func10 (by kernel_rfl)
  (of_decide_eq_true (by kernel_rfl)) (by unfold Func.isWrapper;first | (rw[if_pos (by decide +kernel)];kernel_rfl) | (rw[if_neg (by decide +kernel)];exact⟨rfl,rfl⟩))
  (λb a H enc _=>compactDevice_lifted b a H enc)
end Go.Proofs.YtpcajamacpbjcaaGreat
