/- CompactModel: the statement, out of the walk of the law's own function: for every input the call returns true and leaves what it was handed as it was. -/
import Derived.Test.YtpcajamacpbjcaaGreatZGMg
import Derived.Test.YtpcajamacpbjcaaGreatZGI
import Derived.ChangeOld
set_option maxHeartbeats 16000000
set_option maxRecDepth 100000
set_option linter.all false
namespace Go.Proofs.YtpcajamacpbjcaaGreat
open Go.ChangeShapes Go.WideShapes Go.ChangeAt Go.RowKit
open Go.Proofs.Tryz
theorem compactModel_lifted(os:Os)(started:os.Started)(H:Type)(enc:TypeId × Value->H):
 ReturnsInHanded {} checked os 6 .any (Rows.compactModelSpec.pre6 enc prog Tryz.f6 Rows.compactModelRow.domain false) (Rows.compactModelSpec.post enc prog Tryz.f6 false true false false):=by
 refine returnsInHanded_of_change (C:=checked) own started (by kernel_rfl) func6
  (ChangeSpec.witness6 (enc:=enc) (C:=checked) false ⟨#[],#[.slice none 0 0],[]⟩ 8 (by kernel_rfl) (by kernel_rfl) (by kernel_rfl) (by kernel_rfl)) ?_
 intro W k a M gs before b z _ _;have f:∀(j:Nat) t v,Tryz.f6.params[j]? = some t->a[j]? = some v->Value.okWide prog W .any k t v:=b;have w:=z;obtain⟨p,q,g,K,rfl,hfz,hnd⟩:=z;have A:DataW.TrodAll enc prog W 0 (λ_=>true) true Tryz.f6.params.toList a.toList M p:=g;rw[params6] at A f;obtain⟨B,vs0,d0,ds0,L,q0,hargs,rfl,rfl,E,G⟩:=trodAll_cons A;obtain⟨rfl,rfl,rfl⟩:=trodAll_nil G;obtain rfl:a=#[B]:=by cases a;simp_all
 obtain⟨rfl,rfl⟩:=trodVars_none K;obtain⟨y,c,d,rfl⟩:=okWide_slice underlying22 (f 0 22 B rfl rfl);have D:=E;have u:∀x∈L,x.block<W.heap.size:=by obtain⟨m,F⟩:=D;exact DataW.trod_lt m _ _ _ F
 obtain⟨I,rfl,n,o,r,s⟩:∃l:List Nat,l.length=c/\c<=maxLen/\c<=d/\RdW W W.heap.size y l/\∀x∈l,x<18446744073709551616:=by obtain⟨fuel,J⟩:=E;exact vK J
 clear g b;refine (lV W y I d n o r s).mono λe W' ⟨N,i⟩=>?_;subst N;exact⟨_,rfl,_,_,_,[],_,[],w,trodAll_mk1 (shut_bool underlying4 _),(trodAll_cons_mk (Below.trod laidOut (by kernel_rfl) (of_decide_eq_true (by kernel_rfl)) D i u) trodAll_mk0),rfl,i.frame _,λh=>by cases h⟩
theorem compactModel_holds:Rows.CompactModelSaid:=
 OpenClaim.holds_of_wide 6 Tryz.f6 rfl rfl rfl rfl rfl rfl rfl ⟨rfl,rfl,rfl,rfl,rfl⟩ rfl rfl rfl rfl rfl (by kernel_rfl) func6 (by kernel_rfl)
  (of_decide_eq_true (by kernel_rfl)) (by unfold Func.isWrapper;first | (rw[if_pos (by decide +kernel)];kernel_rfl) | (rw[if_neg (by decide +kernel)];exact⟨rfl,rfl⟩))
  (λb a H enc _=>compactModel_lifted b a H enc)
end Go.Proofs.YtpcajamacpbjcaaGreat
