/- Arguments opened: a slice that came in, as data, reads as a list of elements (entries, blocks, words). -/
import Derived.Test.YtpcajamacpbjcaaGreatZKPlain
import Derived.ProofKit
import Derived.OpenShut
import Derived.Deep.Slices
import Derived.Deep.Fields
set_option maxHeartbeats 16000000
set_option linter.all false
namespace Go.Proofs.YtpcajamacpbjcaaGreat
open Go.ChangeShapes Go.WideShapes Go.RowKit Go.Deep
variable {cap fuel len:Nat}{A:Option Addr}{α:Type}
open Go.Proofs.Tryz
theorem own:ownKnob prog.godebug=none:=by kernel_rfl
theorem laidOut:laidOutB prog=true:=by kernel_rfl
theorem Rd.of_flat{f:α->List Value}{sz:Nat}{w:World}{B b off:Nat}{l:List α}(hf:∀x,(f x).length=sz)(hsz:0<sz)(hb:0<l.length->b<B)(h:∀k (c:k<l.length) j,j<sz->w.cell? ⟨b,off+k*sz+j,none⟩=(f l[k])[j]?):Rd w B (some ⟨b,off,none⟩) (l.flatMap f):=by
 intro m;have o:=bE f sz hf l;have a:0<l.length:=by
  rcases kx6 l.length with g|g
  .rw[kx0 g] at m;simp at m
  exact g
 refine⟨b,off,rfl,hb a,λj d=>?_⟩;rw[o] at d;have c:j/sz<l.length:=(Nat.div_lt_iff_lt_mul hsz).2 d;have n:j%sz<sz:=kz3 _ hsz;have e:j=j/sz*sz+j%sz:=by rw[kjd];exact (kvg j sz).symm
 have i:=h _ c _ n;have p:=ig f sz hf l (j/sz) (j%sz) c n;rw[<-p,kjz,<-e] at i;rw[i];exact kqj (by rw[o];exact d)
section
variable {H:Type} {enc:TypeId × Value->H} {P:Program} {w:World} {base:Nat} {spare:Nat->Bool} {held:Bool}
theorem yV[Inhabited α](cells:α->List Value)(ok:α->Prop)(sz:Nat){t e:TypeId}{x:DataW H × List MemPlace}(hf:∀x,(cells x).length=sz)(hsz:0<sz)(ht:P.underlying t=some (.slice e))(hC:P.cellsOf e=sz)(hdec:∀n cs y,DataW.trod enc P w base spare held n e cs=some y->∃x:α,cs=cells x/\ok x)(h:DataW.trod enc P w base spare held fuel t [.slice A len cap]=some x):
 ∃l:List α,l.length=len/\len<=maxLen/\len<=cap/\Rd w w.heap.size A (l.flatMap cells)/\∀x∈l,ok x:=by
 rcases open_slice ht h with⟨o,_⟩|⟨a,len',cap',m,n,D,Pl,r,_,L,hm,E,_,J⟩
 .simp only[List.cons.injEq,Value.slice.injEq,and_true] at o;obtain⟨rfl,rfl,rfl⟩:=o;exact⟨[],rfl,kqy _,kqy _,Rd.nil_,λ_ h=>by simp at h⟩
 simp only[List.cons.injEq,Value.slice.injEq,and_true] at r;obtain⟨rfl,rfl,rfl⟩:=r;have hlm:len<=m:=by rw[E];split<;>omega
 have s:∀i,i<len->∃y:α,ok y/\∀j,j<sz->w.cell? ((a.add (i*sz)).add j)=(cells y)[j]?:=by intro i I;obtain⟨cs',u,z⟩:=J i (by omega);rw[hC] at u;obtain⟨_,hlen,f⟩:=World.cells?_some u;obtain⟨y,rfl,B⟩:=hdec _ _ _ z;exact⟨y,B,λj G=>f j G⟩
 obtain⟨g,C⟩:=choose_lt s;refine⟨(List.range len).map g,by simp,by omega,L,?_,λy B=>?_⟩
 .rcases kx6 len with o|o
  .subst o;exact Rd.nil_
  obtain⟨b,p,q⟩:=a;have v:=(C 0 o).2 0 hsz;have K:q=none:=by
   have d:0<(cells (g 0)).length:=by rw[hf];exact hsz
   rw[kqj d] at v
   simpa [Addr.add] using World.cell?_spot v
  subst K;have c:∀i j,((⟨b,p,none⟩:Addr).add i).add j=⟨b,p+i+j,none⟩:=λi j=>by
   unfold Addr.add;by_cases u:i=0<;>by_cases z:j=0<;>simp[u,z]
  refine Rd.of_flat hf hsz (λ_=>?_) (λk M j G=>?_)
  .have d:0<(cells (g 0)).length:=by rw[hf];exact hsz
   rw[kqj d,c] at v;exact kx9 w _ v
  have F:k<len:=by simpa using M
  have:=(C k F).2 j G;rw[c] at this;rw[this];simp
 obtain⟨i,I,rfl⟩:=kzi.1 B;exact (C i (kq8.1 I)).1
end
theorem ti{n:Int}(h:(Lit.int .u64 n).wf=true):0<=n/\n<18446744073709551616:=by simp[Lit.wf,IntKind.min,IntKind.max,IntKind.signed,IntKind.bits] at h;omega
section
variable {H:Type} {enc:TypeId × Value->H} {w:World} {base:Nat} {spare:Nat->Bool} {held:Bool}
theorem Ew{n:Nat}{cs:List Value}{y:DataW H × List MemPlace}(h:DataW.trod enc prog w base spare held n 53 cs=some y):
 ∃x:Nat,cs=ai x/\x<18446744073709551616:=by obtain⟨x,b,_,a⟩:=DataW.trod_int underlying53 h;obtain⟨c,h1⟩:=ti a;refine⟨x.toNat,?_,by omega⟩;rw[b,ai,kx2 c]
theorem vK{x:DataW H × List MemPlace}(h:DataW.trod enc prog w base spare held fuel 22 [.slice A len cap]=some x):
 ∃l:List Nat,l.length=len/\len<=maxLen/\len<=cap/\RdW w w.heap.size A l/\∀x∈l,x<18446744073709551616:=
 yV ai (λx=>x<18446744073709551616) 1 aZ (by omega) underlying22 (by kernel_rfl) (λ_ _ _ h=>Ew h) h
end
end Go.Proofs.YtpcajamacpbjcaaGreat
