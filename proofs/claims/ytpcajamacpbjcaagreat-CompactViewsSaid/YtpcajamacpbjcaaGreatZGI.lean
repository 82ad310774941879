/- Arguments opened: a slice that came in, as data, reads as a list of elements (entries, blocks, words). -/
import Derived.Test.YtpcajamacpbjcaaGreatZKPlain
import Derived.ProofKit
import Derived.OpenShut
import Derived.Deep.Slices
import Derived.Deep.Fields
set_option maxHeartbeats 16000000
set_option linter.all false
namespace Go.Proofs.YtpcajamacpbjcaaGreat
open Go.ChangeShapes Go.WideShapes Go.RowKit Go.Deep
variable {cap fuel len:Nat}{A:Option Addr}{α:Type}
open Go.Proofs.Tryz
theorem own:ownKnob prog.godebug=none:=by kernel_rfl
theorem laidOut:laidOutB prog=true:=by kernel_rfl
theorem Rd.of_flat{f:α->List Value}{sz:Nat}{w:World}{B b off:Nat}{l:List α}(hf:∀x,(f x).length=sz)(hsz:0<sz)(hb:0<l.length->b<B)(h:∀k (d:k<l.length) j,j<sz->w.cell? ⟨b,off+k*sz+j,none⟩=(f l[k])[j]?):Rd w B (some ⟨b,off,none⟩) (l.flatMap f):=by
 intro n;have m:=bY f sz hf l;have a:0<l.length:=by
  rcases kxy l.length with g|g
  .rw[kxa g] at n;simp at n
  exact g
 refine⟨b,off,rfl,hb a,λj c=>?_⟩;rw[m] at c;have d:j/sz<l.length:=(Nat.div_lt_iff_lt_mul hsz).2 c;have i:j%sz<sz:=kz1 _ hsz;have e:j=j/sz*sz+j%sz:=by rw[kjm];exact (kk7 j sz).symm
 have o:=h _ d _ i;have p:=iq f sz hf l (j/sz) (j%sz) d i;rw[<-p,kj3,<-e] at o;rw[o];exact kqm (by rw[m];exact c)
section
variable {H:Type} {enc:TypeId × Value->H} {P:Program} {w:World} {base:Nat} {spare:Nat->Bool} {held:Bool}
theorem zl[Inhabited α](cells:α->List Value)(ok:α->Prop)(sz:Nat){t e:TypeId}{x:DataW H × List MemPlace}(hf:∀x,(cells x).length=sz)(hsz:0<sz)(ht:P.underlying t=some (.slice e))(hC:P.cellsOf e=sz)(hdec:∀n cs y,DataW.trod enc P w base spare held n e cs=some y->∃x:α,cs=cells x/\ok x)(h:DataW.trod enc P w base spare held fuel t [.slice A len cap]=some x):
 ∃l:List α,l.length=len/\len<=maxLen/\len<=cap/\Rd w w.heap.size A (l.flatMap cells)/\∀x∈l,ok x:=by
 rcases open_slice ht h with⟨o,_⟩|⟨a,len',cap',m,n,D,Pl,r,_,M,hm,z,_,J⟩
 .simp only[List.cons.injEq,Value.slice.injEq,and_true] at o;obtain⟨rfl,rfl,rfl⟩:=o;exact⟨[],rfl,kqx _,kqx _,Rd.nil_,λ_ h=>by simp at h⟩
 simp only[List.cons.injEq,Value.slice.injEq,and_true] at r;obtain⟨rfl,rfl,rfl⟩:=r;have hlm:len<=m:=by rw[z];split<;>omega
 have p:∀i,i<len->∃y:α,ok y/\∀j,j<sz->w.cell? ((a.add (i*sz)).add j)=(cells y)[j]?:=by intro i I;obtain⟨cs',v,F⟩:=J i (by omega);rw[hC] at v;obtain⟨_,hlen,f⟩:=World.cells?_some v;obtain⟨y,rfl,C⟩:=hdec _ _ _ F;exact⟨y,C,λj E=>f j E⟩
 obtain⟨g,G⟩:=choose_lt p;refine⟨(List.range len).map g,by simp,by omega,M,?_,λy C=>?_⟩
 .rcases kxy len with o|o
  .subst o;exact Rd.nil_
  obtain⟨b,s,q⟩:=a;have u:=(G 0 o).2 0 hsz;have K:q=none:=by
   have d:0<(cells (g 0)).length:=by rw[hf];exact hsz
   rw[kqm d] at u
   simpa [Addr.add] using World.cell?_spot u
  subst K;have c:∀i j,((⟨b,s,none⟩:Addr).add i).add j=⟨b,s+i+j,none⟩:=λi j=>by
   unfold Addr.add;by_cases v:i=0<;>by_cases F:j=0<;>simp[v,F]
  refine Rd.of_flat hf hsz (λ_=>?_) (λk L j E=>?_)
  .have d:0<(cells (g 0)).length:=by rw[hf];exact hsz
   rw[kqm d,c] at u;exact World.block_lt_of_cell? w _ u
  have B:k<len:=by simpa using L
  have:=(G k B).2 j E;rw[c] at this;rw[this];simp
 obtain⟨i,I,rfl⟩:=kzy.1 C;exact (G i (kzh.1 I)).1
end
theorem sw{n:Int}(h:(Lit.int .u64 n).wf=true):0<=n/\n<18446744073709551616:=by simp[Lit.wf,IntKind.min,IntKind.max,IntKind.signed,IntKind.bits] at h;omega
section
variable {H:Type} {enc:TypeId × Value->H} {w:World} {base:Nat} {spare:Nat->Bool} {held:Bool}
theorem AO{n:Nat}{cs:List Value}{y:DataW H × List MemPlace}(h:DataW.trod enc prog w base spare held n 53 cs=some y):
 ∃x:Nat,cs=au x/\x<18446744073709551616:=by obtain⟨x,c,_,b⟩:=DataW.trod_int underlying53 h;obtain⟨a,h1⟩:=sw b;refine⟨x.toNat,?_,by omega⟩;rw[c,au,kja a]
theorem vN{x:DataW H × List MemPlace}(h:DataW.trod enc prog w base spare held fuel 22 [.slice A len cap]=some x):
 ∃l:List Nat,l.length=len/\len<=maxLen/\len<=cap/\RdW w w.heap.size A l/\∀x∈l,x<18446744073709551616:=
 zl au (λx=>x<18446744073709551616) 1 bZ (by omega) underlying22 (by kernel_rfl) (λ_ _ _ h=>AO h) h
end
end Go.Proofs.YtpcajamacpbjcaaGreat
