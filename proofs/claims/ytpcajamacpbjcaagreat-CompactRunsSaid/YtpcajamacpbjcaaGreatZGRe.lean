import Derived.ProofKit
import Derived.OpenShut
import Derived.Deep.Fields
import Derived.Test.YtpcajamacpbjcaaGreatZGD
set_option maxHeartbeats 16000000
set_option linter.all false
namespace Go.Proofs.YtpcajamacpbjcaaGreat
open Go.ChangeShapes Go.WideShapes Go.RowKit Go.Deep
variable {cs:List Value}{cap fuel len n:Nat}{A:Option Addr}{α:Type}{e t:TypeId}
open Go.Proofs.Tryz
theorem own:ownKnob prog.godebug=none:=by kernel_rfl
theorem laidOut:laidOutB prog=true:=by kernel_rfl
theorem Rd.of_flat{f:α->List Value}{sz:Nat}{w:World}{B b off:Nat}{l:List α}(m:∀x,(f x).length=sz)(c:0<sz)(r:0<l.length->b<B)(h:∀k (g:k<l.length) j,j<sz->w.cell? ⟨b,off+k*sz+j,none⟩=(f l[k])[j]?):Rd w B (some ⟨b,off,none⟩) (l.flatMap f):=by
 intro p;have n:=bU f sz m l;have a:0<l.length:=by
  rcases kjc l.length with d|d
  .rw[kxe d] at p;simp at p
  exact d
 refine⟨b,off,rfl,r a,λj d=>?_⟩;rw[n] at d;have g:j/sz<l.length:=(Nat.div_lt_iff_lt_mul c).2 d;have o:j%sz<sz:=kz3 _ c;have e:j=j/sz*sz+j%sz:=by rw[kjv];exact (kvn j sz).symm
 have i:=h _ g _ o;have q:=ja f sz m l (j/sz) (j%sz) g o;rw[<-q,kki,<-e] at i;rw[i];exact kqg (by rw[n];exact d)
section
variable {H:Type} {enc:TypeId × Value->H} {P:Program} {w:World} {base:Nat} {spare:Nat->Bool} {held:Bool}
theorem ro[Inhabited α](c:α->List Value)(I:α->Prop)(sz:Nat){x:DataW H × List MemPlace}(B:∀x,(c x).length=sz)(d:0<sz)(M:P.underlying t=some (.slice e))(K:P.cellsOf e=sz)(q:∀n cs y,DataW.trod enc P w base spare held n e cs=some y->∃x:α,cs=c x/\I x)(h:DataW.trod enc P w base spare held fuel t [.slice A len cap]=some x):
 ∃l:List α,l.length=len/\len<=maxLen/\len<=cap/\Rd w w.heap.size A (l.flatMap c)/\∀x∈l,I x:=by
 rcases open_slice M h with⟨o,_⟩|⟨a,len',cap',m,n,D,Pl,p,_,L,hm,F,_,N⟩
 .simp only[List.cons.injEq,Value.slice.injEq,and_true] at o;obtain⟨rfl,rfl,rfl⟩:=o;exact⟨[],rfl,kqv _,kqv _,Rd.nil_,λ_ h=>by simp at h⟩
 simp only[List.cons.injEq,Value.slice.injEq,and_true] at p;obtain⟨rfl,rfl,rfl⟩:=p;have hlm:len<=m:=by rw[F];split<;>omega
 have n:∀i,i<len->∃y:α,I y/\∀j,j<sz->w.cell? ((a.add (i*sz)).add j)=(c y)[j]?:=by intro i J;obtain⟨cs',u,z⟩:=N i (by omega);rw[K] at u;obtain⟨_,hlen,b⟩:=World.cells?_some u;obtain⟨y,rfl,G⟩:=q _ _ _ z;exact⟨y,G,λj E=>b j E⟩
 obtain⟨g,C⟩:=choose_lt n;refine⟨(List.range len).map g,by simp,by omega,L,?_,λy G=>?_⟩
 .rcases kjc len with o|o
  .subst o;exact Rd.nil_
  obtain⟨b,r,s⟩:=a;have v:=(C 0 o).2 0 d;have f:s=none:=by
   have h:0<(c (g 0)).length:=by rw[B];exact d
   rw[kqg h] at v
   simpa [Addr.add] using World.cell?_spot v
  subst f;have f:∀i j,((⟨b,r,none⟩:Addr).add i).add j=⟨b,r+i+j,none⟩:=λi j=>by
   unfold Addr.add;by_cases u:i=0<;>by_cases z:j=0<;>simp[u,z]
  refine Rd.of_flat B d (λ_=>?_) (λk y j E=>?_)
  .have h:0<(c (g 0)).length:=by rw[B];exact d
   rw[kqg h,f] at v;exact World.block_lt_of_cell? w _ v
  have h:k<len:=by simpa using y
  have:=(C k h).2 j E;rw[f] at this;rw[this];simp
 obtain⟨i,J,rfl⟩:=kz9.1 G;exact (C i (kzn.1 J)).1
end
theorem AB{n:Int}(h:(Lit.int .i64 n).wf=true): -9223372036854775808<=n/\n<=9223372036854775807:=by simp[Lit.wf,IntKind.min,IntKind.max,IntKind.signed,IntKind.bits] at h;omega
theorem t9{n:Int}(h:(Lit.int .u64 n).wf=true):0<=n/\n<18446744073709551616:=by simp[Lit.wf,IntKind.min,IntKind.max,IntKind.signed,IntKind.bits] at h;omega
section
variable {H:Type} {enc:TypeId × Value->H} {w:World} {base:Nat} {spare:Nat->Bool} {held:Bool}
theorem Bn{y:DataW H × List MemPlace}(h:DataW.trod enc prog w base spare held n 3 cs=some y):
 ∃x:Int,cs=aV x /\ -9223372036854775808<=x/\x<=9223372036854775807:=by obtain⟨x,a,_,b⟩:=DataW.trod_int underlying3 h;exact⟨x,a,AB b⟩
theorem wH{y:DataW H × List MemPlace}(h:DataW.trod enc prog w base spare held n 53 cs=some y):
 ∃x:Nat,cs=ap x/\x<18446744073709551616:=by obtain⟨x,b,_,c⟩:=DataW.trod_int underlying53 h;obtain⟨a,h1⟩:=t9 c;refine⟨x.toNat,?_,by omega⟩;rw[b,ap,kx8 a]
theorem oB{P:Program}{fs:Array Field}{y:DataW H × List MemPlace}(o:P.underlying e=some (.struct fs))(d:oneCellFields P fs=true)(m:P.cellsOf e=fs.size)(h:DataW.trod enc P w base spare held n e cs=some y):cs.length=fs.size/\∃k,∀(i:Nat) (f:Field),fs[i]? = some f->∃v y,cs[i]? = some v/\DataW.trod enc P w base spare held k f.type [v]=some y:=by
 obtain⟨s,k,_,_,a,g,p⟩:=DataW.trod_struct o h;refine⟨a.trans m,k,λi f l=>?_⟩;obtain⟨r,q⟩:=hone_of d i f l;have b:i<fs.size:=(kjk.1 l).1;have c:i<cs.length:=by rw[a,m];exact b
 have j:=p i f l;rw[r,q] at j;have f:(cs.drop i).take 1=[cs[i]]:=by rw[kz8 c];rfl
 rw[f] at j;exact⟨cs[i],s[i]'(by rw[g];exact b),kqg c,j.trans (kqg (by rw[g];exact b))⟩
theorem wG{y:DataW H × List MemPlace}(h:DataW.trod enc prog w base spare held n 4 cs=some y):∃x:Bool,cs=[.bool x]:=by obtain⟨x,a,_⟩:=DataW.trod_bool underlying4 h;exact⟨x,a⟩
theorem wQ{x:DataW H × List MemPlace}(h:DataW.trod enc prog w base spare held fuel 22 [.slice A len cap]=some x):
 ∃l:List Nat,l.length=len/\len<=maxLen/\len<=cap/\RdW w w.heap.size A l/\∀x∈l,x<2^64:=
 ro ap (λx=>x<18446744073709551616) 1 cA (by omega) underlying22 (by kernel_rfl) (λ_ _ _ h=>wH h) h
end
section
variable {H:Type} {enc:TypeId × Value->H} {w:World} {base:Nat} {spare:Nat->Bool} {held:Bool}
theorem AE{y:DataW H × List MemPlace}(h:DataW.trod enc prog w base spare held n 92 cs=some y):∃x:Dw,cs=x.cells/\x.v<18446744073709551616:=by
 obtain⟨r,k,a⟩:=oB underlying92 (by kernel_rfl) (by kernel_rfl) h;obtain⟨v0,y0,b,o⟩:=a 0 _ rfl;obtain⟨v1,y1,c,p⟩:=a 1 _ rfl;obtain⟨v2,y2,d,q⟩:=a 2 _ rfl;obtain⟨i,e,b0⟩:=Bn o;obtain⟨j,f,m⟩:=wH p;obtain⟨l,g⟩:=wG q;simp only[aV,ap,List.cons.injEq,and_true] at e f g
 match cs,r with
 | [w0,w1,w2],_ =>simp only[kkk,kkj,Option.some.injEq] at b c d;subst b c d;exact⟨⟨i,j,l⟩,by rw[e,f,g];rfl,m⟩
theorem xJ{x:DataW H × List MemPlace}(h:DataW.trod enc prog w base spare held fuel 77 [.slice A len cap]=some x):
 ∃l:List Dw,l.length=len/\len<=maxLen/\len<=cap/\RdQ w w.heap.size A l/\∀x∈l,x.v<18446744073709551616:=
 ro Dw.cells (λx=>x.v<18446744073709551616) 3 Dw.len (by omega) underlying77 (by kernel_rfl) (λ_ _ _ h=>AE h) h
theorem pK{v:Value}{x:DataW H × List MemPlace}(f:prog.underlying t=some (.slice e))(h:DataW.trod enc prog w base spare held fuel t [v]=some x):∃A n c,v=.slice A n c:=by
 rcases open_slice f h with⟨d,_⟩|⟨a,len',cap',m,n,D,Pl,b,_⟩
 .injection d with d;exact⟨_,_,_,d⟩
 injection b with b;exact⟨_,_,_,b⟩
theorem tZ{x:DataW H × List MemPlace}(h:DataW.trod enc prog w base spare held fuel 79 cs=some x):
 ∃(A:Option Addr) (n c:Nat) (d:Option Addr) (m i:Nat) (b:List Nat) (a:List Dw) (g:Int) (e:Bool),cs=[.slice A n c,.slice d m i,.int .i64 g,.bool e]/\b.length=n/\n<=maxLen/\n<=c/\RdW w w.heap.size A b/\a.length=m/\m<=maxLen/\RdQ w w.heap.size d a/\DvLt ⟨b,a,g,e⟩:=by
 obtain⟨D,k,f⟩:=oB underlying79 (by kernel_rfl) (by kernel_rfl) h;obtain⟨v0,y0,j,q⟩:=f 0 _ rfl;obtain⟨v1,y1,l,r⟩:=f 1 _ rfl;obtain⟨v2,y2,o,B⟩:=f 2 _ rfl;obtain⟨v3,y3,p,C⟩:=f 3 _ rfl;obtain⟨A,n,c,rfl⟩:=pK underlying22 q;obtain⟨d,m,i,rfl⟩:=pK underlying77 r;obtain⟨b,E,F,G,I,J⟩:=wQ q;obtain⟨a,u,v,d3,y,z⟩:=xJ r;obtain⟨g,s,b2⟩:=Bn B;obtain⟨e,t⟩:=wG C;simp only[aV,List.cons.injEq,and_true] at s t
 match cs,D with
 | [w0,w1,w2,w3],_ =>simp only[kkk,kkj,Option.some.injEq] at j l o p;subst j l o p;exact⟨A,n,c,d,m,i,b,a,g,e,by rw[s,t],E,F,G,I,u,v,y,J,z⟩
end
open Go.ChangeShapes Go.WideShapes Go.ChangeAt Go.RowKit
theorem tg:joinedFacts Tryz.pinned.checked.prog 7 Tryz.f7 Rows.compactRunsSpec Rows.compactRunsRow=true:=by kernel_rfl
end Go.Proofs.YtpcajamacpbjcaaGreat
