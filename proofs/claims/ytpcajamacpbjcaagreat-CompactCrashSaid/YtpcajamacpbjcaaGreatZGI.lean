/- Arguments opened: a slice that came in, as data, reads as a list of elements (entries, blocks, words). -/
import Derived.Test.YtpcajamacpbjcaaGreatZKPlain
import Derived.ProofKit
import Derived.OpenShut
import Derived.Deep.Slices
import Derived.Deep.Fields
set_option maxHeartbeats 16000000
set_option linter.all false
namespace Go.Proofs.YtpcajamacpbjcaaGreat
open Go.ChangeShapes Go.WideShapes Go.RowKit Go.Deep
variable {n:Int}{cap fuel len:Nat}{A:Option Addr}{α:Type}
open Go.Proofs.Tryz
theorem own:ownKnob prog.godebug=none:=by kernel_rfl
theorem laidOut:laidOutB prog=true:=by kernel_rfl
theorem Rd.of_flat{f:α->List Value}{sz:Nat}{w:World}{B b off:Nat}{l:List α}(hf:∀x,(f x).length=sz)(hsz:0<sz)(hb:0<l.length->b<B)(h:∀k (g:k<l.length) j,j<sz->w.cell? ⟨b,off+k*sz+j,none⟩=(f l[k])[j]?):Rd w B (some ⟨b,off,none⟩) (l.flatMap f):=by
 intro i;have m:=cj f sz hf l;have a:0<l.length:=by
  rcases kx6 l.length with c|c
  .rw[kx0 c] at i;simp at i
  exact c
 refine⟨b,off,rfl,hb a,λj d=>?_⟩;rw[m] at d;have g:j/sz<l.length:=(Nat.div_lt_iff_lt_mul hsz).2 d;have n:j%sz<sz:=kz0 _ hsz;have e:j=j/sz*sz+j%sz:=by rw[kjd];exact (kvf j sz).symm
 have o:=h _ g _ n;have p:=iM f sz hf l (j/sz) (j%sz) g n;rw[<-p,kjx,<-e] at o;rw[o];exact kqk (by rw[m];exact d)
section
variable {H:Type} {enc:TypeId × Value->H} {P:Program} {w:World} {base:Nat} {spare:Nat->Bool} {held:Bool}
theorem zt[Inhabited α](cells:α->List Value)(ok:α->Prop)(sz:Nat){t e:TypeId}{x:DataW H × List MemPlace}(hf:∀x,(cells x).length=sz)(hsz:0<sz)(ht:P.underlying t=some (.slice e))(hC:P.cellsOf e=sz)(hdec:∀n cs y,DataW.trod enc P w base spare held n e cs=some y->∃x:α,cs=cells x/\ok x)(h:DataW.trod enc P w base spare held fuel t [.slice A len cap]=some x):
 ∃l:List α,l.length=len/\len<=maxLen/\len<=cap/\Rd w w.heap.size A (l.flatMap cells)/\∀x∈l,ok x:=by
 rcases open_slice ht h with⟨o,_⟩|⟨a,len',cap',m,n,D,Pl,r,_,J,hm,E,_,M⟩
 .simp only[List.cons.injEq,Value.slice.injEq,and_true] at o;obtain⟨rfl,rfl,rfl⟩:=o;exact⟨[],rfl,kqy _,kqy _,Rd.nil_,λ_ h=>by simp at h⟩
 simp only[List.cons.injEq,Value.slice.injEq,and_true] at r;obtain⟨rfl,rfl,rfl⟩:=r;have hlm:len<=m:=by rw[E];split<;>omega
 have p:∀i,i<len->∃y:α,ok y/\∀j,j<sz->w.cell? ((a.add (i*sz)).add j)=(cells y)[j]?:=by intro i I;obtain⟨cs',v,G⟩:=M i (by omega);rw[hC] at v;obtain⟨_,hlen,d⟩:=World.cells?_some v;obtain⟨y,rfl,C⟩:=hdec _ _ _ G;exact⟨y,C,λj F=>d j F⟩
 obtain⟨g,B⟩:=choose_lt p;refine⟨(List.range len).map g,by simp,by omega,J,?_,λy C=>?_⟩
 .rcases kx6 len with o|o
  .subst o;exact Rd.nil_
  obtain⟨b,s,q⟩:=a;have u:=(B 0 o).2 0 hsz;have K:q=none:=by
   have f:0<(cells (g 0)).length:=by rw[hf];exact hsz
   rw[kqk f] at u
   simpa [Addr.add] using World.cell?_spot u
  subst K;have c:∀i j,((⟨b,s,none⟩:Addr).add i).add j=⟨b,s+i+j,none⟩:=λi j=>by
   unfold Addr.add;by_cases v:i=0<;>by_cases G:j=0<;>simp[v,G]
  refine Rd.of_flat hf hsz (λ_=>?_) (λk L j F=>?_)
  .have f:0<(cells (g 0)).length:=by rw[hf];exact hsz
   rw[kqk f,c] at u;exact World.block_lt_of_cell? w _ u
  have z:k<len:=by simpa using L
  have:=(B k z).2 j F;rw[c] at this;rw[this];simp
 obtain⟨i,I,rfl⟩:=kzw.1 C;exact (B i (kzh.1 I)).1
end
theorem z8(h:(Lit.int .i64 n).wf=true): -9223372036854775808<=n/\n<=9223372036854775807:=by simp[Lit.wf,IntKind.min,IntKind.max,IntKind.signed,IntKind.bits] at h;omega
theorem sH(h:(Lit.int .u64 n).wf=true):0<=n/\n<18446744073709551616:=by simp[Lit.wf,IntKind.min,IntKind.max,IntKind.signed,IntKind.bits] at h;omega
section
variable {H:Type} {enc:TypeId × Value->H} {w:World} {base:Nat} {spare:Nat->Bool} {held:Bool}
theorem D8{n:Nat}{cs:List Value}{y:DataW H × List MemPlace}(h:DataW.trod enc prog w base spare held n 53 cs=some y):
 ∃x:Nat,cs=ab x/\x<18446744073709551616:=by obtain⟨x,a,_,b⟩:=DataW.trod_int underlying53 h;obtain⟨c,h1⟩:=sH b;refine⟨x.toNat,?_,by omega⟩;rw[a,ab,kj7 c]
theorem vq{x:DataW H × List MemPlace}(h:DataW.trod enc prog w base spare held fuel 22 [.slice A len cap]=some x):
 ∃l:List Nat,l.length=len/\len<=maxLen/\len<=cap/\RdW w w.heap.size A l/\∀x∈l,x<18446744073709551616:=
 zt ab (λx=>x<18446744073709551616) 1 bh (by omega) underlying22 (by kernel_rfl) (λ_ _ _ h=>D8 h) h
end
end Go.Proofs.YtpcajamacpbjcaaGreat
