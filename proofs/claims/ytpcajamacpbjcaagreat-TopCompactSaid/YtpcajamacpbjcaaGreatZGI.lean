/- Arguments opened: a slice that came in, as data, reads as a list of elements (entries, blocks, words). -/
import Derived.Test.YtpcajamacpbjcaaGreatZKPlain
import Derived.ProofKit
import Derived.OpenShut
import Derived.Deep.Slices
import Derived.Deep.Fields
set_option maxHeartbeats 16000000
set_option linter.all false
namespace Go.Proofs.YtpcajamacpbjcaaGreat
open Go.ChangeShapes Go.WideShapes Go.RowKit Go.Deep
variable {n:Int}{cap fuel len:Nat}{A:Option Addr}{α:Type}
open Go.Proofs.Tryz
theorem own:ownKnob prog.godebug=none:=by kernel_rfl
theorem laidOut:laidOutB prog=true:=by kernel_rfl
theorem Rd.of_flat{f:α->List Value}{sz:Nat}{w:World}{B b off:Nat}{l:List α}(hf:∀x,(f x).length=sz)(hsz:0<sz)(hb:0<l.length->b<B)(h:∀k (d:k<l.length) j,j<sz->w.cell? ⟨b,off+k*sz+j,none⟩=(f l[k])[j]?):Rd w B (some ⟨b,off,none⟩) (l.flatMap f):=by
 intro m;have i:=cm f sz hf l;have a:0<l.length:=by
  rcases kjb l.length with g|g
  .rw[kx4 g] at m;simp at m
  exact g
 refine⟨b,off,rfl,hb a,λj c=>?_⟩;rw[i] at c;have d:j/sz<l.length:=(Nat.div_lt_iff_lt_mul hsz).2 c;have o:j%sz<sz:=kz0 _ hsz;have e:j=j/sz*sz+j%sz:=by rw[kje];exact (kvl j sz).symm
 have n:=h _ d _ o;have p:=ja f sz hf l (j/sz) (j%sz) d o;rw[<-p,kj3,<-e] at n;rw[n];exact kql (by rw[i];exact c)
section
variable {H:Type} {enc:TypeId × Value->H} {P:Program} {w:World} {base:Nat} {spare:Nat->Bool} {held:Bool}
theorem Aw[Inhabited α](cells:α->List Value)(ok:α->Prop)(sz:Nat){t e:TypeId}{x:DataW H × List MemPlace}(hf:∀x,(cells x).length=sz)(hsz:0<sz)(ht:P.underlying t=some (.slice e))(hC:P.cellsOf e=sz)(hdec:∀n cs y,DataW.trod enc P w base spare held n e cs=some y->∃x:α,cs=cells x/\ok x)(h:DataW.trod enc P w base spare held fuel t [.slice A len cap]=some x):
 ∃l:List α,l.length=len/\len<=maxLen/\len<=cap/\Rd w w.heap.size A (l.flatMap cells)/\∀x∈l,ok x:=by
 rcases open_slice ht h with⟨o,_⟩|⟨a,len',cap',m,n,D,Pl,s,_,J,hm,B,_,K⟩
 .simp only[List.cons.injEq,Value.slice.injEq,and_true] at o;obtain⟨rfl,rfl,rfl⟩:=o;exact⟨[],rfl,kqz _,kqz _,Rd.nil_,λ_ h=>by simp at h⟩
 simp only[List.cons.injEq,Value.slice.injEq,and_true] at s;obtain⟨rfl,rfl,rfl⟩:=s;have hlm:len<=m:=by rw[B];split<;>omega
 have q:∀i,i<len->∃y:α,ok y/\∀j,j<sz->w.cell? ((a.add (i*sz)).add j)=(cells y)[j]?:=by intro i I;obtain⟨cs',u,C⟩:=K i (by omega);rw[hC] at u;obtain⟨_,hlen,d⟩:=World.cells?_some u;obtain⟨y,rfl,G⟩:=hdec _ _ _ C;exact⟨y,G,λj E=>d j E⟩
 obtain⟨g,z⟩:=choose_lt q;refine⟨(List.range len).map g,by simp,by omega,J,?_,λy G=>?_⟩
 .rcases kjb len with o|o
  .subst o;exact Rd.nil_
  obtain⟨b,r,p⟩:=a;have v:=(z 0 o).2 0 hsz;have L:p=none:=by
   have f:0<(cells (g 0)).length:=by rw[hf];exact hsz
   rw[kql f] at v
   simpa [Addr.add] using World.cell?_spot v
  subst L;have c:∀i j,((⟨b,r,none⟩:Addr).add i).add j=⟨b,r+i+j,none⟩:=λi j=>by
   unfold Addr.add;by_cases u:i=0<;>by_cases C:j=0<;>simp[u,C]
  refine Rd.of_flat hf hsz (λ_=>?_) (λk M j E=>?_)
  .have f:0<(cells (g 0)).length:=by rw[hf];exact hsz
   rw[kql f,c] at v;exact World.block_lt_of_cell? w _ v
  have F:k<len:=by simpa using M
  have:=(z k F).2 j E;rw[c] at this;rw[this];simp
 obtain⟨i,I,rfl⟩:=kzx.1 G;exact (z i (kzi.1 I)).1
end
theorem CG(h:(Lit.int .i64 n).wf=true): -9223372036854775808<=n/\n<=9223372036854775807:=by simp[Lit.wf,IntKind.min,IntKind.max,IntKind.signed,IntKind.bits] at h;omega
theorem uv(h:(Lit.int .u64 n).wf=true):0<=n/\n<18446744073709551616:=by simp[Lit.wf,IntKind.min,IntKind.max,IntKind.signed,IntKind.bits] at h;omega
section
variable {H:Type} {enc:TypeId × Value->H} {w:World} {base:Nat} {spare:Nat->Bool} {held:Bool}
theorem EV{n:Nat}{cs:List Value}{y:DataW H × List MemPlace}(h:DataW.trod enc prog w base spare held n 53 cs=some y):
 ∃x:Nat,cs=ae x/\x<18446744073709551616:=by obtain⟨x,a,_,b⟩:=DataW.trod_int underlying53 h;obtain⟨c,h1⟩:=uv b;refine⟨x.toNat,?_,by omega⟩;rw[a,ae,kj0 c]
theorem yL{x:DataW H × List MemPlace}(h:DataW.trod enc prog w base spare held fuel 22 [.slice A len cap]=some x):
 ∃l:List Nat,l.length=len/\len<=maxLen/\len<=cap/\RdW w w.heap.size A l/\∀x∈l,x<18446744073709551616:=
 Aw ae (λx=>x<18446744073709551616) 1 bY (by omega) underlying22 (by kernel_rfl) (λ_ _ _ h=>EV h) h
end
end Go.Proofs.YtpcajamacpbjcaaGreat
