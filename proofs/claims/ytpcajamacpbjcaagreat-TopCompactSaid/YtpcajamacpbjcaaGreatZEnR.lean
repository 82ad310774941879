/- The entries of a journal: what the program returns, where a right change is laid there. -/
import Derived.Test.YtpcajamacpbjcaaGreatZGA
import Derived.Test.YtpcajamacpbjcaaGreatZKHead
import Derived.Test.YtpcajamacpbjcaaGreatZKHeap
set_option maxHeartbeats 16000000
set_option maxRecDepth 100000
set_option linter.all false
namespace Go.Proofs.YtpcajamacpbjcaaGreat
open Lib (hid)
open Go.RowKit
open Go.Proofs.Tryz
theorem Cb:∀(E:List En) (k:Nat) (h:k<E.length),wd (bM E) (2*k)=E[k].a.toNat/\wd (bM E) (2*k+1)=E[k].v:=by
 intro E
 induction E with
 | nil=>intro k h;simp at h
 | cons e E ih =>
  intro k h;cases k with
  | zero=>exact⟨rfl,rfl⟩
  | succ k =>have:=ih k (by simpa using h);rw[show 2*(k+1)=2*k+1+1 by omega];exact this
def slN:Value->Nat
 | .slice _ n _=>n
 | _=>0
theorem D6{w:World}{B:Nat}{A:Option Addr}{l:List Nat}(h:RdW w B A l)(hn:0<l.length):∃b a,A=some ⟨b,a,none⟩/\b<B/\∀j,j<l.length->w.cell? ⟨b,a+j,none⟩=some (.int .u64 (wd l j:Int)):=by obtain⟨b,a,e,f,-⟩:=RdW.at_ h hn;refine⟨b,a,e,f,λj d=>?_⟩;obtain⟨b2,off2,c,-,g⟩:=RdW.at_ h d;rw[e] at c;injection c with c;injection c with h1 h2 h3;rw[h1,h2,cF d];exact g
theorem EM(A:Option Addr)(ws:List Nat)(E:List En)(c n m:Nat)(w:World)(hn:ws.length=n)(hs:ak (n:Int)=true)(hm:E.length=m)(h0:0<m)(h32:m<=32)(hen:dL (av E) (n:Int)=0)(hok:∀e∈E,e.ok)(hin:∀e∈E,0<=e.a/\e.a<(n:Int))(hj:∀k,k<2*m->wd ws (32+k)=wd (bM E) k)(hc:n<=c)(G:RdW w w.heap.size A ws):
 Calls prog 169 #[.slice A n c,.int .i64 (m:Int)] w λe w'=>fL w.heap.size 0 E e w'/\Below w.heap.size w w':=by
 obtain⟨b1,b2,-⟩:=(ab _).1 hs;have La:=hid (aV hs);obtain⟨b,f,rfl,hb,j⟩:=D6 G (by omega);have HC:Hid (∀k (h:k<E.length),w.cell? ⟨b,f+32+2*k,none⟩=some (.int .u64 (E[k].a.toNat:Nat))/\w.cell? ⟨b,f+32+2*k+1,none⟩=some (.int .u64 (E[k].v:Int))):=hid λk h=>by
  obtain⟨L,g2⟩:=Cb E k h;have h1:=j (32+2*k) (by omega);have h2:=j (32+(2*k+1)) (by omega);rw[hj _ (by omega),L] at h1;rw[hj _ (by omega),g2] at h2;rw[show f+32+2*k=f+(32+2*k) by omega];exact⟨h1,h2⟩
 have Ld:Hid (∀k (h:k<E.length),0<=E[k].a/\E[k].a<(n:Int)/\E[k].v<18446744073709551616):=hid λk h=>by
  have h1:=hin _ (kqn h);have h2:=hok _ (kqn h);unfold En.ok at h2;omega
 have P:=hid (λB d W (h:RdE W W.heap.size B E)=>mq B E d m n W hm (by omega) h hok);rw[hen] at P;have Le:Hid (∀k (h:k<E.length),(E.take (k+1)).flatMap En.cells=(E.take k).flatMap En.cells++[.int .i64 E[k].a,.int .u64 (E[k].v:Int)]):=hid λk h=>by
  rw[kqp h,kxc,kzy,List.flatMap_nil,kzt];rfl
 have HM:=hid hm;have hm1:decide ((m:Int)<0)=false:=by rw[kqh];omega
 have hm2:decide ((32:Int)<(m:Int))=false:=by rw[kqh];omega
 clear G j hj hin hok hen hs hm hn;obtain⟨i0,hi,J,Kw,Q⟩:=kzr dD;have HI:=hid hi;have Lf:=hid J;have Lc:=hid Kw;have Kz:=hid Q;clear hi J Kw Q;go_enter func169,ntmps169;go_wp2_with fail;refine (aB _ n c w (by omega)).mono ?_;rintro e w1 ⟨rfl,rfl⟩;rw[La.out];have q1:(32:Int)<=32+2*(m:Int):=by omega
 have q2:32+2*(m:Int)<=(c:Int):=by omega
 go_wp2_with fail;rw[show 32+2*m-32=2*m by omega];go_loopw [7,9] (λv s wr=>∃k:Nat,k<=m/\(∃o,s=.slice (some ⟨b,o,none⟩) (2*m-2*k) (2*m-2*k)/\(k<m->o=f+32+2*k))/\wr.ownsRow w.heap.size 89 2 v k ((E.take k).flatMap En.cells)/\Below w.heap.size w wr) (λ_ s _=>slN s)
 case atStart=>exact⟨0,kqz _,⟨f+32,by simp,λ_=>by omega⟩,kq6 _ _ _ _,kqk _ _⟩
 obtain⟨k,hk,⟨o,rfl,ho⟩,g,x⟩:=hrel;have hz:=x.size;by_cases N:k<m
 .have F:k<E.length:=by rw[HM.out];exact N
  obtain rfl:=ho N;obtain⟨q,t⟩:=HC.out k F;have z:=hid (And.intro q t);replace q:=(x.cell (p:=⟨b,f+32+2*k,none⟩) hb).trans q;replace t:=(x.cell (p:=⟨b,f+32+2*k+1,none⟩) hb).trans t;obtain⟨L,g2,g3⟩:=Ld.out k F;have ht:=Le.out k F;obtain⟨a,ha⟩:=xq (E[k].a);obtain⟨v,hv⟩:=xq (E[k].v);rw[ha] at q L g2 ht;rw[hv] at t g3 ht;obtain⟨a,rfl⟩:=kq1 L;rw[kqj] at q;rw[ha,hv,kqj] at z;have HT:=hid ht;obtain⟨r,G⟩:=xq (2*m-2*k);rw[G];have hr1:(1:Int)<(r:Int):=by omega
  have hr2:(2:Int)<=(r:Int):=by omega
  have Kx:=hid G;clear ha hv ht ho G L;obtain⟨I,H,rfl⟩:=aE g;have Y:=hid g;have V:=hid x;have w1:IntKind.u64.wrap (n:Int)=(n:Int):=kzw _ (by omega);have w2:IntKind.i64.wrap (a:Int)=(a:Int):=kqt _ (by omega);have w3:IntKind.u64.wrap (a:Int)=(a:Int):=kzw _ (by omega);have l1:¬ (n:Int)<(a:Int):=by omega
  have l2:decide ((n:Int)<(a:Int))=false:=by rw[kqh];exact l1
  have l3:decide ((a:Int)<(n:Int))=true:=by rw[kqo];exact g2
  have l4:(0:Int)<(r:Int):=by omega
  have l5:¬ r=0:=by omega
  have l6:¬ n<a:=by omega
  have l7:¬ r<=1:=by omega
  clear g x g3;go_wp2_with fail;refine kz9 (S:=λX:World=>X.cell? ⟨b,f+32+2*k,none⟩=some (.int .u64 (a:Int))/\X.cell? ⟨b,f+32+2*k+1,none⟩=some (.int .u64 (v:Int))) (by kernel_rfl) ⟨q,t⟩ (λC=>?_);show wpAnyH _ _ _ _ _ 16 #[false,false,false,false,false,false,false,false,false,false,false,false,false,false,false,false] _ _;refine tj 0 (.slice I k H) ?_;dsimp only[Act.put,kqe,kqd,kqc,kqb,kqg,kqf];refine tj 1 (.slice (some ⟨b,f+32+2*k,none⟩) r r) ?_;dsimp only[Act.put,kqe,kqd,kqc,kqb,kqg,kqf];refine tj 2 (.pointer (some ⟨b,f+32+2*k,none⟩)) ?_;dsimp only[Act.put,kqe,kqd,kqc,kqb,kqg,kqf];refine tj 3 (.int .u64 (a:Int)) ?_;dsimp only[Act.put,kqe,kqd,kqc,kqb,kqg,kqf];refine tj 4 (.slice (some ⟨b,f,none⟩) n c) ?_;dsimp only[Act.put,kqe,kqd,kqc,kqb,kqg,kqf];refine tj 5 (.int .i64 (n:Int)) ?_;dsimp only[Act.put,kqe,kqd,kqc,kqb,kqg,kqf];refine tj 6 (.int .u64 (n:Int)) ?_;dsimp only[Act.put,kqe,kqd,kqc,kqb,kqg,kqf];refine tj 7 (.int .u64 (a:Int)) ?_;dsimp only[Act.put,kqe,kqd,kqc,kqb,kqg,kqf];refine tj 8 (.int .i64 (a:Int)) ?_;dsimp only[Act.put,kqe,kqd,kqc,kqb,kqg,kqf];refine tj 9 (.slice (some ⟨b,f+32+2*k,none⟩) r r) ?_;dsimp only[Act.put,kqe,kqd,kqc,kqb,kqg,kqf];refine tj 10 (.pointer (some ⟨b,f+32+2*k+1,none⟩)) ?_;dsimp only[Act.put,kqe,kqd,kqc,kqb,kqg,kqf];refine tj 11 (.int .u64 (v:Int)) ?_
  dsimp only[Act.put,kqe,kqd,kqc,kqb,kqg,kqf];refine tj 12 (.agg #[.int .i64 (a:Int),.int .u64 (v:Int)]) ?_;dsimp only[Act.put,kqe,kqd,kqc,kqb,kqg,kqf];have D:=hid (V.out.drew);have y:=hid (show (wr.drew).ownsRow w.heap.size 89 2 (.slice I k H) k ((E.take k).flatMap En.cells) from ⟨Y.out.1,Y.out.2⟩);obtain⟨W,R⟩:=xq wr.drew;have U:b<W.heap.size:=by have:=V.out.size;rw[<-R];show b<wr.heap.size;omega
  replace q:W.cell? ⟨b,f+32+2*k,none⟩=some (.int .u64 (a:Int)):=by rw[<-R];exact q
  replace t:W.cell? ⟨b,f+32+2*k+1,none⟩=some (.int .u64 (v:Int)):=by rw[<-R];exact t
  rw[R] at D y |-;clear R C;refine kz3 (rs:=[13]) (by kernel_rfl) (by simp) ?_;refine AllReadyH.cons rfl (λK O=>?_) AllReadyH.nil;go_simp;refine O.out _ _ ⟨(kze W _ ⟨b,f+32+2*k,none⟩ U).trans q,(kze W _ ⟨b,f+32+2*k+1,none⟩ U).trans t⟩ (λLb=>?_);clear O K;refine kz3 (rs:=[14]) (by kernel_rfl) (by simp) ?_;refine AllReadyH.cons rfl (λK O=>?_) AllReadyH.nil;have Lg:=D.out.size;refine jR _ _ _ 26 (by rfl) w.heap.size 89 i0 _ 2 16 underlying26 HI.out Lf.out Lc.out Kz.out rfl (by decide) (.slice I k H) k ((E.take k).flatMap En.cells) (by rfl) (y.out.alloc _) (W.alloc (.cells #[.int .i64 (a:Int),.int .u64 (v:Int)] 89)).heap.size (some ⟨W.heap.size,0,none⟩) 1 1 [.int .i64 (a:Int),.int .u64 (v:Int)] (by rfl) (by rfl) (Rd.of_own (cJ (n:=1) (sz:=2) W 89 #[.int .i64 (a:Int),.int .u64 (v:Int)] (kqa _) (by rfl) (by unfold maxLen;omega))) (by simp[Value.oneCell']) (by unfold maxLen;omega) (by omega) (by rw[kqm];omega) ?_;intro v1 w8 i Z;have l:=bu (D.out.alloc Lg _) (by rw[kqm];omega) (y.out.alloc _) Z;refine O.out _ _ ⟨(l.cell (p:=⟨b,f+32+2*k,none⟩) hb).trans z.out.1,(l.cell (p:=⟨b,f+32+2*k+1,none⟩) hb).trans z.out.2⟩ (λHS4=>?_);have M:=hid l;rw[<-HT.out] at i;have Eq:=hid i;clear O K Lb l i Z;simp only[Act.put,kqb,kqg,kqf];refine tj 15 (v1) ?_;dsimp only[Act.put,kqe,kqd,kqc,kqb,kqg,kqf];refine kxw (by kernel_rfl) ?_ _;go_simp;by_cases T:r=2
  .have hq:=Kx.out;subst T;go_wp2;go_roundw
   case rel=>exact⟨k+1,by omega,⟨f+32+2*k,by rw[show 2*m-2*(k+1)=0 by omega],λh=>by omega⟩,Eq.out,M.out⟩
   case measure=>simp[slN]
  have hr8:¬ r=2:=T;have hr7:¬ (r:Int)=2:=by omega
  go_wp2;go_roundw
  case rel =>
   have hq:=Kx.out;exact⟨k+1,by omega,⟨f+32+2*k+2,by rw[show 2*m-2*(k+1)=r-2 by omega],λh=>by omega⟩,Eq.out,M.out⟩
  case measure=>simp[slN];omega
 obtain rfl:k=m:=by omega
 rw[<-HM.out,kzf,HM.out] at g;obtain⟨I,H,rfl⟩:=aE g;have e0:2*k-2*k=0:=by omega
 rw[e0];have Y:=hid g;have V:=hid x;clear g x ho;go_wp2_with fail;refine (P.out I H wr (show RdE _ _ _ _ from Rd.of_own Y.out)).mono ?_;rintro e w2 ⟨rfl,u⟩;have Ky:=hid (aa Y.out u (kqa _));have Lh:=hid (V.out.trans (u.mono V.out.size));clear u;go_wp2;go_ret2;exact⟨⟨I,H,by rw[HM.out];rfl,by rw[HM.out];exact Ky.out⟩,Lh.out⟩
end Go.Proofs.YtpcajamacpbjcaaGreat
