/- Models that are checked. -/
import Derived.Test.YtpcajamacpbjcaaGreatZGMa
import Derived.Test.YtpcajamacpbjcaaGreatZKLy1
import Derived.Test.YtpcajamacpbjcaaGreatZKHeap
import Derived.Test.YtpcajamacpbjcaaGreatZKLy2
import Derived.Test.YtpcajamacpbjcaaGreatZKCo
import Derived.Maps.OwnSet
import Derived.Test.YtpcajamacpbjcaaGreatZGVa
set_option maxHeartbeats 16000000
set_option maxRecDepth 100000
set_option linter.all false
namespace Go.Proofs.YtpcajamacpbjcaaGreat
open Lib (hid)
open Go.RowKit
variable {L:List Oj}{H:Nat}{v:Value}{w w':World}
open Go.Proofs.Tryz
theorem zG(v:Nat)(w:World)(hv:v<18446744073709551616):Calls prog 176 #[.int .u64 (v:Int)] w λe w'=>e=.returned (.bool (nE v))/\w=w':=by
 have j:Hid (nE v=(v==9221120237041090561||decide (v%9223372036854775808<=9218868437227405312))):=hid rfl;have b:Hid (v/4503599627370496%2048≠2047->nE v=true):=hid λh=>by rw[j.out,decide_eq_true (by omega),kvj]
 have d:Hid (v*4096%18446744073709551616=0->nE v=true):=hid λh=>by rw[j.out,decide_eq_true (by omega),kvj]
 have a:Hid (v/4503599627370496%2048=2047->¬ v*4096%18446744073709551616=0->nE v=(v==9221120237041090561)):=hid λh f=>by rw[j.out,decide_eq_false (by omega),kvp]
 have k:=uS (q:=v/4503599627370496) (by omega);have t:(v:Int)/4503599627370496=((v/4503599627370496:Nat):Int):=by omega
 have o:IntKind.u64.wrap ((v:Int)*4096)=((v*4096%18446744073709551616:Nat):Int):=by simp[IntKind.wrap,IntKind.bits,IntKind.signed]
 obtain⟨q,n⟩:=xq (v/4503599627370496);rw[n] at b a k t;obtain⟨r,l⟩:=xq (q%2048);rw[l] at b a k;obtain⟨m,g⟩:=xq (v*4096%18446744073709551616);rw[g] at d a o;have e3:((v:Int)==9221120237041090561)=(v==9221120237041090561):=by rw[kzr,kqx,kqx];omega
 clear n l g hv;by_cases c:r=2047
 .have p:((r:Int) != 2047)=false:=by rw[kqq];omega
  by_cases f:m=0
  .have i:=hid (d.out f);have s:((m:Int)==0)=true:=by rw[kqx];omega
   clear c f;go_enter func176,ntmps176;go_wp2;go_ret;exact⟨by rw[i.out];rfl,rfl⟩
  have i:=hid (a.out c f);have s:((m:Int)==0)=false:=by rw[kqi];omega
  clear c f;go_enter func176,ntmps176;go_wp2;go_ret;exact⟨by rw[i.out];rfl,rfl⟩
 have i:=hid (b.out c);have p:((r:Int) != 2047)=true:=by rw[kqt];omega
 clear c;go_enter func176,ntmps176;go_wp2;go_ret;exact⟨by rw[i.out];rfl,rfl⟩
def BR (no:Nat) (s:Sl):Prop:=0<=s.gen/\s.gen<=2147483647/\(s.used=false->s.at_=0)/\(s.used=true->0<s.gen/\0<=s.at_/\s.at_<(no:Int))
theorem Dc(TA OA SA:Option Addr)(n tc no oc ns sc:Nat)(s:Sl)(w:World)(h:BR no s):
 Calls prog 120 #[.agg #[.slice TA n tc,.slice OA no oc,.slice SA ns sc],.agg #[.int .i64 s.gen,.bool s.used,.int .i64 s.at_]] w λe w'=>e=.returned (.bool true)/\Below w.heap.size w w':=by
 obtain⟨g,u,a⟩:=s;obtain⟨i,j,c,b⟩:=h;dsimp only at i j c b |-;have f:=hid (((kql w.heap.size w).alloc (kqg _) (.cells #[.slice TA n tc,.slice OA no oc,.slice SA ns sc] 72)).alloc (by simp) (.cells #[.int .i64 g,.bool u,.int .i64 a] 52));cases u
 .have d:=c rfl;subst d;clear c b;go_enter func120,ntmps120;go_wp2;go_ret;exact⟨rfl,f.out⟩
 obtain⟨d,h6,h7⟩:=b rfl;clear c b;go_enter func120,ntmps120;go_wp2;go_ret;exact⟨rfl,f.out⟩
def yN (F:List Nat) (no:Nat) (fl:List Nat):Prop:=F.length=fl.length/\fl.length<=8/\∀i (hi:i<fl.length),fl[i]<18446744073709551616/\(F[i]? = some 2->nE fl[i]=true)/\(F[i]? = some 3->fl[i]<=no)
theorem vl(TA OA SA FA:Option Addr)(L:List Ty)(n tc no oc ns sc T fc:Nat)(fl:List Nat)(w:World)(hn:L.length=n)(hno:no<=960)(hT:T<L.length)(hok:yN L[T].l no fl)(hL:RdL w w.heap.size TA L)(hR:RdW w w.heap.size FA fl):
 Calls prog 119 #[.agg #[.slice TA n tc,.slice OA no oc,.slice SA ns sc],.agg #[.int .i64 (T:Int),.slice FA fl.length fc]] w λe w'=>e=.returned (.bool true)/\Below w.heap.size w w':=by
 have U:=(Bx.new w 72 #[.slice TA n tc,.slice OA no oc,.slice SA ns sc]).alloc (.cells #[.int .i64 (T:Int),.slice FA fl.length fc] 135);have N:=Bx.new (w.alloc (.cells #[.slice TA n tc,.slice OA no oc,.slice SA ns sc] 72)) 135 #[.int .i64 (T:Int),.slice FA fl.length fc];rw[kqn] at N;have o:=hid (((kql w.heap.size w).alloc (kqg _) (.cells #[.slice TA n tc,.slice OA no oc,.slice SA ns sc] 72)).alloc (by simp) (.cells #[.int .i64 (T:Int),.slice FA fl.length fc] 135));obtain⟨t,z,Ja,V,B⟩:=fE (hL.1.up o.out o.out.size) hT;have f:=(hL.2 _ (kqm hT)).up o.out o.out.size;have r:=hR.up o.out o.out.size;obtain⟨y,hy⟩:=xq (L[T]);rw[hy] at B f hok;obtain⟨O,yc,F⟩:=y;dsimp only at B f hok;obtain⟨p,Z,C⟩:=hok;have Jc:=hid C;subst Ja;rw[p] at B;obtain⟨b,q⟩:=xq fl.length;rw[q] at B U N o Z p f r;rw[q];have Y:=hid q;have Eq:=hid p;have hT0:(0:Int)<=(T:Int):=by omega
 have hT1:(T:Int)<(n:Int):=by omega
 have hT1n:T<n:=by omega
 obtain⟨p0,P,p2,-,-,-,-⟩:=U.c3;obtain⟨Q,q1,-,-,-⟩:=N.c2;have R:Hid (∀v,nE v=true->v<18446744073709551616->∀W,Calls prog 176 #[.int .u64 (v:Int)] W λe w'=>e=.returned (.bool true)/\W=w'):=hid λv h h2 W=>by
  have:=zG v W h2;rw[h] at this;exact this
 obtain⟨g,M⟩:∃g,(w.alloc (.cells #[.slice (some ⟨t,z,none⟩) n tc,.slice OA no oc,.slice SA ns sc] 72)).alloc (.cells #[.int .i64 (T:Int),.slice FA b fc] 135)=g:=⟨_,rfl⟩;rw[M] at o B f r p0 P p2 Q q1;have H:=hid f;have J:=hid r;have E:=hid (show (g.drew.cell? ⟨w.heap.size,0,none⟩=some (.slice (some ⟨t,z,none⟩) n tc)/\g.drew.cell? ⟨w.heap.size+1,0,none⟩=some (.int .i64 (T:Int))/\g.drew.cell? ⟨w.heap.size+1,1,none⟩=some (.slice FA b fc))/\g.drew.cell? ⟨t,z+T,none⟩=some (.slice O b yc) from ⟨⟨p0,Q,q1⟩,B⟩);clear hL hR hT hn hy p C q U N f r V;go_enter func119,ntmps119;go_wp2_with fail;refine kz6 (S:=λX:World=>(X.cell? ⟨w.heap.size,0,none⟩=some (.slice (some ⟨t,z,none⟩) n tc)/\X.cell? ⟨w.heap.size+1,0,none⟩=some (.int .i64 (T:Int))/\X.cell? ⟨w.heap.size+1,1,none⟩=some (.slice FA b fc))/\X.cell? ⟨t,z+T,none⟩=some (.slice O b yc)) (by kernel_rfl) E.out (λj=>?_);clear M;show wpAnyH _ _ _ _ _ 24 #[false,false,false,false,false,false,false,false,false,false,false,false,false,false,false,false,false,false,false,false,false,false,false,false] _ _;refine tj 0 (.pointer (some ⟨w.heap.size+1,0,none⟩)) ?_;simp only[Act.put,kqe,kqc,kqb,kqa,kqf,kqd];refine tj 1 (.int .i64 (T:Int)) ?_;simp only[Act.put,kqe,kqc,kqb,kqa,kqf,kqd];refine tj 2 (.bool false) ?_;simp only[Act.put,kqe,kqc,kqb,kqa,kqf,kqd];refine tj 3 (.bool false) ?_
 simp only[Act.put,kqe,kqc,kqb,kqa,kqf,kqd];refine tj 4 (.pointer (some ⟨w.heap.size+1,0,none⟩)) ?_;simp only[Act.put,kqe,kqc,kqb,kqa,kqf,kqd];refine tj 5 (.int .i64 (T:Int)) ?_;simp only[Act.put,kqe,kqc,kqb,kqa,kqf,kqd];refine tj 6 (.pointer (some ⟨w.heap.size,0,none⟩)) ?_;simp only[Act.put,kqe,kqc,kqb,kqa,kqf,kqd];refine tj 7 (.slice (some ⟨t,z,none⟩) n tc) ?_;simp only[Act.put,kqe,kqc,kqb,kqa,kqf,kqd];refine tj 8 (.int .i64 (n:Int)) ?_;simp only[Act.put,kqe,kqc,kqb,kqa,kqf,kqd];refine tj 9 (.bool false) ?_;simp only[Act.put,kqe,kqc,kqb,kqa,kqf,kqd];refine tj 10 (.bool false) ?_;simp only[Act.put,kqe,kqc,kqb,kqa,kqf,kqd];refine tj 11 (.bool false) ?_;simp only[Act.put,kqe,kqc,kqb,kqa,kqf,kqd];refine tj 12 (.pointer (some ⟨w.heap.size+1,1,none⟩)) ?_;simp only[Act.put,kqe,kqc,kqb,kqa,kqf,kqd];refine tj 13 (.slice FA b fc) ?_;simp only[Act.put,kqe,kqc,kqb,kqa,kqf,kqd];refine tj 14 (.int .i64 (b:Int)) ?_;simp only[Act.put,kqe,kqc,kqb,kqa,kqf,kqd];refine tj 15 (.pointer (some ⟨w.heap.size,0,none⟩)) ?_;simp only[Act.put,kqe,kqc,kqb,kqa,kqf,kqd];refine tj 16 (.slice (some ⟨t,z,none⟩) n tc) ?_;simp only[Act.put,kqe,kqc,kqb,kqa,kqf,kqd];refine tj 17 (.pointer (some ⟨w.heap.size+1,0,none⟩)) ?_;simp only[Act.put,kqe,kqc,kqb,kqa,kqf,kqd];refine tj 18 (.int .i64 (T:Int)) ?_;simp only[Act.put,kqe,kqc,kqb,kqa,kqf,kqd];refine tj 19 (.pointer (some ⟨t,z+T,none⟩)) ?_
 simp only[Act.put,kqe,kqc,kqb,kqa,kqf,kqd];refine tj 20 (.slice O b yc) ?_;simp only[Act.put,kqe,kqc,kqb,kqa,kqf,kqd];refine tj 21 (.int .i64 (b:Int)) ?_;simp only[Act.put,kqe,kqc,kqb,kqa,kqf,kqd];refine tj 22 (.bool false) ?_;simp only[Act.put,kqe,kqc,kqb,kqa,kqf,kqd];refine tj 23 (.bool false) ?_;simp only[Act.put,kqe,kqc,kqb,kqa,kqf,kqd];refine kx3 (by kernel_rfl) ?_ _;have G:=hid (show Below w.heap.size w g.drew from o.out.drew);have u:=hid (show RdY g.drew g.drew.heap.size O F from H.out);have x:=hid (show RdW g.drew g.drew.heap.size FA fl from J.out);have p1d:g.drew.cell? ⟨w.heap.size,1,none⟩=some (.slice OA no oc):=P;obtain⟨WD,I⟩:=xq g.drew;rw[I] at G u x j p1d |-;clear I E o H J;obtain⟨⟨p0',q0',q1'⟩,r0'⟩:=j;clear p0 P p2 Q q1 B;go_wp2_with fail;go_loopw [39] (λvi wr=>∃i:Nat,i<=b/\vi=.int .i64 i/\WD=wr) (λi _=>b-(intOf i).toNat)
 case atStart=>exact⟨0,kqy _,rfl,rfl⟩
 obtain⟨i,hi,rfl,Jb⟩:=hrel;subst Jb;by_cases m:i<b
 .have D:i<F.length:=by rw[Eq.out];exact m
  have K:i<fl.length:=by rw[Y.out];exact m
  obtain⟨gy,oy,rfl,hgy,y0⟩:=RdY.at_ u.out D;obtain⟨gf,of,rfl,hgf,v0⟩:=RdW.at_ x.out K;obtain⟨a,d,c⟩:=Jc.out i K;rw[kqj D] at d c;obtain⟨k,hk⟩:=xq (F[i]);obtain⟨v,hv⟩:=xq (fl[i]);rw[hk] at y0 d c;rw[hv] at v0 a d c;have hi0:(0:Int)<=(i:Int):=by omega
  have hi1:(i:Int)<(b:Int):=by omega
  clear hk hv;by_cases s:k=2
  .subst s;have HM:=hid (R.out v (d rfl) a);clear d c a;go_wp2_with fail;refine (HM.out _).mono ?_;rintro e w1' ⟨rfl,rfl⟩;go_wp2;go_roundw
   case rel=>exact⟨i+1,by omega,by go_num,trivial⟩
   case measure=>simp[intOf];omega
  have e2:((k:Int)==2)=false:=by rw[kqi];omega
  have e2n:(k==2)=false:=by rw[kqi];exact s
  by_cases A:k=3
  .subst A;have hvn:=c rfl;have wno:IntKind.u64.wrap (no:Int)=(no:Int):=kzs _ (by omega);have hd:decide ((no:Int)<(v:Int))=false:=by rw[kqh];omega
   have hdn:decide (no<v)=false:=by rw[kqh];omega
   clear d c a s e2 e2n;go_wp2;go_roundw
   case rel=>exact⟨i+1,by omega,by go_num,trivial⟩
   case measure=>simp[intOf];omega
  have e3:((k:Int)==3)=false:=by rw[kqi];omega
  have e3n:(k==3)=false:=by rw[kqi];exact A
  clear d c a s A;go_wp2;go_roundw
  case rel=>exact⟨i+1,by omega,by go_num,trivial⟩
  case measure=>simp[intOf];omega
 have hkd:decide ((i:Int)<(b:Int))=false:=by rw[kqh];omega
 have hkn:decide (i<b)=false:=by rw[kqh];exact m
 go_wp2;go_ret;exact⟨rfl,G.out⟩
structure MdOk (m:Md):Prop where
 t8:m.types.length<=8
 tk:∀F∈m.types,b8 F=0
 o9:m.objs.length<=960
 s16:m.slots.length=16
 ob:∀o∈m.objs,∃(T:Nat) (F:List Nat),o.typ=(T:Int)/\m.types[T]? = some F/\yN F m.objs.length o.fl
 sl:∀s∈m.slots,BR m.objs.length s
theorem BB(v:Value)(m:Md)(w:World)(h:qh w v m)(hok:MdOk m):
 Calls prog 71 #[v] w λe w'=>e=.returned (.int .i64 0)/\Below w.heap.size w w':=by
 obtain⟨P,Z,L,OA,oc,O,M,sc,rfl,a1,a2,a3,a4,a5⟩:=h;have lT:L.length<=8:=by have:=congrArg List.length a4;rw[kqs] at this;have:=hok.t8;omega
 have lO:O.length=m.objs.length:=by have:=congrArg List.length a5;rw[kqs] at this;omega
 have r:=hok.s16;have K:=hok.o9;rw[r];have Jk:Hid (∀k (p:k<L.length),b8 L[k].l=0):=hid λk p=>hok.tk _ (by rw[<-a4];exact kz9 (kqm p));have Jb:Hid (∀k (p:k<O.length),∃T:Nat,O[k].typ=(T:Int)/\∃h:T<L.length,yN L[T].l m.objs.length O[k].l):=hid λk p=>by
  obtain⟨T,F,h1,D,h3⟩:=hok.ob _ (by rw[<-a5];exact kz9 (kqm p));rw[<-a4,kzh] at D;cases hq:L[T]? with
  | none=>rw[hq] at D;cases D
  | some y =>rw[hq] at D;obtain⟨hT,e⟩:=kq7.1 hq;simp only[kzk,Option.some.injEq] at D;refine⟨T,h1,hT,?_⟩;rw[e,D];exact h3
 have Jf:Hid (∀k (p:k<m.slots.length),BR m.objs.length m.slots[k]):=hid λk p=>by
  exact hok.sl _ (kqm p)
 rw[<-lO] at K;have Q:=hid (Bx.new w 72 #[.slice P L.length Z,.slice OA O.length oc,.slice M 16 sc]);have a:=hid ((kql w.heap.size w).alloc (kqg _) (.cells #[.slice P L.length Z,.slice OA O.length oc,.slice M 16 sc] 72));have HT:=hid a1;have HO:=hid a2;have HS:=hid a3;have Jd:=hid r;obtain⟨n,hn⟩:=xq O.length;obtain⟨t,o⟩:=xq L.length;have HN:=hid hn;have Ji:=hid o;rw[hn,o] at Q a;have S:m.objs.length=n:=by omega
 rw[S] at Jb Jf;rw[hn] at K;rw[o] at lT;rw[hn,o];have U:=hid (λ(T fc:Nat) (FA:Option Addr) (fl:List Nat) W (hT:T<L.length) (h1:yN L[T].l n fl) (D:RdL W W.heap.size P L) (h3:RdW W W.heap.size FA fl)=>vl P OA M FA L t Z n oc 16 sc T fc fl W o K hT h1 D h3);have Ja:=hid (λ(s:Sl) W (h:BR n s)=>Dc P OA M t Z n oc 16 sc s W h);obtain⟨J,E,A,-,-,-,-⟩:=Q.out.c3;have Jl:decide ((8:Int)<(t:Int))=false:=by rw[kqh];omega
 have Y:decide (8<t)=false:=by rw[kqh];omega
 have Jh:decide ((960:Int)<(n:Int))=false:=by rw[kqh];omega
 have X:decide (960<n)=false:=by rw[kqh];omega
 clear a1 a2 a3 a4 a5 hok r hn o lO S;go_enter func71,ntmps71;go_wp2_with fail;obtain⟨N,Jg⟩:=xq (w.alloc (.cells #[.slice P t Z,.slice OA n oc,.slice M 16 sc] 72));rw[Jg] at Q a J E A |-;clear Jg Jl Y Jh X;go_loopw [26] (λvi wr=>∃k:Nat,k<=t/\vi=.int .i64 k/\N=wr) (λi _=>t-(intOf i).toNat)
 case atStart=>exact⟨0,kqy _,rfl,rfl⟩
 obtain⟨k,p,rfl,Jm⟩:=hrel;subst Jm;by_cases d:k<t
 .have c:k<L.length:=by rw[Ji.out];exact d
  obtain⟨g1,o1,rfl,Eq,r0⟩:=fE (HT.out.1.up a.out a.out.size) c;have u:=(HT.out.2 _ (kqm c)).up a.out a.out.size;have b:=Jk.out k c;obtain⟨y,hy⟩:=xq (L[k]);rw[hy] at r0 u b;obtain⟨yA,yc,F⟩:=y;dsimp only at r0 u b;have hf8:F.length<=8:=by
   unfold b8 at b;split at b
   .cases b
   omega
  have HC:=hid (qe yA F yc F.length _ N rfl (by omega) u);rw[b] at HC;have Je:(0:Int)<=(k:Int):=by omega
  have Jc:(k:Int)<(t:Int):=by omega
  clear hy u b;go_wp2_with fail;refine HC.out.mono ?_;rintro e w1' ⟨rfl,rfl⟩;go_wp2;go_roundw
  case rel=>exact⟨k+1,by omega,by go_num,trivial⟩
  case measure=>simp[intOf];omega
 have b:decide ((k:Int)<(t:Int))=false:=by rw[kqh];omega
 have I:decide (k<t)=false:=by rw[kqh];exact d
 clear d p;go_wp2_with fail;clear b I J E A;go_loopw [37] (λvi wr=>∃k:Nat,k<=n/\vi=.int .i64 k/\Below N.heap.size N wr) (λi _=>n-(intOf i).toNat)
 case atStart=>exact⟨0,kqy _,rfl,kql _ _⟩
 obtain⟨k,p,rfl,g⟩:=hrel;have hz:=g.size;have R:=hid g;have XQ:=hid (Q.out.up g Q.out.lt);by_cases d:k<n
 .have c:k<O.length:=by rw[HN.out];exact d
  have f:=hid (a.out.trans (g.mono a.out.size));obtain⟨g1,o1,rfl,Eq,r0,r1⟩:=(HO.out.up f.out f.out.size).at_ c;have C:=HO.out.2 _ (kqm c);obtain⟨T,eT,Jn,z⟩:=Jb.out k c;obtain⟨x,hx⟩:=xq (O[k]);rw[hx] at r0 r1 C eT z;obtain⟨xt,xA,xc,xl⟩:=x;dsimp only at r0 r1 C eT z;subst eT;have B:=hid (f.out.alloc f.out.size (.cells #[.int .i64 (T:Int),.slice xA xl.length xc] 135));have HQ:=hid (U.out T xc xA xl _ Jn z (HT.out.up B.out B.out.size) (C.up B.out B.out.size));have j:=hid (g.alloc hz (.cells #[.int .i64 (T:Int),.slice xA xl.length xc] 135));obtain⟨J,E,A,-,-,-,-⟩:=(XQ.out.alloc (.cells #[.int .i64 (T:Int),.slice xA xl.length xc] 135)).c3;have Je:(0:Int)<=(k:Int):=by omega
  have Jc:(k:Int)<(n:Int):=by omega
  clear hx C z g;go_wp2_with fail;refine HQ.out.mono ?_;rintro e w5 ⟨rfl,q⟩;have H:=hid (j.out.trans (q.mono j.out.size));clear q J E A;go_wp2;go_roundw
  case rel=>exact⟨k+1,by omega,by go_num,H.out⟩
  case measure=>simp[intOf];omega
 have b:decide ((k:Int)<(n:Int))=false:=by rw[kqh];omega
 have I:decide (k<n)=false:=by rw[kqh];exact d
 obtain⟨-,-,A,-,-,-,-⟩:=XQ.out.c3;clear d p g;go_wp2_with fail;clear b I A;obtain⟨W1,V⟩:=xq wr;rw[V] at R XQ hz |-;clear V;go_loopw [49] (λvi wr=>∃k:Nat,k<=16/\vi=.int .i64 k/\Below W1.heap.size W1 wr) (λi _=>16-(intOf i).toNat)
 case atStart=>exact⟨0,by omega,rfl,kql _ _⟩
 obtain⟨k,p,rfl,g⟩:=hrel;have hz:=g.size;by_cases d:k<16
 .have c:k<m.slots.length:=by rw[Jd.out];exact d
  have f:=hid ((a.out.trans (R.out.mono a.out.size)).trans (g.mono (kza a.out.size R.out.size)));obtain⟨g1,o1,rfl,Eq,s0,s1,s2⟩:=RdS.at_ (show RdS wr wr.heap.size M m.slots from Rd.up HS.out f.out f.out.size) c;have G:=Jf.out k c;obtain⟨x,hx⟩:=xq (m.slots[k]);rw[hx] at s0 s1 s2 G;have j:=hid (g.alloc hz (.cells #[.int .i64 x.gen,.bool x.used,.int .i64 x.at_] 52));have HQ:=hid (Ja.out x (wr.alloc (.cells #[.int .i64 x.gen,.bool x.used,.int .i64 x.at_] 52)) G);obtain⟨J,E,A,-,-,-,-⟩:=((XQ.out.up g XQ.out.lt).alloc (.cells #[.int .i64 x.gen,.bool x.used,.int .i64 x.at_] 52)).c3;obtain⟨xg,xu,xa⟩:=x;dsimp only at s0 s1 s2 j HQ J E A;have Je:(0:Int)<=(k:Int):=by omega
  have Jc:(k:Int)<16:=by omega
  clear hx G g;go_wp2_with fail;refine HQ.out.mono ?_;rintro e w5 ⟨rfl,q⟩;have H:=hid (j.out.trans (q.mono j.out.size));clear q J E A;go_wp2;go_roundw
  case rel=>exact⟨k+1,by omega,by go_num,H.out⟩
  case measure=>simp[intOf];omega
 obtain rfl:k=16:=by omega
 have b:decide ((16:Int)<16)=false:=by decide
 have Jj:=hid ((a.out.trans (R.out.mono a.out.size)).trans (g.mono (kza a.out.size R.out.size)));clear g;go_wp2;go_ret;exact⟨rfl,Jj.out⟩
open Go.RowKit Go.Maps
theorem AZ:(prog.info? 135).map (λi=>(i.zero,i.size,i.bytes))=some (some (.agg #[.int .i64 0,.slice none 0 0]),2,32):=by kernel_rfl
def vF (w:World) (H:Nat) (v:Value) (L:List Oj):Prop:=w.ownsRow H 135 2 v L.length (L.flatMap Oj.cells)/\∀x∈L,w.ownsRow H 53 1 (.slice x.A x.l.length x.c) x.l.length (x.l.flatMap ai)
theorem vF.grown{row:Option Nat}(h:vF w H v L)(hg:w.grownBy w' row)(hr:∀r,row=some r->r<H):vF w' H v L:=by
 have a:∀ {e:TypeId} {sz n:Nat} {u:Value} {xs:List Value},w.ownsRow H e sz u n xs->w'.ownsRow H e sz u n xs:=λ{e sz n u xs} c=>aU c hg (by
  cases d:u.ownBlock with
  | none=>exact .inl rfl
  | some b =>
   right;intro f;have:=(c.lt b d).1;have:=hr b f.symm;omega)
 exact⟨a h.1,λx g=>a (h.2 x g)⟩
theorem vF.below{B:Nat}(h:vF w H v L)(hb:Below B w w')(hB:w.heap.size<=B):vF w' H v L:=⟨aj h.1 hb hB,λx a=>aj (h.2 x a) hb hB⟩
theorem fM(w:World)(p:Addr)(u:Value):w.grownBy (w.setCell p u) (some p.block):=by
 refine⟨?_,?_,?_,by rw[kxw];exact kqg _,λr _ a=>kka w p u r (λh=>a (by rw[h]))⟩
 all_goals
  have h:=((kql p.block w).setCell (kqg _) u:Below p.block w (w.setCell p u))
  first | exact h.os | exact h.tape | exact h.output
theorem Fg(A:Option Addr)(ws:List Nat)(c n t:Nat)(w:World)(hn:ws.length=n)(hm:n<=9223372036854775807)(hc:n<=c)(L0:Lay ws t)(hr:RdW w w.heap.size A ws)(ho:∀x∈ws,x<18446744073709551616):
 Calls prog 33 #[.slice A n c] w λe w'=>(∃v,e=.returned (.tuple #[v,.int .i64 0])/\qh w' v (mdl ws t))/\Below w.heap.size w w':=by
 subst hn;have hs:=L0.size;have hb:=(ac _).1 hs;have Ms:ir ws=0:=by unfold ir;rw[if_pos hs,L0.ty];rfl
 have Sw:=m9 L0.ty;have Ln:=hid (λW (h:RdW W W.heap.size A ws)=>mM A ws c ws.length W rfl hm hc h ho);rw[na L0] at Ln;have Jp:=hid (λW (h:RdW W W.heap.size A ws)=>tZ A ws c ws.length W rfl hm hc h);unfold vW at Jp;rw[Ms,L0.ty] at Jp;simp only[kq2] at Jp;have Kh:=hid (λW (h:RdW W W.heap.size A ws)=>uo A ws c ws.length t W rfl hs Sw h ho);unfold Dn at Kh;rw[L0.tys] at Kh;simp only[if_true] at Kh;have Ko:=hid (λW (h:RdW W W.heap.size A ws)=>Bw A ws c ws.length W rfl hm h ho);unfold yE at Ko;obtain⟨e1,-⟩:=gI L0.size L0.sls;rw[e1] at Ko;have Kn:=hid (λW (h:RdW W W.heap.size A ws)=>sI A ws c ws.length W rfl hm h ho);unfold oB at Kn;rw[(CZ L0).1,(CZ L0).2] at Kn;have X0:=hid (Bx.new w 72 #[.slice none 0 0,.slice none 0 0,.slice none 0 0]);have Kf:=hid ((kql w.heap.size w).alloc (kqg _) (.cells #[.slice none 0 0,.slice none 0 0,.slice none 0 0] 72));obtain⟨bw,ow,rfl,hbw,-⟩:=RdW.at_ hr (show 0<ws.length by omega);have HR:=hid hr;have Sb:=hid hc;have Qk:=@run_makeMap prog;clear hr hc hs Ms e1;go_enter func33,ntmps33;go_wp2_with fail;refine (Ln.out _ (HR.out.up Kf.out Kf.out.size)).mono ?_;rintro e w1 ⟨rfl,Lf⟩;have R:=hid (Kf.out.trans (Lf.mono Kf.out.size));have X1:=hid (X0.out.up Lf X0.out.lt);clear Lf X0 Kf
 go_wp2_with fail;refine (Jp.out _ (HR.out.up R.out R.out.size)).mono ?_;rintro e w2 ⟨⟨sw,b0,b1,rfl⟩,Ls⟩;have Ju:=R.out.trans (Ls.mono R.out.size);have Kj:=hid ((Ju.alloc Ju.size (.cells #[.int .i64 sw,.int .i64 (t:Int)] 126)).alloc (kza Ju.size (by simp)) (.cells #[.bool b0,.bool b1] 127));have X2:=hid (((X1.out.up Ls X1.out.lt).alloc (.cells #[.int .i64 sw,.int .i64 (t:Int)] 126)).alloc (.cells #[.bool b0,.bool b1] 127));obtain⟨-,t1,-,-,tl⟩:=((Bx.new w2 126 #[.int .i64 sw,.int .i64 (t:Int)]).alloc (.cells #[.bool b0,.bool b1] 127)).c2;clear Ju Ls X1 R;go_wp2_with fail;refine (Kh.out _ (HR.out.up Kj.out Kj.out.size)).mono ?_;rintro e w3 ⟨⟨TB,tm,td,L,rfl,hT⟩,Ky⟩;obtain⟨rfl,Lk,Mv⟩:=hT trivial;have Jz:=hid (Kj.out.trans (Ky.mono Kj.out.size));have X3:=hid (X2.out.up Ky X2.out.lt);have T3:=hid (RdL.of_own Lk rfl);have OT3:=hid Lk;have Nz:=X2.out.lt;have Li:=hid Mv;clear hT Ky X2 Kj t1 tl Lk Mv;go_wp2_with fail;refine (Ko.out _ (HR.out.up Jz.out Jz.out.size)).mono ?_;rintro e w4 ⟨hh,Ji⟩;obtain⟨C,rfl,Lq,Mj⟩:=hh.1 trivial;have Jq:=hid (Jz.out.trans (Ji.mono Jz.out.size));have X4:=hid (X3.out.up Ji X3.out.lt);have T4:=hid (T3.out.up Ji Ji.size);have S4:=hid Mj;have hgs4:w.heap.size<C:=kxv X3.out.lt Lq;have hgs3:w3.heap.size<=C:=Lq;have Ku:=hid Ji
 clear hh Ji X3 Jz Mj Lq T3;go_wp2_with fail;refine (Kn.out _ (HR.out.up Jq.out Jq.out.size)).mono ?_;rintro e d ⟨⟨AW,cW,rfl,Js⟩,Jc⟩;have Jj:=hid (Jq.out.trans (Jc.mono Jq.out.size));have X5:=hid (X4.out.up Jc X4.out.lt);have T5:=hid (T4.out.up Jc Jc.size);have S5:=hid (S4.out.up Jc S4.out.lt);have Kt:=hid (Ku.out.trans (Jc.mono Ku.out.size));have W5:=hid (show RdB d d.heap.size AW (aa ws) from Rd.of_own Js);clear Jc X4 Jq S4 T4 Js;go_wp2_with fail;have g6:=(Bx.new d 72 #[.slice TB L.length td,.slice none 0 0,.slice (some ⟨C,0,none⟩) 16 16]).alloc (Obj.map #[] 0);have m6:=World.ownsMap_made (H:=Unit) (d.alloc (.cells #[.slice TB L.length td,.slice none 0 0,.slice (some ⟨C,0,none⟩) 16 16] 72)) prog 3 (plainElem prog 3);have b6:=((kql d.heap.size d).alloc (kqg _) (.cells #[.slice TB L.length td,.slice none 0 0,.slice (some ⟨C,0,none⟩) 16 16] 72)).alloc (by simp) (Obj.map #[] 0);rw[kqn] at m6;have Lj:((d.alloc (.cells #[.slice TB L.length td,.slice none 0 0,.slice (some ⟨C,0,none⟩) 16 16] 72)).alloc (Obj.map #[] 0)).heap.size=d.heap.size+1+1:=by simp
 obtain⟨W6,Mw⟩:∃W,(d.alloc (.cells #[.slice TB L.length td,.slice none 0 0,.slice (some ⟨C,0,none⟩) 16 16] 72)).alloc (Obj.map #[] 0)=W:=⟨_,rfl⟩;rw[Mw] at g6 m6 b6 Lj |-;have G6:=hid g6;have M6:=hid m6;have B6:=hid b6;have Qz:=hid Lj;have Qj:(aa ws).length<=1024:=fe ws;have hb48:ws.length<=2048:=by omega
 have Na:Hid (∀k (hk:k<(aa ws).length),∃ka:Nat,(aa ws)[k].at_=(ka:Int)/\ka<=2048):=hid λk hk=>by
  obtain⟨a,e,a1,a2,a3,-⟩:=bH _ _ (eY L0.hp).2.2.2 (by omega) k hk;exact⟨a,by rw[e];rfl,by omega⟩
 have Lg:=hid (λk (hk:k<(aa ws).length)=>ni hk);have Y:=hid (λk (hk:k<(aa ws).length) h1=>zN hk h1);have Mu:=hid (zn L0.hp);have Qa:Hid (∀k,k<=(objs (aa ws)).length->Maps.size (ry (adO ws) k)=k):=hid λk hk=>yv Mu.out (by unfold adO;rw[kqs];exact hk);have Ke:=hid L0;have HO:=hid ho;obtain⟨m,Ki⟩:=xq ((aa ws).length);have HM:=hid Ki;rw[Ki] at Qj |-;clear Mw g6 m6 b6 Lj Ln Jp Kh Ko Kn Qk L0 ho hb hm Ki;go_wp2_with fail;go_loopw [60] (λi wr=>∃k:Nat,k<=m/\i=.int .i64 k/\Hid (wr.ownsMap prog 3 (plainElem prog 3) (d.heap.size+1) (objs ((aa ws).take k)).length (ry (adO ws) (objs ((aa ws).take k)).length))/\Hid (Bx wr d.heap.size 72 #[.slice TB L.length td,.slice none 0 0,.slice (some ⟨C,0,none⟩) 16 16])/\Hid (Below d.heap.size d wr)) (λi _=>m-(intOf i).toNat)
 case atStart=>exact⟨0,kqy _,rfl,M6,G6,B6⟩
 obtain⟨k,hk,rfl,M,G,B⟩:=hrel;have hz:=B.out.size;by_cases Jm:k<m
 .have Ja:k<(aa ws).length:=by rw[HM.out];exact Jm
  obtain⟨b,off,rfl,Qo,p0,p1,p2,p3,p4,p5⟩:=RdB.at_ (Rd.below W5.out B.out) Ja;have s:=Lg.out k Ja;have Jn:=Y.out k Ja;obtain⟨ka,Lc,hka2⟩:=Na.out k Ja;have Nx:(objs ((aa ws).take k)).length<=k:=by unfold objs;have:=kxi (λb:Bk=>b.kind==1) ((aa ws).take k);rw[kq6] at this;omega
  obtain⟨x,o⟩:=xq ((aa ws)[k]);rw[o] at p0 p1 p2 p3 p4 p5 s Jn Lc;obtain⟨xa,xs,xk,xt,N,J⟩:=x;dsimp only at p0 p1 p2 p3 p4 p5 s Jn Lc;subst Lc;obtain⟨q,hq⟩:=xq ((objs ((aa ws).take k)).length);rw[hq] at M Jn Nx;have Ql:(k:Int)<(m:Int):=by omega
  have St:(0:Int)<=(k:Int):=by omega
  have R:=hid (B.out.alloc hz (.cells #[.int .i64 (ka:Int),.int .i64 xs,.int .i64 xk,.int .i64 xt,.bool N,.int .u64 (J:Int)] 55));have Kk:=hid (M.out.alloc (.cells #[.int .i64 (ka:Int),.int .i64 xs,.int .i64 xk,.int .i64 xt,.bool N,.int .u64 (J:Int)] 55));have Jd:=hid (G.out.alloc (.cells #[.int .i64 (ka:Int),.int .i64 xs,.int .i64 xk,.int .i64 xt,.bool N,.int .u64 (J:Int)] 55));by_cases z:xk=1
  .subst z;rw[if_pos rfl] at s;have La:=Jn rfl;have So:q<(objs (aa ws)).length:=(kq7.1 La).1;have Su:Hid (ry (adO ws) (q+1)=(ry (adO ws) q).put (.int .i64 (ka:Int)) (.lit (.int .i64 (q:Int)))):=hid (by simp only[ry,adO,kzh,La];rfl);have Lh:Hid ((objs ((aa ws).take (k+1))).length=q+1):=hid (by rw[s,kqw,hq];rfl);have HZ:=hid (Qa.out q (by omega));have Nn:(Lit.int .i64 (ka:Int)).wf=true:=by simp[Lit.wf,IntKind.min,IntKind.max,IntKind.signed,IntKind.bits];omega
   have Me:(Lit.int .i64 (q:Int)).wf=true:=by simp[Lit.wf,IntKind.min,IntKind.max,IntKind.signed,IntKind.bits];omega
   have HK:=hid (keyOf_int_mk (P:=prog) underlying3 Nn);have HV:=hid (plainElem_int (H:=Unit) (P:=prog) underlying3 Me);clear o s Jn hq La So Nn Me;have Mt:=Kk.out.len underlying132 3;rw[HZ.out] at Mt;go_wp2_with (first
    | (at_mapUpdate;refine wpList_mapUpdate_own _ rfl _ _ _ 132 rfl 3 3 rp underlying132 _ (d.heap.size+1) _ _ rfl Kk.out (by unfold maxLen;omega) _ _ _ rfl rfl HK.out (.lit (.int .i64 (q:Int))) [] HV.out ?_;intro w7 Kg Ll))
   have Qp:=hid (R.out.grown Ll R.out.size (λk hk=>by injection hk with hk;omega));have Qh:=hid (Jd.out.grown Ll (by simp));have Sa:=hid Kg;clear Ll Kg;go_wp2;go_roundw
   case rel=>exact⟨k+1,by omega,by go_num,by rw[Lh.out,Su.out];exact Sa,Qh,Qp⟩
   case measure=>simp[intOf];omega
  have Lh:Hid ((objs ((aa ws).take (k+1))).length=q):=hid (by rw[s,if_neg z,kz1];exact hq);have e1:(xk==1)=false:=by rw[kqi];exact z
  clear o s Jn hq z;go_wp2;go_roundw
  case rel=>exact⟨k+1,by omega,by go_num,by rw[Lh.out];exact Kk,Jd,R⟩
  case measure=>simp[intOf];omega
 obtain rfl:m=k:=by omega
 have hE:objs ((aa ws).take m)=objs (aa ws):=by rw[<-HM.out,kz2]
 rw[hE] at M;have hkd:decide ((m:Int)<(m:Int))=false:=by rw[kqh];omega
 have hkn:decide (m<m)=false:=by rw[kqh];exact Jm
 have Qf:=M.out.lt;have M7:=M;have G7:=G;have B7:=B;clear hE Jm M G B M6 G6 B6 Qz Na Qa Mu hk hz;obtain⟨w7,Kb⟩:=xq wr;rw[Kb] at M7 G7 B7 Qf |-;clear Kb;have Lw:Hid (L.length=t/\∀T (h:T<L.length),(eB ws t 8)[T]? = some L[T].l):=hid ⟨by
  have:=congrArg List.length Li.out;rw[kqs,jZ] at this;omega,λT h=>by rw[<-Li.out,kzh,kqj h];rfl⟩
 have Nu:=hid (λk (hk:k<(aa ws).length) h1=>Ke.out.objK hk h1);obtain⟨i2,hi,Lv,Qg,Mb⟩:=kzt AZ;have HJ:=hid hi;have Sv:=hid Lv;have Qu:=hid Qg;have Qx:=hid Mb;clear hi Lv Qg Mb;go_wp2_with fail;go_loopw [75] (λi wr=>∃(k:Nat) (OA:Option Addr) (oc:Nat) (O:List Oj),k<=m/\i=.int .i64 k/\Hid (O.map Oj.ob=(objs ((aa ws).take k)).map λb=>obM ws (objs (aa ws)) b.at_.toNat)/\Hid (wr.ownsMap prog 3 (plainElem prog 3) (d.heap.size+1) (objs (aa ws)).length (ry (adO ws) (objs (aa ws)).length))/\Hid (Bx wr d.heap.size 72 #[.slice TB L.length td,.slice OA O.length oc,.slice (some ⟨C,0,none⟩) 16 16])/\Hid (vF wr w7.heap.size (.slice OA O.length oc) O)/\Hid (Below d.heap.size d wr)/\w7.heap.size<=wr.heap.size) (λi _=>m-(intOf i).toNat)
 case atStart=>exact⟨0,none,0,[],kqy _,rfl,hid rfl,M7,G7,hid ⟨kq3 _ _ _ _,λx o=>absurd o (by simp)⟩,B7,kqg _⟩
 obtain⟨k,OA,oc,O,hk,rfl,Jv,M,G,ON,B,Lb⟩:=hrel;have hz:=B.out.size;by_cases Jm:k<m
 .have Ja:k<(aa ws).length:=by rw[HM.out];exact Jm
  obtain⟨b,off,rfl,Qo,p0,p1,p2,p3,p4,p5⟩:=RdB.at_ (Rd.below W5.out B.out) Ja;have s:=Lg.out k Ja;have Ql:(k:Int)<(m:Int):=by omega
  have St:(0:Int)<=(k:Int):=by omega
  by_cases z:(aa ws)[k].kind=1
  .obtain ⟨a,T,ek,Jh,eT,Se,Mg,Ly,Mh,Kv⟩:=Nu.out k Ja z;rw[if_pos z] at s;obtain⟨Sm,Np⟩:=Lw.out;have Km:T<L.length:=by omega
   have Jl:=Np T Km;rw[Mg] at Jl;injection Jl with Jl;obtain⟨g1,o1,Sn,Jb,r0⟩:=fE (T5.out.1.below B.out) Km;have Lx:=(T5.out.2 _ (kqm Km)).below B.out;subst Sn;obtain⟨y,hy⟩:=xq (L[T]);rw[hy] at r0 Lx Jl;obtain⟨yA,yc,yl⟩:=y;dsimp only at r0 Lx Jl;subst Jl;have My:(aa ws)[k].typ=(T:Int):=by rw[ek];exact eT
   have Qb:(aa ws)[k].at_=(a:Int):=by rw[ek];rfl
   rw[Qb] at p0;rw[z] at p2;rw[My] at p3;obtain⟨xs,Ma⟩:=xq ((aa ws)[k].size);obtain⟨N,Mm⟩:=xq ((aa ws)[k].mark);obtain⟨J,Nv⟩:=xq ((aa ws)[k].next);rw[Ma] at p1;rw[Mm] at p4;rw[Nv] at p5;obtain⟨g,Jk⟩:=xq ((flds ws a).length);rw[Jk] at r0 Ly Mh;have Sh:g=g:=rfl;obtain⟨p,hp⟩:=xq (a+2);have wap:IntKind.i64.wrap ((a:Int)+2)=(p:Int):=by rw[kqr _ (by omega)];omega
   have eap:(a:Int)+2=(p:Int):=by omega
   have wpp:IntKind.i64.wrap (p:Int)=(p:Int):=kqr _ (by omega);have Mi:p+g<=c:=by have:=Sb.out;omega
   obtain⟨e,he⟩:=xq (p+g);have epe:(p:Int)+(g:Int)=(e:Int):=by omega
   have wee:IntKind.i64.wrap (e:Int)=(e:Int):=kqr _ (by omega);have Nb:(p:Int)<=(e:Int):=by omega
   have Mn:(e:Int)<=(c:Int):=by omega
   have Ni:p<=e:=by omega
   have Ns:e<=c:=by omega
   have Sc:e-p=g:=by omega
   have Ng:=hid Mi;have hnp:g<=8:=Mh;have hT0:(0:Int)<=(T:Int):=by omega
   have hT1:(T:Int)<(L.length:Int):=by omega
   have Mo:=hid (show (ws.drop p).take g=fdP ws (objs (aa ws)) (flds ws a) a 0 by rw[<-hp,<-Jk];exact zT (by rw[Jk];omega));have Ny:Hid (∀i,(fdP ws (objs (aa ws)) (flds ws a) a i).length=g):=hid λi=>by rw[sV,Jk]
   have Ld:Hid (∀W:World,RdW W W.heap.size (some ⟨bw,ow,none⟩) ws->RdW W W.heap.size (if c=p then some ⟨bw,ow,none⟩ else some ⟨bw,ow+p,none⟩) (fdP ws (objs (aa ws)) (flds ws a) a 0)):=hid λW h=>by
    rw[<-Mo.out];by_cases Qy:c=p
    .have:g=0:=by have:=Ng.out;omega
     rw[this,kvl];exact Rd.nil_
    rw[if_neg Qy];have h2:=Rd.from_ h p;have h3:RdW W W.heap.size (some ⟨bw,ow+p,none⟩) (ws.drop p):=by unfold RdW;rw[Bb ai 1 (λ_=>rfl),kxn];exact h2
    unfold RdW;rw[jY ai 1 (λ_=>rfl)];exact Rd.take_ h3 _
   have Qe:=hid (λAS cS W (h:RdW W W.heap.size AS (fdP ws (objs (aa ws)) (flds ws a) a 0))=>ug AS _ cS g W (Ny.out 0) (by omega) h);have Nc:=B.out.alloc hz (.cells #[.int .i64 (a:Int),.int .i64 xs,.int .i64 1,.int .i64 (T:Int),.bool N,.int .u64 (J:Int)] 55);have Jy:=hid Nc.drew;have XD:=hid (show Bx (wr.alloc (.cells #[.int .i64 (a:Int),.int .i64 xs,.int .i64 1,.int .i64 (T:Int),.bool N,.int .u64 (J:Int)] 55)).drew wr.heap.size 55 #[.int .i64 (a:Int),.int .i64 xs,.int .i64 1,.int .i64 (T:Int),.bool N,.int .u64 (J:Int)] from Bx.new wr 55 #[.int .i64 (a:Int),.int .i64 xs,.int .i64 1,.int .i64 (T:Int),.bool N,.int .u64 (J:Int)]);have MD:=hid (show (wr.alloc (.cells #[.int .i64 (a:Int),.int .i64 xs,.int .i64 1,.int .i64 (T:Int),.bool N,.int .u64 (J:Int)] 55)).drew.ownsMap prog 3 (plainElem prog 3) (d.heap.size+1) (objs (aa ws)).length (ry (adO ws) (objs (aa ws)).length) from M.out.alloc (.cells #[.int .i64 (a:Int),.int .i64 xs,.int .i64 1,.int .i64 (T:Int),.bool N,.int .u64 (J:Int)] 55))
   have GD:=hid (show Bx (wr.alloc (.cells #[.int .i64 (a:Int),.int .i64 xs,.int .i64 1,.int .i64 (T:Int),.bool N,.int .u64 (J:Int)] 55)).drew d.heap.size 72 #[.slice (some ⟨g1,o1,none⟩) L.length td,.slice OA O.length oc,.slice (some ⟨C,0,none⟩) 16 16] from G.out.alloc (.cells #[.int .i64 (a:Int),.int .i64 xs,.int .i64 1,.int .i64 (T:Int),.bool N,.int .u64 (J:Int)] 55));have OD:=hid (show vF (wr.alloc (.cells #[.int .i64 (a:Int),.int .i64 xs,.int .i64 1,.int .i64 (T:Int),.bool N,.int .u64 (J:Int)] 55)).drew w7.heap.size (.slice OA O.length oc) O from ⟨ON.out.1.alloc (.cells #[.int .i64 (a:Int),.int .i64 xs,.int .i64 1,.int .i64 (T:Int),.bool N,.int .u64 (J:Int)] 55),λx o=>(ON.out.2 x o).alloc (.cells #[.int .i64 (a:Int),.int .i64 xs,.int .i64 1,.int .i64 (T:Int),.bool N,.int .u64 (J:Int)] 55)⟩);have Jg:w7.heap.size<=(wr.alloc (.cells #[.int .i64 (a:Int),.int .i64 xs,.int .i64 1,.int .i64 (T:Int),.bool N,.int .u64 (J:Int)] 55)).drew.heap.size:=bM Lb;have r0D:(wr.alloc (.cells #[.int .i64 (a:Int),.int .i64 xs,.int .i64 1,.int .i64 (T:Int),.bool N,.int .u64 (J:Int)] 55)).drew.cell? ⟨g1,o1+T,none⟩=some (.slice yA g yc):=(kq4 wr (.cells #[.int .i64 (a:Int),.int .i64 xs,.int .i64 1,.int .i64 (T:Int),.bool N,.int .u64 (J:Int)] 55) ⟨g1,o1+T,none⟩ (show g1<wr.heap.size by omega)).trans r0
   obtain⟨x0,-,-,x3,-,-,-,xl⟩:=XD.out.c6;have Mp:=hid (And.intro x0 (And.intro x3 r0D));have Qv:Hid (∀W:World,Below d.heap.size d W->RdY W d.heap.size yA (flds ws a)):=hid λW h=>by
    have h2:=(T5.out.2 _ (kqm Km)).below h;rw[hy] at h2;exact h2
   have Sj:Hid (∀W:World,Below d.heap.size d W->RdW W W.heap.size (some ⟨bw,ow,none⟩) ws):=hid λW h=>HR.out.up (Jj.out.trans (h.mono Jj.out.size)) (kza Jj.out.size h.size);have Lu:=hid (show objs ((aa ws).take (k+1))=objs ((aa ws).take k)++[bkAt ws a] by rw[s,ek]);have Sk:=hid Kv;clear My Qb ek s z Ma Mm Nv Mg Kv Nc x0 x3 r0D eT Se Ly Sh M G ON hy Sm Km he Mi hp Np;go_wp2_with fail;obtain⟨WD,Qd⟩:∃W,(wr.alloc (.cells #[.int .i64 (a:Int),.int .i64 xs,.int .i64 1,.int .i64 (T:Int),.bool N,.int .u64 (J:Int)] 55)).drew=W:=⟨_,rfl⟩;refine kz6 (S:=λX:World=>X.cell? ⟨wr.heap.size,0,none⟩=some (.int .i64 (a:Int))/\X.cell? ⟨wr.heap.size,3,none⟩=some (.int .i64 (T:Int))/\X.cell? ⟨g1,o1+T,none⟩=some (.slice yA g yc)) (by kernel_rfl) Mp.out (λD=>?_);rw[Qd] at Jy XD MD GD OD Jg xl D |-;clear Qd Mp p0 p1 p2 p3 p4 p5;show wpAnyH _ _ _ _ _ 17 #[false,false,false,false,false,false,false,false,false,false,false,false,false,false,false,false,false] _ _;refine tj 0 (.slice (some ⟨bw,ow,none⟩) ws.length c) ?_;simp only[Act.put,kqe,kqc,kqb,kqa,kqf,kqd];refine tj 1 (.pointer (some ⟨wr.heap.size,0,none⟩)) ?_;simp only[Act.put,kqe,kqc,kqb,kqa,kqf,kqd];refine tj 2 (.int .i64 (a:Int)) ?_;simp only[Act.put,kqe,kqc,kqb,kqa,kqf,kqd];refine tj 3 (.int .i64 (p:Int)) ?_;simp only[Act.put,kqe,kqc,kqb,kqa,kqf,kqd];refine tj 4 (.pointer (some ⟨wr.heap.size,0,none⟩)) ?_
   simp only[Act.put,kqe,kqc,kqb,kqa,kqf,kqd];refine tj 5 (.int .i64 (a:Int)) ?_;simp only[Act.put,kqe,kqc,kqb,kqa,kqf,kqd];refine tj 6 (.int .i64 (p:Int)) ?_;simp only[Act.put,kqe,kqc,kqb,kqa,kqf,kqd];refine tj 7 (.slice (some ⟨g1,o1,none⟩) L.length td) ?_;simp only[Act.put,kqe,kqc,kqb,kqa,kqf,kqd];refine tj 8 (.pointer (some ⟨wr.heap.size,3,none⟩)) ?_;simp only[Act.put,kqe,kqc,kqb,kqa,kqf,kqd];refine tj 9 (.int .i64 (T:Int)) ?_;simp only[Act.put,kqe,kqc,kqb,kqa,kqf,kqd];refine tj 10 (.pointer (some ⟨g1,o1+T,none⟩)) ?_;simp only[Act.put,kqe,kqc,kqb,kqa,kqf,kqd];refine tj 11 (.slice yA g yc) ?_;simp only[Act.put,kqe,kqc,kqb,kqa,kqf,kqd];refine tj 12 (.int .i64 (g:Int)) ?_;simp only[Act.put,kqe,kqc,kqb,kqa,kqf,kqd];refine tj 13 (.int .i64 (e:Int)) ?_;simp only[Act.put,kqe,kqc,kqb,kqa,kqf,kqd];refine tj 14 (.slice (if c=p then some ⟨bw,ow,none⟩ else some ⟨bw,ow+p,none⟩) g (c-p)) ?_;simp only[Act.put,kqe,kqc,kqb,kqa,kqf,kqd];obtain⟨AS,Nl⟩:∃AS,(if c=p then some (⟨bw,ow,none⟩:Addr) else some ⟨bw,ow+p,none⟩)=AS:=⟨_,rfl⟩;rw[Nl] at Ld |-;clear Nl;(try simp only[kqa,kqf,kqd]);refine kxr (rs:=[15]) (by kernel_rfl) (by simp) ?_;refine AllReadyH.cons rfl (λK hK=>?_) AllReadyH.nil;go_simp;refine (Qe.out AS (c-p) WD (Ld.out WD (Sj.out WD Jy.out))).mono ?_;rintro e8 w8 ⟨⟨FA,fc,rfl,Kl⟩,I⟩;go_simp;have Kw:g1<WD.heap.size:=by omega
   refine hK.out _ _ ⟨(I.cell (p:=⟨wr.heap.size,0,none⟩) xl).trans D.1,(I.cell (p:=⟨wr.heap.size,3,none⟩) xl).trans D.2.1,(I.cell (p:=⟨g1,o1+T,none⟩) Kw).trans D.2.2⟩ (λhT=>?_);clear hK K;(try dsimp only[Act.put,kqe,kqc,kqb,kqa,kqf,kqd]);have Nm:=hid (Jy.out.trans (I.mono Jy.out.size));have X8:=hid (XD.out.up I xl);have M8:=hid (bV MD.out (I.block _ MD.out.lt));have G8:=hid (GD.out.up I GD.out.lt);have O8:=hid (OD.out.below I (kqg _));have F8:=hid Kl;have hz8:=I.size;have r8:=(I.cell (p:=⟨g1,o1+T,none⟩) Kw).trans D.2.2;have RY8:=hid (Qv.out w8 Nm.out);have Sf:=hid I;have HDZ:=hid (kza Jg (kqg _));clear Kl I D XD MD GD Jy Qe Ld Mo;refine tj 16 (.slice FA g fc) ?_;simp only[Act.put,kqe,kqc,kqb,kqa,kqf,kqd];refine kx3 (by kernel_rfl) ?_ _;obtain⟨-,-,-,x3,-,-,-,xl8⟩:=X8.out.c6;clear hT wap eap wpp epe wee Nb Mn Ni Ns Sc Ng;go_wp2_with fail;go_loopw [104] (λvi wq=>∃i:Nat,i<=g/\vi=.int .i64 i/\Hid (wq.ownsRow WD.heap.size 53 1 (.slice FA g fc) g ((fdP ws (objs (aa ws)) (flds ws a) a i).flatMap ai))/\Hid (Below WD.heap.size w8 wq)) (λi _=>g-(intOf i).toNat)
   case atStart=>exact⟨0,kqy _,rfl,F8,hid (kql _ _)⟩
   obtain⟨i,hi,rfl,HF,V⟩:=hrel;by_cases E:i<g
   .have Jr:i<(flds ws a).length:=by rw[Jk];exact E
    obtain⟨gF,fc2,Nk⟩:=kA HF.out (by omega);simp only[Value.slice.injEq] at Nk;obtain⟨rfl,-,rfl⟩:=Nk;obtain⟨gy,oy,rfl,hgy,y0⟩:=RdY.at_ (Rd.below RY8.out (V.out.mono (show d.heap.size<=WD.heap.size by omega))) Jr;obtain⟨Mf,Nw⟩:=E8 (ws:=ws) (O:=objs (aa ws)) (F:=flds ws a) (a:=a) Jr;have c0:=(HF.out.cellAt i (by omega)).trans (mu _ i Mf);rw[Nw] at c0;have f0:=HF.out.frozenAt i;have Qm:=lX HF.out;have Nf:wd ws (a+2+i)<18446744073709551616:=by
     unfold wd;cases hq:ws[a+2+i]? with
     | none=>decide
     | some v=>exact HO.out v (List.mem_of_getElem? hq)
    have Qs:Hid (∀v,(flds ws a)[i]=v->(flds ws a)[i]? = some v):=hid λv h=>by rw[kqj Jr,h]
    have Jt:=hid (λh=>C1 (ws:=ws) (O:=objs (aa ws)) (F:=flds ws a) (a:=a) (k:=i) Jr h);have Sg:=hid (yO (ws:=ws) (O:=objs (aa ws)) (F:=flds ws a) (a:=a) (k:=i) Jr);have Nr:=hid (λh1 h2=>Ke.out.fld (a:=a) (i:=i) Jh h1 h2);have Lr:=hid (λh=>EN (ws:=ws) (a:=a) (i:=i) h);have Mq:=hid (bV M8.out (V.out.block _ (show d.heap.size+1<WD.heap.size by omega)));have Qw:=hid (λv (h:cb ws v)=>tR Ke.out.hp h Mq.out);have Sp:Hid (∀v,cb ws v->v<ws.length):=hid λv h=>h.2.2.1;obtain⟨f,hf⟩:=xq ((flds ws a)[i]);rw[hf] at y0;obtain⟨v,hv⟩:=xq (wd ws (a+2+i));rw[hv] at c0 Nf Jt Nr Lr;have Ka:=Qs.out f hf;have Sr:(0:Int)<=(i:Int):=by omega
    have Qr:(i:Int)<(g:Int):=by omega
    clear Mf Nw hf hv;by_cases Kq:f=3
    .subst Kq;by_cases Kc:v=0
     .have HN:=hid (Jt.out (Lr.out (λh=>h.2 Kc)));subst Kc;clear Ka;go_wp2;go_roundw
      case rel=>exact⟨i+1,by omega,by go_num,by rw[HN.out];exact HF,V⟩
      case measure=>simp[intOf];omega
     obtain⟨Lp,Nj⟩:=Nr.out Ka Kc;obtain⟨Lt,Kd⟩:=Qw.out v Lp;have Kr:=Sg.out;rw[Nj] at Kr;obtain⟨j,hj⟩:∃j,l8 (objs (aa ws)) (v:Int)=j:=⟨_,rfl⟩;rw[hj] at Kd Kr Lt;have hvl:=Sp.out v Lp;have hol:(objs (aa ws)).length<=1024:=by have:=pF (aa ws);have:=fe ws;omega
     have Mx:=hid Kr;have ev0:((v:Int) != 0)=true:=by rw[kqt];omega
     have ev0n:(v != 0)=true:=by rw[kqt];exact Kc
     have wv:IntKind.i64.wrap (v:Int)=(v:Int):=kqr _ (by omega);have wj:IntKind.u64.wrap (j:Int)=(j:Int):=kzs _ (by omega);have wj1:IntKind.u64.wrap ((j:Int)+1)=(j:Int)+1:=kzs _ (by omega);clear Ka Lp Nj Kr hj Kc Nf;go_wp2;go_roundw
     case rel =>
      refine⟨i+1,by omega,by go_num,?_,hid (V.out.setCell (p:=⟨gF,i,none⟩) Qm _)⟩;refine hid ?_;rw[<-Mx.out,jV];exact (HF.out.stored i (.int .u64 ((j:Int)+1))).1
     case measure=>simp[intOf];omega
    have HN:=hid (Jt.out (Lr.out (λh=>Kq (by rw[Ka] at h;injection h.1))));have e1:((f:Int)==3)=false:=by rw[kqi];omega
    have e1n:(f==3)=false:=by rw[kqi];exact Kq
    clear Ka Kq;go_wp2;go_roundw
    case rel=>exact⟨i+1,by omega,by go_num,by rw[HN.out];exact HF,V⟩
    case measure=>simp[intOf];omega
   obtain rfl:g=i:=by omega
   have hid2:decide ((g:Int)<(g:Int))=false:=by rw[kqh];omega
   have hid3:decide (g<g)=false:=by rw[kqh];exact E
   have Qq:O.length<=1024:=by have e:=congrArg List.length Jv.out;rw[kqs,kqs] at e;have h2:=pF ((aa ws).take k);rw[kq6] at h2;omega
   have XQ:=X8.out.up V.out xl;have GQ:=hid (G8.out.up V.out (show d.heap.size<WD.heap.size by omega));have MQ:=hid (bV M8.out (V.out.block _ (show d.heap.size+1<WD.heap.size by omega)));have OQ:=hid (OD.out.below (Sf.out.trans (V.out.mono (kqg _))) (kqg _));have BQ:=hid (Nm.out.trans (V.out.mono (show d.heap.size<=WD.heap.size by omega)));have hzq:=V.out.size;have hszq:w7.heap.size<=wr.heap.size:=by omega
   have Qt:=hid (show fdP ws (objs (aa ws)) (flds ws a) a g=(obM ws (objs (aa ws)) a).fl by rw[<-Jk];exact Gf ws _ a);have Mr:=hid (Ny.out g);obtain⟨q,hq⟩:=xq O.length;obtain⟨-,-,-,x3,-,-,-,xlq⟩:=XQ.c6;obtain⟨-,gq1,-,-,gf,-,glq⟩:=GQ.out.c3;have Qc:=hid hq;rw[hq] at gq1 Qq;have Y:=hid OQ.out.1;rw[hq] at Y;have Z:d.heap.size<w7.heap.size:=by omega
   clear XQ hq;go_wp2_with (at_builtin;refine kzn _ rfl _ _ 70 rfl w7.heap.size 135 i2 _ 2 32 underlying70 HJ.out Sv.out Qu.out Qx.out rfl (by decide) _ _ _ rfl (Y.out.alloc _) ⟨_,0,none⟩ 1 1 [.int .i64 (T:Int),.slice FA g fc] rfl rfl (bY _ _ _) (by simp[Value.oneCell']) (by unfold maxLen;omega) (by omega) (by simp;omega) ?_;intro v1 w9 Je Jb _;obtain⟨OV,oc2,rfl⟩:=aE Je;have Nt:=aY Y.out Z;have Lz:=aY Y.out Qf;have Nd:=aw BQ.out BQ.out.size (aB Y.out (kjq Z)) Jb;have G9:=hid ((GQ.out.alloc _).grown Jb Nt);have M9:=hid ((MQ.out.alloc _).kept Jb Lz);have O9:=hid (λx o=>aU ((OQ.out.2 x o).alloc _) Jb (eQ (OQ.out.2 x o) Y.out (by decide)));have F9:=hid (aU (HF.out.alloc _) Jb (eQ HF.out Y.out (by decide)));have B9:=hid Nd;have N9:=hid Je;have Ss:=Jb.size;obtain⟨-,gq9,-,-,gf9,-,glq9⟩:=G9.out.c3;clear Je Jb Nt Lz Nd);have Ml:d.heap.size+1≠d.heap.size:=by omega
   have G10:=hid (G9.out.set_ 1 (.slice OV (q+1) oc2));have M10:=hid (M9.out.setCell (a:=⟨d.heap.size,1,none⟩) Ml (.slice OV (q+1) oc2));have B10:=hid (B9.out.setCell (p:=⟨d.heap.size,1,none⟩) (kqg _) (.slice OV (q+1) oc2));have n10:=(aY N9.out Z).symm;have N10:=hid (ar (p:=⟨d.heap.size,1,none⟩) N9.out n10 (.slice OV (q+1) oc2));have O10:=hid (λx o=>ar (p:=⟨d.heap.size,1,none⟩) (O9.out x o) (aY (O9.out x o) Z).symm (.slice OV (q+1) oc2));have F10:=hid (ar (p:=⟨d.heap.size,1,none⟩) (aB F9.out Jg) (aY (aB F9.out Jg) Z).symm (.slice OV (q+1) oc2));have Lm:w7.heap.size<=(w9.setCell ⟨d.heap.size,1,none⟩ (.slice OV (q+1) oc2)).heap.size:=by rw[kxw];have:=Ss;rw[kqn] at this;omega
   go_roundw
   case rel =>
    refine⟨k+1,OV,oc2,O++[⟨(T:Int),FA,fc,fdP ws (objs (aa ws)) (flds ws a) a g⟩],by omega,by go_num,?_,M10,?_,?_,B10,Lm⟩
    .refine hid ?_;rw[Lu.out,kxa,kxa,Jv.out];congr 1;show [(⟨(T:Int),fdP ws (objs (aa ws)) (flds ws a) a g⟩:Ob)]=[obM ws (objs (aa ws)) (bkAt ws a).at_.toNat];rw[ab,kqk,Qt.out,<-Sk.out]
    .refine hid ?_;rw[kqw,Qc.out];exact G10.out
    refine hid ⟨?_,λx o=>?_⟩
    .rw[kqw,Qc.out,kxl];have h2:=N10.out;show World.ownsRow _ _ _ _ _ _ (_++[.int .i64 (T:Int),.slice FA (fdP ws (objs (aa ws)) (flds ws a) a g).length fc]);rw[Mr.out];exact h2
    rcases kzo.1 o with o|o
    .exact O10.out x o
    rw[kq1] at o;subst o;dsimp only;rw[Mr.out];exact F10.out
   case measure=>simp[intOf];omega
  rw[if_neg z,kz1] at s;have Lu:=hid s;obtain⟨x,o⟩:=xq ((aa ws)[k]);rw[o] at p0 p1 p2 p3 p4 p5 z;obtain⟨xa,xs,xk,xt,N,J⟩:=x;dsimp only at p0 p1 p2 p3 p4 p5 z;have e1:(xk != 1)=true:=by rw[kqt];exact z
  have R:=hid (B.out.alloc hz (.cells #[.int .i64 xa,.int .i64 xs,.int .i64 xk,.int .i64 xt,.bool N,.int .u64 (J:Int)] 55));have Kk:=hid (M.out.alloc (.cells #[.int .i64 xa,.int .i64 xs,.int .i64 xk,.int .i64 xt,.bool N,.int .u64 (J:Int)] 55));have Jd:=hid (G.out.alloc (.cells #[.int .i64 xa,.int .i64 xs,.int .i64 xk,.int .i64 xt,.bool N,.int .u64 (J:Int)] 55));have Sd:Hid (vF (wr.alloc (.cells #[.int .i64 xa,.int .i64 xs,.int .i64 xk,.int .i64 xt,.bool N,.int .u64 (J:Int)] 55)) w7.heap.size (.slice OA O.length oc) O):=hid ⟨ON.out.1.alloc _,λx o=>(ON.out.2 x o).alloc _⟩;have Kp:=hid (show w7.heap.size<=(wr.alloc (.cells #[.int .i64 xa,.int .i64 xs,.int .i64 xk,.int .i64 xt,.bool N,.int .u64 (J:Int)] 55)).heap.size from bM Lb);clear o s z;go_wp2;go_roundw
  case rel=>exact⟨k+1,OA,oc,O,by omega,by go_num,by rw[Lu.out];exact Jv,Kk,Jd,Sd,R,Kp.out⟩
  case measure=>simp[intOf];omega
 obtain rfl:m=k:=by omega
 have hE:objs ((aa ws).take m)=objs (aa ws):=by rw[<-HM.out,kz2]
 rw[hE] at Jv;have Nh:C<d.heap.size:=S5.out.lt;have S9:=hid (S5.out.up B.out Nh);have Z:d.heap.size<w7.heap.size:=by omega
 obtain⟨w9,No⟩:=xq wr;rw[No] at M G ON B S9 |-;clear No hE Jm hk Lb hz M7 G7 B7 Nu Lw Lg Y;obtain⟨-,-,g2,-⟩:=G.out.c3;have Sq:Hid (∀i,i<16->(slP ws i)[i]? = some (slAt ws i)):=hid λi hi=>by
  obtain⟨h1,h2⟩:=BG (ws:=ws) hi;rw[kqj h1,h2]
 have Mz:=hid (λi (hi:i<16) hu=>EB (ws:=ws) hi hu);have Si:=hid (λi (hi:i<16) j hm hu=>ym (ws:=ws) (k:=i) (j:=j) hi hm hu);have Jt:=hid (λi (hi:i<16) hu=>Ke.out.slotM hi hu);have S9:Hid (Bx w9 C 118 ((slP ws 0).flatMap Sl.cells).toArray):=hid (by rw[AX];exact S9.out);go_wp2_with fail;go_loopw [144] (λvi wq=>∃i:Nat,i<=16/\vi=.int .i64 i/\Hid (Bx wq C 118 ((slP ws i).flatMap Sl.cells).toArray)/\Hid (w9.grownBy wq (some C))) (λi _=>16-(intOf i).toNat)
 case atStart=>exact⟨0,by omega,rfl,S9,hid (World.grownBy.refl _ _)⟩
 obtain⟨i,hi,rfl,HS,HG⟩:=hrel;by_cases E:i<16
 .have Nq:i<(slP ws i).length:=by rw[pS];exact E
  obtain⟨b2,o2,hA,Ju,s0,s1,s2⟩:=RdS.at_ (show RdS wr wr.heap.size (some ⟨C,0,none⟩) (slP ws i) from by
   have:=Rd.of_box HS.out HS.out.lt;exact this) Nq
  simp only[Option.some.injEq,Addr.mk.injEq,and_true] at hA;obtain⟨rfl,rfl⟩:=hA;have Jo:=Sq.out i E;rw[kqj Nq] at Jo;injection Jo with Jo;rw[Jo] at s0 s1 s2;simp only[kxm] at s0 s1 s2;have Eq:=Mz.out i E;have Q:=Si.out i E;have U:=Jt.out i E;have Sr:(0:Int)<=(i:Int):=by omega
  have Qr:(i:Int)<16:=by omega
  have GQ:=hid (G.out.grown HG.out (show some d.heap.size≠some C by intro h;injection h with h;omega));have MQ:=hid (M.out.kept HG.out (show some (d.heap.size+1)≠some C by intro h;injection h with h;omega));obtain⟨u,hu⟩:=xq ((slAt ws i).used);obtain⟨gn,Kx⟩:=xq ((slAt ws i).gen);rw[hu] at s1 Eq Q U;rw[Kx] at s0 Q U;obtain⟨-,-,gq2,-,-,-,glt⟩:=GQ.out.c3;cases u
  .have HN:=hid (Eq rfl);obtain⟨at_,Mc⟩:=xq ((slAt ws i).at_);rw[Mc] at s2;have Kp:=hid (HS.out.alloc (.cells #[.int .i64 gn,.bool false,.int .i64 at_] 52));have Jd:=hid (HG.out.trans (kxf wr (.cells #[.int .i64 gn,.bool false,.int .i64 at_] 52) (some C)));clear Eq Q U hu Kx Mc Jo;go_wp2;go_roundw
   case rel=>exact⟨i+1,by omega,by go_num,by rw[HN.out];exact Kp,Jd⟩
   case measure=>simp[intOf];omega
  obtain⟨a,ha,Jh,Kz⟩:=U rfl;rw[ha] at s2;obtain⟨Lt,Kd⟩:=tR Ke.out.hp Jh (show (wr.alloc (.cells #[.int .i64 gn,.bool true,.int .i64 (a:Int)] 52)).ownsMap _ _ _ _ _ _ from MQ.out.alloc _);obtain⟨j,hj⟩:∃j,l8 (objs (aa ws)) (a:Int)=j:=⟨_,rfl⟩;rw[hj] at Kd Kz;have HC:=hid (Q (j:Int) Kz rfl);have Le:=HS.out.alloc (.cells #[.int .i64 gn,.bool true,.int .i64 (a:Int)] 52);have Kp:=hid Le;have Jd:=hid (HG.out.trans (kxf wr (.cells #[.int .i64 gn,.bool true,.int .i64 (a:Int)] 52) (some C)));have c2:(wr.alloc (.cells #[.int .i64 gn,.bool true,.int .i64 (a:Int)] 52)).cell? ⟨C,i*3+2,none⟩=some (.int .i64 (a:Int)):=(kq4 wr _ ⟨C,i*3+2,none⟩ HS.out.lt).trans s2;have f2:=Le.frozen (i*3+2);obtain⟨-,-,gq3,-⟩:=(GQ.out.alloc (.cells #[.int .i64 gn,.bool true,.int .i64 (a:Int)] 52)).c3;clear Eq Q U hu Kx ha Jh Kz Lt hj Le Jo;go_wp2;go_roundw
  case rel =>
   refine⟨i+1,by omega,by go_num,?_,hid ((HG.out.trans (fM wr ⟨C,i*3+2,none⟩ _)).trans (kxf _ _ (some C)))⟩;refine hid ?_;rw[<-HC.out];exact (HS.out.set_ (i*3+2) _).alloc _
  case measure=>simp[intOf];omega
 obtain rfl:i=16:=by omega
 have hkd16:decide ((16:Int)<16)=false:=by decide
 have B9:=Jj.out.trans (B.out.mono Jj.out.size);have BQ:=hid (B9.grown HG.out B9.size (λr hr=>by injection hr with hr;omega));have XQ:=hid ((X5.out.up B.out X5.out.lt).grown HG.out (show some w.heap.size≠some C by intro h;injection h with h;omega));have GQ:=hid (G.out.grown HG.out (show some d.heap.size≠some C by intro h;injection h with h;omega));have OQ:=hid (ON.out.grown HG.out (λr hr=>by injection hr with hr;omega));have Ks:=Kt.out.trans (B.out.mono Kt.out.size);have Jw:∀ {e:TypeId} {sz n H:Nat} {u:Value} {xs:List Value},w3.ownsRow H e sz u n xs->wr.ownsRow H e sz u n xs:=λ{e sz n H u xs} h=>aU (aj h Ks (kqg _)) HG.out (by
  cases hq:u.ownBlock with
  | none=>exact .inl rfl
  | some b =>
   right;intro e2;injection e2 with e2;have:=(h.lt b hq).2;omega)
 have TQ:=hid (And.intro (Jw OT3.out.1) (λx o=>Jw (OT3.out.2 x o)));have Qn:=hid (show ((slP ws 16).flatMap Sl.cells)=(mdl ws t).slots.flatMap Sl.cells by rw[Bf ws t]);have Qi:Hid ((mdl ws t).slots.length=16):=hid (by rw[<-Bf ws t,pS]);obtain⟨x0,x1,x2,xf0,xf1,xf2,xl⟩:=XQ.out.c3;obtain⟨g0,g1,g2',-,-,-,-⟩:=GQ.out.c3;clear g2 B9 Ks Jw;go_wp2_with fail;refine kqv (v:=.tuple #[.agg #[.slice TB L.length td,.slice OA O.length oc,.slice (some ⟨C,0,none⟩) 16 16],.int .i64 0]) (by simp[results,results33,go_sem,x0,x1,x2]) rfl ?_;have Jf:∀ {e:TypeId} {sz n H:Nat} {v a0 a1 a2:Value} {xs:List Value},wr.ownsRow H e sz v n xs->w.heap.size<H->(((wr.setCell ⟨w.heap.size,0,none⟩ a0).setCell ⟨w.heap.size,1,none⟩ a1).setCell ⟨w.heap.size,2,none⟩ a2).ownsRow H e sz v n xs:=λ{e sz n H v a0 a1 a2 xs} h hH=>ar (p:=⟨w.heap.size,2,none⟩) (ar (p:=⟨w.heap.size,1,none⟩) (ar (p:=⟨w.heap.size,0,none⟩) h (aY h hH).symm _) (aY h hH).symm _) (aY h hH).symm _;have Kb:w.heap.size<w7.heap.size:=by have:=Jj.out.size;omega
 refine⟨⟨_,rfl,TB,td,L,OA,oc,O,some ⟨C,0,none⟩,16,by rw[Qi.out],?_,?_,?_,Li.out,Jv.out⟩,((BQ.out.setCell (p:=⟨w.heap.size,0,none⟩) (kqg _) _).setCell (p:=⟨w.heap.size,1,none⟩) (kqg _) _).setCell (p:=⟨w.heap.size,2,none⟩) (kqg _) _⟩
 .exact ⟨Rd.of_own (Jf TQ.out.1 Nz),λx o=>Rd.of_own (Jf (TQ.out.2 x o) Nz)⟩
 .exact ⟨Rd.of_own (Jf OQ.out.1 Kb),λx o=>Rd.of_own (Jf (OQ.out.2 x o) Kb)⟩
 have Lo:C≠w.heap.size:=by omega
 have hS:=((HS.out.far (p:=⟨w.heap.size,0,none⟩) Lo (.slice TB L.length td)).far (p:=⟨w.heap.size,1,none⟩) Lo (.slice OA O.length oc)).far (p:=⟨w.heap.size,2,none⟩) Lo (.slice (some ⟨C,0,none⟩) 16 16);have h2:=Rd.of_box hS hS.lt;rw[Qn.out] at h2;exact h2
theorem EX(A:Option Addr)(ws:List Nat)(c n t a:Nat)(w:World)(hn:ws.length=n)(hm:n<=9223372036854775807)(L0:Lay ws t)(hob:cb ws a)(hr:RdW w w.heap.size A ws)(ho:∀x∈ws,x<18446744073709551616):
 Calls prog 32 #[.slice A n c,.int .i64 (a:Int)] w λe w'=>e=.returned (.tuple #[blkV (bkAt ws a),.int .i64 0])/\Below w.heap.size w w':=by
 have d:=hid (λW (h:RdW W W.heap.size A ws)=>wAll_c A ws c n W hn hm h ho);unfold Ik at d;rw[(CZ L0).1,(CZ L0).2] at d;obtain⟨-,-,-,-,-,-,K,hK,Z,-⟩:=hob;have s:=(bG L0.hp).2;have J:Hid (∀k,k<K->∀hk:k<(aa ws).length,(aa ws)[k].at_≠(a:Int)):=hid λk hk Jd e=>by
  rw[kzf] at s;have:=s k K Jd hK hk;rw[e,Z,ab] at this;omega
 have u:=fe ws;obtain⟨l,T⟩:=xq (aa ws);obtain⟨x,R⟩:=xq (bkAt ws a);have Jc:Hid (x.at_=(a:Int)):=hid (by rw[<-R];rfl);have Jb:K<l.length:=by rw[<-T];exact hK
 have E:l[K]=x:=by rw[<-R,<-Z];congr 1<;>exact T.symm
 rw[T] at d J u;rw[R];have Y:=hid E;have HR:=hid hr;have V:=hid (Bx.new w 55 #[.int .i64 0,.int .i64 0,.int .i64 0,.int .i64 0,.bool false,.int .u64 0]);have f:=hid ((kql w.heap.size w).alloc (kqg _) (.cells #[.int .i64 0,.int .i64 0,.int .i64 0,.int .i64 0,.bool false,.int .u64 0] 55));obtain⟨m,o⟩:=xq l.length;have HM:=hid o;rw[o] at d u Jb;have D:=mh;clear hr ho hn hm L0 hK Z s T R E o;obtain⟨qa,z,M,I,L,B⟩:=x;have Ja:qa=(a:Int):=Jc.out;subst Ja;unfold blkV;dsimp only;go_enter func32,ntmps32;go_wp2_with fail;refine (d.out _ (HR.out.up f.out f.out.size)).mono ?_;rintro e w1 ⟨⟨LB,dL,rfl,F,-⟩,q⟩;have p:=hid (f.out.trans (q.mono f.out.size));have X1:=hid (V.out.up q V.out.lt);have L1:=hid F;have X:=X1.out.lt;clear q F V f;go_wp2_with fail;go_loopw [21] (λi wr=>∃k:Nat,k<=K/\i=.int .i64 k/\Below w1.heap.size w1 wr) (λi _=>m-(intOf i).toNat)
 case atStart=>exact⟨0,kqy _,rfl,kql _ _⟩
 obtain⟨k,hk,rfl,j⟩:=hrel;have hz:=j.size;have H:k<l.length:=by rw[HM.out];omega
 obtain⟨b,off,rfl,hbb,S,N,O,P,Q,U⟩:=RdB.at_ (Rd.below L1.out j) H;have hki:(k:Int)<(m:Int):=by omega
 have hk0:(0:Int)<=(k:Int):=by omega
 have HB:=hid j;by_cases Eq:k<K
 .have g:=J.out k Eq H;obtain⟨y,hy⟩:=xq (l[k]);rw[hy] at S N O P Q U g;obtain⟨xa,xs,xk,xt,xm,xn⟩:=y;dsimp only at S N O P Q U g;have e1:(xa==(a:Int))=false:=by rw[kqi];exact g
  have r:=hid (j.alloc hz (.cells #[.int .i64 xa,.int .i64 xs,.int .i64 xk,.int .i64 xt,.bool xm,.int .u64 (xn:Int)] 55));clear hy g j;go_wp2;go_roundw
  case rel=>exact⟨k+1,by omega,by go_num,r.out⟩
  case measure=>simp[intOf];omega
 obtain rfl:k=K:=by omega
 rw[Y.out] at S N O P Q U;dsimp only at S N O P Q U;have XN:=hid (Bx.new wr 55 #[.int .i64 (a:Int),.int .i64 z,.int .i64 M,.int .i64 I,.bool L,.int .u64 (B:Int)]);have XR:=hid ((X1.out.up j X).alloc (.cells #[.int .i64 (a:Int),.int .i64 z,.int .i64 M,.int .i64 I,.bool L,.int .u64 (B:Int)] 55));have r:=hid ((p.out.trans (j.mono p.out.size)).alloc (kza p.out.size hz) (.cells #[.int .i64 (a:Int),.int .i64 z,.int .i64 M,.int .i64 I,.bool L,.int .u64 (B:Int)] 55));clear j;go_wp2_with (first
  | ((with_reducible refine gX 55 (.tmp 9) ?_);refine kja rfl _ _ rfl wr.heap.size (by rfl) 55 _ (0,0) _ XN.out underlying55 (by rfl) D ?_)
  | ((with_reducible refine bt 55 (.tmp 4) _ ?_);refine am rfl _ _ _ rfl w.heap.size 55 #[.int .i64 0,.int .i64 0,.int .i64 0,.int .i64 0,.bool false,.int .u64 0] #[.int .i64 (a:Int),.int .i64 z,.int .i64 M,.int .i64 I,.bool L,.int .u64 (B:Int)] (by rfl) (by rfl) XR.out rfl D (mC _ _ _ _ _ _) ?_;intro w3 G C;have Je:=hid G;have Jf:=hid C;clear G C))
 exact kqv (v:=.tuple #[.agg #[.int .i64 (a:Int),.int .i64 z,.int .i64 M,.int .i64 I,.bool L,.int .u64 (B:Int)],.int .i64 0]) (aL results32 _ Je.out rfl rfl) rfl ⟨rfl,Jf.out.below r.out (kqg _)⟩
end Go.Proofs.YtpcajamacpbjcaaGreat
