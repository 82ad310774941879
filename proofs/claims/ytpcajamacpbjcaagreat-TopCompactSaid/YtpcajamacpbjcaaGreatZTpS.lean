/- TopCompact: the effort that all changes take together. -/
import Derived.Test.YtpcajamacpbjcaaGreatZDeQ
import Derived.Test.YtpcajamacpbjcaaGreatZDeP
import Derived.Test.YtpcajamacpbjcaaGreatZKEff
set_option maxHeartbeats 16000000
set_option maxRecDepth 100000
set_option linter.all false
namespace Go.Proofs.YtpcajamacpbjcaaGreat
open Lib (hid)
open Go.RowKit
open Go.Proofs.Tryz
structure SdRel (w:World) (g5 g7 g9:Nat) (M:List (List Int)) (s f q:Int) (k:Nat) (wr:World):Prop where
 below:Below w.heap.size w wr
 x:Bx wr g5 61 #[.int .i64 s,.int .i64 f,.int .i64 q]
 y:Bx wr g7 61 #[.int .i64 s,.int .i64 f,.int .i64 q]
 z:Bx wr g9 61 #[.int .i64 (tot ofS (M.take k)),.int .i64 (tot ofF (M.take k)),.int .i64 (tot ofN (M.take k))]
theorem Fr{ws:List Nat}{t:Nat}(h:Lay ws t)(ho:∀v∈ws,v<18446744073709551616):dB ((coL ws).map av)=0/\(∀E∈coL ws,E.length<=32)/\(coL ws).length<=4000:=by
 have j:=jV h;have hb:=(ab _).1 h.size;have f:coL ws=[⟨16,1⟩]::(rsE (dI ws)).2.1:=by unfold coL;rw[if_pos j]
 have c:=gi (kC ho) (h.all ho);have b:∀E∈coL ws,Small ws.length E:=by
  intro E a;rw[f] at a;rcases kqw.1 a with rfl|a
  .refine ⟨by decide,by decide,by simp,λe d=>?_,λe d=>?_⟩
   .rw[kqy] at d;subst d;dsimp only;omega
   rw[kqy] at d;subst d;decide
  obtain⟨i,k,rfl⟩:=kq0 a;have:=c.2.2.2.2.2 i k;rw[fv] at this;exact this
 have g:=c.2.2.1;rw[fv] at g;refine⟨(Fx (by omega) b).1,λE a=>(b E a).le,?_⟩;rw[f,kq2];omega
theorem yx(A LA:Option Addr)(ws:List Nat)(L:List Ch)(c n d q t:Nat)(w:World)(hn:ws.length=n)(hm:n<=9223372036854775807)(hc:n<=c)(hr:RdW w w.heap.size A ws)(ho:∀x∈ws,x<18446744073709551616)(hLy:Lay ws t)(hq:L.length=q)(hL:L.map Ch.l=coL ws)(hLo:RdC w w.heap.size LA L)(hLe:∀x∈L,RdE w w.heap.size x.A x.l):
 Calls prog 21 #[.slice A n c,.slice LA q d] w λe w'=>e=.returned (.bool true)/\Below w.heap.size w w':=by
 subst hq;obtain⟨s1,s2,s3⟩:=Fr hLy ho;have hM:chA L=(coL ws).map av:=by rw[<-hL,List.map_map];rfl
 have hql:L.length<=4000:=by rw[<-hL,kzg] at s3;exact s3
 have I:∀x∈L,x.l.length<=32:=λx hx=>s2 _ (by rw[<-hL];exact kx6 hx);have o:=hid (λW (h:RdW W W.heap.size A ws)=>yi A ws c n W hn hm hc h ho);have Ky:sA ws=jC (chA L):=by unfold sA;rw[if_pos (jV hLy),hM]
 rw[Ky] at o;rw[<-hM] at s1;have Y:=sx s1;rw[Y] at o;have B:=hid (sum_n LA L d L.length w rfl (by omega) hLo (λx hx=>⟨by have:=I x hx;unfold maxLen;omega,hLe x hx⟩));rw[Y] at B;obtain⟨M,E⟩:=xq (chA L);rw[E] at o B s1;have La:M.length=L.length:=by rw[<-E,nL]
 obtain⟨s,hs⟩:=xq (tot ofS M);obtain⟨f,hf⟩:=xq (tot ofF M);obtain⟨u,hu⟩:=xq (tot ofN M);rw[hs,hf,hu] at o B;unfold ke at o B;have U:Hid (tot ofS (M.take M.length)=s/\tot ofF (M.take M.length)=f/\tot ofN (M.take M.length)=u):=hid (by rw[kzf];exact⟨hs,hf,hu⟩);have Lk:Hid (∀k (hk:k<L.length),∃a b e:Int,jw (av L[k].l)=.tuple #[.agg #[.int .i64 a,.int .i64 b,.int .i64 e],.int .i64 0]/\(0<=a/\a<=98/\0<=b/\b<=98/\0<=e/\e<=98)/\tot ofS (M.take (k+1))=tot ofS (M.take k)+a/\tot ofF (M.take (k+1))=tot ofF (M.take k)+b/\tot ofN (M.take (k+1))=tot ofN (M.take k)+e):=hid λk hk=>by
  have G:k<M.length:=by omega
  have hg:M[k]=av L[k].l:=by simp[<-E,chA]
  have h0:=(uw M).1 s1 _ (kqn G);rw[hg] at h0;have t1:=ks ofS G;have t2:=ks ofF G;have t3:=ks ofN G;rw[hg] at t1 t2 t3;have b1:=wx (av L[k].l);have b2:=vA (av L[k].l);have b3:=wo (av L[k].l);exact⟨_,_,_,by rw[jw,h0];rfl,by omega,t1,t2,t3⟩
 have Ll:Hid (∀k,k<=L.length->(0<=tot ofS (M.take k)/\tot ofS (M.take k)<=400000)/\(0<=tot ofF (M.take k)/\tot ofF (M.take k)<=400000)/\0<=tot ofN (M.take k)/\tot ofN (M.take k)<=400000):=hid λk hk=>by
  have b1:=pw ofS 98 wx (M.take k);have b2:=pw ofF 98 vA (M.take k);have b3:=pw ofN 98 wo (M.take k);have hl:((M.take k).length:Int)<=4000:=by rw[kq4];omega
  omega
 have HR:=hid hr;have Li:=hid hLo;have Lf:=hid hLe;have Lm:=hid I;have Ld:=hid La;clear hr ho hLy hL hLo hLe s1 s2 s3 hM I Ky Y E La hs hf hu hn;go_enter func21,ntmps21;go_wp2_with fail;refine B.out.mono ?_;rintro e J ⟨rfl,R⟩;have C:=R.size;have Kx:=(kqk J.heap.size J).alloc (kqa _) (.cells #[.int .i64 s,.int .i64 f,.int .i64 u] 61);have X:=R.trans (Kx.mono C);have X1:=Bx.new J 61 #[.int .i64 s,.int .i64 f,.int .i64 u];obtain⟨W1,P⟩:=xq (J.alloc (.cells #[.int .i64 s,.int .i64 f,.int .i64 u] 61));rw[P] at X X1;have hs1:J.heap.size+1=W1.heap.size:=by rw[<-P,kqm]
 have H:=hid X;have Q:=hid X1;clear R Kx X X1;go_wp2_with fail;refine (o.out W1 (HR.out.up H.out H.out.size)).mono ?_;rintro e m ⟨rfl,D⟩;have v:=D.size;have Kz:=((kqk m.heap.size m).alloc (kqa _) (.cells #[.int .i64 s,.int .i64 f,.int .i64 u] 61)).alloc (by rw[kqm];omega) (.cells #[.int .i64 0,.int .i64 0,.int .i64 0] 61);have X7:=(Bx.new m 61 #[.int .i64 s,.int .i64 f,.int .i64 u]).alloc (.cells #[.int .i64 0,.int .i64 0,.int .i64 0] 61);have X9:=Bx.new (m.alloc (.cells #[.int .i64 s,.int .i64 f,.int .i64 u] 61)) 61 #[.int .i64 0,.int .i64 0,.int .i64 0];rw[kqm] at X9;have X5:=((Q.out.up D Q.out.lt).alloc (.cells #[.int .i64 s,.int .i64 f,.int .i64 u] 61)).alloc (.cells #[.int .i64 0,.int .i64 0,.int .i64 0] 61);have Lh:=hid (SdRel.mk (w:=w) (M:=M) (k:=0) (H.out.trans ((D.trans (Kz.mono v)).mono H.out.size)) X5 X7 X9);have hn59:J.heap.size≠m.heap.size+1:=by omega
 have hn79:m.heap.size≠m.heap.size+1:=by omega
 clear D Kz X5 X7 X9 P Q;go_wp2_with fail;go_loopw [10] (λi wr=>∃k:Nat,k<=L.length/\i=.int .i64 k/\SdRel w J.heap.size m.heap.size (m.heap.size+1) M s f u k wr) (λi _=>L.length-(intOf i).toNat)
 case atStart=>exact⟨0,kqz _,rfl,Lh.out⟩
 obtain⟨k,hk,rfl,hR⟩:=hrel;have g:=hid hR;clear hR;by_cases F:k<L.length
 .obtain ⟨b,off,rfl,hb,h2⟩:=Li.out.at_ F;replace h2:=(g.out.below.cell (p:=⟨b,off+k,none⟩) hb).trans h2;obtain⟨N,T,S,e1,⟨l1,l2,l3,l4,l5,l6⟩,t1,t2,t3⟩:=Lk.out k F;obtain⟨⟨m1,m2⟩,⟨m3,m4⟩,m5,m6⟩:=Ll.out k hk;have Kw:=hid (Lf.out L[k] (kqn F));have Lc:=Lm.out L[k] (kqn F);generalize L[k]=x at *;obtain⟨xA,xc,xl⟩:=x;dsimp only at h2 e1 Kw Lc;have HE:=hid e1;have HT:=hid (And.intro t1 (And.intro t2 t3));have V:=g.out.z;obtain⟨z0,K⟩:=xq (tot ofS (M.take k));obtain⟨z1,C⟩:=xq (tot ofF (M.take k));obtain⟨z2,v⟩:=xq (tot ofN (M.take k));rw[K,C,v] at V HT;rw[K] at m1 m2;rw[C] at m3 m4;rw[v] at m5 m6;have HZ:=hid V;have O:=hid (of_c xA xl xc wr (by omega) (Kw.out.up g.out.below g.out.below.size));rw[HE.out] at O;have hk0:(0:Int)<=(k:Int):=by omega
  have hk1:(k:Int)<(L.length:Int):=by omega
  clear e1 t1 t2 t3 V K C v;go_wp2_with fail;refine O.out.mono ?_;rintro e w3 ⟨rfl,j⟩;have hz3:=j.size;have Z3:=hid ((HZ.out.up j HZ.out.lt).alloc (.cells #[.int .i64 N,.int .i64 T,.int .i64 S] 61));have X3:=hid ((g.out.x.up j g.out.x.lt).alloc (.cells #[.int .i64 N,.int .i64 T,.int .i64 S] 61));have Y3:=hid ((g.out.y.up j g.out.y.lt).alloc (.cells #[.int .i64 N,.int .i64 T,.int .i64 S] 61));have N3:=hid (Bx.new w3 61 #[.int .i64 N,.int .i64 T,.int .i64 S]);have Eq:=hid ((g.out.below.trans (j.mono g.out.below.size)).alloc (g.out.below.trans (j.mono g.out.below.size)).size (.cells #[.int .i64 N,.int .i64 T,.int .i64 S] 61));obtain⟨W3,Lb⟩:=xq (w3.alloc (.cells #[.int .i64 N,.int .i64 T,.int .i64 S] 61));rw[Lb] at Z3 X3 Y3 N3 Eq;obtain⟨q0,q1,q2,-,-,-,ql⟩:=Z3.out.c3;obtain⟨r0,r1,r2,-,-,-,rl⟩:=N3.out.c3;have Lj:=hid (Iz z0 z1 z2 N T S W3 ⟨by omega,by omega,by omega,by omega,by omega,by omega⟩);clear j h2 O m1 m2 m3 m4 m5 m6 l1 l2 l3 l4 l5 l6;go_wp2_with fail;refine Lj.out.mono ?_;rintro e w4 ⟨rfl,r⟩;have Z4:=hid (Z3.out.up r Z3.out.lt);have X4:=hid (X3.out.up r X3.out.lt);have Y4:=hid (Y3.out.up r Y3.out.lt);have Lg:=hid (Eq.out.trans (r.mono Eq.out.size));have Z:w.heap.size<=m.heap.size+1:=by omega
  obtain⟨p0,p1,p2,p3,p4,p5,pl⟩:=Z4.out.c3;clear r q0 q1 q2 ql r0 r1 r2 rl Lb;go_wp2;go_roundw
  case rel =>
   refine⟨k+1,by omega,by go_num,⟨((Lg.out.setCell (p:=⟨m.heap.size+1,0,none⟩) Z _).setCell (p:=⟨m.heap.size+1,1,none⟩) Z _).setCell (p:=⟨m.heap.size+1,2,none⟩) Z _,((X4.out.far (by dsimp only;omega) _).far (by dsimp only;omega) _).far (by dsimp only;omega) _,((Y4.out.far (by dsimp only;omega) _).far (by dsimp only;omega) _).far (by dsimp only;omega) _,?_⟩⟩;rw[HT.out.1,HT.out.2.1,HT.out.2.2];exact ((Z4.out.set_ 0 _).set_ 1 _).set_ 2 _
  case measure=>simp[intOf];omega
 obtain rfl:k=L.length:=by omega
 have Le:=hid g.out.below;have V:=g.out.z;rw[<-Ld.out,U.out.1,U.out.2.1,U.out.2.2] at V;obtain⟨p0,p1,p2,-,-,-,pl⟩:=V.c3;obtain⟨q0,q1,q2,-,-,-,ql⟩:=g.out.x.c3;obtain⟨r0,r1,r2,-,-,-,rl⟩:=g.out.y.c3;clear V;go_wp2;go_ret;exact⟨rfl,Le.out⟩
end Go.Proofs.YtpcajamacpbjcaaGreat
