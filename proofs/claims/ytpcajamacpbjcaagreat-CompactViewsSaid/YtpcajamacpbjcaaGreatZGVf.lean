/- References: all changes of compacting a view, and what Start and View return. -/
import Derived.Test.YtpcajamacpbjcaaGreatZGVe
import Derived.Test.YtpcajamacpbjcaaGreatZKCo
import Derived.Test.YtpcajamacpbjcaaGreatZKR19
import Derived.Test.YtpcajamacpbjcaaGreatZKMove
import Derived.Test.YtpcajamacpbjcaaGreatZKEff
import Derived.Test.YtpcajamacpbjcaaGreatZSameW
import Derived.Test.YtpcajamacpbjcaaGreatZKHead
set_option maxHeartbeats 16000000
set_option maxRecDepth 100000
set_option linter.all false
namespace Go.Proofs.YtpcajamacpbjcaaGreat
open Lib (hid)
open Go.RowKit
open Go.Proofs.Tryz
def FiR2 (e:Ending) (w':World):Prop:=∃A c,e=.returned (.slice A 1 c)/\RdE w' w'.heap.size A [⟨16,1⟩]
theorem pi(w:World):Calls prog 45 #[] w λe w'=>FiR2 e w'/\Below w.heap.size w w':=by have c:=hid (bh (n:=1) (sz:=2) w 89 #[.int .i64 16,.int .u64 1] (kqb _) (by rfl) (by unfold maxLen;omega));have b:=hid ((kqk w.heap.size w).alloc (kqb _) (.cells #[.int .i64 16,.int .u64 1] 89));go_enter func45,ntmps45;go_wp2;go_ret;have a:RdE (w.alloc (.cells #[.int .i64 16,.int .u64 1] 89)) (w.alloc (.cells #[.int .i64 16,.int .u64 1] 89)).heap.size (some ⟨w.heap.size,0,none⟩) [⟨16,1⟩]:=Rd.of_own c.out;exact⟨⟨some ⟨w.heap.size,0,none⟩,1,rfl,a⟩,b.out⟩
def D0 (ws:List Nat) (e:Ending) (w':World):Prop:=∃A c,e=.returned (.tuple #[.slice A (if bv ws=0 then [(⟨16,1⟩:En)] else []).length c,.int .i64 (bv ws)])/\RdE w' w'.heap.size A (if bv ws=0 then [(⟨16,1⟩:En)] else [])
theorem zy(A:Option Addr)(ws:List Nat)(c n:Nat)(w:World)(hn:ws.length=n)(hm:n<=9223372036854775807)(hc:n<=c)(hr:RdW w w.heap.size A ws)(ho:∀x∈ws,x<18446744073709551616):
 Calls prog 28 #[.slice A n c] w λe w'=>D0 ws e w'/\Below w.heap.size w w':=by
 have h:=hid (n9 A ws c n w hn hm hc hr ho);unfold D0;obtain⟨r,b⟩:=xq (bv ws);rw[b] at h |-;clear hr ho hc hm hn b;by_cases g:r=0
 .subst g;rw[if_pos rfl];go_enter func28,ntmps28;go_wp2_with fail;refine h.out.mono ?_;rintro e o ⟨rfl,a⟩;have f:=hid a;clear a;go_wp2_with fail;refine (pi _).mono ?_;rintro e w2 ⟨⟨m,l,rfl,k⟩,d⟩;have i:=hid (f.out.trans (d.mono f.out.size));have j:=hid k;clear d k;go_wp2;go_ret2;exact⟨⟨m,l,rfl,j.out⟩,i.out⟩
 rw[if_neg g];have e1:(r != 0)=true:=by rw[kqt];exact g
 clear g;go_enter func28,ntmps28;go_wp2_with fail;refine h.out.mono ?_;rintro e o ⟨rfl,a⟩;go_wp2;go_ret2;exact⟨⟨none,0,rfl,Rd.nil_⟩,a⟩
theorem rt(A:Option Addr)(ws:List Nat)(c n:Nat)(w:World)(hn:ws.length=n)(hm:n<=9223372036854775807)(hc:n<=c)(hr:RdW w w.heap.size A ws)(ho:∀x∈ws,x<18446744073709551616):
 Calls prog 66 #[.slice A n c] w λe w'=>vD ws w.heap.size e w'/\Below w.heap.size w w':=by
 subst hn;have Z:=hid (n9 A ws c ws.length w rfl hm hc hr ho);have HR:=hid hr;by_cases m:bv ws=0
 .obtain ⟨hs,hl⟩:=f9 m;obtain⟨t,u⟩:=qk hl;rw[m] at Z;have hlen:=(af _).1 hs;have z:=hid (λB d W (h:RdW W W.heap.size A ws) (h2:RdE W W.heap.size B [⟨16,1⟩])=>zU A B ws [⟨16,1⟩] c d ws.length 1 W.heap.size W rfl rfl (by omega) (by omega) (by omega) h h2 (kqb _));unfold OwnW at z;rw[show aj ws [⟨16,1⟩]=gF ws from rfl,fB] at z;have p:=hid (λB d W (h:RdW W W.heap.size B (gF ws))=>Dk B (gF ws) d ws.length W (fB ws) (by rw[u.all ho]) h (pK ho));unfold C3 at p;rw[u.all ho,fB] at p;have o:(rsE (gF ws)).2.1.length<=3000:=by have h1:=jD (pK ho) (u.all ho);have:=h1.2.2.1;rw[fB] at this;omega
  have G:Hid (∀E∈(rsE (gF ws)).2.1,E.length<=32):=hid λE hE=>by
   obtain⟨i,hi,rfl⟩:=kqv hE;exact ((jD (pK ho) (u.all ho)).2.2.2.2.2 i hi).le
  have HV:Hid (coL ws=[⟨16,1⟩]::(rsE (gF ws)).2.1):=hid (by unfold coL;rw[if_pos m]);have H0:=hid m;obtain⟨v,hO⟩:=xq ((rsE (gF ws)).2.1);rw[hO] at p HV o G;obtain⟨i0,hi,J,V,H⟩:=kze pq;have HI:=hid hi;have Ft:=hid J;have Fp:=hid V;have Fu:=hid H;clear hi J V H;clear hr ho m hs hl u hc hO;go_enter func66,ntmps66;go_wp2_with fail;refine Z.out.mono ?_;rintro e w0 ⟨rfl,S⟩;have Q:=hid S;clear S;go_wp2_with fail;refine (pi _).mono ?_;rintro e w1 ⟨⟨A1,c1,rfl,I⟩,s⟩;have q:=hid (Q.out.trans (s.mono Q.out.size));have Fv:=hid I;clear s I;go_wp2_with fail;refine (z.out _ _ _ (HR.out.up q.out q.out.size) Fv.out).mono ?_;rintro e w2 ⟨g2,c2,rfl,g,P⟩;have C:=hid (q.out.trans (P.mono q.out.size));have Fs:=hid (show RdW w2 w2.heap.size _ (gF ws) from Rd.of_own g);clear P g;go_wp2_with fail;refine (p.out _ _ _ Fs.out).mono ?_;rintro e w4 ⟨⟨L,B,d,g3,c3,rfl,u,hC,-,T⟩,R⟩;have K:=hid (C.out.trans (R.mono C.out.size));have Fy:=hid (ar T C.out.size);have Eq:=hid (show RdC w4 w4.heap.size B L from Rd.of_own hC.1);have Fr:=hid (λx k=>show RdE w4 w4.heap.size x.A x.l from Rd.of_own (hC.2 x k));have hll:L.length<=3000:=by rw[<-u,kzl] at o;exact o
  have M:=hid u;clear R T hC u o;go_wp2_with fail;refine (pi _).mono ?_;rintro e j ⟨⟨X,Y,rfl,N⟩,a⟩;have O:=hid (K.out.trans (a.mono K.out.size));have Fw:=hid N;have Fx:=hid (ae Fy.out a (kqb _));have Fq:=hid (show RdC j j.heap.size B L from Eq.out.up a a.size);have Fo:Hid (∀x∈L,RdE j j.heap.size x.A x.l):=hid λx k=>(Fr.out x k).up a a.size;clear a N;go_wp2_with (at_builtin;refine aI _ (by rfl) _ _ 34 rfl j.heap.size 26 i0 _ 1 24 underlying34 HI.out Ft.out Fp.out Fu.out rfl (by decide) (.slice (some ⟨j.heap.size,0,none⟩) 1 1) 1 [.slice X 1 Y] (by rfl) (bh (n:=1) (sz:=1) j 26 #[.slice X 1 Y] (kqb _) (by rfl) (by unfold maxLen;omega)) j.heap.size B L.length d (L.flatMap Ch.cells) (by rfl) (by rw[bY Ch.cells 1 Ch.len]) (Rd.alloc Fq.out (kqb _) _) (cn Ch.one _) (by unfold maxLen;omega) (by omega) (by simp) ?_;intro v1 wa f F;have U:=aM ((kqk j.heap.size j).alloc (kqb _) _) (by simp) (bh (n:=1) (sz:=1) j 26 #[.slice X 1 Y] (kqb _) (by rfl) (by unfold maxLen;omega)) F;have y:=hid f;have b:=hid U;clear f U F);obtain⟨Bv,dv,rfl⟩:=ap y.out;go_ret3;refine⟨⟨⟨X,Y,[⟨16,1⟩]⟩::L,Bv,dv,_,by rw[H0.out,kq3,kxs];rfl,by rw[kx0,M.out,HV.out],Rd.of_own y.out,λx k=>?_,λ_=>⟨g3,c3,rfl,ae Fx.out b.out (kqb _)⟩,λh=>absurd H0.out h⟩,O.out.trans (b.out.mono O.out.size)⟩;rcases kq0.1 k with rfl|k
  .exact ⟨by show 1<=32;decide,Fw.out.up b.out b.out.size⟩
  exact⟨G.out _ (by rw[<-M.out];exact kjb k),(Fo.out x k).up b.out b.out.size⟩
 have HV:Hid (coL ws=[]):=hid (by unfold coL;rw[if_neg m]);have H0:=hid m;obtain⟨r,D⟩:=xq (bv ws);have HQ:=hid D;rw[D] at Z m;have e1:(r != 0)=true:=by rw[kqt];exact m
 clear hr ho m D;go_enter func66,ntmps66;go_wp2_with fail;refine Z.out.mono ?_;rintro e w1 ⟨rfl,s⟩;go_wp2;go_ret3;exact⟨⟨[],none,0,_,by rw[HQ.out];rfl,by rw[HV.out];rfl,Rd.nil_,λx k=>absurd k (by simp),λh=>absurd h H0.out,λ_=>rfl⟩,s⟩
theorem An(A:Option Addr)(ws:List Nat)(c n:Nat)(w:World)(hn:ws.length=n)(hm:n<=9223372036854775807)(hc:n<=c)(hr:RdW w w.heap.size A ws)(ho:∀x∈ws,x<18446744073709551616):
 Calls prog 27 #[.slice A n c] w λe w'=>Br ws w.heap.size e w'/\Below w.heap.size w w':=by
 subst hn;have k:=hid (rt A ws c ws.length w rfl hm hc hr ho);unfold vD at k;clear hr ho hm hc;go_enter func27,ntmps27;go_wp2_with fail;refine k.out.mono ?_;rintro e w1 ⟨⟨L,B,d,vx,rfl,-,-,-,l,j⟩,f⟩;have p:=hid l;have q:=hid j;clear l j;by_cases b:bv ws=0
 .obtain ⟨g,o,rfl,a⟩:=p.out b;have m:=hid a;have i:=hid b;rw[b];clear a b;go_wp2;go_ret2;exact⟨⟨λ_=>⟨g,o,rfl,m.out⟩,λh=>absurd i.out h⟩,f⟩
 obtain rfl:=q.out b;have i:=hid b;clear b;go_wp2;go_ret2;exact⟨⟨λh=>absurd h i.out,λ_=>rfl⟩,f⟩
theorem vq(A:Option Addr)(l:List En)(c:Nat)(w:World)(h:l.length<=32)(hr:RdE w w.heap.size A l)(hp:eU (aB l) l.length=true):
 Calls prog 221 #[.slice A l.length c] w λe w'=>e=.returned (.int .i64 (eZ (aB l) l.length))/\Below w.heap.size w w':=by
 go_enter func221,ntmps221;have D:=hid hp;clear hp;have H:=hid hr;clear hr;go_wp2;go_loopw [3,4] (λt i wr=>∃k:Nat,k<=l.length/\i=.int .i64 k/\t=.int .i64 (eZ (aB l) k:Nat)/\Below w.heap.size w wr) (λ_ i _=>l.length-(intOf i).toNat)
 case atStart=>exact⟨0,kqx _,rfl,rfl,kqk _ _⟩
 obtain⟨k,hk,rfl,rfl,I⟩:=hrel;have hle:=jo (aB l) k;by_cases m:k<l.length
 .go_wp2;go_loopw [5,6] (λo i wr=>∃j:Nat,j<=k/\i=.int .i64 j/\o=.bool (cq (aB l) ((aB l)[k]?.getD 0) j)/\Below w.heap.size w wr) (λ_ i _=>k-(intOf i).toNat)
  case atStart=>exact⟨0,kqx _,rfl,rfl,I⟩
  obtain⟨j,hj,rfl,rfl,d⟩:=hrel;by_cases hlt2:j<k
  .obtain ⟨b,s,C,E,J,_⟩:=H.out.at_ (show j<l.length by omega);obtain⟨b',off',v,_,G,_⟩:=H.out.at_ m;subst C;cases v;replace J:=(d.cell (p:=⟨b,s+j*2,none⟩) E).trans J;replace G:=(d.cell (p:=⟨b,s+k*2,none⟩) E).trans G;have u:=iN l j (by omega);have z:=iN l k m;have q:=tU D.out (show j<l.length by omega);have r:=tU D.out m;rw[u] at q;rw[z] at r;obtain⟨p1,p2,_⟩:=q;obtain⟨q1,q2,_⟩:=r;have g:cq (aB l) ((aB l)[k]?.getD 0) (j+1)=(cq (aB l) ((aB l)[k]?.getD 0) j||(l[j].a/8==l[k].a/8)):=by simp only[cq,u,z]
   have F:=hid g;clear g u z;generalize l[j].a=x at *;generalize l[k].a=y at *;cases f:cq (aB l) ((aB l)[k]?.getD 0) j
   .have n:=hid f;clear f;go_wp2;go_quiet (fail);go_wp2;go_roundw
    case rel=>exact⟨j+1,by omega,by go_num,by rw[F.out,n.out];rfl,az d _⟩
    case measure=>simp[intOf];omega
   have n:=hid f;clear f;go_wp2;go_quiet (fail);go_wp2;go_roundw
   case rel=>exact⟨j+1,by omega,by go_num,by rw[F.out,n.out];rfl,az d _⟩
   case measure=>simp[intOf];omega
  have B:j=k:=by omega
  subst B;cases f:cq (aB l) ((aB l)[j]?.getD 0) j
  .have n:=hid f;clear f;go_wp2;go_roundw
   case rel=>exact⟨j+1,by omega,by go_num,by simp only[eZ,n.out];go_num,d⟩
   case measure=>simp[intOf];omega
  have n:=hid f;clear f;go_wp2;go_roundw
  case rel=>exact⟨j+1,by omega,by go_num,by simp only[eZ,n.out];rfl,d⟩
  case measure=>simp[intOf];omega
 have:k=l.length:=by omega
 subst this;go_wp2;go_ret;exact⟨rfl,I⟩
theorem uX(A:Option Addr)(l:List En)(c:Nat)(w:World)(h:l.length<=32)(hr:RdE w w.heap.size A l)(hp:eU (aB l) l.length=true):
 Calls prog 173 #[.slice A l.length c] w λe w'=>e=.returned (eD (fd (aB l)) (dU (aB l)) (ff (aB l)))/\Below w.heap.size w w':=by
 have hle:=jo (aB l) l.length;have k:=hid hp;clear hp;have m:=hid hr;clear hr;unfold fd dU ff;rw[cc];by_cases a:l.length=0
 .have H0:=hid a;have f:((l.length:Int)==0)=true:=by rw[a];rfl
  simp only[a,if_true];clear a;go_enter func173,ntmps173;go_wp2_with fail;exact kqr (v:=eD 0 0 0) (by simp[results,results173,go_sem,eD]) rfl ⟨rfl,(kqk _ _).alloc (kqb _) _⟩
 have f:((l.length:Int)==0)=false:=by rw[kqi];omega
 simp only[a,if_false];go_enter func173,ntmps173;go_wp2_with fail;refine (vq A l c _ h ((m.out.alloc (kqb _) _).more (by simp)) k.out).mono ?_;rintro e w1 ⟨rfl,b⟩;rw[kqn] at b;obtain⟨d,i,j,hf0,hf1,hf2,g,hz1⟩:=box3 b;go_wp2_with fail;refine kqr (v:=eD (3*l.length+2) ((2*l.length+7)/8+eZ (aB l) l.length+2) 4) ?_ rfl ⟨rfl,((g.setCell ?_ _).setCell ?_ _).setCell ?_ _⟩
 .simp[results,results173,go_sem,eD,d,i,j]
 all_goals exact kqb _
theorem xL(A:Option Addr)(l:List En)(c:Nat)(w:World)(hm:l.length<=9223372036854775807)(hr:RdE w w.heap.size A l):
 Calls prog 114 #[.slice A l.length c] w λe w'=>e=.returned (fP (aB l))/\Below w.heap.size w w':=by
 have T:=hid hr;clear hr;by_cases h:32<l.length
 .rw[jz (oI (by rw[cc];exact h)) (by omega)];go_enter func114,ntmps114;go_wp2_with fail;exact kqr (v:=.tuple #[eD 0 0 0,.int .i64 4]) (by simp[results,results114,go_sem,eD]) rfl ⟨rfl,(kqk _ _).alloc (kqb _) _⟩
 have F:l.length<=32:=by omega
 clear h;have D:∀k,eU (aB l) k=false->k<=l.length->fP (aB l)=.tuple #[eD 0 0 0,.int .i64 2]:=λk J r =>
  jz (qi (by rw[cc];exact F) J (by rw[cc];exact r)) (by omega)
 have Q:=hid D;clear D;go_enter func114,ntmps114;go_wp2_with fail;obtain⟨Z,z⟩:∃Z:World,Z=w.alloc (.cells #[.int .i64 0,.int .i64 0,.int .i64 0] 61):=⟨_,rfl⟩;rw[<-z];have U:Below (w.heap.size+1) (w.alloc (.cells #[.int .i64 0,.int .i64 0,.int .i64 0] 61)) Z:=by rw[z];exact kqk _ _
 have HW0:=hid z;clear z;go_loopw [4] (λi wr=>∃k:Nat,k<=l.length/\i=.int .i64 k/\eU (aB l) k=true/\Below (w.heap.size+1) (w.alloc (.cells #[.int .i64 0,.int .i64 0,.int .i64 0] 61)) wr) (λi _=>l.length-(intOf i).toNat)
 case atStart=>exact⟨0,kqx _,rfl,rfl,U⟩
 obtain⟨k,hk,rfl,L,hB⟩:=hrel;have G:=hid L;clear L;obtain⟨n,f,m,u,B,C,d,g⟩:=box3 hB;by_cases q:k<l.length
 .obtain ⟨b,H,rfl,Y,r,_⟩:=T.out.at_ q;have e2:=iN l k q;have K:=hid e2;clear e2;replace r:=(d.cell (p:=⟨b,H+k*2,none⟩) Y).trans r;generalize hx:l[k].a=x at *;have HX:=hid hx;clear hx;have E:∀w':World,(∃k,eU (aB l) k=false/\k<=l.length)->Below w.heap.size w w' ->
   Ending.returned (.tuple #[eD 0 0 0,.int .i64 2])=.returned (fP (aB l))/\Below w.heap.size w w':=
   λ_ ⟨k,J,r⟩ h3=>⟨by rw[Q.out k J r],h3⟩
  have t:=hid E;clear E;by_cases W:x<0
  .have s:=hid (ke (ad:=aB l) (k:=k) (by rw[K.out];omega));go_wp2_with fail;refine kqr (v:=.tuple #[eD 0 0 0,.int .i64 2]) (by simp[results,results114,go_sem,eD,n,f,m]) rfl (t.out _ ⟨k+1,s.out,q⟩ (((d.setCell ?_ _).setCell ?_ _).setCell ?_ _))<;>exact kqb _
  have O:0<=x:=by omega
  by_cases X:2048<=x
  .have s:=hid (ke (ad:=aB l) (k:=k) (by rw[K.out];omega));go_wp2_with fail;refine kqr (v:=.tuple #[eD 0 0 0,.int .i64 2]) (by simp[results,results114,go_sem,eD,n,f,m]) rfl (t.out _ ⟨k+1,s.out,q⟩ (((d.setCell ?_ _).setCell ?_ _).setCell ?_ _))<;>exact kqb _
  have N:x<2048:=by omega
  clear W X;go_wp2_with fail;go_loopw [5] (λi wr=>∃j:Nat,j<=k/\i=.int .i64 j/\cd (aB l) x j=false/\Below (w.heap.size+1) (w.alloc (.cells #[.int .i64 0,.int .i64 0,.int .i64 0] 61)) wr) (λi _=>k-(intOf i).toNat)
  case atStart=>exact⟨0,kqx _,rfl,rfl,hB⟩
  clear n f m u B C d g r;obtain⟨j,hj,rfl,M,I⟩:=hrel;have P:=hid M;clear M;obtain⟨n,f,m,u,B,C,d,g⟩:=box3 I;by_cases R:j<k
  .obtain ⟨b',off',Fp,hb',J,_⟩:=T.out.at_ (show j<l.length by omega);obtain⟨b'',off'',V,_,r,_⟩:=T.out.at_ q;cases Fp;cases V;have e1:=hid (iN l j (by omega));rw[HX.out] at r;replace J:=(d.cell (p:=⟨b,H+j*2,none⟩) Y).trans J;replace r:=(d.cell (p:=⟨b,H+k*2,none⟩) Y).trans r;generalize hy:l[j].a=y at *;have HY:=hid hy;clear hy;by_cases S:y=x
   .subst S;have s:=hid (rB (ad:=aB l) R (by rw[e1.out,K.out]));go_wp2_with fail;go_quiet (fail);go_wp2_with fail;refine kqr (v:=.tuple #[eD 0 0 0,.int .i64 2]) (by simp[results,results114,go_sem,eD,n,f,m]) rfl (t.out _ ⟨k+1,s.out,q⟩ ((((az d _).setCell ?_ _).setCell ?_ _).setCell ?_ _))<;>exact kqb _
   have Fo:(y==x)=false:=by rw[kqi];exact S
   go_wp2_with fail;go_quiet (fail);go_wp2;go_roundw
   case rel=>exact⟨j+1,by omega,by go_num,by simp only[cd,P.out,e1.out,Fo,Bool.or_self],az I _⟩
   case measure=>simp[intOf];omega
  have:j=k:=by omega
  subst this;go_wp2;go_roundw
  case rel=>exact⟨j+1,by omega,by go_num,kZ G.out (by rw[K.out];exact O) (by rw[K.out];exact N) (by rw[K.out];exact P.out),I⟩
  case measure=>simp[intOf];omega
 have:k=l.length:=by omega
 subst this;have hz:Hid (fP (aB l)=.tuple #[eD (fd (aB l)) (dU (aB l)) (ff (aB l)),.int .i64 0]):=
  qB (sO (by rw[cc];exact F) (by rw[cc];exact G.out))
 go_wp2_with fail;refine (uX A l c _ F (T.out.up d (by omega)) G.out).mono ?_;rintro e w2 ⟨rfl,o⟩;have Eq:Below w.heap.size w w2:=d.trans (o.mono (by omega));replace n:=(o.cell (p:=⟨w.heap.size,0,none⟩) g).trans n;replace f:=(o.cell (p:=⟨w.heap.size,1,none⟩) g).trans f;replace m:=(o.cell (p:=⟨w.heap.size,2,none⟩) g).trans m;replace u:=(o.frozen (p:=⟨w.heap.size,0,none⟩) g).trans u;replace B:=(o.frozen (p:=⟨w.heap.size,1,none⟩) g).trans B;replace C:=(o.frozen (p:=⟨w.heap.size,2,none⟩) g).trans C;unfold eD;go_wp2_with fail;refine kqr (v:=.tuple #[eD (fd (aB l)) (dU (aB l)) (ff (aB l)),.int .i64 0]) (by simp[results,results114,go_sem,eD,n,f,m]) rfl ⟨by rw[hz.out],(((Eq.setCell ?_ _).setCell ?_ _).setCell ?_ _)⟩<;>exact kqb _
theorem CD(a b c d e f:Int)(w:World)(h:(0<=a/\a<=1000000000000)/\(0<=b/\b<=1000000000000)/\(0<=c/\c<=1000000000000)/\(0<=d/\d<=1000000000000)/\(0<=e/\e<=1000000000000)/\(0<=f/\f<=1000000000000)):
 Calls prog 46 #[.agg #[.int .i64 a,.int .i64 b,.int .i64 c],.agg #[.int .i64 d,.int .i64 e,.int .i64 f]] w λr w'=>r=.returned (.agg #[.int .i64 (a+d),.int .i64 (b+e),.int .i64 (c+f)])/\Below w.heap.size w w':=by obtain⟨⟨a1,a2⟩,⟨b1,b2⟩,⟨c1,c2⟩,⟨d1,d2⟩,⟨e1,e2⟩,f1,f2⟩:=h;go_enter func46,ntmps46;go_wp2_with fail;refine kqr (v:=.agg #[.int .i64 (a+d),.int .i64 (b+e),.int .i64 (c+f)]) (by simp[results,results46,go_sem]) rfl ⟨rfl,?_⟩;(repeat' (first|with_reducible assumption|with_reducible exact kqk _ _ | (with_reducible refine az ?_ _) | (with_reducible refine kjc ?_) | (with_reducible refine kxw ?_ ?_ _) | (with_reducible refine kq5 ?_ ?_ _)))<;>(first|exact kqb _|exact kzx _|omega | (dsimp only;omega) | ((repeat (first | (with_reducible refine aH ?_) | (with_reducible refine dZ ?_) | (with_reducible refine cp ?_)));first|exact kqb _|omega))
theorem E9(A:Option Addr)(cs:List Ch)(c:Nat)(w:World)(hm:cs.length<=1000000)(hr:RdC w w.heap.size A cs)(hok:∀x∈cs,x.l.length<=maxLen/\RdE w w.heap.size x.A x.l):
 Calls prog 67 #[.slice A cs.length c] w λe w'=>e=.returned (ge (chA cs))/\Below w.heap.size w w':=by
 have HR:=hid hr;have HO:=hid hok;clear hr hok;go_enter func67,ntmps67;go_wp2_with fail;go_loopw [5] (λi wr=>∃k:Nat,k<=cs.length/\i=.int .i64 k/\SumRel w.heap.size (chA cs) k w wr) (λi _=>cs.length-(intOf i).toNat)
 case atStart =>
  refine⟨0,kqx _,rfl,?_,rfl,?_,?_⟩
  . (repeat' (first | with_reducible assumption | with_reducible exact kqk _ _ | (with_reducible refine az ?_ _) | (with_reducible refine kjc ?_) | (with_reducible refine kxw ?_ ?_ _) | (with_reducible refine kq5 ?_ ?_ _)))<;>(first | exact kqb _ | exact kzx _ | omega | (dsimp only;omega) | ((repeat (first | (with_reducible refine aH ?_) | (with_reducible refine dZ ?_) | (with_reducible refine cp ?_)));first | exact kqb _ | omega))
  .exact (Bx.new w _ _).alloc _
  have:=Bx.new (w.alloc (.cells #[.int .i64 0,.int .i64 0,.int .i64 0] 61)) 61 #[.int .i64 0,.int .i64 0,.int .i64 0];rw[kqn] at this;exact this
 obtain⟨k,hk,rfl,hR⟩:=hrel;have a:=hid hR;clear hR;by_cases u:k<cs.length
 .obtain ⟨b,off,rfl,hb,h2⟩:=HR.out.at_ u;replace h2:=(a.out.below.cell (p:=⟨b,off+k,none⟩) hb).trans h2;have g:k<(chA cs).length:=by rw[jb];exact u
  have T:=hid (HO.out cs[k] (kqs u));have Fo:(chA cs)[k]=aB cs[k].l:=by simp[chA]
  have P:=jB ofS g;have Y:=jB ofF g;have hn:=jB ofN g;have he:=jW g a.out.err;have f:=λr=>oD (r:=r) g a.out.err;rw[Fo] at P Y hn he f;generalize cs[k]=x at *;obtain⟨xA,xc,h⟩:=x;dsimp only at *;obtain⟨J,K,I,q4,q5,q6,q7⟩:=a.out.res.c3;obtain⟨H,M,N,o4,V,U,o7⟩:=a.out.out.c3;have o:=nM ofS 98 tA ((chA cs).take k);have m:=nM ofF 98 sY ((chA cs).take k);have q:=nM ofN 98 sW ((chA cs).take k);have Fu:(((chA cs).take k).length:Int)<=1000000:=by rw[kzd,jb];omega
  have S:=tA (aB h);have Q:=sY (aB h);have O:=sW (aB h);have Fs:h.length<=9223372036854775807:=by have:=T.out.1;unfold maxLen at this;exact this
  have Ft:=hid (T.out.2.up a.out.below a.out.below.size);obtain⟨s',F⟩:∃x,ofS (aB h)=x:=⟨_,rfl⟩;obtain⟨R,t⟩:=xq (ofF (aB h));obtain⟨n',D⟩:∃x,ofN (aB h)=x:=⟨_,rfl⟩;obtain⟨r,z⟩:=xq (gM (aB h));have HE:=hid (show fP (aB h)=.tuple #[.agg #[.int .i64 s',.int .i64 R,.int .i64 n'],.int .i64 r] by rw[fP,eD,F,t,D,z]);rw[F] at P S;rw[t] at Y Q;rw[D] at hn O;rw[z] at he f;clear F t D z Fo;obtain⟨s0,G⟩:=xq (tot ofS ((chA cs).take k));obtain⟨f0,B⟩:=xq (tot ofF ((chA cs).take k));obtain⟨n0,E⟩:=xq (tot ofN ((chA cs).take k));rw[G] at P o H;rw[B] at Y m M;rw[E] at hn q N;have HS:=hid P;have HF:=hid Y;have HN:=hid hn;have Fq:=hid he;have X:=hid (f r rfl);have d:=a.out.out;rw[G,B,E] at d;have Z:=hid d;have HP:=hid (λW=>CD s0 f0 n0 s' R n' W (by have:=o.2;have:=m.2;have:=q.2;have:=o.1;have:=m.1;have:=q.1;omega));clear P Y hn he f G B E d o m q S Q O Fu;have hB:=a.out.below;have hz:=hB.size;go_wp2_with fail;refine (xL xA h xc _ Fs Ft.out).mono ?_;rintro e w2 ⟨rfl,n⟩;rw[HE.out];have g1:=a.out.res.up n q7;have g2:=Z.out.up n o7;clear J K I q4 q5 q6 H M N o4 V U h2;obtain⟨J,K,I,q4,q5,q6,q7'⟩:=g1.c3;obtain⟨H,M,N,o4,V,U,o7'⟩:=g2.c3;have C:=hB.trans (n.mono hz);by_cases h0:r=0
  .subst h0;have G1:=hid (g1.alloc (.cells #[.int .i64 s',.int .i64 R,.int .i64 n'] 61));have G2:=hid (g2.alloc (.cells #[.int .i64 s',.int .i64 R,.int .i64 n'] 61));have Eq:=hid (C.alloc C.size (.cells #[.int .i64 s',.int .i64 R,.int .i64 n'] 61));clear g1 g2;go_wp2_with fail;refine (HP.out _).mono ?_;rintro e w3 ⟨rfl,j⟩;have K1:=hid (G1.out.up j G1.out.lt);have k2:=G2.out.up j G2.out.lt;have K2:=hid k2;have Fr:=hid (Eq.out.trans (j.mono Eq.out.size));clear J K I q4 q5 q6 H M N o4 V U n j C;obtain⟨H,M,N,o4,V,U,o8⟩:=k2.c3;clear k2;go_wp2;go_roundw
   case rel =>
    refine⟨k+1,by omega,by go_num,?_,Fq.out,?_,?_⟩
    .exact ((Fr.out.setCell (by dsimp only;omega) _).setCell (by dsimp only;omega) _).setCell (by dsimp only;omega) _
    .exact ((K1.out.far (by dsimp only;omega) _).far (by dsimp only;omega) _).far (by dsimp only;omega) _
    rw[HS.out,HF.out,HN.out];exact ((K2.out.set_ 0 _).set_ 1 _).set_ 2 _
   case measure=>simp[intOf];omega
  have hn1:(r==0)=false:=by rw[kqi];exact h0
  have hn2:(r != 0)=true:=by rw[kqt];exact h0
  have y:=hid (X.out h0);clear h0;go_wp2_with fail;refine kqr (v:=.tuple #[eD 0 0 0,.int .i64 r]) (by simp[results,results67,go_sem,eD,J,K,I,q7']) rfl ⟨by rw[y.out],?_⟩;(repeat' (first | with_reducible assumption | with_reducible exact kqk _ _ | (with_reducible refine az ?_ _) | (with_reducible refine kjc ?_) | (with_reducible refine kxw ?_ ?_ _) | (with_reducible refine kq5 ?_ ?_ _)))<;>(first | exact kqb _ | exact kzx _ | omega | (dsimp only;omega) | ((repeat (first | (with_reducible refine aH ?_) | (with_reducible refine dZ ?_) | (with_reducible refine cp ?_)));first | exact kqb _ | omega))
 have:k=cs.length:=by omega
 subst this;have hB:=a.out.below;have hz:=hB.size;have s:=qq (L:=chA cs) (by have:=a.out.err;rwa [<-jb cs,kzj] at this);have d:=a.out.out;rw[<-jb cs,kzj] at d;obtain⟨J,K,I,q4,q5,q6,q7⟩:=a.out.res.c3;generalize tot ofS (chA cs)=s0 at *;generalize tot ofF (chA cs)=f0 at *;generalize tot ofN (chA cs)=n0 at *;have Fp:=hid s;obtain⟨H,M,N,o4,V,U,o7⟩:=d.c3;clear s d;go_wp2_with fail;refine kqr (v:=.tuple #[eD s0 f0 n0,.int .i64 0]) (by simp[results,results67,go_sem,eD,J,K,I]) rfl ⟨by rw[Fp.out],?_⟩;(repeat' (first|with_reducible assumption|with_reducible exact kqk _ _ | (with_reducible refine az ?_ _) | (with_reducible refine kjc ?_) | (with_reducible refine kxw ?_ ?_ _) | (with_reducible refine kq5 ?_ ?_ _)))<;>(first|exact kqb _|exact kzx _|omega | (dsimp only;omega) | ((repeat (first | (with_reducible refine aH ?_) | (with_reducible refine dZ ?_) | (with_reducible refine cp ?_)));first|exact kqb _|omega))
theorem sumq_n(A:Option Addr)(cs:List Ch)(c n:Nat)(w:World)(hn:cs.length=n)(hm:n<=1000000)(hr:RdC w w.heap.size A cs)(hok:∀x∈cs,x.l.length<=maxLen/\RdE w w.heap.size x.A x.l):
 Calls prog 67 #[.slice A n c] w λe w'=>e=.returned (ge (chA cs))/\Below w.heap.size w w':=by subst hn;exact E9 A cs c w hm hr hok
theorem uM(A:Option Addr)(ws:List Nat)(c n:Nat)(w:World)(hn:ws.length=n)(hm:n<=9223372036854775807)(hc:n<=c)(E:RdW w w.heap.size A ws)(ho:∀x∈ws,x<18446744073709551616):
 Calls prog 30 #[.slice A n c] w λe w'=>e=.returned (lN ws)/\Below w.heap.size w w':=by
 subst hn;have HR:=hid E;have i:=hid (λW (h:RdW W W.heap.size A ws)=>rt A ws c ws.length W rfl hm hc h ho);unfold vD at i;by_cases j:bv ws=0
 .have z:lN ws=ge ((coL ws).map aB):=by unfold lN;rw[if_pos j]
  have O:(coL ws).length<=4000:=by obtain⟨M,hl⟩:=f9 j;obtain⟨t,y⟩:=qk hl;have Z:=jD (pK ho) (y.all ho);have T:=Z.2.2.1;have hb:=(af _).1 M;rw[fB] at T;unfold coL;rw[if_pos j,kq3];omega
  obtain⟨a,hO⟩:=xq (coL ws);rw[hO] at z O i;rw[j] at i;have P:=hid z;clear j z ho E hO;go_enter func30,ntmps30;go_wp2_with fail;refine (i.out _ ((HR.out.alloc (kqb _) _).more (by simp))).mono ?_;rintro e w1 ⟨⟨L,B,d,vx,rfl,y,J,C,m,-⟩,b⟩;rw[kqn] at b;have D:=Bx.of_new b;have o:=hid (ao b);obtain⟨g,cx,rfl,-⟩:=m trivial;have Fp:=hid J;have Fo:=hid (λx m=>(C x m).2);have S:L.length=a.length:=by rw[<-y,kzl]
  have K:chA L=a.map aB:=by rw[<-y,List.map_map];rfl
  have N:Hid (∀x∈L,x.l.length<=maxLen):=hid λx m=>by
   have:=(C x m).1;unfold maxLen;omega
  have HS:=hid (λW Z T=>sumq_n B L d L.length W rfl (by omega) Z T);rw[K] at HS;obtain⟨s,M⟩:=xq (smS (a.map aB));obtain⟨f,hf⟩:=xq (smF (a.map aB));obtain⟨q,hq⟩:=xq (smN (a.map aB));obtain⟨r,E⟩:=xq (dW (a.map aB));have HE:=hid (show ge (a.map aB)=.tuple #[.agg #[.int .i64 s,.int .i64 f,.int .i64 q],.int .i64 r] by rw[ge,eD,M,hf,hq,E]);have R:=D.lt;have B1:=hid D;obtain⟨I,H,F,Q,Y,V,X⟩:=D.c3;clear M hf hq E m J C y b S K D;go_wp2_with fail;refine (HS.out w1 (show RdC _ _ _ _ from Fp.out) (λx m=>⟨N.out x m,Fo.out x m⟩)).mono ?_;rintro e w2 ⟨rfl,u⟩;rw[HE.out];have Eq:=hid (o.out.trans (u.mono o.out.size));have U:=B1.out.up u R;clear I H F Q Y V X;obtain⟨I,H,F,Q,Y,V,X⟩:=U.c3;have C2:=hid U;clear u U;go_wp2_with fail;refine kqr (v:=.tuple #[eD s f q,.int .i64 r]) (by simp[results,results30,go_sem,eD,I,H,F]) rfl ⟨by rw[P.out,HE.out];rfl,?_⟩;exact ((Eq.out.setCell (kqb _) _).setCell (kqb _) _).setCell (kqb _) _
 have z:lN ws=.tuple #[eD 0 0 0,.int .i64 (bv ws)]:=by unfold lN;rw[if_neg j]
 obtain⟨k,p⟩:=xq (bv ws);rw[p] at i z j;have hne:(k != 0)=true:=by rw[kqt];exact j
 have dn0:decide (k=0)=false:=by rw[kqc];exact j
 have P:=hid z;clear p z ho E;go_enter func30,ntmps30;go_wp2_with fail;refine (i.out _ ((HR.out.alloc (kqb _) _).more (by simp))).mono ?_;rintro e w1 ⟨⟨L,B,d,vx,rfl,y,-,-,-,G⟩,b⟩;rw[kqn] at b;have D:=Bx.of_new b;have o:=hid (ao b);rw[G j];obtain⟨I,H,F,Q,Y,V,X⟩:=D.c3;clear G j y b;go_wp2_with fail;refine kqr (v:=.tuple #[eD 0 0 0,.int .i64 k]) (by simp[results,results30,go_sem,eD,I,H,F]) rfl ⟨by rw[P.out],?_⟩;exact ((o.out.setCell (kqb _) _).setCell (kqb _) _).setCell (kqb _) _
theorem cv_one{ws:List Nat}{H:Nat}{e:Ending}{w':World}(hz:bv ws=0->(cpZ ws).length=ws.length)(h:Br ws H e w'):∃A c,e=.returned (.tuple #[.slice A (coV ws).length c,.int .i64 (bv ws)])/\RdW w' w'.heap.size A (coV ws):=by
 unfold coV;by_cases a:bv ws=0
 .rw[if_pos a,a,hz a];obtain⟨g,c,rfl,b⟩:=h.1 a;exact⟨_,_,rfl,Rd.of_own b⟩
 rw[if_neg a];exact⟨none,0,h.2 a,Rd.nil_⟩
theorem ln(A:Option Addr)(ws:List Nat)(c n:Nat)(w:World)(hn:ws.length=n)(hm:n<=9223372036854775807)(hc:n<=c)(hr:RdW w w.heap.size A ws)(ho:∀x∈ws,x<18446744073709551616):
 Calls prog 5 #[.slice A n c] w λe w'=>e=.returned (.bool true)/\Below w.heap.size w w':=by
 have HR:=hid hr;have HG:=hid (λW=>xd A n c W hm);cases hg:og n
 .rw[hg] at HG;have Jm:n<=2060:=by have:=wO hg;omega
  have V:bv ws=0->(cpZ ws).length=ws.length:=λh0=>by
   obtain⟨hs,hl⟩:=f9 h0;obtain⟨t,L⟩:=qk hl;exact DT L ho
  have y:=hid (λH e w' (h:Br ws H e w')=>cv_one V h);have HV:=hid (λW (h:RdW W W.heap.size A ws)=>AY A ws c n W hn hm hc h ho);have Jn:=hid (λB d W (hd:n<=d) (h:RdW W W.heap.size B ws)=>An B ws d n W hn hm hd h ho);have HS:=hid (λW (h:RdW W W.heap.size A ws)=>ri A ws c n W hn hm hc h ho);have D:=hid (λB d W (hd:n<=d) (h:RdW W W.heap.size B ws)=>zy B ws d n W hn hm hd h ho);have HE:=hid (λW (h:RdW W W.heap.size A ws)=>vd A ws c n W hn hm hc h ho);have Gq:=hid (λB d W (hd:n<=d) (h:RdW W W.heap.size B ws)=>uM B ws d n W hn hm hd h ho);unfold dx at HS;unfold D0 at D;have Gi:(coV ws).length<=2060:=by
   unfold coV;split
   .rename_i h0;rw[V h0,hn];exact Jm
   exact kqx _
  have Z:(if bv ws=0 then [(⟨16,1⟩:En)] else []).length<=1:=by split<;>simp
  have Gp:∃s f q i:Int,lN ws=.tuple #[.agg #[.int .i64 s,.int .i64 f,.int .i64 q],.int .i64 i]:=by
   unfold lN;split
   .exact ⟨_,_,_,_,rfl⟩
   exact⟨_,_,_,_,rfl⟩
  obtain⟨s,f,q,i,he⟩:=Gp;rw[he] at HE Gq;obtain⟨r,Gz⟩:=xq (bv ws);rw[Gz] at y HS D Z;obtain⟨X,hX⟩:=xq (coV ws);rw[hX] at y Gi;obtain⟨E,hE⟩:∃E,(if r=0 then [(⟨16,1⟩:En)] else [])=E:=⟨_,rfl⟩;rw[hE] at HS D Z;have S:=hid (λG F d e W (h1:RdW W W.heap.size G X) (h2:RdW W W.heap.size F X)=>nf G F X X X.length X.length d e W.heap.size W rfl rfl (by omega) h1 h2 (kqb _));rw[show decide (X=X)=true by simp] at S;have R:=hid (λG F d e W (h1:RdE W W.heap.size G E) (h2:RdE W W.heap.size F E)=>oJ G F E E E.length E.length d e W.heap.size W rfl rfl (by omega) h1 h2 (kqb _));rw[show decide (E=E)=true by simp] at R;have Jh:=hid (λG F d e W (h1:RdW W W.heap.size G ws) (h2:RdW W W.heap.size F ws)=>nf G F ws ws n n d e W.heap.size W hn hn (by omega) h1 h2 (kqb _));rw[show decide (ws=ws)=true by simp] at Jh;have HN:=hid hn;have HQ:=hid (λW (h:RdW W W.heap.size A ws)=>h);obtain⟨i0,hi,Ga,Jd,Fq⟩:=kze lZ;have HI:=hid hi;have Jk:=hid Ga;have Ji:=hid Jd;have Jl:=hid Fq;clear hi Ga Jd Fq;obtain⟨m,Je⟩:=xq X.length;obtain⟨k,Fu⟩:=xq E.length;rw[Je] at y Gi S;rw[Fu] at HS D Z R;clear hr ho hg V Gz hX hE he Je Fu;go_enter func5,ntmps5
  go_wp2_with fail;refine (HG.out _).mono ?_;rintro e w1' ⟨rfl,rfl⟩;go_wp2_with (at_builtin;refine aI _ (by rfl) _ _ 22 rfl w.heap.size 53 i0 _ 1 8 underlying22 HI.out Jk.out Ji.out Jl.out rfl (by decide) (.slice (some ⟨w.heap.size,0,none⟩) 0 0) 0 [] (by rfl) (fm w _ _ _ (kqb _)) w.heap.size (A) (n) _ (ws.flatMap au) (by rfl) (by rw[ki];omega) (Rd.alloc (HR.out) (kqb _) _) (cn lP _) (by unfold maxLen;omega) (by omega) (by simp) ?_;intro v1 wa l Fo;have Jb:=aM ((kqk w.heap.size w).alloc (kqb _) _) (by simp) (fm w w.heap.size 53 1 (kqb _)) Fo;simp only[kx5,kz5] at l;obtain⟨ga,ca,rfl⟩:=ap l;have C:=hid l;have M:=hid Jb;clear l Jb Fo);have Gv:=hid (show RdW wa wa.heap.size ga ws from Rd.of_own C.out);have U:n<=ca:=jt C.out;clear C;refine (HV.out wa (HR.out.up M.out M.out.size)).mono ?_;rintro e w1 ⟨z,J⟩;obtain⟨G,c1,rfl,Jc⟩:=y.out _ _ _ z;have Gj:=hid (M.out.trans (J.mono M.out.size));have Y:=hid (Gv.out.up J J.size);have Ge:=hid Jc;clear z J Jc Gv;go_wp2_with fail;refine (Jn.out ga ca w1 U Y.out).mono ?_;rintro e w2 ⟨z,p⟩;obtain⟨F,c2,rfl,Gd⟩:=y.out _ _ _ z;have K:=hid (Gj.out.trans (p.mono Gj.out.size));have Fr:=hid (Y.out.up p p.size)
  have Jf:=hid (Ge.out.up p p.size);have Fy:=hid Gd;clear z p Gd Y Ge;go_wp2_with fail;refine (HS.out w2 (HR.out.up K.out K.out.size)).mono ?_;rintro e w3 ⟨⟨A3,c3,rfl,v⟩,o⟩;have Gm:=hid (K.out.trans (o.mono K.out.size));have P:=hid (Fr.out.up o o.size);have Gw:=hid (Jf.out.up o o.size);have Gn:=hid (Fy.out.up o o.size);have Gx:=hid (show RdE w3 w3.heap.size A3 E from Rd.of_own v);clear o v Fr Jf Fy;go_wp2_with fail;refine (D.out ga ca w3 U P.out).mono ?_;rintro e w4 ⟨⟨A4,c4,rfl,Fv⟩,j⟩;have I:=hid (Gm.out.trans (j.mono Gm.out.size));have Gf:=hid (P.out.up j j.size);have Gy:=hid (Gw.out.up j j.size);have Ft:=hid (Gn.out.up j j.size);have Fw:=hid (Gx.out.up j j.size);have Fx:=hid Fv;clear j Fv P Gw Gn Gx;go_wp2_with fail;refine (HE.out w4 (HR.out.up I.out I.out.size)).mono ?_;rintro e w5 ⟨rfl,T⟩;have b:=T.alloc T.size (.cells #[.int .i64 s,.int .i64 f,.int .i64 q] 61);have Ja:=hid (I.out.trans (b.mono I.out.size));have O:=hid (Gf.out.up b b.size);have Gr:=hid (Gy.out.up b b.size);have Jg:=hid (Ft.out.up b b.size);have Fz:=hid (Fw.out.up b b.size);have Gs:=hid (Fx.out.up b b.size);have N5:=hid (Bx.new w5 61 #[.int .i64 s,.int .i64 f,.int .i64 q]);clear T b Gf Gy Ft Fw Fx
  go_wp2_with fail;refine (Gq.out ga ca _ U O.out).mono ?_;rintro e w6 ⟨rfl,Q⟩;have a:=Q.alloc Q.size (.cells #[.int .i64 s,.int .i64 f,.int .i64 q] 61);have Gu:=hid (Ja.out.trans (a.mono Ja.out.size));have Fp:=hid (O.out.up a a.size);have Eq:=hid (Gr.out.up a a.size);have Gl:=hid (Jg.out.up a a.size);have Gk:=hid (Fz.out.up a a.size);have Fs:=hid (Gs.out.up a a.size);have N6:=hid (N5.out.up a N5.out.lt);have M6:=hid (Bx.new w6 61 #[.int .i64 s,.int .i64 f,.int .i64 q]);clear Q a O Gr Jg Fz Gs N5;go_wp2_with fail;refine (S.out G F c1 c2 _ Eq.out Gl.out).mono ?_;rintro e w7 ⟨rfl,g⟩;have Gg:=hid (Gu.out.trans (g.mono Gu.out.size));have Gh:=hid (Fp.out.up g g.size);have Gt:=hid (Gk.out.up g g.size);have Gc:=hid (Fs.out.up g g.size);have N7:=hid (N6.out.up g N6.out.lt);have M7:=hid (M6.out.up g M6.out.lt);clear g Fp Eq Gl Gk Fs N6 M6;go_wp2_with fail;refine (R.out A3 A4 c3 c4 _ Gt.out Gc.out).mono ?_;rintro e w8 ⟨rfl,u⟩;have N:=hid (Gg.out.trans (u.mono Gg.out.size));have Jj:=hid (Gh.out.up u u.size);have n8:=N7.out.up u N7.out.lt;have m8:=M7.out.up u M7.out.lt;clear u Gh Gt Gc N7 M7;obtain⟨p0,p1,p2,-⟩:=n8.c3;obtain⟨q0,q1,q2,-⟩:=m8.c3;clear n8 m8;go_wp2_with fail;refine (Jh.out A ga c ca _ (HR.out.up N.out N.out.size) Jj.out).mono ?_;rintro e w9 ⟨rfl,Gb⟩;have Jo:=hid (N.out.trans (Gb.mono N.out.size));clear Gb;go_wp2;go_ret;exact⟨rfl,Jo.out⟩
 rw[hg] at HG;clear hr ho hg;go_enter func5,ntmps5;go_wp2_with fail;refine (HG.out _).mono ?_;rintro e w1' ⟨rfl,rfl⟩;go_wp2;go_ret;exact⟨rfl,kqk _ _⟩
theorem lJ(w:World)(A:Option Addr)(ws:List Nat)(c:Nat)(hn:ws.length<=maxLen)(hc:ws.length<=c)(hr:RdW w w.heap.size A ws)(ho:∀x∈ws,x<18446744073709551616):
 Calls prog 5 #[.slice A ws.length c] w λe w'=>e=.returned (.bool true)/\Below w.heap.size w w':=ln A ws c ws.length w rfl (by unfold maxLen at hn;omega) hc hr ho
end Go.Proofs.YtpcajamacpbjcaaGreat
