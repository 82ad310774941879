/- The reference's types, read: what it returns for all words. -/
import Derived.Test.YtpcajamacpbjcaaGreatZR13R
import Derived.Test.YtpcajamacpbjcaaGreatZKRch
import Derived.Test.YtpcajamacpbjcaaGreatZKHead
import Derived.WalkMore
set_option maxHeartbeats 16000000
set_option maxRecDepth 100000
set_option linter.all false
namespace Go.Proofs.YtpcajamacpbjcaaGreat
open Lib (hid)
open Go.RowKit
open Go.Proofs.Tryz
theorem IH(a:Nat):∀n,nc ((List.range n).map λi=>a/4 ^ (i+4)%4) 4+256*(a/256/4 ^ n*4 ^ n)=256*(a/256):=by
 intro n
 induction n with
 | zero=>simp[nc]
 | succ n ih =>
  rw[kk4,kxu,nZ];simp only[kxm,List.map_nil,nc,kzg,kkn,kxa];have g:a/256/4 ^ (n+1)=a/256/4 ^ n/4:=by rw[kjm,kxe (a/256)]
  have c:a/4 ^ (n+4)=a/256/4 ^ n:=by rw[kxe,show (4:Nat) ^ (n+4)=256*4 ^ n by rw[kka,kje]]
  rw[g,c];obtain⟨q,f⟩:=xq (a/256/4 ^ n);rw[f] at ih |-;have h:(4:Nat) ^ (4+n)=256*4 ^ n:=by rw[kka]
  have e:(4:Nat) ^ (n+1)=4*4 ^ n:=by rw[kjm,kje]
  rw[h,e];obtain⟨p,d⟩:∃p,(4:Nat) ^ n=p:=⟨_,rfl⟩;rw[d] at ih |-;have b:q*p=(q%4)*p+(q/4)*(4*p):=by
   have:q=4*(q/4)+q%4:=by omega
   conv=>lhs;rw[this]
   rw[kjh,kje 4 (q/4),kvj,kjw]
  rw[b] at ih;have e6:q%4*(256*p)=256*(q%4*p):=by rw[Nat.mul_left_comm]
  omega
def DD (a:Nat):Bool:=decide (a%256<=8)&&(a/256/4 ^ (a%256)==0&&eD (dJ a))
theorem GR(a b:Nat):cD a b=(DD a&&iz a==b):=by
 rw[kzl];constructor
 .intro h;obtain⟨g,d,c,f⟩:=rK h;unfold DD;simp[g,d,c,f]
 intro h;unfold DD at h;simp only[kqu,kzd,kqx] at h;obtain⟨⟨g,d,c⟩,f⟩:=h;have j:=IH a (a%256);rw[d] at j;have e:iG (dJ a)=a:=by
  have:iG (dJ a)=(dJ a).length+nc (dJ a) 4:=rfl;rw[fk] at this;have e2:nc (dJ a) 4=256*(a/256):=by have:nc (dJ a) 4=nc ((List.range (a%256)).map λi=>a/4 ^ (i+4)%4) 4:=rfl;rw[this];omega
  omega
 unfold cD;simp[g,c,f,e]
theorem FV(A:Option Addr)(l:List Nat)(c n B:Nat)(w:World)(hn:l.length=n)(h8:n<=8)(d:∀x∈l,x<=3)(hr:RdY w B A l):
 Calls prog 136 #[.slice A n c] w λe w'=>e=.returned (.int .i64 (if eD l=true then 0 else 8))/\w=w':=by
 by_cases a:eD l=true
 .rw[if_pos a];exact qg A l c n B w hn h8 a hr
 rw[if_neg a];subst hn;have y:=hid hr;have q:=hid d;have z:=hid a;clear hr a d;go_enter func136,ntmps136;go_wp2_with fail
 go_loop [3] (λi=>∃k:Nat,k<=l.length/\i=.int .i64 k/\Hid (∀j (h:j<l.length),j<k->1<=l[j])) (λi=>l.length-(intOf i).toNat)
 case atStart=>exact⟨0,kqz _,rfl,hid λj h r=>absurd r (by omega)⟩
 obtain⟨k,a,rfl,p⟩:=hrel;by_cases m:k<l.length
 .obtain ⟨b,off,rfl,hb,C⟩:=y.out.at_ m;have v:=q.out l[k] (kqn m);have f:Hid (1<=l[k]->∀j (h:j<l.length),j<k+1->1<=l[j]):=hid λt j h r=>by
   rcases kq7 j k with d|d
   .exact p.out j h d
   have:j=k:=by omega
   subst this;exact t
  obtain⟨x,o⟩:=xq (l[k]);rw[o] at C v f;clear o;by_cases g:x=0
  .subst g;go_wp2;go_ret;exact⟨rfl,rfl⟩
  have e1:((x:Int)==0)=false:=by rw[kqi];omega
  have u:=hid (f.out (by omega));clear g;go_wp2_with fail
  go_round
  case rel=>exact⟨k+1,by omega,by go_num,u⟩
  case measure=>simp[intOf];omega
 exfalso;refine z.out ((cZ l).2 λx o=>?_);obtain⟨j,s,rfl⟩:=kq0 o;exact⟨p.out j s (by omega),q.out _ (kqn s)⟩
theorem fldL_3(a:Nat):∀x∈dJ a,x<=3:=λx b=>by unfold dJ at b;obtain⟨i,-,rfl⟩:=kzx.1 b;omega
theorem BE(a m:Nat):∀x∈(dJ a).take m,x<=3:=λx b=>fldL_3 a x (kxp b)
def Ja (H a:Nat) (e:Ending) (w':World):Prop:=∃A n c,e=.returned (.tuple #[.slice A n c,.bool (DD a)])/\(DD a=true->n=(dJ a).length/\w'.ownsRow H 5 1 (.slice A n c) n ((dJ a).flatMap bv))
theorem xu(a:Nat)(w:World)(ha:a<18446744073709551616):
 Calls prog 287 #[.int .u64 (a:Int)] w λe w'=>Ja w.heap.size a e w'/\Below w.heap.size w w':=by
 have j:=hid (fk a);have A:=hid (λk h=>rk a k h);have P:=hid (λk=>DE a k);have H3:=hid (BE a);have D:Hid (DD a=(decide (a%256<=8)&&(a/256/4 ^ (a%256)==0&&eD (dJ a)))):=hid rfl;obtain⟨m,z⟩:=xq (a%256);rw[z] at j A D;have L:(a:Int)%256=(m:Int):=by omega
 have g:=hid L;have w1':IntKind.u64.wrap ((a:Int)/256)=(a:Int)/256:=kzw _ (by omega);have ha0:(0:Int)<=(a:Int):=by omega
 have HA:=hid ha;clear z ha L;obtain⟨i0,Z,y,F,G⟩:=kzr ld;have HI:=hid Z;have M:=hid y;have T:=hid F;have N:=hid G;clear Z y F G;go_enter func287,ntmps287;go_wp2_with fail;go_loopw [5,6,7] (λv r i wr=>∃k:Nat,k<=m/\k<=8/\i=.int .u64 k/\r=.int .u64 ((a/256/4 ^ k:Nat):Int)/\wr.ownsRow w.heap.size 5 1 v k (((dJ a).take k).flatMap bv)/\Below w.heap.size w wr) (λ_ _ i _=>m-(intOf i).toNat)
 case atStart=>exact⟨0,kqz _,kqz _,rfl,by simp,kq6 _ _ _ _,kqk _ _⟩
 obtain⟨k,hk,Q,rfl,rfl,b,p⟩:=hrel;have hz:=p.size;by_cases d:k<m/\k<8
 .obtain ⟨d,hlt8⟩:=d;obtain⟨R,W⟩:=P.out k;have u:=A.out k d;rw[<-R] at u;have E:a/256/4 ^ k<18446744073709551616:=kki (kk3 _ _) (kki (kk3 _ _) HA.out);obtain⟨r,l⟩:=xq (a/256/4 ^ k);rw[l] at R W u E;simp only[l];have U:=hid (show (((a/256/4 ^ (k+1):Nat)):Int)=(r:Int)/4 by rw[<-W];omega);have B:=hid (show ((dJ a).take (k+1)).flatMap bv=((dJ a).take k).flatMap bv++[.int .u8 ((r:Int)%4)] by
   have X:k<(dJ a).length:=by rw[j.out];exact d
   rw[kqp X,cB];rw[kql X] at u;rw[Option.some.inj u];rfl)
  have w2':IntKind.u64.wrap ((r:Int)/4)=(r:Int)/4:=kzw _ (by omega);have hr00:(0:Int)<=(r:Int):=by omega
  have hki:decide ((k:Int)<(a:Int)%256)=true:=by rw[kqo,g.out];omega
  have hk8':(k:Int)<8:=by omega
  have hw8:IntKind.u8.wrap ((r:Int)%4)=(r:Int)%4:=IntWalk.u8_in _ (by omega);clear u l R W E;go_wp2_with (at_builtin;refine kzh _ rfl _ _ 113 rfl w.heap.size 5 i0 _ 1 1 underlying113 HI.out M.out T.out N.out rfl (by decide) _ _ _ rfl (b.alloc _) ⟨_,0,none⟩ 1 1 [.int .u8 ((r:Int)%4)] rfl rfl (cI _ _ _) (by simp[Value.oneCell']) (by unfold maxLen;omega) (by omega) (aS p.size) ?_;intro v1 Y s S _;have V:=aF p p.size b S);go_roundw
  case rel=>exact⟨k+1,by omega,by omega,by go_num,by rw[U.out],by rw[B.out];exact s,V⟩
  case measure=>simp[intOf];omega
 obtain⟨x,I,rfl⟩:=aE b;have J:((dJ a).take k).length=k:=by rw[kq4,j.out];omega
 have t:=hid (FV x ((dJ a).take k) I k wr.heap.size wr J Q (H3.out k) (Rd.of_own b));have H:=hid b;obtain⟨r,l⟩:=xq (a/256/4 ^ k);have K:=hid l;simp only[l];have c:(decide ((k:Int)<(a:Int)%256)&&decide ((k:Int)<8))=false:=by rw[kkk,kqh,kqh,g.out];omega
 by_cases q:m<=8
 .have O:k=m:=by omega
  subst O;rw[kq8 (by rw[j.out];exact kqa _)] at t H;have d8:decide ((a:Int)%256<=8)=true:=by rw[kqo,g.out];omega
  have dk:decide ((k:Int)<(a:Int)%256)=false:=by rw[kqh,g.out];omega
  by_cases o:r=0
  .subst o;cases f:eD (dJ a)
   .have n:=hid (show DD a=false by rw[D.out,f];simp);rw[f] at t;clear f b l d c;go_wp2_with fail;refine t.out.mono ?_;rintro e Y ⟨rfl,rfl⟩;go_wp2;go_ret2;exact⟨⟨x,k,I,by rw[n.out];rfl,λh=>by rw[n.out] at h;cases h⟩,p⟩
   have n:=hid (show DD a=true by rw[D.out,f,K.out,decide_eq_true q];rfl);rw[f] at t;clear f b l d c;go_wp2_with fail;refine t.out.mono ?_;rintro e Y ⟨rfl,rfl⟩;go_wp2;go_ret2;exact⟨⟨x,k,I,by rw[n.out];rfl,λ_=>⟨j.out.symm,H.out⟩⟩,p⟩
  have n:=hid (show DD a=false by rw[D.out,K.out,show (r==0)=false by rw[kqi];exact o];simp);have e0:((r:Int)==0)=false:=by rw[kqi];omega
  have e0n:(r==0)=false:=by rw[kqi];exact o
  clear b l d c o;go_wp2;go_ret2;exact⟨⟨x,k,I,by rw[n.out];rfl,λh=>by rw[n.out] at h;cases h⟩,p⟩
 have C:k=8:=by omega
 subst C;have n:=hid (show DD a=false by rw[D.out,decide_eq_false q];rfl);have d8:decide ((a:Int)%256<=8)=false:=by rw[kqh,g.out];omega
 have dk:decide ((8:Int)<(a:Int)%256)=true:=by rw[kqo,g.out];omega
 clear b l d c q t;go_wp2;go_ret2;exact⟨⟨x,8,I,by rw[n.out];rfl,λh=>by rw[n.out] at h;cases h⟩,p⟩
theorem yE(a b:Nat)(w:World)(ha:a<18446744073709551616):
 Calls prog 261 #[.int .u64 (a:Int),.int .u64 (b:Int)] w λe w'=>mO w.heap.size a b e w'/\Below w.heap.size w w':=by
 have l:=hid (xu a w ha);cases p:DD a
 .have h:cD a b=false:=by rw[GR,p];rfl
  have j:bq a b=[]:=by unfold bq;rw[h];rfl
  have i:eX a b=50:=by unfold eX;rw[h];rfl
  have g:=hid (And.intro j i);unfold Ja at l;rw[p] at l;clear h p j i;go_enter func261,ntmps261;go_wp2_with fail;refine l.out.mono ?_;rintro e r ⟨⟨v,F,z,rfl,-⟩,c⟩;go_wp2;go_ret2;exact⟨⟨none,0,by rw[g.out.1,g.out.2];rfl,by rw[g.out.1];exact kq6 _ _ _ _⟩,c⟩
 unfold Ja at l;rw[p] at l;have t:=hid (λA W (G:RdW W W.heap.size A [a])=>rC A [a] 1 1 W rfl (by omega) G (λx D=>by rw[kqy] at D;rw[D];exact ha));rw[show a8 14695981039346656037 [a]=iz a from rfl] at t;have s:=hid (GR a b);rw[p] at s;obtain⟨q,E⟩:=xq (iz a);rw[E] at t s;clear p E ha;by_cases u:q=b
 .have h:cD a b=true:=by rw[s.out,u];simp
  have j:bq a b=dJ a:=by unfold bq;rw[if_pos h]
  have i:eX a b=0:=by unfold eX;rw[if_pos h]
  have g:=hid (And.intro j i);subst u;have y:((q:Int) != (q:Int))=false:=by simp
  clear h j i;go_enter func261,ntmps261;go_wp2_with fail;refine l.out.mono ?_;rintro e r ⟨⟨v,F,z,rfl,d⟩,c⟩;obtain⟨rfl,d⟩:=d trivial;have o:=c.size;have k:=hid c;have C:=hid d;clear c d;go_wp2_with fail;have m:=Bx.new r 53 #[.int .u64 (a:Int)];refine (t.out _ _ (show Rd _ _ _ _ from Rd.of_bx m m.lt)).mono ?_;rintro e H ⟨rfl,f⟩;have n:=hid ((k.out.alloc o (.cells #[.int .u64 (a:Int)] 53)).trans (f.mono (by simp;omega)));have B:=hid (aa (C.out.alloc (.cells #[.int .u64 (a:Int)] 53)) f (kqa _));clear m f;go_wp2;go_ret2;exact⟨⟨v,z,by rw[g.out.1,g.out.2];rfl,by rw[g.out.1];exact B.out⟩,n.out⟩
 have h:cD a b=false:=by rw[s.out,show (q==b)=false by rw[kqi];exact u];rfl
 have j:bq a b=[]:=by unfold bq;rw[h];rfl
 have i:eX a b=50:=by unfold eX;rw[h];rfl
 have g:=hid (And.intro j i);have y:((b:Int) != (q:Int))=true:=by rw[kqv];omega
 have hnen:(b != q)=true:=by rw[kqv];omega
 clear h u j i;go_enter func261,ntmps261;go_wp2_with fail;refine l.out.mono ?_;rintro e r ⟨⟨v,F,z,rfl,-⟩,c⟩;have o:=c.size;have k:=hid c;clear c;go_wp2_with fail;have m:=Bx.new r 53 #[.int .u64 (a:Int)];refine (t.out _ _ (show Rd _ _ _ _ from Rd.of_bx m m.lt)).mono ?_;rintro e H ⟨rfl,f⟩;have n:=hid ((k.out.alloc o (.cells #[.int .u64 (a:Int)] 53)).trans (f.mono (by simp;omega)));clear m f;go_wp2;go_ret2;exact⟨⟨none,0,by rw[g.out.1,g.out.2];rfl,by rw[g.out.1];exact kq6 _ _ _ _⟩,n.out⟩
theorem Hs(A:Option Addr)(ws:List Nat)(c n:Nat)(a:Int)(w:World)(hn:ws.length=n)(hm:n<=9223372036854775807)(ha : -9223372036854775808<=a/\a<=9223372036854775807)(J:RdW w w.heap.size A ws)(ho:∀x∈ws,x<18446744073709551616):
 Calls prog 145 #[.slice A n c,.int .i64 a] w λe w'=>e=.returned (.tuple #[(iO ws a).val,.int .i64 (bt ws a)])/\Below w.heap.size w w':=by
 subst hn;have HR:=hid J;have HO:=hid ho;obtain⟨a1,a2⟩:=ha;clear J ho;have m:=Bx.new w 55 #[.int .i64 0,.int .i64 0,.int .i64 0,.int .i64 0,.bool false,.int .u64 0];cases R:ak (ws.length:Int)
 .have HI:=hid (bL R);obtain⟨s,t⟩:=wH (fP (a:=a) R) (by omega);have G1:=hid s;have X:=hid t;have BD:=hid m;clear R s t m;go_enter func145,ntmps145;go_wp2_with fail
  go_step3
  go_wp2_with fail;refine (aB A ws.length c _ hm).mono ?_;rintro e q ⟨rfl,rfl⟩;rw[HI.out];go_wp2_with fail;rw[Exit.noGoto_ret];refine kqq (v:=.tuple #[.agg #[.int .i64 0,.int .i64 0,.int .i64 0,.int .i64 0,.bool false,.int .u64 0],.int .i64 8]) (aZ results145 _ BD.out rfl rfl) rfl ⟨by rw[G1.out,X.out];rfl,(kqk _ _).alloc (kqa _) _⟩
 have HI:=hid (aV R);have hb:=kR (aV R);obtain⟨o,S,d⟩:=hb;have F:=hid d;have HS:=hid R;clear R d hm;by_cases j:128<=a/\a<=(ws.length:Int)/\a%2=0
 .obtain ⟨a3,a4,a5⟩:=j;have hev:(a%2 != 0)=false:=by rw[kqr];exact a5
  have d1:decide (a<128)=false:=by rw[kqh];omega
  have d2:decide ((ws.length:Int)<a)=false:=by rw[kqh];omega
  have U:=hid (mV A ws c ws.length a (w.alloc (.cells #[.int .i64 0,.int .i64 0,.int .i64 0,.int .i64 0,.bool false,.int .u64 0] 55)) rfl (by omega) ((HR.out.alloc (kqa _) _).more (by simp)) HO.out);rw[kqm] at U;have BD:=hid m;clear a5 m;go_enter func145,ntmps145;go_wp2_with fail
  go_step3
  go_wp2_with fail;refine (aB A ws.length c _ (by omega)).mono ?_;rintro e q ⟨rfl,rfl⟩;rw[HI.out];go_wp2_with fail;refine U.out.mono ?_;rintro e q ⟨⟨A1,c1,rfl,M,V⟩,E⟩;have o:=ay E;have Q:=o.size;have T:=Bx.of_new E;have hz1':=T.lt;have HCL:=hid V;obtain⟨l,hl⟩:=xq (aT ws a);have HL:=hid hl;rw[hl] at M |-;have Lb:=hid M;obtain⟨r,J⟩:=xq (cj ws a);have P:=hid J;rw[J];clear hl M V;by_cases C:r=0
  .subst C;go_wp2_with fail
   go_step3
   go_wp2_with fail;have Eq:=hid T;have La:=hid o;have hlen:l.length<=4611686018427387904:=by rw[<-HL.out];exact iR ws a
   have bf:=Bx.new q 55 #[.int .i64 0,.int .i64 0,.int .i64 0,.int .i64 0,.bool false,.int .u64 0];clear J T o E;go_loopg [8,44] l.length (λg s8 i wr=>∃k:Nat,k+g=l.length/\i=.int .i64 k/\s8=.int .i64 6/\Hid (fj l k)/\Bx wr q.heap.size 55 #[.int .i64 0,.int .i64 0,.int .i64 0,.int .i64 0,.bool false,.int .u64 0]/\Below q.heap.size q wr)
   case atStart=>exact⟨0,by omega,rfl,rfl,nB l,bf,(kqk _ _).alloc (kqa _) _⟩
   obtain⟨k,hk,rfl,rfl,N,bx,I⟩:=hrel;have hz:=I.size;by_cases K:k<l.length
   .obtain ⟨b,off,rfl,hbw,q0,q1,q2,q3,q4,q5⟩:=RdB.at_ (Lb.out.below I) K;have D:=hid (bU l k K);obtain⟨x,hx⟩:=xq (l[k]);rw[hx] at q0 q1 q2 q3 q4 q5 D;obtain⟨y,xs,B,z,xm,u⟩:=x;dsimp only at q0 q1 q2 q3 q4 q5;have BX:=hid bx;obtain⟨c0,c1',c2,c3,c4,c5,f,cz⟩:=bx.c6;have cf0:=f 0;have cf1:=f 1;have W:=f 2;have cf3:=f 3;have cf4:=f 4;have cf5:=f 5;have hlm:(k:Int)<(l.length:Int):=by omega
    clear hx bx f;cases xm
    .go_wp2;go_roundg (gk-1)
     case rel=>exact⟨k+1,by omega,by go_num,rfl,ol N.out (by rw[D.out]),BX.out.alloc _,I.alloc hz _⟩
     case measure=>omega
    have Y:=Eq.out.up I (by omega);have H:=Bx.new wr 55 #[.int .i64 y,.int .i64 xs,.int .i64 B,.int .i64 z,.bool true,.int .u64 (u:Int)];have Z:=hid (I.alloc hz (.cells #[.int .i64 y,.int .i64 xs,.int .i64 B,.int .i64 z,.bool true,.int .u64 (u:Int)] 55));have HD:=hid (Y.alloc (.cells #[.int .i64 y,.int .i64 xs,.int .i64 B,.int .i64 z,.bool true,.int .u64 (u:Int)] 55));have BX9:=hid (BX.out.alloc (.cells #[.int .i64 y,.int .i64 xs,.int .i64 B,.int .i64 z,.bool true,.int .u64 (u:Int)] 55));have G:=hid H;have h:=qL;clear Y H;clear c0 c1' c2 c3 c4 c5 cf0 cf1 W cf3 cf4 cf5;go_upto_region 15 with (fail);obtain⟨wn,Kw⟩:∃wn,wr.alloc (.cells #[.int .i64 y,.int .i64 xs,.int .i64 B,.int .i64 z,.bool true,.int .u64 (u:Int)] 55)=wn:=⟨_,rfl⟩;rw[Kw] at HD BX9 Z G |-;clear Kw;go_wp2_with (first
     | ((with_reducible refine aQ 55 (.tmp 11) ?_);refine kxj rfl _ _ rfl wr.heap.size (by rfl) 55 #[.int .i64 y,.int .i64 xs,.int .i64 B,.int .i64 z,.bool true,.int .u64 (u:Int)] (0,0) _ G.out underlying55 (by rfl) h ?_)
     | ((with_reducible refine ar 55 (.tmp 9) _ ?_);refine ao rfl _ _ _ rfl q.heap.size 55 #[.int .i64 0,.int .i64 0,.int .i64 0,.int .i64 0,.bool false,.int .u64 0] #[.int .i64 y,.int .i64 xs,.int .i64 B,.int .i64 z,.bool true,.int .u64 (u:Int)] (by rfl) (by rfl) BX9.out rfl h (qO _ _ _ _ _ _) ?_;intro w2 S Ky;have Lc:=hid S;have Kz:=hid Ky;clear S Ky)
     | ((with_reducible refine aQ 55 (.tmp 9) ?_);refine kxj rfl _ _ rfl q.heap.size (by rfl) 55 #[.int .i64 y,.int .i64 xs,.int .i64 B,.int .i64 z,.bool true,.int .u64 (u:Int)] (0,0) _ Lc.out underlying55 (by rfl) h ?_)
     | ((with_reducible refine ar 55 (.tmp 4) _ ?_);refine ao rfl _ _ _ rfl w.heap.size 55 #[.int .i64 0,.int .i64 0,.int .i64 0,.int .i64 0,.bool false,.int .u64 0] #[.int .i64 y,.int .i64 xs,.int .i64 B,.int .i64 z,.bool true,.int .u64 (u:Int)] (by rfl) (by rfl) (Kz.out.bx HD.out (by omega)) rfl h (qO _ _ _ _ _ _) ?_;intro w3 d p;have F:=hid d;have O:=hid p;clear d p))
    rw[Exit.noGoto_ret];obtain⟨s,t⟩:=uT P.out HL.out K N.out (by rw[D.out]);exact kqq (v:=.tuple #[.agg #[.int .i64 y,.int .i64 xs,.int .i64 B,.int .i64 z,.bool true,.int .u64 (u:Int)],.int .i64 0]) (aZ results145 _ F.out rfl rfl) rfl ⟨by rw[s,t,D.out];rfl,O.out.below (Kz.out.below (La.out.trans (Z.out.mono Q)) Q) (kqa _)⟩
   have Kx:k=l.length:=by omega
   have Y:=Eq.out.up I (by omega);have HD:=hid Y;have BX:=hid bx;have h:=qL;have HG:=hid (BU P.out HL.out (by rw[<-Kx];exact N.out));clear Y bx Kx;go_wp2_with (first
    | ((with_reducible refine aQ 55 (.tmp 9) ?_);refine kxj rfl _ _ rfl q.heap.size (by rfl) 55 #[.int .i64 0,.int .i64 0,.int .i64 0,.int .i64 0,.bool false,.int .u64 0] (0,0) _ BX.out underlying55 (by rfl) h ?_)
    | ((with_reducible refine ar 55 (.tmp 4) _ ?_);refine ao rfl _ _ _ rfl w.heap.size 55 #[.int .i64 0,.int .i64 0,.int .i64 0,.int .i64 0,.bool false,.int .u64 0] #[.int .i64 0,.int .i64 0,.int .i64 0,.int .i64 0,.bool false,.int .u64 0] (by rfl) (by rfl) HD.out rfl h (qO _ _ _ _ _ _) ?_;intro w3 d p;have F:=hid d;have O:=hid p;clear d p))
   rw[Exit.noGoto_ret];exact kqq (v:=.tuple #[.agg #[.int .i64 0,.int .i64 0,.int .i64 0,.int .i64 0,.bool false,.int .u64 0],.int .i64 6]) (aZ results145 _ F.out rfl rfl) rfl ⟨by rw[HG.out.1,HG.out.2];rfl,O.out.below (La.out.trans (I.mono Q)) (kqa _)⟩
  have hn1:(r != 0)=true:=by rw[kqv];exact C
  obtain⟨s,t⟩:=wH P.out C;have G1:=hid s;have X:=hid t;obtain⟨c0,c1',c2,c3,c4,c5,f,cz⟩:=T.c6;have cf0:=f 0;have cf1:=f 1;have W:=f 2;have cf3:=f 3;have cf4:=f 4;have cf5:=f 5;have B0:=hid T;clear J C s t f T E;go_wp2_with fail;rw[Exit.noGoto_ret];refine kqq (v:=.tuple #[.agg #[.int .i64 0,.int .i64 0,.int .i64 0,.int .i64 0,.bool false,.int .u64 0],.int .i64 r]) (aZ results145 _ (mT B0.out _ _ _ _ _ _) rfl rfl) rfl ⟨by rw[G1.out,X.out];rfl,fQ o (kqa _) _ _ _ _ _ _⟩
 have HE:=hid (jP HS.out (nV j));obtain⟨s,t⟩:=wH HE.out (by omega);have G1:=hid s;have X:=hid t;have BD:=hid m;clear s t m;have L:=EG j;clear j;rcases L with⟨h1,h2⟩|⟨⟨h1,h2⟩,h3⟩|⟨h1,h2,h3⟩
 all_goals
  go_enter func145,ntmps145;go_wp2_with fail
  go_step3
  go_wp2_with fail;refine (aB A ws.length c _ (by omega)).mono ?_;rintro e q ⟨rfl,rfl⟩;rw[HI.out];go_wp2_with fail;rw[Exit.noGoto_ret];refine kqq (v:=.tuple #[.agg #[.int .i64 0,.int .i64 0,.int .i64 0,.int .i64 0,.bool false,.int .u64 0],.int .i64 2]) (aZ results145 _ BD.out rfl rfl) rfl ⟨by rw[G1.out,X.out];rfl,(kqk _ _).alloc (kqa _) _⟩
end Go.Proofs.YtpcajamacpbjcaaGreat
