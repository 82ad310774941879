/- The reference's types, read: what it returns for all words. -/
import Derived.Test.YtpcajamacpbjcaaGreatZR13R
import Derived.Test.YtpcajamacpbjcaaGreatZKRch
import Derived.Test.YtpcajamacpbjcaaGreatZKHead
import Derived.WalkMore
set_option maxHeartbeats 16000000
set_option maxRecDepth 100000
set_option linter.all false
namespace Go.Proofs.YtpcajamacpbjcaaGreat
open Lib (hid)
open Go.RowKit
open Go.Proofs.Tryz
theorem Hr(a:Nat):∀n,mm ((List.range n).map λi=>a/4 ^ (i+4)%4) 4+256*(a/256/4 ^ n*4 ^ n)=256*(a/256):=by
 intro n
 induction n with
 | zero=>simp[mm]
 | succ n ih =>
  rw[kj7,kxa,mK];simp only[kxk,List.map_nil,mm,kqs,kx4,kxd];have c:a/256/4 ^ (n+1)=a/256/4 ^ n/4:=by rw[kji,kxg (a/256)]
  have e:a/4 ^ (n+4)=a/256/4 ^ n:=by rw[kxg,show (4:Nat) ^ (n+4)=256*4 ^ n by rw[kj4,kjd]]
  rw[c,e];obtain⟨q,d⟩:=xq (a/256/4 ^ n);rw[d] at ih |-;have h:(4:Nat) ^ (4+n)=256*4 ^ n:=by rw[kj4]
  have f:(4:Nat) ^ (n+1)=4*4 ^ n:=by rw[kji,kjd]
  rw[h,f];obtain⟨p,g⟩:∃p,(4:Nat) ^ n=p:=⟨_,rfl⟩;rw[g] at ih |-;have b:q*p=(q%4)*p+(q/4)*(4*p):=by
   have:q=4*(q/4)+q%4:=by omega
   conv=>lhs;rw[this]
   rw[kje,kjd 4 (q/4),kvf,kj0]
  rw[b] at ih;have e6:q%4*(256*p)=256*(q%4*p):=by rw[Nat.mul_left_comm]
  omega
def zQ (a:Nat):Bool:=decide (a%256<=8)&&(a/256/4 ^ (a%256)==0&&dd (cP a))
theorem E7(a b:Nat):bN a b=(zQ a&&gc a==b):=by
 rw[kzr];constructor
 .intro h;obtain⟨c,f,g,d⟩:=qE h;unfold zQ;simp[c,f,g,d]
 intro h;unfold zQ at h;simp only[kqz,kzz,kqx] at h;obtain⟨⟨c,f,g⟩,d⟩:=h;have j:=Hr a (a%256);rw[f] at j;have e:gx (cP a)=a:=by
  have:gx (cP a)=(cP a).length+mm (cP a) 4:=rfl;rw[ei] at this;have e2:mm (cP a) 4=256*(a/256):=by have:mm (cP a) 4=mm ((List.range (a%256)).map λi=>a/4 ^ (i+4)%4) 4:=rfl;rw[this];omega
  omega
 unfold bN;simp[c,g,d,e]
theorem DG(A:Option Addr)(l:List Nat)(c n B:Nat)(w:World)(hn:l.length=n)(h8:n<=8)(f:∀x∈l,x<=3)(hr:RdY w B A l):
 Calls prog 136 #[.slice A n c] w λe w'=>e=.returned (.int .i64 (if dd l=true then 0 else 8))/\w=w':=by
 by_cases a:dd l=true
 .rw[if_pos a];exact oz A l c n B w hn h8 a hr
 rw[if_neg a];subst hn;have y:=hid hr;have q:=hid f;have z:=hid a;clear hr a f;go_enter func136,ntmps136;go_wp2_with fail
 go_loop [3] (λi=>∃k:Nat,k<=l.length/\i=.int .i64 k/\Hid (∀j (h:j<l.length),j<k->1<=l[j])) (λi=>l.length-(intOf i).toNat)
 case atStart=>exact⟨0,kqy _,rfl,hid λj h p=>absurd p (by omega)⟩
 obtain⟨k,a,rfl,r⟩:=hrel;by_cases d:k<l.length
 .obtain ⟨b,off,rfl,hb,v⟩:=y.out.at_ d;have C:=q.out l[k] (kqm d);have g:Hid (1<=l[k]->∀j (h:j<l.length),j<k+1->1<=l[j]):=hid λu j h p=>by
   rcases kq9 j k with f|f
   .exact r.out j h f
   have:j=k:=by omega
   subst this;exact u
  obtain⟨x,o⟩:=xq (l[k]);rw[o] at v C g;clear o;by_cases m:x=0
  .subst m;go_wp2;go_ret;exact⟨rfl,rfl⟩
  have e1:((x:Int)==0)=false:=by rw[kqi];omega
  have t:=hid (g.out (by omega));clear m;go_wp2_with fail
  go_round
  case rel=>exact⟨k+1,by omega,by go_num,t⟩
  case measure=>simp[intOf];omega
 exfalso;refine z.out ((cv l).2 λx o=>?_);obtain⟨j,s,rfl⟩:=kqu o;exact⟨r.out j s (by omega),q.out _ (kqm s)⟩
theorem fldL_3(a:Nat):∀x∈cP a,x<=3:=λx b=>by unfold cP at b;obtain⟨i,-,rfl⟩:=kzi.1 b;omega
theorem yL(a m:Nat):∀x∈(cP a).take m,x<=3:=λx b=>fldL_3 a x (kxu b)
def GS (H a:Nat) (e:Ending) (w':World):Prop:=∃A n c,e=.returned (.tuple #[.slice A n c,.bool (zQ a)])/\(zQ a=true->n=(cP a).length/\w'.ownsRow H 5 1 (.slice A n c) n ((cP a).flatMap aJ))
theorem wR(a:Nat)(w:World)(ha:a<18446744073709551616):
 Calls prog 287 #[.int .u64 (a:Int)] w λe w'=>GS w.heap.size a e w'/\Below w.heap.size w w':=by
 have j:=hid (ei a);have y:=hid (λk h=>ph a k h);have R:=hid (λk=>z7 a k);have H3:=hid (yL a);have L:Hid (zQ a=(decide (a%256<=8)&&(a/256/4 ^ (a%256)==0&&dd (cP a)))):=hid rfl;obtain⟨m,F⟩:=xq (a%256);rw[F] at j y L;have K:(a:Int)%256=(m:Int):=by omega
 have g:=hid K;have w1':IntKind.u64.wrap ((a:Int)/256)=(a:Int)/256:=kzs _ (by omega);have ha0:(0:Int)<=(a:Int):=by omega
 have HA:=hid ha;clear F ha K;obtain⟨i0,X,x,G,D⟩:=kzt jl;have HI:=hid X;have U:=hid x;have N:=hid G;have S:=hid D;clear X x G D;go_enter func287,ntmps287;go_wp2_with fail;go_loopw [5,6,7] (λv r i wr=>∃k:Nat,k<=m/\k<=8/\i=.int .u64 k/\r=.int .u64 ((a/256/4 ^ k:Nat):Int)/\wr.ownsRow w.heap.size 5 1 v k (((cP a).take k).flatMap aJ)/\Below w.heap.size w wr) (λ_ _ i _=>m-(intOf i).toNat)
 case atStart=>exact⟨0,kqy _,kqy _,rfl,by simp,kq3 _ _ _ _,kql _ _⟩
 obtain⟨k,hk,Q,rfl,rfl,b,p⟩:=hrel;have hz:=p.size;by_cases d:k<m/\k<8
 .obtain ⟨d,hlt8⟩:=d;obtain⟨M,O⟩:=R.out k;have E:=y.out k d;rw[<-M] at E;have H:a/256/4 ^ k<18446744073709551616:=kkc (kkz _ _) (kkc (kkz _ _) HA.out);obtain⟨r,l⟩:=xq (a/256/4 ^ k);rw[l] at M O E H;simp only[l];have P:=hid (show (((a/256/4 ^ (k+1):Nat)):Int)=(r:Int)/4 by rw[<-O];omega);have B:=hid (show ((cP a).take (k+1)).flatMap aJ=((cP a).take k).flatMap aJ++[.int .u8 ((r:Int)%4)] by
   have Y:k<(cP a).length:=by rw[j.out];exact d
   rw[kqp Y,bP];rw[kqj Y] at E;rw[Option.some.inj E];rfl)
  have w2':IntKind.u64.wrap ((r:Int)/4)=(r:Int)/4:=kzs _ (by omega);have hr00:(0:Int)<=(r:Int):=by omega
  have hki:decide ((k:Int)<(a:Int)%256)=true:=by rw[kqo,g.out];omega
  have hk8':(k:Int)<8:=by omega
  have hw8:IntKind.u8.wrap ((r:Int)%4)=(r:Int)%4:=IntWalk.u8_in _ (by omega);clear E l M O H;go_wp2_with (at_builtin;refine kzn _ rfl _ _ 113 rfl w.heap.size 5 i0 _ 1 1 underlying113 HI.out U.out N.out S.out rfl (by decide) _ _ _ rfl (b.alloc _) ⟨_,0,none⟩ 1 1 [.int .u8 ((r:Int)%4)] rfl rfl (bY _ _ _) (by simp[Value.oneCell']) (by unfold maxLen;omega) (by omega) (bM p.size) ?_;intro v1 Z q W _;have T:=aw p p.size b W);go_roundw
  case rel=>exact⟨k+1,by omega,by omega,by go_num,by rw[P.out],by rw[B.out];exact q,T⟩
  case measure=>simp[intOf];omega
 obtain⟨C,z,rfl⟩:=aE b;have u:((cP a).take k).length=k:=by rw[kq6,j.out];omega
 have t:=hid (DG C ((cP a).take k) z k wr.heap.size wr u Q (H3.out k) (Rd.of_own b));have J:=hid b;obtain⟨r,l⟩:=xq (a/256/4 ^ k);have A:=hid l;simp only[l];have c:(decide ((k:Int)<(a:Int)%256)&&decide ((k:Int)<8))=false:=by rw[kva,kqh,kqh,g.out];omega
 by_cases s:m<=8
 .have V:k=m:=by omega
  subst V;rw[kzg (by rw[j.out];exact kqg _)] at t J;have d8:decide ((a:Int)%256<=8)=true:=by rw[kqo,g.out];omega
  have dk:decide ((k:Int)<(a:Int)%256)=false:=by rw[kqh,g.out];omega
  by_cases o:r=0
  .subst o;cases f:dd (cP a)
   .have n:=hid (show zQ a=false by rw[L.out,f];simp);rw[f] at t;clear f b l d c;go_wp2_with fail;refine t.out.mono ?_;rintro e Z ⟨rfl,rfl⟩;go_wp2;go_ret2;exact⟨⟨C,k,z,by rw[n.out];rfl,λh=>by rw[n.out] at h;cases h⟩,p⟩
   have n:=hid (show zQ a=true by rw[L.out,f,A.out,decide_eq_true s];rfl);rw[f] at t;clear f b l d c;go_wp2_with fail;refine t.out.mono ?_;rintro e Z ⟨rfl,rfl⟩;go_wp2;go_ret2;exact⟨⟨C,k,z,by rw[n.out];rfl,λ_=>⟨j.out.symm,J.out⟩⟩,p⟩
  have n:=hid (show zQ a=false by rw[L.out,A.out,show (r==0)=false by rw[kqi];exact o];simp);have e0:((r:Int)==0)=false:=by rw[kqi];omega
  have e0n:(r==0)=false:=by rw[kqi];exact o
  clear b l d c o;go_wp2;go_ret2;exact⟨⟨C,k,z,by rw[n.out];rfl,λh=>by rw[n.out] at h;cases h⟩,p⟩
 have I:k=8:=by omega
 subst I;have n:=hid (show zQ a=false by rw[L.out,decide_eq_false s];rfl);have d8:decide ((a:Int)%256<=8)=false:=by rw[kqh,g.out];omega
 have dk:decide ((8:Int)<(a:Int)%256)=true:=by rw[kqo,g.out];omega
 clear b l d c s t;go_wp2;go_ret2;exact⟨⟨C,8,z,by rw[n.out];rfl,λh=>by rw[n.out] at h;cases h⟩,p⟩
theorem wM(a b:Nat)(w:World)(ha:a<18446744073709551616):
 Calls prog 261 #[.int .u64 (a:Int),.int .u64 (b:Int)] w λe w'=>lF w.heap.size a b e w'/\Below w.heap.size w w':=by
 have k:=hid (wR a w ha);cases p:zQ a
 .have h:bN a b=false:=by rw[E7,p];rfl
  have i:aX a b=[]:=by unfold aX;rw[h];rfl
  have j:dJ a b=50:=by unfold dJ;rw[h];rfl
  have g:=hid (And.intro i j);unfold GS at k;rw[p] at k;clear h p i j;go_enter func261,ntmps261;go_wp2_with fail;refine k.out.mono ?_;rintro e s ⟨⟨B,E,y,rfl,-⟩,c⟩;go_wp2;go_ret2;exact⟨⟨none,0,by rw[g.out.1,g.out.2];rfl,by rw[g.out.1];exact kq3 _ _ _ _⟩,c⟩
 unfold GS at k;rw[p] at k;have t:=hid (λA W (H:RdW W W.heap.size A [a])=>po A [a] 1 1 W rfl (by omega) H (λx D=>by rw[kq1] at D;rw[D];exact ha));rw[show a8 14695981039346656037 [a]=gc a from rfl] at t;have u:=hid (E7 a b);rw[p] at u;obtain⟨q,F⟩:=xq (gc a);rw[F] at t u;clear p F ha;by_cases r:q=b
 .have h:bN a b=true:=by rw[u.out,r];simp
  have i:aX a b=cP a:=by unfold aX;rw[if_pos h]
  have j:dJ a b=0:=by unfold dJ;rw[if_pos h]
  have g:=hid (And.intro i j);subst r;have v:((q:Int) != (q:Int))=false:=by simp
  clear h i j;go_enter func261,ntmps261;go_wp2_with fail;refine k.out.mono ?_;rintro e s ⟨⟨B,E,y,rfl,d⟩,c⟩;obtain⟨rfl,d⟩:=d trivial;have n:=c.size;have l:=hid c;have z:=hid d;clear c d;go_wp2_with fail;have m:=Bx.new s 53 #[.int .u64 (a:Int)];refine (t.out _ _ (show Rd _ _ _ _ from Rd.of_bx m m.lt)).mono ?_;rintro e G ⟨rfl,f⟩;have o:=hid ((l.out.alloc n (.cells #[.int .u64 (a:Int)] 53)).trans (f.mono (by simp;omega)));have C:=hid (aj (z.out.alloc (.cells #[.int .u64 (a:Int)] 53)) f (kqg _));clear m f;go_wp2;go_ret2;exact⟨⟨B,y,by rw[g.out.1,g.out.2];rfl,by rw[g.out.1];exact C.out⟩,o.out⟩
 have h:bN a b=false:=by rw[u.out,show (q==b)=false by rw[kqi];exact r];rfl
 have i:aX a b=[]:=by unfold aX;rw[h];rfl
 have j:dJ a b=50:=by unfold dJ;rw[h];rfl
 have g:=hid (And.intro i j);have v:((b:Int) != (q:Int))=true:=by rw[kqt];omega
 have hnen:(b != q)=true:=by rw[kqt];omega
 clear h r i j;go_enter func261,ntmps261;go_wp2_with fail;refine k.out.mono ?_;rintro e s ⟨⟨B,E,y,rfl,-⟩,c⟩;have n:=c.size;have l:=hid c;clear c;go_wp2_with fail;have m:=Bx.new s 53 #[.int .u64 (a:Int)];refine (t.out _ _ (show Rd _ _ _ _ from Rd.of_bx m m.lt)).mono ?_;rintro e G ⟨rfl,f⟩;have o:=hid ((l.out.alloc n (.cells #[.int .u64 (a:Int)] 53)).trans (f.mono (by simp;omega)));clear m f;go_wp2;go_ret2;exact⟨⟨none,0,by rw[g.out.1,g.out.2];rfl,by rw[g.out.1];exact kq3 _ _ _ _⟩,o.out⟩
theorem E4(A:Option Addr)(ws:List Nat)(c n:Nat)(a:Int)(w:World)(hn:ws.length=n)(hm:n<=9223372036854775807)(ha : -9223372036854775808<=a/\a<=9223372036854775807)(P:RdW w w.heap.size A ws)(ho:∀x∈ws,x<18446744073709551616):
 Calls prog 145 #[.slice A n c,.int .i64 a] w λe w'=>e=.returned (.tuple #[(iC ws a).val,.int .i64 (be ws a)])/\Below w.heap.size w w':=by
 subst hn;have HR:=hid P;have HO:=hid ho;obtain⟨a1,a2⟩:=ha;clear P ho;have m:=Bx.new w 55 #[.int .i64 0,.int .i64 0,.int .i64 0,.int .i64 0,.bool false,.int .u64 0];cases K:al (ws.length:Int)
 .have HI:=hid (bA K);obtain⟨s,y⟩:=uQ (eZ (a:=a) K) (by omega);have G1:=hid s;have G2:=hid y;have BD:=hid m;clear K s y m;go_enter func145,ntmps145;go_wp2_with fail
  go_step3
  go_wp2_with fail;refine (aF A ws.length c _ hm).mono ?_;rintro e u ⟨rfl,rfl⟩;rw[HI.out];go_wp2_with fail;rw[Exit.noGoto_ret];refine kqv (v:=.tuple #[.agg #[.int .i64 0,.int .i64 0,.int .i64 0,.int .i64 0,.bool false,.int .u64 0],.int .i64 8]) (aL results145 _ BD.out rfl rfl) rfl ⟨by rw[G1.out,G2.out];rfl,(kql _ _).alloc (kqg _) _⟩
 have HI:=hid (aW K);have hb:=jG (aW K);obtain⟨p,N,d⟩:=hb;have E:=hid d;have HS:=hid K;clear K d hm;by_cases j:128<=a/\a<=(ws.length:Int)/\a%2=0
 .obtain ⟨a3,a4,a5⟩:=j;have hev:(a%2 != 0)=false:=by rw[kqq];exact a5
  have d1:decide (a<128)=false:=by rw[kqh];omega
  have d2:decide ((ws.length:Int)<a)=false:=by rw[kqh];omega
  have Je:=hid (lG A ws c ws.length a (w.alloc (.cells #[.int .i64 0,.int .i64 0,.int .i64 0,.int .i64 0,.bool false,.int .u64 0] 55)) rfl (by omega) ((HR.out.alloc (kqg _) _).more (by simp)) HO.out);rw[kqn] at Je;have BD:=hid m;clear a5 m;go_enter func145,ntmps145;go_wp2_with fail
  go_step3
  go_wp2_with fail;refine (aF A ws.length c _ (by omega)).mono ?_;rintro e u ⟨rfl,rfl⟩;rw[HI.out];go_wp2_with fail;refine Je.out.mono ?_;rintro e u ⟨⟨A1,c1,rfl,L,Y⟩,C⟩;have p:=au C;have R:=p.size;have T:=Bx.of_new C;have hz1':=T.lt;have HCL:=hid Y;obtain⟨l,hl⟩:=xq (aO ws a);have HL:=hid hl;rw[hl] at L |-;have Jg:=hid L;obtain⟨r,P⟩:=xq (bU ws a);have Q:=hid P;rw[P];clear hl L Y;by_cases F:r=0
  .subst F;go_wp2_with fail
   go_step3
   go_wp2_with fail;have Jb:=hid T;have Ja:=hid p;have hlen:l.length<=4611686018427387904:=by rw[<-HL.out];exact gu ws a
   have bf:=Bx.new u 55 #[.int .i64 0,.int .i64 0,.int .i64 0,.int .i64 0,.bool false,.int .u64 0];clear P T p C;go_loopg [8,44] l.length (λg s8 i wr=>∃k:Nat,k+g=l.length/\i=.int .i64 k/\s8=.int .i64 6/\Hid (ep l k)/\Bx wr u.heap.size 55 #[.int .i64 0,.int .i64 0,.int .i64 0,.int .i64 0,.bool false,.int .u64 0]/\Below u.heap.size u wr)
   case atStart=>exact⟨0,by omega,rfl,rfl,mH l,bf,(kql _ _).alloc (kqg _) _⟩
   obtain⟨k,hk,rfl,rfl,I,bx,J⟩:=hrel;have hz:=J.size;by_cases O:k<l.length
   .obtain ⟨b,off,rfl,hbw,q0,q1,q2,q3,q4,q5⟩:=RdB.at_ (Jg.out.below J) O;have D:=hid (bB l k O);obtain⟨x,hx⟩:=xq (l[k]);rw[hx] at q0 q1 q2 q3 q4 q5 D;obtain⟨B,xs,z,q,xm,t⟩:=x;dsimp only at q0 q1 q2 q3 q4 q5;have BX:=hid bx;obtain⟨c0,Z,c2,c3,c4,c5,f,cz⟩:=bx.c6;have cf0:=f 0;have X:=f 1;have V:=f 2;have W:=f 3;have cf4:=f 4;have cf5:=f 5;have hlm:(k:Int)<(l.length:Int):=by omega
    clear hx bx f;cases xm
    .go_wp2;go_roundg (gk-1)
     case rel=>exact⟨k+1,by omega,by go_num,rfl,nc I.out (by rw[D.out]),BX.out.alloc _,J.alloc hz _⟩
     case measure=>omega
    have hd:=Jb.out.up J (by omega);have H:=Bx.new wr 55 #[.int .i64 B,.int .i64 xs,.int .i64 z,.int .i64 q,.bool true,.int .u64 (t:Int)];have Jc:=hid (J.alloc hz (.cells #[.int .i64 B,.int .i64 xs,.int .i64 z,.int .i64 q,.bool true,.int .u64 (t:Int)] 55));have HD:=hid (hd.alloc (.cells #[.int .i64 B,.int .i64 xs,.int .i64 z,.int .i64 q,.bool true,.int .u64 (t:Int)] 55));have BX9:=hid (BX.out.alloc (.cells #[.int .i64 B,.int .i64 xs,.int .i64 z,.int .i64 q,.bool true,.int .u64 (t:Int)] 55));have G:=hid H;have h:=mh;clear hd H;clear c0 Z c2 c3 c4 c5 cf0 X V W cf4 cf5;go_upto_region 15 with (fail);obtain⟨wn,Jf⟩:∃wn,wr.alloc (.cells #[.int .i64 B,.int .i64 xs,.int .i64 z,.int .i64 q,.bool true,.int .u64 (t:Int)] 55)=wn:=⟨_,rfl⟩;rw[Jf] at HD BX9 Jc G |-;clear Jf;go_wp2_with (first
     | ((with_reducible refine gX 55 (.tmp 11) ?_);refine kja rfl _ _ rfl wr.heap.size (by rfl) 55 #[.int .i64 B,.int .i64 xs,.int .i64 z,.int .i64 q,.bool true,.int .u64 (t:Int)] (0,0) _ G.out underlying55 (by rfl) h ?_)
     | ((with_reducible refine bt 55 (.tmp 9) _ ?_);refine am rfl _ _ _ rfl u.heap.size 55 #[.int .i64 0,.int .i64 0,.int .i64 0,.int .i64 0,.bool false,.int .u64 0] #[.int .i64 B,.int .i64 xs,.int .i64 z,.int .i64 q,.bool true,.int .u64 (t:Int)] (by rfl) (by rfl) BX9.out rfl h (mC _ _ _ _ _ _) ?_;intro w2 N Eq;have Jh:=hid N;have U:=hid Eq;clear N Eq)
     | ((with_reducible refine gX 55 (.tmp 9) ?_);refine kja rfl _ _ rfl u.heap.size (by rfl) 55 #[.int .i64 B,.int .i64 xs,.int .i64 z,.int .i64 q,.bool true,.int .u64 (t:Int)] (0,0) _ Jh.out underlying55 (by rfl) h ?_)
     | ((with_reducible refine bt 55 (.tmp 4) _ ?_);refine am rfl _ _ _ rfl w.heap.size 55 #[.int .i64 0,.int .i64 0,.int .i64 0,.int .i64 0,.bool false,.int .u64 0] #[.int .i64 B,.int .i64 xs,.int .i64 z,.int .i64 q,.bool true,.int .u64 (t:Int)] (by rfl) (by rfl) (U.out.bx HD.out (by omega)) rfl h (mC _ _ _ _ _ _) ?_;intro w3 d o;have E:=hid d;have S:=hid o;clear d o))
    rw[Exit.noGoto_ret];obtain⟨s,y⟩:=tB Q.out HL.out O I.out (by rw[D.out]);exact kqv (v:=.tuple #[.agg #[.int .i64 B,.int .i64 xs,.int .i64 z,.int .i64 q,.bool true,.int .u64 (t:Int)],.int .i64 0]) (aL results145 _ E.out rfl rfl) rfl ⟨by rw[s,y,D.out];rfl,S.out.below (U.out.below (Ja.out.trans (Jc.out.mono R)) R) (kqg _)⟩
   have Jd:k=l.length:=by omega
   have hd:=Jb.out.up J (by omega);have HD:=hid hd;have BX:=hid bx;have h:=mh;have HG:=hid (zu Q.out HL.out (by rw[<-Jd];exact I.out));clear hd bx Jd;go_wp2_with (first
    | ((with_reducible refine gX 55 (.tmp 9) ?_);refine kja rfl _ _ rfl u.heap.size (by rfl) 55 #[.int .i64 0,.int .i64 0,.int .i64 0,.int .i64 0,.bool false,.int .u64 0] (0,0) _ BX.out underlying55 (by rfl) h ?_)
    | ((with_reducible refine bt 55 (.tmp 4) _ ?_);refine am rfl _ _ _ rfl w.heap.size 55 #[.int .i64 0,.int .i64 0,.int .i64 0,.int .i64 0,.bool false,.int .u64 0] #[.int .i64 0,.int .i64 0,.int .i64 0,.int .i64 0,.bool false,.int .u64 0] (by rfl) (by rfl) HD.out rfl h (mC _ _ _ _ _ _) ?_;intro w3 d o;have E:=hid d;have S:=hid o;clear d o))
   rw[Exit.noGoto_ret];exact kqv (v:=.tuple #[.agg #[.int .i64 0,.int .i64 0,.int .i64 0,.int .i64 0,.bool false,.int .u64 0],.int .i64 6]) (aL results145 _ E.out rfl rfl) rfl ⟨by rw[HG.out.1,HG.out.2];rfl,S.out.below (Ja.out.trans (J.mono R)) (kqg _)⟩
  have hn1:(r != 0)=true:=by rw[kqt];exact F
  obtain⟨s,y⟩:=uQ Q.out F;have G1:=hid s;have G2:=hid y;obtain⟨c0,Z,c2,c3,c4,c5,f,cz⟩:=T.c6;have cf0:=f 0;have X:=f 1;have V:=f 2;have W:=f 3;have cf4:=f 4;have cf5:=f 5;have B0:=hid T;clear P F s y f T C;go_wp2_with fail;rw[Exit.noGoto_ret];refine kqv (v:=.tuple #[.agg #[.int .i64 0,.int .i64 0,.int .i64 0,.int .i64 0,.bool false,.int .u64 0],.int .i64 r]) (aL results145 _ (lv B0.out _ _ _ _ _ _) rfl rfl) rfl ⟨by rw[G1.out,G2.out];rfl,eX p (kqg _) _ _ _ _ _ _⟩
 have HE:=hid (iW HS.out (ny j));obtain⟨s,y⟩:=uQ HE.out (by omega);have G1:=hid s;have G2:=hid y;have BD:=hid m;clear s y m;have M:=Ef j;clear j;rcases M with⟨h1,h2⟩|⟨⟨h1,h2⟩,h3⟩|⟨h1,h2,h3⟩
 all_goals
  go_enter func145,ntmps145;go_wp2_with fail
  go_step3
  go_wp2_with fail;refine (aF A ws.length c _ (by omega)).mono ?_;rintro e u ⟨rfl,rfl⟩;rw[HI.out];go_wp2_with fail;rw[Exit.noGoto_ret];refine kqv (v:=.tuple #[.agg #[.int .i64 0,.int .i64 0,.int .i64 0,.int .i64 0,.bool false,.int .u64 0],.int .i64 2]) (aL results145 _ BD.out rfl rfl) rfl ⟨by rw[G1.out,G2.out];rfl,(kql _ _).alloc (kqg _) _⟩
end Go.Proofs.YtpcajamacpbjcaaGreat
