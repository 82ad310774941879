/- The reference's types, read: what it returns for all words. -/
import Derived.Test.YtpcajamacpbjcaaGreatZR13R
import Derived.Test.YtpcajamacpbjcaaGreatZKRch
import Derived.Test.YtpcajamacpbjcaaGreatZKHead
import Derived.WalkMore
set_option maxHeartbeats 16000000
set_option maxRecDepth 100000
set_option linter.all false
namespace Go.Proofs.YtpcajamacpbjcaaGreat
open Lib (hid)
open Go.RowKit
open Go.Proofs.Tryz
theorem Ha(a:Nat):∀n,mV ((List.range n).map λi=>a/4 ^ (i+4)%4) 4+256*(a/256/4 ^ n*4 ^ n)=256*(a/256):=by
 intro n
 induction n with
 | zero=>simp[mV]
 | succ n ih =>
  rw[kk5,kjo,og];simp only[kxj,List.map_nil,mV,kzo,kkm,kz8];have h:a/256/4 ^ (n+1)=a/256/4 ^ n/4:=by rw[kjm,kxe (a/256)]
  have b:a/4 ^ (n+4)=a/256/4 ^ n:=by rw[kxe,show (4:Nat) ^ (n+4)=256*4 ^ n by rw[kj3,kjd]]
  rw[h,b];obtain⟨q,e⟩:=xq (a/256/4 ^ n);rw[e] at ih |-;have c:(4:Nat) ^ (4+n)=256*4 ^ n:=by rw[kj3]
  have g:(4:Nat) ^ (n+1)=4*4 ^ n:=by rw[kjm,kjd]
  rw[c,g];obtain⟨p,d⟩:∃p,(4:Nat) ^ n=p:=⟨_,rfl⟩;rw[d] at ih |-;have f:q*p=(q%4)*p+(q/4)*(4*p):=by
   have:q=4*(q/4)+q%4:=by omega
   conv=>lhs;rw[this]
   rw[kjg,kjd 4 (q/4),kvm,kju]
  rw[f] at ih;have e6:q%4*(256*p)=256*(q%4*p):=by rw[Nat.mul_left_comm]
  omega
def zJ (a:Nat):Bool:=decide (a%256<=8)&&(a/256/4 ^ (a%256)==0&&dN (dB a))
theorem F4(a b:Nat):cr a b=(zJ a&&ig a==b):=by
 rw[kzg];constructor
 .intro h;obtain⟨j,d,f,g⟩:=rh h;unfold zJ;simp[j,d,f,g]
 intro h;unfold zJ at h;simp only[kqt,kzc,kqw] at h;obtain⟨⟨j,d,f⟩,g⟩:=h;have c:=Ha a (a%256);rw[d] at c;have e:iL (dB a)=a:=by
  have:iL (dB a)=(dB a).length+mV (dB a) 4:=rfl;rw[eZ] at this;have e2:mV (dB a) 4=256*(a/256):=by have:mV (dB a) 4=mV ((List.range (a%256)).map λi=>a/4 ^ (i+4)%4) 4:=rfl;rw[this];omega
  omega
 unfold cr;simp[j,f,g,e]
theorem Ft(A:Option Addr)(l:List Nat)(c n B:Nat)(w:World)(hn:l.length=n)(h8:n<=8)(m:∀x∈l,x<=3)(hr:RdY w B A l):
 Calls prog 136 #[.slice A n c] w λe w'=>e=.returned (.int .i64 (if dN l=true then 0 else 8))/\w=w':=by
 by_cases a:dN l=true
 .rw[if_pos a];exact pm A l c n B w hn h8 a hr
 rw[if_neg a];subst hn;have z:=hid hr;have s:=hid m;have C:=hid a;clear hr a m;go_enter func136,ntmps136;go_wp2_with fail
 go_loop [3] (λi=>∃k:Nat,k<=l.length/\i=.int .i64 k/\Hid (∀j (h:j<l.length),j<k->1<=l[j])) (λi=>l.length-(intOf i).toNat)
 case atStart=>exact⟨0,kqy _,rfl,hid λj h r=>absurd r (by omega)⟩
 obtain⟨k,a,rfl,p⟩:=hrel;by_cases g:k<l.length
 .obtain ⟨b,off,rfl,hb,v⟩:=z.out.at_ g;have y:=s.out l[k] (kqq g);have f:Hid (1<=l[k]->∀j (h:j<l.length),j<k+1->1<=l[j]):=hid λu j h r=>by
   rcases kq6 j k with m|m
   .exact p.out j h m
   have:j=k:=by omega
   subst this;exact u
  obtain⟨x,o⟩:=xq (l[k]);rw[o] at v y f;clear o;by_cases d:x=0
  .subst d;go_wp2;go_ret;exact⟨rfl,rfl⟩
  have e1:((x:Int)==0)=false:=by rw[kqi];omega
  have t:=hid (f.out (by omega));clear d;go_wp2_with fail
  go_round
  case rel=>exact⟨k+1,by omega,by go_num,t⟩
  case measure=>simp[intOf];omega
 exfalso;refine C.out ((cQ l).2 λx o=>?_);obtain⟨j,q,rfl⟩:=kqz o;exact⟨p.out j q (by omega),s.out _ (kqq q)⟩
theorem fldL_3(a:Nat):∀x∈dB a,x<=3:=λx b=>by unfold dB at b;obtain⟨i,-,rfl⟩:=kzr.1 b;omega
theorem Bb(a m:Nat):∀x∈(dB a).take m,x<=3:=λx b=>fldL_3 a x (kxv b)
def GO (H a:Nat) (e:Ending) (w':World):Prop:=∃A n c,e=.returned (.tuple #[.slice A n c,.bool (zJ a)])/\(zJ a=true->n=(dB a).length/\w'.ownsRow H 5 1 (.slice A n c) n ((dB a).flatMap bu))
theorem wD(a:Nat)(w:World)(ha:a<18446744073709551616):
 Calls prog 287 #[.int .u64 (a:Int)] w λe w'=>GO w.heap.size a e w'/\Below w.heap.size w w':=by
 have j:=hid (eZ a);have u:=hid (λk h=>qw a k h);have S:=hid (λk=>Ac a k);have H3:=hid (Bb a);have D:Hid (zJ a=(decide (a%256<=8)&&(a/256/4 ^ (a%256)==0&&dN (dB a)))):=hid rfl;obtain⟨m,y⟩:=xq (a%256);rw[y] at j u D;have K:(a:Int)%256=(m:Int):=by omega
 have g:=hid K;have w1':IntKind.u64.wrap ((a:Int)/256)=(a:Int)/256:=kzt _ (by omega);have ha0:(0:Int)<=(a:Int):=by omega
 have HA:=hid ha;clear y ha K;obtain⟨i0,Y,z,F,H⟩:=kzw kO;have HI:=hid Y;have W:=hid z;have T:=hid F;have N:=hid H;clear Y z F H;go_enter func287,ntmps287;go_wp2_with fail;go_loopw [5,6,7] (λv r i wr=>∃k:Nat,k<=m/\k<=8/\i=.int .u64 k/\r=.int .u64 ((a/256/4 ^ k:Nat):Int)/\wr.ownsRow w.heap.size 5 1 v k (((dB a).take k).flatMap bu)/\Below w.heap.size w wr) (λ_ _ i _=>m-(intOf i).toNat)
 case atStart=>exact⟨0,kqy _,kqy _,rfl,by simp,kza _ _ _ _,kqk _ _⟩
 obtain⟨k,hk,V,rfl,rfl,b,p⟩:=hrel;have hz:=p.size;by_cases d:k<m/\k<8
 .obtain ⟨d,hlt8⟩:=d;obtain⟨M,O⟩:=S.out k;have L:=u.out k d;rw[<-M] at L;have I:a/256/4 ^ k<18446744073709551616:=kkf (kk3 _ _) (kkf (kk3 _ _) HA.out);obtain⟨r,n⟩:=xq (a/256/4 ^ k);rw[n] at M O L I;simp only[n];have P:=hid (show (((a/256/4 ^ (k+1):Nat)):Int)=(r:Int)/4 by rw[<-O];omega);have B:=hid (show ((dB a).take (k+1)).flatMap bu=((dB a).take k).flatMap bu++[.int .u8 ((r:Int)%4)] by
   have X:k<(dB a).length:=by rw[j.out];exact d
   rw[kqp X,cq];rw[kql X] at L;rw[Option.some.inj L];rfl)
  have w2':IntKind.u64.wrap ((r:Int)/4)=(r:Int)/4:=kzt _ (by omega);have hr00:(0:Int)<=(r:Int):=by omega
  have hki:decide ((k:Int)<(a:Int)%256)=true:=by rw[kqn,g.out];omega
  have hk8':(k:Int)<8:=by omega
  have hw8:IntKind.u8.wrap ((r:Int)%4)=(r:Int)%4:=IntWalk.u8_in _ (by omega);clear L n M O I;go_wp2_with (at_builtin;refine kze _ rfl _ _ 113 rfl w.heap.size 5 i0 _ 1 1 underlying113 HI.out W.out T.out N.out rfl (by decide) _ _ _ rfl (b.alloc _) ⟨_,0,none⟩ 1 1 [.int .u8 ((r:Int)%4)] rfl rfl (cI _ _ _) (by simp[Value.oneCell']) (by unfold maxLen;omega) (by omega) (aS p.size) ?_;intro v1 Z q U _;have R:=aE p p.size b U);go_roundw
  case rel=>exact⟨k+1,by omega,by omega,by go_num,by rw[P.out],by rw[B.out];exact q,R⟩
  case measure=>simp[intOf];omega
 obtain⟨A,J,rfl⟩:=aO b;have E:((dB a).take k).length=k:=by rw[kq3,j.out];omega
 have t:=hid (Ft A ((dB a).take k) J k wr.heap.size wr E V (H3.out k) (Rd.of_own b));have G:=hid b;obtain⟨r,n⟩:=xq (a/256/4 ^ k);have x:=hid n;simp only[n];have c:(decide ((k:Int)<(a:Int)%256)&&decide ((k:Int)<8))=false:=by rw[kki,kqc,kqc,g.out];omega
 by_cases s:m<=8
 .have Q:k=m:=by omega
  subst Q;rw[kq5 (by rw[j.out];exact kqa _)] at t G;have d8:decide ((a:Int)%256<=8)=true:=by rw[kqn,g.out];omega
  have dk:decide ((k:Int)<(a:Int)%256)=false:=by rw[kqc,g.out];omega
  by_cases o:r=0
  .subst o;cases f:dN (dB a)
   .have l:=hid (show zJ a=false by rw[D.out,f];simp);rw[f] at t;clear f b n d c;go_wp2_with fail;refine t.out.mono ?_;rintro e Z ⟨rfl,rfl⟩;go_wp2;go_ret2;exact⟨⟨A,k,J,by rw[l.out];rfl,λh=>by rw[l.out] at h;cases h⟩,p⟩
   have l:=hid (show zJ a=true by rw[D.out,f,x.out,decide_eq_true s];rfl);rw[f] at t;clear f b n d c;go_wp2_with fail;refine t.out.mono ?_;rintro e Z ⟨rfl,rfl⟩;go_wp2;go_ret2;exact⟨⟨A,k,J,by rw[l.out];rfl,λ_=>⟨j.out.symm,G.out⟩⟩,p⟩
  have l:=hid (show zJ a=false by rw[D.out,x.out,show (r==0)=false by rw[kqi];exact o];simp);have e0:((r:Int)==0)=false:=by rw[kqi];omega
  have e0n:(r==0)=false:=by rw[kqi];exact o
  clear b n d c o;go_wp2;go_ret2;exact⟨⟨A,k,J,by rw[l.out];rfl,λh=>by rw[l.out] at h;cases h⟩,p⟩
 have C:k=8:=by omega
 subst C;have l:=hid (show zJ a=false by rw[D.out,decide_eq_false s];rfl);have d8:decide ((a:Int)%256<=8)=false:=by rw[kqc,g.out];omega
 have dk:decide ((8:Int)<(a:Int)%256)=true:=by rw[kqn,g.out];omega
 clear b n d c s t;go_wp2;go_ret2;exact⟨⟨A,8,J,by rw[l.out];rfl,λh=>by rw[l.out] at h;cases h⟩,p⟩
theorem yQ(a b:Nat)(w:World)(ha:a<18446744073709551616):
 Calls prog 261 #[.int .u64 (a:Int),.int .u64 (b:Int)] w λe w'=>mj w.heap.size a b e w'/\Below w.heap.size w w':=by
 have k:=hid (wD a w ha);cases p:zJ a
 .have h:cr a b=false:=by rw[F4,p];rfl
  have j:bp a b=[]:=by unfold bp;rw[h];rfl
  have i:eN a b=50:=by unfold eN;rw[h];rfl
  have g:=hid (And.intro j i);unfold GO at k;rw[p] at k;clear h p j i;go_enter func261,ntmps261;go_wp2_with fail;refine k.out.mono ?_;rintro e u ⟨⟨z,D,B,rfl,-⟩,c⟩;go_wp2;go_ret2;exact⟨⟨none,0,by rw[g.out.1,g.out.2];rfl,by rw[g.out.1];exact kza _ _ _ _⟩,c⟩
 unfold GO at k;rw[p] at k;have t:=hid (λA W (G:RdW W W.heap.size A [a])=>ra A [a] 1 1 W rfl (by omega) G (λx F=>by rw[kq1] at F;rw[F];exact ha));rw[show aY 14695981039346656037 [a]=ig a from rfl] at t;have r:=hid (F4 a b);rw[p] at r;obtain⟨q,E⟩:=xq (ig a);rw[E] at t r;clear p E ha;by_cases s:q=b
 .have h:cr a b=true:=by rw[r.out,s];simp
  have j:bp a b=dB a:=by unfold bp;rw[if_pos h]
  have i:eN a b=0:=by unfold eN;rw[if_pos h]
  have g:=hid (And.intro j i);subst s;have C:((q:Int) != (q:Int))=false:=by simp
  clear h j i;go_enter func261,ntmps261;go_wp2_with fail;refine k.out.mono ?_;rintro e u ⟨⟨z,D,B,rfl,d⟩,c⟩;obtain⟨rfl,d⟩:=d trivial;have n:=c.size;have l:=hid c;have y:=hid d;clear c d;go_wp2_with fail;have o:=Bx.new u 53 #[.int .u64 (a:Int)];refine (t.out _ _ (show Rd _ _ _ _ from Rd.of_bx o o.lt)).mono ?_;rintro e H ⟨rfl,f⟩;have m:=hid ((l.out.alloc n (.cells #[.int .u64 (a:Int)] 53)).trans (f.mono (by simp;omega)));have v:=hid (ai (y.out.alloc (.cells #[.int .u64 (a:Int)] 53)) f (kqa _));clear o f;go_wp2;go_ret2;exact⟨⟨z,B,by rw[g.out.1,g.out.2];rfl,by rw[g.out.1];exact v.out⟩,m.out⟩
 have h:cr a b=false:=by rw[r.out,show (q==b)=false by rw[kqi];exact s];rfl
 have j:bp a b=[]:=by unfold bp;rw[h];rfl
 have i:eN a b=50:=by unfold eN;rw[h];rfl
 have g:=hid (And.intro j i);have C:((b:Int) != (q:Int))=true:=by rw[kqv];omega
 have hnen:(b != q)=true:=by rw[kqv];omega
 clear h s j i;go_enter func261,ntmps261;go_wp2_with fail;refine k.out.mono ?_;rintro e u ⟨⟨z,D,B,rfl,-⟩,c⟩;have n:=c.size;have l:=hid c;clear c;go_wp2_with fail;have o:=Bx.new u 53 #[.int .u64 (a:Int)];refine (t.out _ _ (show Rd _ _ _ _ from Rd.of_bx o o.lt)).mono ?_;rintro e H ⟨rfl,f⟩;have m:=hid ((l.out.alloc n (.cells #[.int .u64 (a:Int)] 53)).trans (f.mono (by simp;omega)));clear o f;go_wp2;go_ret2;exact⟨⟨none,0,by rw[g.out.1,g.out.2];rfl,by rw[g.out.1];exact kza _ _ _ _⟩,m.out⟩
theorem Gy(A:Option Addr)(ws:List Nat)(c n:Nat)(a:Int)(w:World)(hn:ws.length=n)(hm:n<=9223372036854775807)(ha : -9223372036854775808<=a/\a<=9223372036854775807)(R:RdW w w.heap.size A ws)(ho:∀x∈ws,x<18446744073709551616):
 Calls prog 145 #[.slice A n c,.int .i64 a] w λe w'=>e=.returned (.tuple #[(iK ws a).val,.int .i64 (bj ws a)])/\Below w.heap.size w w':=by
 subst hn;have HR:=hid R;have HO:=hid ho;obtain⟨a1,a2⟩:=ha;clear R ho;have m:=Bx.new w 55 #[.int .i64 0,.int .i64 0,.int .i64 0,.int .i64 0,.bool false,.int .u64 0];cases S:aj (ws.length:Int)
 .have HI:=hid (bI S);obtain⟨y,q⟩:=vI (fH (a:=a) S) (by omega);have G1:=hid y;have G2:=hid q;have BD:=hid m;clear S y q m;go_enter func145,ntmps145;go_wp2_with fail
  go_step3
  go_wp2_with fail;refine (aG A ws.length c _ hm).mono ?_;rintro e z ⟨rfl,rfl⟩;rw[HI.out];go_wp2_with fail;rw[Exit.noGoto_ret];refine kqo (v:=.tuple #[.agg #[.int .i64 0,.int .i64 0,.int .i64 0,.int .i64 0,.bool false,.int .u64 0],.int .i64 8]) (aX results145 _ BD.out rfl rfl) rfl ⟨by rw[G1.out,G2.out];rfl,(kqk _ _).alloc (kqa _) _⟩
 have HI:=hid (aZ S);have hb:=kh (aZ S);obtain⟨p,I,d⟩:=hb;have F:=hid d;have HS:=hid S;clear S d hm;by_cases j:128<=a/\a<=(ws.length:Int)/\a%2=0
 .obtain ⟨a3,a4,a5⟩:=j;have hev:(a%2 != 0)=false:=by rw[kqr];exact a5
  have d1:decide (a<128)=false:=by rw[kqc];omega
  have d2:decide ((ws.length:Int)<a)=false:=by rw[kqc];omega
  have W:=hid (mf A ws c ws.length a (w.alloc (.cells #[.int .i64 0,.int .i64 0,.int .i64 0,.int .i64 0,.bool false,.int .u64 0] 55)) rfl (by omega) ((HR.out.alloc (kqa _) _).more (by simp)) HO.out);rw[kqm] at W;have BD:=hid m;clear a5 m;go_enter func145,ntmps145;go_wp2_with fail
  go_step3
  go_wp2_with fail;refine (aG A ws.length c _ (by omega)).mono ?_;rintro e z ⟨rfl,rfl⟩;rw[HI.out];go_wp2_with fail;refine W.out.mono ?_;rintro e z ⟨⟨A1,c1,rfl,M,U⟩,E⟩;have p:=aw E;have N:=p.size;have T:=Bx.of_new E;have hz1':=T.lt;have HCL:=hid U;obtain⟨l,hl⟩:=xq (aQ ws a);have HL:=hid hl;rw[hl] at M |-;have Kf:=hid M;obtain⟨r,R⟩:=xq (cc ws a);have P:=hid R;rw[R];clear hl M U;by_cases D:r=0
  .subst D;go_wp2_with fail
   go_step3
   go_wp2_with fail;have Kd:=hid T;have V:=hid p;have hlen:l.length<=4611686018427387904:=by rw[<-HL.out];exact ix ws a
   have bf:=Bx.new z 55 #[.int .i64 0,.int .i64 0,.int .i64 0,.int .i64 0,.bool false,.int .u64 0];clear R T p E;go_loopg [8,44] l.length (λg s8 i wr=>∃k:Nat,k+g=l.length/\i=.int .i64 k/\s8=.int .i64 6/\Hid (ff l k)/\Bx wr z.heap.size 55 #[.int .i64 0,.int .i64 0,.int .i64 0,.int .i64 0,.bool false,.int .u64 0]/\Below z.heap.size z wr)
   case atStart=>exact⟨0,by omega,rfl,rfl,nv l,bf,(kqk _ _).alloc (kqa _) _⟩
   obtain⟨k,hk,rfl,rfl,J,bx,O⟩:=hrel;have hz:=O.size;by_cases K:k<l.length
   .obtain ⟨b,off,rfl,hbw,q0,q1,q2,q3,q4,q5⟩:=RdB.at_ (Kf.out.below O) K;have C:=hid (bP l k K);obtain⟨x,hx⟩:=xq (l[k]);rw[hx] at q0 q1 q2 q3 q4 q5 C;obtain⟨B,xs,t,s,xm,u⟩:=x;dsimp only at q0 q1 q2 q3 q4 q5;have BX:=hid bx;obtain⟨c0,c1',c2,c3,c4,c5,h,cz⟩:=bx.c6;have X:=h 0;have cf1:=h 1;have cf2:=h 2;have cf3:=h 3;have cf4:=h 4;have cf5:=h 5;have hlm:(k:Int)<(l.length:Int):=by omega
    clear hx bx h;cases xm
    .go_wp2;go_roundg (gk-1)
     case rel=>exact⟨k+1,by omega,by go_num,rfl,nN J.out (by rw[C.out]),BX.out.alloc _,O.alloc hz _⟩
     case measure=>omega
    have hd:=Kd.out.up O (by omega);have H:=Bx.new wr 55 #[.int .i64 B,.int .i64 xs,.int .i64 t,.int .i64 s,.bool true,.int .u64 (u:Int)];have Kb:=hid (O.alloc hz (.cells #[.int .i64 B,.int .i64 xs,.int .i64 t,.int .i64 s,.bool true,.int .u64 (u:Int)] 55));have HD:=hid (hd.alloc (.cells #[.int .i64 B,.int .i64 xs,.int .i64 t,.int .i64 s,.bool true,.int .u64 (u:Int)] 55));have Y:=hid (BX.out.alloc (.cells #[.int .i64 B,.int .i64 xs,.int .i64 t,.int .i64 s,.bool true,.int .u64 (u:Int)] 55));have G:=hid H;have f:=rg;clear hd H;clear c0 c1' c2 c3 c4 c5 X cf1 cf2 cf3 cf4 cf5;go_upto_region 15 with (fail);obtain⟨wn,Eq⟩:∃wn,wr.alloc (.cells #[.int .i64 B,.int .i64 xs,.int .i64 t,.int .i64 s,.bool true,.int .u64 (u:Int)] 55)=wn:=⟨_,rfl⟩;rw[Eq] at HD Y Kb G |-;clear Eq;go_wp2_with (first
     | ((with_reducible refine aN 55 (.tmp 11) ?_);refine kxh rfl _ _ rfl wr.heap.size (by rfl) 55 #[.int .i64 B,.int .i64 xs,.int .i64 t,.int .i64 s,.bool true,.int .u64 (u:Int)] (0,0) _ G.out underlying55 (by rfl) f ?_)
     | ((with_reducible refine ar 55 (.tmp 9) _ ?_);refine am rfl _ _ _ rfl z.heap.size 55 #[.int .i64 0,.int .i64 0,.int .i64 0,.int .i64 0,.bool false,.int .u64 0] #[.int .i64 B,.int .i64 xs,.int .i64 t,.int .i64 s,.bool true,.int .u64 (u:Int)] (by rfl) (by rfl) Y.out rfl f (qg _ _ _ _ _ _) ?_;intro w2 I Z;have Ke:=hid I;have Kc:=hid Z;clear I Z)
     | ((with_reducible refine aN 55 (.tmp 9) ?_);refine kxh rfl _ _ rfl z.heap.size (by rfl) 55 #[.int .i64 B,.int .i64 xs,.int .i64 t,.int .i64 s,.bool true,.int .u64 (u:Int)] (0,0) _ Ke.out underlying55 (by rfl) f ?_)
     | ((with_reducible refine ar 55 (.tmp 4) _ ?_);refine am rfl _ _ _ rfl w.heap.size 55 #[.int .i64 0,.int .i64 0,.int .i64 0,.int .i64 0,.bool false,.int .u64 0] #[.int .i64 B,.int .i64 xs,.int .i64 t,.int .i64 s,.bool true,.int .u64 (u:Int)] (by rfl) (by rfl) (Kc.out.bx HD.out (by omega)) rfl f (qg _ _ _ _ _ _) ?_;intro w3 d o;have F:=hid d;have L:=hid o;clear d o))
    rw[Exit.noGoto_ret];obtain⟨y,q⟩:=tE P.out HL.out K J.out (by rw[C.out]);exact kqo (v:=.tuple #[.agg #[.int .i64 B,.int .i64 xs,.int .i64 t,.int .i64 s,.bool true,.int .u64 (u:Int)],.int .i64 0]) (aX results145 _ F.out rfl rfl) rfl ⟨by rw[y,q,C.out];rfl,L.out.below (Kc.out.below (V.out.trans (Kb.out.mono N)) N) (kqa _)⟩
   have Ka:k=l.length:=by omega
   have hd:=Kd.out.up O (by omega);have HD:=hid hd;have BX:=hid bx;have f:=rg;have HG:=hid (Aq P.out HL.out (by rw[<-Ka];exact J.out));clear hd bx Ka;go_wp2_with (first
    | ((with_reducible refine aN 55 (.tmp 9) ?_);refine kxh rfl _ _ rfl z.heap.size (by rfl) 55 #[.int .i64 0,.int .i64 0,.int .i64 0,.int .i64 0,.bool false,.int .u64 0] (0,0) _ BX.out underlying55 (by rfl) f ?_)
    | ((with_reducible refine ar 55 (.tmp 4) _ ?_);refine am rfl _ _ _ rfl w.heap.size 55 #[.int .i64 0,.int .i64 0,.int .i64 0,.int .i64 0,.bool false,.int .u64 0] #[.int .i64 0,.int .i64 0,.int .i64 0,.int .i64 0,.bool false,.int .u64 0] (by rfl) (by rfl) HD.out rfl f (qg _ _ _ _ _ _) ?_;intro w3 d o;have F:=hid d;have L:=hid o;clear d o))
   rw[Exit.noGoto_ret];exact kqo (v:=.tuple #[.agg #[.int .i64 0,.int .i64 0,.int .i64 0,.int .i64 0,.bool false,.int .u64 0],.int .i64 6]) (aX results145 _ F.out rfl rfl) rfl ⟨by rw[HG.out.1,HG.out.2];rfl,L.out.below (V.out.trans (O.mono N)) (kqa _)⟩
  have hn1:(r != 0)=true:=by rw[kqv];exact D
  obtain⟨y,q⟩:=vI P.out D;have G1:=hid y;have G2:=hid q;obtain⟨c0,c1',c2,c3,c4,c5,h,cz⟩:=T.c6;have X:=h 0;have cf1:=h 1;have cf2:=h 2;have cf3:=h 3;have cf4:=h 4;have cf5:=h 5;have B0:=hid T;clear R D y q h T E;go_wp2_with fail;rw[Exit.noGoto_ret];refine kqo (v:=.tuple #[.agg #[.int .i64 0,.int .i64 0,.int .i64 0,.int .i64 0,.bool false,.int .u64 0],.int .i64 r]) (aX results145 _ (mx B0.out _ _ _ _ _ _) rfl rfl) rfl ⟨by rw[G1.out,G2.out];rfl,fI p (kqa _) _ _ _ _ _ _⟩
 have HE:=hid (jf HS.out (mX j));obtain⟨y,q⟩:=vI HE.out (by omega);have G1:=hid y;have G2:=hid q;have BD:=hid m;clear y q m;have Q:=DQ j;clear j;rcases Q with⟨h1,h2⟩|⟨⟨h1,h2⟩,h3⟩|⟨h1,h2,h3⟩
 all_goals
  go_enter func145,ntmps145;go_wp2_with fail
  go_step3
  go_wp2_with fail;refine (aG A ws.length c _ (by omega)).mono ?_;rintro e z ⟨rfl,rfl⟩;rw[HI.out];go_wp2_with fail;rw[Exit.noGoto_ret];refine kqo (v:=.tuple #[.agg #[.int .i64 0,.int .i64 0,.int .i64 0,.int .i64 0,.bool false,.int .u64 0],.int .i64 2]) (aX results145 _ BD.out rfl rfl) rfl ⟨by rw[G1.out,G2.out];rfl,(kqk _ _).alloc (kqa _) _⟩
end Go.Proofs.YtpcajamacpbjcaaGreat
