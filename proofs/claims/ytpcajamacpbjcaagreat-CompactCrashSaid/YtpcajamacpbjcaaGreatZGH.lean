/- The reference's types, read: what it returns for all words. -/
import Derived.Test.YtpcajamacpbjcaaGreatZR13R
import Derived.Test.YtpcajamacpbjcaaGreatZKRch
import Derived.Test.YtpcajamacpbjcaaGreatZKHead
import Derived.WalkMore
set_option maxHeartbeats 16000000
set_option maxRecDepth 100000
set_option linter.all false
namespace Go.Proofs.YtpcajamacpbjcaaGreat
open Lib (hid)
open Go.RowKit
open Go.Proofs.Tryz
theorem Hm(a:Nat):∀n,mz ((List.range n).map λi=>a/4 ^ (i+4)%4) 4+256*(a/256/4 ^ n*4 ^ n)=256*(a/256):=by
 intro n
 induction n with
 | zero=>simp[mz]
 | succ n ih =>
  rw[kkv,kjj,ny];simp only[kxz,List.map_nil,mz,kz3,kkg,kz8];have b:a/256/4 ^ (n+1)=a/256/4 ^ n/4:=by rw[kji,kxd (a/256)]
  have d:a/4 ^ (n+4)=a/256/4 ^ n:=by rw[kxd,show (4:Nat) ^ (n+4)=256*4 ^ n by rw[kj3,kjd]]
  rw[b,d];obtain⟨q,h⟩:=xq (a/256/4 ^ n);rw[h] at ih |-;have e:(4:Nat) ^ (4+n)=256*4 ^ n:=by rw[kj3]
  have f:(4:Nat) ^ (n+1)=4*4 ^ n:=by rw[kji,kjd]
  rw[e,f];obtain⟨p,g⟩:∃p,(4:Nat) ^ n=p:=⟨_,rfl⟩;rw[g] at ih |-;have c:q*p=(q%4)*p+(q/4)*(4*p):=by
   have:q=4*(q/4)+q%4:=by omega
   conv=>lhs;rw[this]
   rw[kjg,kjd 4 (q/4),kve,kjp]
  rw[c] at ih;have e6:q%4*(256*p)=256*(q%4*p):=by rw[Nat.mul_left_comm]
  omega
def zT (a:Nat):Bool:=decide (a%256<=8)&&(a/256/4 ^ (a%256)==0&&dE (dl a))
theorem Fp(a b:Nat):ch a b=(zT a&&gM a==b):=by
 rw[kzg];constructor
 .intro h;obtain⟨g,f,d,j⟩:=rk h;unfold zT;simp[g,f,d,j]
 intro h;unfold zT at h;simp only[kqt,kzc,kqw] at h;obtain⟨⟨g,f,d⟩,j⟩:=h;have c:=Hm a (a%256);rw[f] at c;have e:gV (dl a)=a:=by
  have:gV (dl a)=(dl a).length+mz (dl a) 4:=rfl;rw[eY] at this;have e2:mz (dl a) 4=256*(a/256):=by have:mz (dl a) 4=mz ((List.range (a%256)).map λi=>a/4 ^ (i+4)%4) 4:=rfl;rw[this];omega
  omega
 unfold ch;simp[g,d,j,e]
theorem Ej(A:Option Addr)(l:List Nat)(c n B:Nat)(w:World)(hn:l.length=n)(h8:n<=8)(g:∀x∈l,x<=3)(hr:RdY w B A l):
 Calls prog 136 #[.slice A n c] w λe w'=>e=.returned (.int .i64 (if dE l=true then 0 else 8))/\w=w':=by
 by_cases a:dE l=true
 .rw[if_pos a];exact om A l c n B w hn h8 a hr
 rw[if_neg a];subst hn;have z:=hid hr;have p:=hid g;have v:=hid a;clear hr a g;go_enter func136,ntmps136;go_wp2_with fail
 go_loop [3] (λi=>∃k:Nat,k<=l.length/\i=.int .i64 k/\Hid (∀j (h:j<l.length),j<k->1<=l[j])) (λi=>l.length-(intOf i).toNat)
 case atStart=>exact⟨0,kqy _,rfl,hid λj h s=>absurd s (by omega)⟩
 obtain⟨k,a,rfl,q⟩:=hrel;by_cases f:k<l.length
 .obtain ⟨b,off,rfl,hb,y⟩:=z.out.at_ f;have t:=p.out l[k] (kqp f);have d:Hid (1<=l[k]->∀j (h:j<l.length),j<k+1->1<=l[j]):=hid λu j h s=>by
   rcases kq6 j k with g|g
   .exact q.out j h g
   have:j=k:=by omega
   subst this;exact u
  obtain⟨x,o⟩:=xq (l[k]);rw[o] at y t d;clear o;by_cases m:x=0
  .subst m;go_wp2;go_ret;exact⟨rfl,rfl⟩
  have e1:((x:Int)==0)=false:=by rw[kqi];omega
  have C:=hid (d.out (by omega));clear m;go_wp2_with fail
  go_round
  case rel=>exact⟨k+1,by omega,by go_num,C⟩
  case measure=>simp[intOf];omega
 exfalso;refine v.out ((cU l).2 λx o=>?_);obtain⟨j,r,rfl⟩:=kqz o;exact⟨q.out j r (by omega),p.out _ (kqp r)⟩
theorem fldL_3(a:Nat):∀x∈dl a,x<=3:=λx b=>by unfold dl at b;obtain⟨i,-,rfl⟩:=kzw.1 b;omega
theorem AE(a m:Nat):∀x∈(dl a).take m,x<=3:=λx b=>fldL_3 a x (kxt b)
def Gs (H a:Nat) (e:Ending) (w':World):Prop:=∃A n c,e=.returned (.tuple #[.slice A n c,.bool (zT a)])/\(zT a=true->n=(dl a).length/\w'.ownsRow H 5 1 (.slice A n c) n ((dl a).flatMap bi))
theorem wO(a:Nat)(w:World)(ha:a<18446744073709551616):
 Calls prog 287 #[.int .u64 (a:Int)] w λe w'=>Gs w.heap.size a e w'/\Below w.heap.size w w':=by
 have j:=hid (eY a);have y:=hid (λk h=>pW a k h);have V:=hid (λk=>zC a k);have H3:=hid (AE a);have H:Hid (zT a=(decide (a%256<=8)&&(a/256/4 ^ (a%256)==0&&dE (dl a)))):=hid rfl;obtain⟨m,D⟩:=xq (a%256);rw[D] at j y H;have G:(a:Int)%256=(m:Int):=by omega
 have f:=hid G;have w1':IntKind.u64.wrap ((a:Int)/256)=(a:Int)/256:=kzt _ (by omega);have ha0:(0:Int)<=(a:Int):=by omega
 have HA:=hid ha;clear D ha G;obtain⟨i0,Y,x,F,J⟩:=kzv kT;have HI:=hid Y;have P:=hid x;have S:=hid F;have R:=hid J;clear Y x F J;go_enter func287,ntmps287;go_wp2_with fail;go_loopw [5,6,7] (λv r i wr=>∃k:Nat,k<=m/\k<=8/\i=.int .u64 k/\r=.int .u64 ((a/256/4 ^ k:Nat):Int)/\wr.ownsRow w.heap.size 5 1 v k (((dl a).take k).flatMap bi)/\Below w.heap.size w wr) (λ_ _ i _=>m-(intOf i).toNat)
 case atStart=>exact⟨0,kqy _,kqy _,rfl,by simp,kq8 _ _ _ _,kql _ _⟩
 obtain⟨k,hk,W,rfl,rfl,b,p⟩:=hrel;have hz:=p.size;by_cases d:k<m/\k<8
 .obtain ⟨d,hlt8⟩:=d;obtain⟨N,Q⟩:=V.out k;have u:=y.out k d;rw[<-N] at u;have B:a/256/4 ^ k<18446744073709551616:=kkc (kku _ _) (kkc (kku _ _) HA.out);obtain⟨r,n⟩:=xq (a/256/4 ^ k);rw[n] at N Q u B;simp only[n];have O:=hid (show (((a/256/4 ^ (k+1):Nat)):Int)=(r:Int)/4 by rw[<-Q];omega);have C:=hid (show ((dl a).take (k+1)).flatMap bi=((dl a).take k).flatMap bi++[.int .u8 ((r:Int)%4)] by
   have X:k<(dl a).length:=by rw[j.out];exact d
   rw[kqo X,ce];rw[kqk X] at u;rw[Option.some.inj u];rfl)
  have w2':IntKind.u64.wrap ((r:Int)/4)=(r:Int)/4:=kzt _ (by omega);have hr00:(0:Int)<=(r:Int):=by omega
  have hki:decide ((k:Int)<(a:Int)%256)=true:=by rw[kqn,f.out];omega
  have hk8':(k:Int)<8:=by omega
  have hw8:IntKind.u8.wrap ((r:Int)%4)=(r:Int)%4:=IntWalk.u8_in _ (by omega);clear u n N Q B;go_wp2_with (at_builtin;refine kzd _ rfl _ _ 113 rfl w.heap.size 5 i0 _ 1 1 underlying113 HI.out P.out S.out R.out rfl (by decide) _ _ _ rfl (b.alloc _) ⟨_,0,none⟩ 1 1 [.int .u8 ((r:Int)%4)] rfl rfl (cC _ _ _) (by simp[Value.oneCell']) (by unfold maxLen;omega) (by omega) (cB p.size) ?_;intro v1 Z q T _;have U:=aC p p.size b T);go_roundw
  case rel=>exact⟨k+1,by omega,by omega,by go_num,by rw[O.out],by rw[C.out];exact q,U⟩
  case measure=>simp[intOf];omega
 obtain⟨A,z,rfl⟩:=aJ b;have L:((dl a).take k).length=k:=by rw[kq3,j.out];omega
 have t:=hid (Ej A ((dl a).take k) z k wr.heap.size wr L W (H3.out k) (Rd.of_own b));have I:=hid b;obtain⟨r,n⟩:=xq (a/256/4 ^ k);have K:=hid n;simp only[n];have c:(decide ((k:Int)<(a:Int)%256)&&decide ((k:Int)<8))=false:=by rw[kk5,kqh,kqh,f.out];omega
 by_cases s:m<=8
 .have M:k=m:=by omega
  subst M;rw[kq5 (by rw[j.out];exact kqd _)] at t I;have d8:decide ((a:Int)%256<=8)=true:=by rw[kqn,f.out];omega
  have dk:decide ((k:Int)<(a:Int)%256)=false:=by rw[kqh,f.out];omega
  by_cases o:r=0
  .subst o;cases g:dE (dl a)
   .have l:=hid (show zT a=false by rw[H.out,g];simp);rw[g] at t;clear g b n d c;go_wp2_with fail;refine t.out.mono ?_;rintro e Z ⟨rfl,rfl⟩;go_wp2;go_ret2;exact⟨⟨A,k,z,by rw[l.out];rfl,λh=>by rw[l.out] at h;cases h⟩,p⟩
   have l:=hid (show zT a=true by rw[H.out,g,K.out,decide_eq_true s];rfl);rw[g] at t;clear g b n d c;go_wp2_with fail;refine t.out.mono ?_;rintro e Z ⟨rfl,rfl⟩;go_wp2;go_ret2;exact⟨⟨A,k,z,by rw[l.out];rfl,λ_=>⟨j.out.symm,I.out⟩⟩,p⟩
  have l:=hid (show zT a=false by rw[H.out,K.out,show (r==0)=false by rw[kqi];exact o];simp);have e0:((r:Int)==0)=false:=by rw[kqi];omega
  have e0n:(r==0)=false:=by rw[kqi];exact o
  clear b n d c o;go_wp2;go_ret2;exact⟨⟨A,k,z,by rw[l.out];rfl,λh=>by rw[l.out] at h;cases h⟩,p⟩
 have E:k=8:=by omega
 subst E;have l:=hid (show zT a=false by rw[H.out,decide_eq_false s];rfl);have d8:decide ((a:Int)%256<=8)=false:=by rw[kqh,f.out];omega
 have dk:decide ((8:Int)<(a:Int)%256)=true:=by rw[kqn,f.out];omega
 clear b n d c s t;go_wp2;go_ret2;exact⟨⟨A,8,z,by rw[l.out];rfl,λh=>by rw[l.out] at h;cases h⟩,p⟩
theorem vr(a b:Nat)(w:World)(ha:a<18446744073709551616):
 Calls prog 261 #[.int .u64 (a:Int),.int .u64 (b:Int)] w λe w'=>lV w.heap.size a b e w'/\Below w.heap.size w w':=by
 have k:=hid (wO a w ha);cases p:zT a
 .have h:ch a b=false:=by rw[Fp,p];rfl
  have i:a8 a b=[]:=by unfold a8;rw[h];rfl
  have j:eJ a b=50:=by unfold eJ;rw[h];rfl
  have g:=hid (And.intro i j);unfold Gs at k;rw[p] at k;clear h p i j;go_enter func261,ntmps261;go_wp2_with fail;refine k.out.mono ?_;rintro e t ⟨⟨z,D,y,rfl,-⟩,c⟩;go_wp2;go_ret2;exact⟨⟨none,0,by rw[g.out.1,g.out.2];rfl,by rw[g.out.1];exact kq8 _ _ _ _⟩,c⟩
 unfold Gs at k;rw[p] at k;have s:=hid (λA W (H:RdW W W.heap.size A [a])=>pX A [a] 1 1 W rfl (by omega) H (λx E=>by rw[kq0] at E;rw[E];exact ha));rw[show aS 14695981039346656037 [a]=gM a from rfl] at s;have u:=hid (Fp a b);rw[p] at u;obtain⟨q,F⟩:=xq (gM a);rw[F] at s u;clear p F ha;by_cases r:q=b
 .have h:ch a b=true:=by rw[u.out,r];simp
  have i:a8 a b=dl a:=by unfold a8;rw[if_pos h]
  have j:eJ a b=0:=by unfold eJ;rw[if_pos h]
  have g:=hid (And.intro i j);subst r;have B:((q:Int) != (q:Int))=false:=by simp
  clear h i j;go_enter func261,ntmps261;go_wp2_with fail;refine k.out.mono ?_;rintro e t ⟨⟨z,D,y,rfl,d⟩,c⟩;obtain⟨rfl,d⟩:=d trivial;have l:=c.size;have n:=hid c;have v:=hid d;clear c d;go_wp2_with fail;have o:=Bx.new t 53 #[.int .u64 (a:Int)];refine (s.out _ _ (show Rd _ _ _ _ from Rd.of_bx o o.lt)).mono ?_;rintro e G ⟨rfl,f⟩;have m:=hid ((n.out.alloc l (.cells #[.int .u64 (a:Int)] 53)).trans (f.mono (by simp;omega)));have C:=hid (ai (v.out.alloc (.cells #[.int .u64 (a:Int)] 53)) f (kqd _));clear o f;go_wp2;go_ret2;exact⟨⟨z,y,by rw[g.out.1,g.out.2];rfl,by rw[g.out.1];exact C.out⟩,m.out⟩
 have h:ch a b=false:=by rw[u.out,show (q==b)=false by rw[kqi];exact r];rfl
 have i:a8 a b=[]:=by unfold a8;rw[h];rfl
 have j:eJ a b=50:=by unfold eJ;rw[h];rfl
 have g:=hid (And.intro i j);have B:((b:Int) != (q:Int))=true:=by rw[kqv];omega
 have hnen:(b != q)=true:=by rw[kqv];omega
 clear h r i j;go_enter func261,ntmps261;go_wp2_with fail;refine k.out.mono ?_;rintro e t ⟨⟨z,D,y,rfl,-⟩,c⟩;have l:=c.size;have n:=hid c;clear c;go_wp2_with fail;have o:=Bx.new t 53 #[.int .u64 (a:Int)];refine (s.out _ _ (show Rd _ _ _ _ from Rd.of_bx o o.lt)).mono ?_;rintro e G ⟨rfl,f⟩;have m:=hid ((n.out.alloc l (.cells #[.int .u64 (a:Int)] 53)).trans (f.mono (by simp;omega)));clear o f;go_wp2;go_ret2;exact⟨⟨none,0,by rw[g.out.1,g.out.2];rfl,by rw[g.out.1];exact kq8 _ _ _ _⟩,m.out⟩
theorem Fd(A:Option Addr)(ws:List Nat)(c n:Nat)(a:Int)(w:World)(hn:ws.length=n)(hm:n<=9223372036854775807)(ha : -9223372036854775808<=a/\a<=9223372036854775807)(K:RdW w w.heap.size A ws)(ho:∀x∈ws,x<18446744073709551616):
 Calls prog 145 #[.slice A n c,.int .i64 a] w λe w'=>e=.returned (.tuple #[(ie ws a).val,.int .i64 (bg ws a)])/\Below w.heap.size w w':=by
 subst hn;have HR:=hid K;have HO:=hid ho;obtain⟨a1,a2⟩:=ha;clear K ho;have m:=Bx.new w 55 #[.int .i64 0,.int .i64 0,.int .i64 0,.int .i64 0,.bool false,.int .u64 0];cases I:aj (ws.length:Int)
 .have HI:=hid (bD I);obtain⟨q,B⟩:=uS (fv (a:=a) I) (by omega);have G1:=hid q;have X:=hid B;have BD:=hid m;clear I q B m;go_enter func145,ntmps145;go_wp2_with fail
  go_step3
  go_wp2_with fail;refine (aE A ws.length c _ hm).mono ?_;rintro e z ⟨rfl,rfl⟩;rw[HI.out];go_wp2_with fail;rw[Exit.noGoto_ret];refine kqr (v:=.tuple #[.agg #[.int .i64 0,.int .i64 0,.int .i64 0,.int .i64 0,.bool false,.int .u64 0],.int .i64 8]) (aR results145 _ BD.out rfl rfl) rfl ⟨by rw[G1.out,X.out];rfl,(kql _ _).alloc (kqd _) _⟩
 have HI:=hid (aX I);have hb:=km (aX I);obtain⟨o,Q,d⟩:=hb;have F:=hid d;have HS:=hid I;clear I d hm;by_cases j:128<=a/\a<=(ws.length:Int)/\a%2=0
 .obtain ⟨a3,a4,a5⟩:=j;have hev:(a%2 != 0)=false:=by rw[kqq];exact a5
  have d1:decide (a<128)=false:=by rw[kqh];omega
  have d2:decide ((ws.length:Int)<a)=false:=by rw[kqh];omega
  have Jb:=hid (lU A ws c ws.length a (w.alloc (.cells #[.int .i64 0,.int .i64 0,.int .i64 0,.int .i64 0,.bool false,.int .u64 0] 55)) rfl (by omega) ((HR.out.alloc (kqd _) _).more (by simp)) HO.out);rw[kqm] at Jb;have BD:=hid m;clear a5 m;go_enter func145,ntmps145;go_wp2_with fail
  go_step3
  go_wp2_with fail;refine (aE A ws.length c _ (by omega)).mono ?_;rintro e z ⟨rfl,rfl⟩;rw[HI.out];go_wp2_with fail;refine Jb.out.mono ?_;rintro e z ⟨⟨A1,c1,rfl,P,Jc⟩,C⟩;have o:=av C;have L:=o.size;have T:=Bx.of_new C;have hz1':=T.lt;have HCL:=hid Jc;obtain⟨l,hl⟩:=xq (aN ws a);have HL:=hid hl;rw[hl] at P |-;have Jh:=hid P;obtain⟨r,K⟩:=xq (bQ ws a);have N:=hid K;rw[K];clear hl P Jc;by_cases E:r=0
  .subst E;go_wp2_with fail
   go_step3
   go_wp2_with fail;have Eq:=hid T;have Jd:=hid o;have hlen:l.length<=4611686018427387904:=by rw[<-HL.out];exact gO ws a
   have bf:=Bx.new z 55 #[.int .i64 0,.int .i64 0,.int .i64 0,.int .i64 0,.bool false,.int .u64 0];clear K T o C;go_loopg [8,44] l.length (λg s8 i wr=>∃k:Nat,k+g=l.length/\i=.int .i64 k/\s8=.int .i64 6/\Hid (fa l k)/\Bx wr z.heap.size 55 #[.int .i64 0,.int .i64 0,.int .i64 0,.int .i64 0,.bool false,.int .u64 0]/\Below z.heap.size z wr)
   case atStart=>exact⟨0,by omega,rfl,rfl,nn l,bf,(kql _ _).alloc (kqd _) _⟩
   obtain⟨k,hk,rfl,rfl,O,bx,S⟩:=hrel;have hz:=S.size;by_cases J:k<l.length
   .obtain ⟨b,off,rfl,hbw,q0,q1,q2,q3,q4,q5⟩:=RdB.at_ (Jh.out.below S) J;have D:=hid (bN l k J);obtain⟨x,hx⟩:=xq (l[k]);rw[hx] at q0 q1 q2 q3 q4 q5 D;obtain⟨t,xs,y,u,xm,s⟩:=x;dsimp only at q0 q1 q2 q3 q4 q5;have BX:=hid bx;obtain⟨c0,c1',c2,c3,c4,c5,f,cz⟩:=bx.c6;have cf0:=f 0;have cf1:=f 1;have W:=f 2;have cf3:=f 3;have U:=f 4;have Z:=f 5;have hlm:(k:Int)<(l.length:Int):=by omega
    clear hx bx f;cases xm
    .go_wp2;go_roundg (gk-1)
     case rel=>exact⟨k+1,by omega,by go_num,rfl,mK O.out (by rw[D.out]),BX.out.alloc _,S.alloc hz _⟩
     case measure=>omega
    have hd:=Eq.out.up S (by omega);have H:=Bx.new wr 55 #[.int .i64 t,.int .i64 xs,.int .i64 y,.int .i64 u,.bool true,.int .u64 (s:Int)];have Je:=hid (S.alloc hz (.cells #[.int .i64 t,.int .i64 xs,.int .i64 y,.int .i64 u,.bool true,.int .u64 (s:Int)] 55));have HD:=hid (hd.alloc (.cells #[.int .i64 t,.int .i64 xs,.int .i64 y,.int .i64 u,.bool true,.int .u64 (s:Int)] 55));have BX9:=hid (BX.out.alloc (.cells #[.int .i64 t,.int .i64 xs,.int .i64 y,.int .i64 u,.bool true,.int .u64 (s:Int)] 55));have G:=hid H;have h:=pO;clear hd H;clear c0 c1' c2 c3 c4 c5 cf0 cf1 W cf3 U Z;go_upto_region 15 with (fail);obtain⟨wn,Y⟩:∃wn,wr.alloc (.cells #[.int .i64 t,.int .i64 xs,.int .i64 y,.int .i64 u,.bool true,.int .u64 (s:Int)] 55)=wn:=⟨_,rfl⟩;rw[Y] at HD BX9 Je G |-;clear Y;go_wp2_with (first
     | ((with_reducible refine aM 55 (.tmp 11) ?_);refine kxf rfl _ _ rfl wr.heap.size (by rfl) 55 #[.int .i64 t,.int .i64 xs,.int .i64 y,.int .i64 u,.bool true,.int .u64 (s:Int)] (0,0) _ G.out underlying55 (by rfl) h ?_)
     | ((with_reducible refine aq 55 (.tmp 9) _ ?_);refine ak rfl _ _ _ rfl z.heap.size 55 #[.int .i64 0,.int .i64 0,.int .i64 0,.int .i64 0,.bool false,.int .u64 0] #[.int .i64 t,.int .i64 xs,.int .i64 y,.int .i64 u,.bool true,.int .u64 (s:Int)] (by rfl) (by rfl) BX9.out rfl h (pp _ _ _ _ _ _) ?_;intro w2 Q Jf;have Jg:=hid Q;have Ja:=hid Jf;clear Q Jf)
     | ((with_reducible refine aM 55 (.tmp 9) ?_);refine kxf rfl _ _ rfl z.heap.size (by rfl) 55 #[.int .i64 t,.int .i64 xs,.int .i64 y,.int .i64 u,.bool true,.int .u64 (s:Int)] (0,0) _ Jg.out underlying55 (by rfl) h ?_)
     | ((with_reducible refine aq 55 (.tmp 4) _ ?_);refine ak rfl _ _ _ rfl w.heap.size 55 #[.int .i64 0,.int .i64 0,.int .i64 0,.int .i64 0,.bool false,.int .u64 0] #[.int .i64 t,.int .i64 xs,.int .i64 y,.int .i64 u,.bool true,.int .u64 (s:Int)] (by rfl) (by rfl) (Ja.out.bx HD.out (by omega)) rfl h (pp _ _ _ _ _ _) ?_;intro w3 d p;have F:=hid d;have R:=hid p;clear d p))
    rw[Exit.noGoto_ret];obtain⟨q,B⟩:=te N.out HL.out J O.out (by rw[D.out]);exact kqr (v:=.tuple #[.agg #[.int .i64 t,.int .i64 xs,.int .i64 y,.int .i64 u,.bool true,.int .u64 (s:Int)],.int .i64 0]) (aR results145 _ F.out rfl rfl) rfl ⟨by rw[q,B,D.out];rfl,R.out.below (Ja.out.below (Jd.out.trans (Je.out.mono L)) L) (kqd _)⟩
   have V:k=l.length:=by omega
   have hd:=Eq.out.up S (by omega);have HD:=hid hd;have BX:=hid bx;have h:=pO;have HG:=hid (Ce N.out HL.out (by rw[<-V];exact O.out));clear hd bx V;go_wp2_with (first
    | ((with_reducible refine aM 55 (.tmp 9) ?_);refine kxf rfl _ _ rfl z.heap.size (by rfl) 55 #[.int .i64 0,.int .i64 0,.int .i64 0,.int .i64 0,.bool false,.int .u64 0] (0,0) _ BX.out underlying55 (by rfl) h ?_)
    | ((with_reducible refine aq 55 (.tmp 4) _ ?_);refine ak rfl _ _ _ rfl w.heap.size 55 #[.int .i64 0,.int .i64 0,.int .i64 0,.int .i64 0,.bool false,.int .u64 0] #[.int .i64 0,.int .i64 0,.int .i64 0,.int .i64 0,.bool false,.int .u64 0] (by rfl) (by rfl) HD.out rfl h (pp _ _ _ _ _ _) ?_;intro w3 d p;have F:=hid d;have R:=hid p;clear d p))
   rw[Exit.noGoto_ret];exact kqr (v:=.tuple #[.agg #[.int .i64 0,.int .i64 0,.int .i64 0,.int .i64 0,.bool false,.int .u64 0],.int .i64 6]) (aR results145 _ F.out rfl rfl) rfl ⟨by rw[HG.out.1,HG.out.2];rfl,R.out.below (Jd.out.trans (S.mono L)) (kqd _)⟩
  have hn1:(r != 0)=true:=by rw[kqv];exact E
  obtain⟨q,B⟩:=uS N.out E;have G1:=hid q;have X:=hid B;obtain⟨c0,c1',c2,c3,c4,c5,f,cz⟩:=T.c6;have cf0:=f 0;have cf1:=f 1;have W:=f 2;have cf3:=f 3;have U:=f 4;have Z:=f 5;have B0:=hid T;clear K E q B f T C;go_wp2_with fail;rw[Exit.noGoto_ret];refine kqr (v:=.tuple #[.agg #[.int .i64 0,.int .i64 0,.int .i64 0,.int .i64 0,.bool false,.int .u64 0],.int .i64 r]) (aR results145 _ (lT B0.out _ _ _ _ _ _) rfl rfl) rfl ⟨by rw[G1.out,X.out];rfl,fo o (kqd _) _ _ _ _ _ _⟩
 have HE:=hid (jj HS.out (mQ j));obtain⟨q,B⟩:=uS HE.out (by omega);have G1:=hid q;have X:=hid B;have BD:=hid m;clear q B m;have M:=EK j;clear j;rcases M with⟨h1,h2⟩|⟨⟨h1,h2⟩,h3⟩|⟨h1,h2,h3⟩
 all_goals
  go_enter func145,ntmps145;go_wp2_with fail
  go_step3
  go_wp2_with fail;refine (aE A ws.length c _ (by omega)).mono ?_;rintro e z ⟨rfl,rfl⟩;rw[HI.out];go_wp2_with fail;rw[Exit.noGoto_ret];refine kqr (v:=.tuple #[.agg #[.int .i64 0,.int .i64 0,.int .i64 0,.int .i64 0,.bool false,.int .u64 0],.int .i64 2]) (aR results145 _ BD.out rfl rfl) rfl ⟨by rw[G1.out,X.out];rfl,(kql _ _).alloc (kqd _) _⟩
end Go.Proofs.YtpcajamacpbjcaaGreat
