/- The next marked object from an address on: what the program returns. -/
import Derived.Test.YtpcajamacpbjcaaGreatZKHead
import Derived.WalkMore
import Derived.Test.YtpcajamacpbjcaaGreatZR13R
import Derived.Test.YtpcajamacpbjcaaGreatZKRch
set_option maxHeartbeats 16000000
set_option maxRecDepth 100000
set_option linter.all false
namespace Go.Proofs.YtpcajamacpbjcaaGreat
open Lib (hid)
open Go.RowKit
open Go.Proofs.Tryz
theorem Dc(A:Option Addr)(ws:List Nat)(c n:Nat)(a:Int)(w:World)(hn:ws.length=n)(hm:n<=9223372036854775807)(ha : -9223372036854775808<=a/\a<=9223372036854775807)(K:RdW w w.heap.size A ws)(ho:∀x∈ws,x<18446744073709551616):
 Calls prog 145 #[.slice A n c,.int .i64 a] w λe w'=>e=.returned (.tuple #[(iE ws a).val,.int .i64 (bp ws a)])/\Below w.heap.size w w':=by
 subst hn;have HR:=hid K;have HO:=hid ho;obtain⟨a1,a2⟩:=ha;clear K ho;have m:=Bx.new w 55 #[.int .i64 0,.int .i64 0,.int .i64 0,.int .i64 0,.bool false,.int .u64 0];cases I:ak (ws.length:Int)
 .have HI:=hid (bJ I);obtain⟨z,y⟩:=tM (fp (a:=a) I) (by omega);have G1:=hid z;have G2:=hid y;have BD:=hid m;clear I z y m;go_enter func145,ntmps145;go_wp2_with fail
  go_step3
  go_wp2_with fail;refine (aJ A ws.length c _ hm).mono ?_;rintro e t ⟨rfl,rfl⟩;rw[HI.out];go_wp2_with fail;rw[Exit.noGoto_ret];refine kqr (v:=.tuple #[.agg #[.int .i64 0,.int .i64 0,.int .i64 0,.int .i64 0,.bool false,.int .u64 0],.int .i64 8]) (aS results145 _ BD.out rfl rfl) rfl ⟨by rw[G1.out,G2.out];rfl,(kqk _ _).alloc (kqb _) _⟩
 have HI:=hid (aW I);have hb:=jQ (aW I);obtain⟨p,P,d⟩:=hb;have E:=hid d;have HS:=hid I;clear I d hm;by_cases j:128<=a/\a<=(ws.length:Int)/\a%2=0
 .obtain ⟨a3,a4,a5⟩:=j;have hev:(a%2 != 0)=false:=by rw[kqp];exact a5
  have d1:decide (a<128)=false:=by rw[kqc];omega
  have d2:decide ((ws.length:Int)<a)=false:=by rw[kqc];omega
  have Fq:=hid (lz A ws c ws.length a (w.alloc (.cells #[.int .i64 0,.int .i64 0,.int .i64 0,.int .i64 0,.bool false,.int .u64 0] 55)) rfl (by omega) ((HR.out.alloc (kqb _) _).more (by simp)) HO.out);rw[kqn] at Fq;have BD:=hid m;clear a5 m;go_enter func145,ntmps145;go_wp2_with fail
  go_step3
  go_wp2_with fail;refine (aJ A ws.length c _ (by omega)).mono ?_;rintro e t ⟨rfl,rfl⟩;rw[HI.out];go_wp2_with fail;refine Fq.out.mono ?_;rintro e t ⟨⟨A1,c1,rfl,R,U⟩,D⟩;have p:=ao D;have Q:=p.size;have T:=Bx.of_new D;have hz1':=T.lt;have HCL:=hid U;obtain⟨l,hl⟩:=xq (aU ws a);have HL:=hid hl;rw[hl] at R |-;have Fs:=hid R;obtain⟨r,K⟩:=xq (co ws a);have O:=hid K;rw[K];clear hl R U;by_cases F:r=0
  .subst F;go_wp2_with fail
   go_step3
   go_wp2_with fail;have Fo:=hid T;have Eq:=hid p;have hlen:l.length<=4611686018427387904:=by rw[<-HL.out];exact gQ ws a
   have bf:=Bx.new t 55 #[.int .i64 0,.int .i64 0,.int .i64 0,.int .i64 0,.bool false,.int .u64 0];clear K T p D;go_loopg [8,44] l.length (λg s8 i wr=>∃k:Nat,k+g=l.length/\i=.int .i64 k/\s8=.int .i64 6/\Hid (eM l k)/\Bx wr t.heap.size 55 #[.int .i64 0,.int .i64 0,.int .i64 0,.int .i64 0,.bool false,.int .u64 0]/\Below t.heap.size t wr)
   case atStart=>exact⟨0,by omega,rfl,rfl,nk l,bf,(kqk _ _).alloc (kqb _) _⟩
   obtain⟨k,hk,rfl,rfl,J,bx,S⟩:=hrel;have hz:=S.size;by_cases L:k<l.length
   .obtain ⟨b,off,rfl,hbw,q0,q1,q2,q3,q4,q5⟩:=RdB.at_ (Fs.out.below S) L;have C:=hid (bo l k L);obtain⟨x,hx⟩:=xq (l[k]);rw[hx] at q0 q1 q2 q3 q4 q5 C;obtain⟨B,xs,s,q,xm,u⟩:=x;dsimp only at q0 q1 q2 q3 q4 q5;have BX:=hid bx;obtain⟨c0,Y,c2,c3,c4,c5,f,cz⟩:=bx.c6;have cf0:=f 0;have cf1:=f 1;have cf2:=f 2;have cf3:=f 3;have cf4:=f 4;have cf5:=f 5;have hlm:(k:Int)<(l.length:Int):=by omega
    clear hx bx f;cases xm
    .go_wp2;go_roundg (gk-1)
     case rel=>exact⟨k+1,by omega,by go_num,rfl,mH J.out (by rw[C.out]),BX.out.alloc _,S.alloc hz _⟩
     case measure=>omega
    have W:=Fo.out.up S (by omega);have G:=Bx.new wr 55 #[.int .i64 B,.int .i64 xs,.int .i64 s,.int .i64 q,.bool true,.int .u64 (u:Int)];have Fp:=hid (S.alloc hz (.cells #[.int .i64 B,.int .i64 xs,.int .i64 s,.int .i64 q,.bool true,.int .u64 (u:Int)] 55));have HD:=hid (W.alloc (.cells #[.int .i64 B,.int .i64 xs,.int .i64 s,.int .i64 q,.bool true,.int .u64 (u:Int)] 55));have BX9:=hid (BX.out.alloc (.cells #[.int .i64 B,.int .i64 xs,.int .i64 s,.int .i64 q,.bool true,.int .u64 (u:Int)] 55));have H:=hid G;have h:=l6;clear W G;clear c0 Y c2 c3 c4 c5 cf0 cf1 cf2 cf3 cf4 cf5;go_upto_region 15 with (fail);obtain⟨wn,Fr⟩:∃wn,wr.alloc (.cells #[.int .i64 B,.int .i64 xs,.int .i64 s,.int .i64 q,.bool true,.int .u64 (u:Int)] 55)=wn:=⟨_,rfl⟩;rw[Fr] at HD BX9 Fp H |-;clear Fr;go_wp2_with (first
     | ((with_reducible refine fF 55 (.tmp 11) ?_);refine kxg rfl _ _ rfl wr.heap.size (by rfl) 55 #[.int .i64 B,.int .i64 xs,.int .i64 s,.int .i64 q,.bool true,.int .u64 (u:Int)] (0,0) _ H.out underlying55 (by rfl) h ?_)
     | ((with_reducible refine bq 55 (.tmp 9) _ ?_);refine ai rfl _ _ _ rfl t.heap.size 55 #[.int .i64 0,.int .i64 0,.int .i64 0,.int .i64 0,.bool false,.int .u64 0] #[.int .i64 B,.int .i64 xs,.int .i64 s,.int .i64 q,.bool true,.int .u64 (u:Int)] (by rfl) (by rfl) BX9.out rfl h (mW _ _ _ _ _ _) ?_;intro w2 P Z;have Ft:=hid P;have X:=hid Z;clear P Z)
     | ((with_reducible refine fF 55 (.tmp 9) ?_);refine kxg rfl _ _ rfl t.heap.size (by rfl) 55 #[.int .i64 B,.int .i64 xs,.int .i64 s,.int .i64 q,.bool true,.int .u64 (u:Int)] (0,0) _ Ft.out underlying55 (by rfl) h ?_)
     | ((with_reducible refine bq 55 (.tmp 4) _ ?_);refine ai rfl _ _ _ rfl w.heap.size 55 #[.int .i64 0,.int .i64 0,.int .i64 0,.int .i64 0,.bool false,.int .u64 0] #[.int .i64 B,.int .i64 xs,.int .i64 s,.int .i64 q,.bool true,.int .u64 (u:Int)] (by rfl) (by rfl) (X.out.bx HD.out (by omega)) rfl h (mW _ _ _ _ _ _) ?_;intro w3 d o;have E:=hid d;have M:=hid o;clear d o))
    rw[Exit.noGoto_ret];obtain⟨z,y⟩:=pL O.out HL.out L J.out (by rw[C.out]);exact kqr (v:=.tuple #[.agg #[.int .i64 B,.int .i64 xs,.int .i64 s,.int .i64 q,.bool true,.int .u64 (u:Int)],.int .i64 0]) (aS results145 _ E.out rfl rfl) rfl ⟨by rw[z,y,C.out];rfl,M.out.below (X.out.below (Eq.out.trans (Fp.out.mono Q)) Q) (kqb _)⟩
   have V:k=l.length:=by omega
   have W:=Fo.out.up S (by omega);have HD:=hid W;have BX:=hid bx;have h:=l6;have HG:=hid (zw O.out HL.out (by rw[<-V];exact J.out));clear W bx V;go_wp2_with (first
    | ((with_reducible refine fF 55 (.tmp 9) ?_);refine kxg rfl _ _ rfl t.heap.size (by rfl) 55 #[.int .i64 0,.int .i64 0,.int .i64 0,.int .i64 0,.bool false,.int .u64 0] (0,0) _ BX.out underlying55 (by rfl) h ?_)
    | ((with_reducible refine bq 55 (.tmp 4) _ ?_);refine ai rfl _ _ _ rfl w.heap.size 55 #[.int .i64 0,.int .i64 0,.int .i64 0,.int .i64 0,.bool false,.int .u64 0] #[.int .i64 0,.int .i64 0,.int .i64 0,.int .i64 0,.bool false,.int .u64 0] (by rfl) (by rfl) HD.out rfl h (mW _ _ _ _ _ _) ?_;intro w3 d o;have E:=hid d;have M:=hid o;clear d o))
   rw[Exit.noGoto_ret];exact kqr (v:=.tuple #[.agg #[.int .i64 0,.int .i64 0,.int .i64 0,.int .i64 0,.bool false,.int .u64 0],.int .i64 6]) (aS results145 _ E.out rfl rfl) rfl ⟨by rw[HG.out.1,HG.out.2];rfl,M.out.below (Eq.out.trans (S.mono Q)) (kqb _)⟩
  have hn1:(r != 0)=true:=by rw[kqt];exact F
  obtain⟨z,y⟩:=tM O.out F;have G1:=hid z;have G2:=hid y;obtain⟨c0,Y,c2,c3,c4,c5,f,cz⟩:=T.c6;have cf0:=f 0;have cf1:=f 1;have cf2:=f 2;have cf3:=f 3;have cf4:=f 4;have cf5:=f 5;have B0:=hid T;clear K F z y f T D;go_wp2_with fail;rw[Exit.noGoto_ret];refine kqr (v:=.tuple #[.agg #[.int .i64 0,.int .i64 0,.int .i64 0,.int .i64 0,.bool false,.int .u64 0],.int .i64 r]) (aS results145 _ (lC B0.out _ _ _ _ _ _) rfl rfl) rfl ⟨by rw[G1.out,G2.out];rfl,ft p (kqb _) _ _ _ _ _ _⟩
 have HE:=hid (iL HS.out (mK j));obtain⟨z,y⟩:=tM HE.out (by omega);have G1:=hid z;have G2:=hid y;have BD:=hid m;clear z y m;have N:=Cu j;clear j;rcases N with⟨h1,h2⟩|⟨⟨h1,h2⟩,h3⟩|⟨h1,h2,h3⟩
 all_goals
  go_enter func145,ntmps145;go_wp2_with fail
  go_step3
  go_wp2_with fail;refine (aJ A ws.length c _ (by omega)).mono ?_;rintro e t ⟨rfl,rfl⟩;rw[HI.out];go_wp2_with fail;rw[Exit.noGoto_ret];refine kqr (v:=.tuple #[.agg #[.int .i64 0,.int .i64 0,.int .i64 0,.int .i64 0,.bool false,.int .u64 0],.int .i64 2]) (aS results145 _ BD.out rfl rfl) rfl ⟨by rw[G1.out,G2.out];rfl,(kqk _ _).alloc (kqb _) _⟩
theorem EP(a:Nat):∀n,ny ((List.range n).map λi=>a/4 ^ (i+4)%4) 4+256*(a/256/4 ^ n*4 ^ n)=256*(a/256):=by
 intro n
 induction n with
 | zero=>simp[ny]
 | succ n ih =>
  rw[kj1,kxu,mp];simp only[kx0,List.map_nil,ny,kzl,kkc,kz6];have d:a/256/4 ^ (n+1)=a/256/4 ^ n/4:=by rw[kju,kxb (a/256)]
  have h:a/4 ^ (n+4)=a/256/4 ^ n:=by rw[kxb,show (4:Nat) ^ (n+4)=256*4 ^ n by rw[kjx,kjm]]
  rw[d,h];obtain⟨q,g⟩:=xq (a/256/4 ^ n);rw[g] at ih |-;have f:(4:Nat) ^ (4+n)=256*4 ^ n:=by rw[kjx]
  have c:(4:Nat) ^ (n+1)=4*4 ^ n:=by rw[kju,kjm]
  rw[f,c];obtain⟨p,b⟩:∃p,(4:Nat) ^ n=p:=⟨_,rfl⟩;rw[b] at ih |-;have e:q*p=(q%4)*p+(q/4)*(4*p):=by
   have:q=4*(q/4)+q%4:=by omega
   conv=>lhs;rw[this]
   rw[kjq,kjm 4 (q/4),kve,kxs]
  rw[e] at ih;have e6:q%4*(256*p)=256*(q%4*p):=by rw[Nat.mul_left_comm]
  omega
def xe (a:Nat):Bool:=decide (a%256<=8)&&(a/256/4 ^ (a%256)==0&&fc (cm a))
theorem Dd(a b:Nat):bE a b=(xe a&&iH a==b):=by
 rw[kzk];constructor
 .intro h;obtain⟨g,f,d,c⟩:=fC h;unfold xe;simp[g,f,d,c]
 intro h;unfold xe at h;simp only[kqw,kzw,kqu] at h;obtain⟨⟨g,f,d⟩,c⟩:=h;have j:=EP a (a%256);rw[f] at j;have e:jK (cm a)=a:=by
  have:jK (cm a)=(cm a).length+ny (cm a) 4:=rfl;rw[cV] at this;have e2:ny (cm a) 4=256*(a/256):=by have:ny (cm a) 4=ny ((List.range (a%256)).map λi=>a/4 ^ (i+4)%4) 4:=rfl;rw[this];omega
  omega
 unfold bE;simp[g,d,c,e]
theorem Ca(A:Option Addr)(l:List Nat)(c n B:Nat)(w:World)(hn:l.length=n)(h8:n<=8)(m:∀x∈l,x<=3)(hr:RdY w B A l):
 Calls prog 136 #[.slice A n c] w λe w'=>e=.returned (.int .i64 (if fc l=true then 0 else 8))/\w=w':=by
 by_cases a:fc l=true
 .rw[if_pos a];exact nO A l c n B w hn h8 a hr
 rw[if_neg a];subst hn;have u:=hid hr;have s:=hid m;have z:=hid a;clear hr a m;go_enter func136,ntmps136;go_wp2_with fail
 go_loop [3] (λi=>∃k:Nat,k<=l.length/\i=.int .i64 k/\Hid (∀j (h:j<l.length),j<k->1<=l[j])) (λi=>l.length-(intOf i).toNat)
 case atStart=>exact⟨0,kqx _,rfl,hid λj h r=>absurd r (by omega)⟩
 obtain⟨k,a,rfl,p⟩:=hrel;by_cases g:k<l.length
 .obtain ⟨b,off,rfl,hb,C⟩:=u.out.at_ g;have v:=s.out l[k] (kqs g);have d:Hid (1<=l[k]->∀j (h:j<l.length),j<k+1->1<=l[j]):=hid λy j h r=>by
   rcases kq6 j k with m|m
   .exact p.out j h m
   have:j=k:=by omega
   subst this;exact y
  obtain⟨x,o⟩:=xq (l[k]);rw[o] at C v d;clear o;by_cases f:x=0
  .subst f;go_wp2;go_ret;exact⟨rfl,rfl⟩
  have e1:((x:Int)==0)=false:=by rw[kqi];omega
  have t:=hid (d.out (by omega));clear f;go_wp2_with fail
  go_round
  case rel=>exact⟨k+1,by omega,by go_num,t⟩
  case measure=>simp[intOf];omega
 exfalso;refine z.out ((d9 l).2 λx o=>?_);obtain⟨j,q,rfl⟩:=kqv o;exact⟨p.out j q (by omega),s.out _ (kqs q)⟩
theorem fldL_3(a:Nat):∀x∈cm a,x<=3:=λx b=>by unfold cm at b;obtain⟨i,-,rfl⟩:=kzy.1 b;omega
theorem wL(a m:Nat):∀x∈(cm a).take m,x<=3:=λx b=>fldL_3 a x (kxq b)
def EO (H a:Nat) (e:Ending) (w':World):Prop:=∃A n c,e=.returned (.tuple #[.slice A n c,.bool (xe a)])/\(xe a=true->n=(cm a).length/\w'.ownsRow H 5 1 (.slice A n c) n ((cm a).flatMap aZ))
theorem uL(a:Nat)(w:World)(ha:a<18446744073709551616):
 Calls prog 287 #[.int .u64 (a:Int)] w λe w'=>EO w.heap.size a e w'/\Below w.heap.size w w':=by
 have j:=hid (cV a);have F:=hid (λk h=>lQ a k h);have O:=hid (λk=>rr a k);have H3:=hid (wL a);have E:Hid (xe a=(decide (a%256<=8)&&(a/256/4 ^ (a%256)==0&&fc (cm a)))):=hid rfl;obtain⟨m,L⟩:=xq (a%256);rw[L] at j F E;have z:(a:Int)%256=(m:Int):=by omega
 have g:=hid z;have w1':IntKind.u64.wrap ((a:Int)/256)=(a:Int)/256:=kzi _ (by omega);have ha0:(0:Int)<=(a:Int):=by omega
 have HA:=hid ha;clear L ha z;obtain⟨i0,Y,A,D,C⟩:=kze js;have HI:=hid Y;have U:=hid A;have V:=hid D;have Q:=hid C;clear Y A D C;go_enter func287,ntmps287;go_wp2_with fail;go_loopw [5,6,7] (λv r i wr=>∃k:Nat,k<=m/\k<=8/\i=.int .u64 k/\r=.int .u64 ((a/256/4 ^ k:Nat):Int)/\wr.ownsRow w.heap.size 5 1 v k (((cm a).take k).flatMap aZ)/\Below w.heap.size w wr) (λ_ _ i _=>m-(intOf i).toNat)
 case atStart=>exact⟨0,kqx _,kqx _,rfl,by simp,kq1 _ _ _ _,kqk _ _⟩
 obtain⟨k,hk,N,rfl,rfl,b,p⟩:=hrel;have hz:=p.size;by_cases d:k<m/\k<8
 .obtain ⟨d,hlt8⟩:=d;obtain⟨T,M⟩:=O.out k;have H:=F.out k d;rw[<-T] at H;have G:a/256/4 ^ k<18446744073709551616:=kji (kjz _ _) (kji (kjz _ _) HA.out);obtain⟨r,l⟩:=xq (a/256/4 ^ k);rw[l] at T M H G;simp only[l];have R:=hid (show (((a/256/4 ^ (k+1):Nat)):Int)=(r:Int)/4 by rw[<-M];omega);have J:=hid (show ((cm a).take (k+1)).flatMap aZ=((cm a).take k).flatMap aZ++[.int .u8 ((r:Int)%4)] by
   have Z:k<(cm a).length:=by rw[j.out];exact d
   rw[kqq Z,b9];rw[kqm Z] at H;rw[Option.some.inj H];rfl)
  have w2':IntKind.u64.wrap ((r:Int)/4)=(r:Int)/4:=kzi _ (by omega);have hr00:(0:Int)<=(r:Int):=by omega
  have hki:decide ((k:Int)<(a:Int)%256)=true:=by rw[kql,g.out];omega
  have hk8':(k:Int)<8:=by omega
  have hw8:IntKind.u8.wrap ((r:Int)%4)=(r:Int)%4:=IntWalk.u8_in _ (by omega);clear H l T M G;go_wp2_with (at_builtin;refine kq9 _ rfl _ _ 113 rfl w.heap.size 5 i0 _ 1 1 underlying113 HI.out U.out V.out Q.out rfl (by decide) _ _ _ rfl (b.alloc _) ⟨_,0,none⟩ 1 1 [.int .u8 ((r:Int)%4)] rfl rfl (bn _ _ _) (by simp[Value.oneCell']) (by unfold maxLen;omega) (by omega) (aH p.size) ?_;intro v1 X q P _;have W:=am p p.size b P);go_roundw
  case rel=>exact⟨k+1,by omega,by omega,by go_num,by rw[R.out],by rw[J.out];exact q,W⟩
  case measure=>simp[intOf];omega
 obtain⟨I,x,rfl⟩:=ap b;have y:((cm a).take k).length=k:=by rw[kzd,j.out];omega
 have t:=hid (Ca I ((cm a).take k) x k wr.heap.size wr y N (H3.out k) (Rd.of_own b));have u:=hid b;obtain⟨r,l⟩:=xq (a/256/4 ^ k);have K:=hid l;simp only[l];have c:(decide ((k:Int)<(a:Int)%256)&&decide ((k:Int)<8))=false:=by rw[kjg,kqc,kqc,g.out];omega
 by_cases s:m<=8
 .have S:k=m:=by omega
  subst S;rw[kzb (by rw[j.out];exact kqb _)] at t u;have d8:decide ((a:Int)%256<=8)=true:=by rw[kql,g.out];omega
  have dk:decide ((k:Int)<(a:Int)%256)=false:=by rw[kqc,g.out];omega
  by_cases o:r=0
  .subst o;cases f:fc (cm a)
   .have n:=hid (show xe a=false by rw[E.out,f];simp);rw[f] at t;clear f b l d c;go_wp2_with fail;refine t.out.mono ?_;rintro e X ⟨rfl,rfl⟩;go_wp2;go_ret2;exact⟨⟨I,k,x,by rw[n.out];rfl,λh=>by rw[n.out] at h;cases h⟩,p⟩
   have n:=hid (show xe a=true by rw[E.out,f,K.out,decide_eq_true s];rfl);rw[f] at t;clear f b l d c;go_wp2_with fail;refine t.out.mono ?_;rintro e X ⟨rfl,rfl⟩;go_wp2;go_ret2;exact⟨⟨I,k,x,by rw[n.out];rfl,λ_=>⟨j.out.symm,u.out⟩⟩,p⟩
  have n:=hid (show xe a=false by rw[E.out,K.out,show (r==0)=false by rw[kqi];exact o];simp);have e0:((r:Int)==0)=false:=by rw[kqi];omega
  have e0n:(r==0)=false:=by rw[kqi];exact o
  clear b l d c o;go_wp2;go_ret2;exact⟨⟨I,k,x,by rw[n.out];rfl,λh=>by rw[n.out] at h;cases h⟩,p⟩
 have B:k=8:=by omega
 subst B;have n:=hid (show xe a=false by rw[E.out,decide_eq_false s];rfl);have d8:decide ((a:Int)%256<=8)=false:=by rw[kqc,g.out];omega
 have dk:decide ((8:Int)<(a:Int)%256)=true:=by rw[kql,g.out];omega
 clear b l d c s t;go_wp2;go_ret2;exact⟨⟨I,8,x,by rw[n.out];rfl,λh=>by rw[n.out] at h;cases h⟩,p⟩
theorem uw(a b:Nat)(w:World)(ha:a<18446744073709551616):
 Calls prog 261 #[.int .u64 (a:Int),.int .u64 (b:Int)] w λe w'=>lu w.heap.size a b e w'/\Below w.heap.size w w':=by
 have k:=hid (uL a w ha);cases p:xe a
 .have h:bE a b=false:=by rw[Dd,p];rfl
  have i:bc a b=[]:=by unfold bc;rw[h];rfl
  have j:ei a b=50:=by unfold ei;rw[h];rfl
  have g:=hid (And.intro i j);unfold EO at k;rw[p] at k;clear h p i j;go_enter func261,ntmps261;go_wp2_with fail;refine k.out.mono ?_;rintro e u ⟨⟨B,E,v,rfl,-⟩,c⟩;go_wp2;go_ret2;exact⟨⟨none,0,by rw[g.out.1,g.out.2];rfl,by rw[g.out.1];exact kq1 _ _ _ _⟩,c⟩
 unfold EO at k;rw[p] at k;have t:=hid (λA W (G:RdW W W.heap.size A [a])=>oO A [a] 1 1 W rfl (by omega) G (λx D=>by rw[kq7] at D;rw[D];exact ha));rw[show bt 14695981039346656037 [a]=iH a from rfl] at t;have s:=hid (Dd a b);rw[p] at s;obtain⟨q,F⟩:=xq (iH a);rw[F] at t s;clear p F ha;by_cases r:q=b
 .have h:bE a b=true:=by rw[s.out,r];simp
  have i:bc a b=cm a:=by unfold bc;rw[if_pos h]
  have j:ei a b=0:=by unfold ei;rw[if_pos h]
  have g:=hid (And.intro i j);subst r;have C:((q:Int) != (q:Int))=false:=by simp
  clear h i j;go_enter func261,ntmps261;go_wp2_with fail;refine k.out.mono ?_;rintro e u ⟨⟨B,E,v,rfl,d⟩,c⟩;obtain⟨rfl,d⟩:=d trivial;have l:=c.size;have n:=hid c;have z:=hid d;clear c d;go_wp2_with fail;have o:=Bx.new u 53 #[.int .u64 (a:Int)];refine (t.out _ _ (show Rd _ _ _ _ from Rd.of_bx o o.lt)).mono ?_;rintro e H ⟨rfl,f⟩;have m:=hid ((n.out.alloc l (.cells #[.int .u64 (a:Int)] 53)).trans (f.mono (by simp;omega)));have y:=hid (ae (z.out.alloc (.cells #[.int .u64 (a:Int)] 53)) f (kqb _));clear o f;go_wp2;go_ret2;exact⟨⟨B,v,by rw[g.out.1,g.out.2];rfl,by rw[g.out.1];exact y.out⟩,m.out⟩
 have h:bE a b=false:=by rw[s.out,show (q==b)=false by rw[kqi];exact r];rfl
 have i:bc a b=[]:=by unfold bc;rw[h];rfl
 have j:ei a b=50:=by unfold ei;rw[h];rfl
 have g:=hid (And.intro i j);have C:((b:Int) != (q:Int))=true:=by rw[kqt];omega
 have hnen:(b != q)=true:=by rw[kqt];omega
 clear h r i j;go_enter func261,ntmps261;go_wp2_with fail;refine k.out.mono ?_;rintro e u ⟨⟨B,E,v,rfl,-⟩,c⟩;have l:=c.size;have n:=hid c;clear c;go_wp2_with fail;have o:=Bx.new u 53 #[.int .u64 (a:Int)];refine (t.out _ _ (show Rd _ _ _ _ from Rd.of_bx o o.lt)).mono ?_;rintro e H ⟨rfl,f⟩;have m:=hid ((n.out.alloc l (.cells #[.int .u64 (a:Int)] 53)).trans (f.mono (by simp;omega)));clear o f;go_wp2;go_ret2;exact⟨⟨none,0,by rw[g.out.1,g.out.2];rfl,by rw[g.out.1];exact kq1 _ _ _ _⟩,m.out⟩
end Go.Proofs.YtpcajamacpbjcaaGreat
