/- The next marked object from an address on: what the program returns. -/
import Derived.Test.YtpcajamacpbjcaaGreatZKHead
import Derived.WalkMore
set_option maxHeartbeats 16000000
set_option maxRecDepth 100000
set_option linter.all false
namespace Go.Proofs.YtpcajamacpbjcaaGreat
open Lib (hid)
open Go.RowKit
open Go.Proofs.Tryz
theorem EP(A:Option Addr)(ws:List Nat)(c n:Nat)(a:Int)(w:World)(hn:ws.length=n)(hm:n<=9223372036854775807)(ha : -9223372036854775808<=a/\a<=9223372036854775807)(M:RdW w w.heap.size A ws)(ho:∀x∈ws,x<18446744073709551616):
 Calls prog 145 #[.slice A n c,.int .i64 a] w λe w'=>e=.returned (.tuple #[(ie ws a).val,.int .i64 (a9 ws a)])/\Below w.heap.size w w':=by
 subst hn;have HR:=hid M;have HO:=hid ho;obtain⟨a1,a2⟩:=ha;clear M ho;have m:=Bx.new w 55 #[.int .i64 0,.int .i64 0,.int .i64 0,.int .i64 0,.bool false,.int .u64 0];cases P:ap (ws.length:Int)
 .have HI:=hid (cn P);obtain⟨u,q⟩:=tX (fp (a:=a) P) (by omega);have G1:=hid u;have G2:=hid q;have BD:=hid m;clear P u q m;go_enter func145,ntmps145;go_wp2_with fail
  go_step3
  go_wp2_with fail;refine (aB A ws.length c _ hm).mono ?_;rintro e y ⟨rfl,rfl⟩;rw[HI.out];go_wp2_with fail;rw[Exit.noGoto_ret];refine kqr (v:=.tuple #[.agg #[.int .i64 0,.int .i64 0,.int .i64 0,.int .i64 0,.bool false,.int .u64 0],.int .i64 8]) (bP results145 _ BD.out rfl rfl) rfl ⟨by rw[G1.out,G2.out];rfl,(kqk _ _).alloc (kqa _) _⟩
 have HI:=hid (bG P);have hb:=kc (bG P);obtain⟨p,Q,d⟩:=hb;have C:=hid d;have HS:=hid P;clear P d hm;by_cases j:128<=a/\a<=(ws.length:Int)/\a%2=0
 .obtain ⟨a3,a4,a5⟩:=j;have hev:(a%2 != 0)=false:=by rw[kqq];exact a5
  have d1:decide (a<128)=false:=by rw[kqh];omega
  have d2:decide ((ws.length:Int)<a)=false:=by rw[kqh];omega
  have Jc:=hid (lR A ws c ws.length a (w.alloc (.cells #[.int .i64 0,.int .i64 0,.int .i64 0,.int .i64 0,.bool false,.int .u64 0] 55)) rfl (by omega) ((HR.out.alloc (kqa _) _).more (by simp)) HO.out);rw[kqm] at Jc;have BD:=hid m;clear a5 m;go_enter func145,ntmps145;go_wp2_with fail
  go_step3
  go_wp2_with fail;refine (aB A ws.length c _ (by omega)).mono ?_;rintro e y ⟨rfl,rfl⟩;rw[HI.out];go_wp2_with fail;refine Jc.out.mono ?_;rintro e y ⟨⟨A1,c1,rfl,I,U⟩,E⟩;have p:=ax E;have K:=p.size;have T:=Bx.of_new E;have hz1':=T.lt;have HCL:=hid U;obtain⟨l,hl⟩:=xq (aJ ws a);have HL:=hid hl;rw[hl] at I |-;have Je:=hid I;obtain⟨r,M⟩:=xq (bJ ws a);have O:=hid M;rw[M];clear hl I U;by_cases D:r=0
  .subst D;go_wp2_with fail
   go_step3
   go_wp2_with fail;have X:=hid T;have Ja:=hid p;have hlen:l.length<=4611686018427387904:=by rw[<-HL.out];exact iq ws a
   have bf:=Bx.new y 55 #[.int .i64 0,.int .i64 0,.int .i64 0,.int .i64 0,.bool false,.int .u64 0];clear M T p E;go_loopg [8,44] l.length (λg s8 i wr=>∃k:Nat,k+g=l.length/\i=.int .i64 k/\s8=.int .i64 6/\Hid (eZ l k)/\Bx wr y.heap.size 55 #[.int .i64 0,.int .i64 0,.int .i64 0,.int .i64 0,.bool false,.int .u64 0]/\Below y.heap.size y wr)
   case atStart=>exact⟨0,by omega,rfl,rfl,nr l,bf,(kqk _ _).alloc (kqa _) _⟩
   obtain⟨k,hk,rfl,rfl,R,bx,N⟩:=hrel;have hz:=N.size;by_cases L:k<l.length
   .obtain ⟨b,off,rfl,hbw,q0,q1,q2,q3,q4,q5⟩:=RdB.at_ (Je.out.below N) L;have F:=hid (bM l k L);obtain⟨x,hx⟩:=xq (l[k]);rw[hx] at q0 q1 q2 q3 q4 q5 F;obtain⟨t,xs,B,z,xm,s⟩:=x;dsimp only at q0 q1 q2 q3 q4 q5;have BX:=hid bx;obtain⟨c0,c1',c2,c3,c4,c5,f,cz⟩:=bx.c6;have cf0:=f 0;have cf1:=f 1;have W:=f 2;have cf3:=f 3;have V:=f 4;have cf5:=f 5;have hlm:(k:Int)<(l.length:Int):=by omega
    clear hx bx f;cases xm
    .go_wp2;go_roundg (gk-1)
     case rel=>exact⟨k+1,by omega,by go_num,rfl,nw R.out (by rw[F.out]),BX.out.alloc _,N.alloc hz _⟩
     case measure=>omega
    have hd:=X.out.up N (by omega);have G:=Bx.new wr 55 #[.int .i64 t,.int .i64 xs,.int .i64 B,.int .i64 z,.bool true,.int .u64 (s:Int)];have Eq:=hid (N.alloc hz (.cells #[.int .i64 t,.int .i64 xs,.int .i64 B,.int .i64 z,.bool true,.int .u64 (s:Int)] 55));have HD:=hid (hd.alloc (.cells #[.int .i64 t,.int .i64 xs,.int .i64 B,.int .i64 z,.bool true,.int .u64 (s:Int)] 55));have BX9:=hid (BX.out.alloc (.cells #[.int .i64 t,.int .i64 xs,.int .i64 B,.int .i64 z,.bool true,.int .u64 (s:Int)] 55));have H:=hid G;have h:=oX;clear hd G;clear c0 c1' c2 c3 c4 c5 cf0 cf1 W cf3 V cf5;go_upto_region 15 with (fail);obtain⟨wn,Y⟩:∃wn,wr.alloc (.cells #[.int .i64 t,.int .i64 xs,.int .i64 B,.int .i64 z,.bool true,.int .u64 (s:Int)] 55)=wn:=⟨_,rfl⟩;rw[Y] at HD BX9 Eq H |-;clear Y;go_wp2_with (first
     | ((with_reducible refine aH 55 (.tmp 11) ?_);refine kxc rfl _ _ rfl wr.heap.size (by rfl) 55 #[.int .i64 t,.int .i64 xs,.int .i64 B,.int .i64 z,.bool true,.int .u64 (s:Int)] (0,0) _ H.out underlying55 (by rfl) h ?_)
     | ((with_reducible refine aq 55 (.tmp 9) _ ?_);refine ai rfl _ _ _ rfl y.heap.size 55 #[.int .i64 0,.int .i64 0,.int .i64 0,.int .i64 0,.bool false,.int .u64 0] #[.int .i64 t,.int .i64 xs,.int .i64 B,.int .i64 z,.bool true,.int .u64 (s:Int)] (by rfl) (by rfl) BX9.out rfl h (oP _ _ _ _ _ _) ?_;intro w2 Q Jb;have Jf:=hid Q;have Z:=hid Jb;clear Q Jb)
     | ((with_reducible refine aH 55 (.tmp 9) ?_);refine kxc rfl _ _ rfl y.heap.size (by rfl) 55 #[.int .i64 t,.int .i64 xs,.int .i64 B,.int .i64 z,.bool true,.int .u64 (s:Int)] (0,0) _ Jf.out underlying55 (by rfl) h ?_)
     | ((with_reducible refine aq 55 (.tmp 4) _ ?_);refine ai rfl _ _ _ rfl w.heap.size 55 #[.int .i64 0,.int .i64 0,.int .i64 0,.int .i64 0,.bool false,.int .u64 0] #[.int .i64 t,.int .i64 xs,.int .i64 B,.int .i64 z,.bool true,.int .u64 (s:Int)] (by rfl) (by rfl) (Z.out.bx HD.out (by omega)) rfl h (oP _ _ _ _ _ _) ?_;intro w3 d o;have C:=hid d;have J:=hid o;clear d o))
    rw[Exit.noGoto_ret];obtain⟨u,q⟩:=rI O.out HL.out L R.out (by rw[F.out]);exact kqr (v:=.tuple #[.agg #[.int .i64 t,.int .i64 xs,.int .i64 B,.int .i64 z,.bool true,.int .u64 (s:Int)],.int .i64 0]) (bP results145 _ C.out rfl rfl) rfl ⟨by rw[u,q,F.out];rfl,J.out.below (Z.out.below (Ja.out.trans (Eq.out.mono K)) K) (kqa _)⟩
   have Jd:k=l.length:=by omega
   have hd:=X.out.up N (by omega);have HD:=hid hd;have BX:=hid bx;have h:=oX;have HG:=hid (Ay O.out HL.out (by rw[<-Jd];exact R.out));clear hd bx Jd;go_wp2_with (first
    | ((with_reducible refine aH 55 (.tmp 9) ?_);refine kxc rfl _ _ rfl y.heap.size (by rfl) 55 #[.int .i64 0,.int .i64 0,.int .i64 0,.int .i64 0,.bool false,.int .u64 0] (0,0) _ BX.out underlying55 (by rfl) h ?_)
    | ((with_reducible refine aq 55 (.tmp 4) _ ?_);refine ai rfl _ _ _ rfl w.heap.size 55 #[.int .i64 0,.int .i64 0,.int .i64 0,.int .i64 0,.bool false,.int .u64 0] #[.int .i64 0,.int .i64 0,.int .i64 0,.int .i64 0,.bool false,.int .u64 0] (by rfl) (by rfl) HD.out rfl h (oP _ _ _ _ _ _) ?_;intro w3 d o;have C:=hid d;have J:=hid o;clear d o))
   rw[Exit.noGoto_ret];exact kqr (v:=.tuple #[.agg #[.int .i64 0,.int .i64 0,.int .i64 0,.int .i64 0,.bool false,.int .u64 0],.int .i64 6]) (bP results145 _ C.out rfl rfl) rfl ⟨by rw[HG.out.1,HG.out.2];rfl,J.out.below (Ja.out.trans (N.mono K)) (kqa _)⟩
  have hn1:(r != 0)=true:=by rw[kqu];exact D
  obtain⟨u,q⟩:=tX O.out D;have G1:=hid u;have G2:=hid q;obtain⟨c0,c1',c2,c3,c4,c5,f,cz⟩:=T.c6;have cf0:=f 0;have cf1:=f 1;have W:=f 2;have cf3:=f 3;have V:=f 4;have cf5:=f 5;have B0:=hid T;clear M D u q f T E;go_wp2_with fail;rw[Exit.noGoto_ret];refine kqr (v:=.tuple #[.agg #[.int .i64 0,.int .i64 0,.int .i64 0,.int .i64 0,.bool false,.int .u64 0],.int .i64 r]) (bP results145 _ (qF B0.out _ _ _ _ _ _) rfl rfl) rfl ⟨by rw[G1.out,G2.out];rfl,jc p (kqa _) _ _ _ _ _ _⟩
 have HE:=hid (jo HS.out (nk j));obtain⟨u,q⟩:=tX HE.out (by omega);have G1:=hid u;have G2:=hid q;have BD:=hid m;clear u q m;have S:=Dt j;clear j;rcases S with⟨h1,h2⟩|⟨⟨h1,h2⟩,h3⟩|⟨h1,h2,h3⟩
 all_goals
  go_enter func145,ntmps145;go_wp2_with fail
  go_step3
  go_wp2_with fail;refine (aB A ws.length c _ (by omega)).mono ?_;rintro e y ⟨rfl,rfl⟩;rw[HI.out];go_wp2_with fail;rw[Exit.noGoto_ret];refine kqr (v:=.tuple #[.agg #[.int .i64 0,.int .i64 0,.int .i64 0,.int .i64 0,.bool false,.int .u64 0],.int .i64 2]) (bP results145 _ BD.out rfl rfl) rfl ⟨by rw[G1.out,G2.out];rfl,(kqk _ _).alloc (kqa _) _⟩
end Go.Proofs.YtpcajamacpbjcaaGreat
