/- The reference's view of a right heap: Fit, Blocks from an address on, Check. -/
import Derived.Test.YtpcajamacpbjcaaGreatZR13R
import Derived.Test.YtpcajamacpbjcaaGreatZKRef15
import Derived.Test.YtpcajamacpbjcaaGreatZGVa
import Derived.Test.YtpcajamacpbjcaaGreatZKHeap
import Derived.Test.YtpcajamacpbjcaaGreatZKStg2
import Derived.Test.YtpcajamacpbjcaaGreatZKCp2
import Derived.Test.YtpcajamacpbjcaaGreatZKRefs
import Derived.Deep.RegionHeld3
set_option maxHeartbeats 16000000
set_option maxRecDepth 100000
set_option linter.all false
namespace Go.Proofs.YtpcajamacpbjcaaGreat
open Lib (hid)
open Go.RowKit
variable {s:Int}{ws:List Nat}{k:Nat}
open Go.Proofs.Tryz
theorem tI(A:Option Addr)(ws:List Nat)(c n t:Nat)(xa xs xk:Int)(xm:Bool)(xn:Nat)(w:World)(hn:ws.length=n)(hm:n<=1000000)(h2:256<=n)(ht:t<8)(h:bE (wd ws (96+2*t)) (wd ws (96+2*t+1))=true)(hs:xs=((aX (cm (wd ws (96+2*t))).length:Nat):Int))(d:RdW w w.heap.size A ws)(ho:∀x∈ws,x<18446744073709551616):
 Calls prog 275 #[.slice A n c,.agg #[.int .i64 xa,.int .i64 xs,.int .i64 xk,.int .i64 (t:Int),.bool xm,.int .u64 (xn:Int)]] w λe w'=>e=.returned (.bool true)/\Below w.heap.size w w':=by
 have m:=hid (λW (d:RdW W W.heap.size A ws)=>mm A ws c n t W hn hm h2 ht h d ho);have k:(cm (wd ws (96+2*t))).length<=8:=by rw[cV];exact (fC h).1
 obtain⟨l,p⟩:=xq (cm (wd ws (96+2*t)));rw[p] at m k hs;have HR:=hid d;have w1:IntKind.i64.wrap (2+(l.length:Int))=2+(l.length:Int):=kqo _ (by omega);have w2:IntKind.i64.wrap (2+(l.length:Int)+(l.length:Int)%2)=2+(l.length:Int)+(l.length:Int)%2:=kqo _ (by omega);have he:((xs:Int)==2+(l.length:Int)+(l.length:Int)%2)=true:=by rw[kqu,hs];unfold aX;omega
 have r:=Bx.new w 55 #[.int .i64 xa,.int .i64 xs,.int .i64 xk,.int .i64 (t:Int),.bool xm,.int .u64 (xn:Int)];have g:=hid ((d.alloc (kqb _) (.cells #[.int .i64 xa,.int .i64 xs,.int .i64 xk,.int .i64 (t:Int),.bool xm,.int .u64 (xn:Int)] 55)).more (show w.heap.size<=(w.alloc (.cells #[.int .i64 xa,.int .i64 xs,.int .i64 xk,.int .i64 (t:Int),.bool xm,.int .u64 (xn:Int)] 55)).heap.size by simp));have a:=hid ((kqk w.heap.size w).alloc (kqb _) (.cells #[.int .i64 xa,.int .i64 xs,.int .i64 xk,.int .i64 (t:Int),.bool xm,.int .u64 (xn:Int)] 55));have i:=hid r;clear d ho h hs p hn h2 ht r;go_enter func275,ntmps275;go_wp2_with fail;obtain⟨o,f⟩:∃o,w.alloc (.cells #[.int .i64 xa,.int .i64 xs,.int .i64 xk,.int .i64 (t:Int),.bool xm,.int .u64 (xn:Int)] 55)=o:=⟨_,rfl⟩;rw[f] at g a i |-;clear f;refine (m.out _ g.out).mono ?_;rintro e w5 ⟨⟨A1,c1,rfl,-⟩,b⟩;have q:=i.out.up b i.out.lt;obtain⟨p0,p1,p2,p3,p4,p5,pf,hgn⟩:=q.c6;have j:=hid (a.out.trans (b.mono a.out.size));clear b q;go_wp2;go_ret;exact⟨rfl,j.out⟩
theorem qX(A:Option Addr)(ws:List Nat)(c n a:Nat)(l:List Bk)(w:World)(hn:ws.length=n)(q:ak (ws.length:Int)=true)(ha:a%2=0)(han:a<=n)(hl:blocks ws a=some l)(hl2:l.length<=1024)(hall:∀b∈l,dA ws b=true)(r:RdW w w.heap.size A ws)(ho:∀x∈ws,x<18446744073709551616):
 Calls prog 241 #[.slice A n c,.int .i64 (a:Int)] w λe w'=>(∃A c,e=.returned (.tuple #[.slice A l.length c,.bool true])/\RdB w' w'.heap.size A l/\l.length<=c)/\Below w.heap.size w w':=by
 subst hn;have hb:=de ws q;have L:=q;have B:=hid (lS A ws c ws.length a w rfl (by omega) (by omega) han ha r ho);unfold rW nw at B;rw[hl] at B;simp only[kq4,kxk] at B;have HF:=hid (λk (I:k<l.length) (h1:l[k].kind=1)=>by
  have h2:=fW (ws:=ws) hl ha I h1;have j:dA ws l[k]=true:=hall _ (kqs I);rw[gI h1] at j;simp only[kqw,kqu] at j;obtain⟨t,C⟩:=kq2 h2.1;have e:tyA l[k]=96+2*t:=by unfold tyA;rw[C];simp
  rw[e] at j;have h4:bc (wd ws (96+2*t)) (wd ws (96+2*t+1))=cm (wd ws (96+2*t)):=by unfold bc;rw[if_pos j.1]
  rw[h4] at j;exact (show ∃t:Nat,l[k].typ=(t:Int)/\t<8/\bE (wd ws (96+2*t)) (wd ws (96+2*t+1))=true/\l[k].size=((aX (cm (wd ws (96+2*t))).length:Nat):Int) from ⟨t,C,by omega,j.1,j.2⟩))
 have y:=hid (λt E xs D G J W C h q (r:RdW W W.heap.size A ws)=>tI A ws c ws.length t E xs D G J W rfl (by omega) (by omega) C h q r ho);have HR:=hid r;clear r ho hl hall L q hb;go_enter func241,ntmps241;go_wp2_with fail;refine B.out.mono ?_;rintro e U ⟨⟨A1,Z,rfl,u,p⟩,f⟩;have o:=hid u;have H:=hid p;have z:=hid f;have F:=hid (HR.out.up f f.size);clear u p f;go_wp2_with fail;go_loopw [8] (λi wr=>∃k:Nat,k<=l.length/\i=.int .i64 k/\Below U.heap.size U wr) (λi _=>l.length-(intOf i).toNat)
 case atStart=>exact⟨0,kqx _,rfl,kqk _ _⟩
 obtain⟨k,I,rfl,g⟩:=hrel;have K:=g.size;by_cases s:k<l.length
 .obtain ⟨b,off,rfl,hbw,Q,X,R,P,T,V⟩:=RdB.at_ (Rd.below o.out g) s;have d:=HF.out k s;obtain⟨x,N⟩:=xq (l[k]);rw[N] at Q X R P T V d;obtain⟨E,xs,D,xt,G,J⟩:=x;dsimp only at Q X R P T V d;have hlm:(k:Int)<(l.length:Int):=by omega
  have hk0:(0:Int)<=(k:Int):=by omega
  clear N;by_cases m:D=1
  .subst m;obtain⟨t,rfl,O,S,Y⟩:=d rfl;have HQ:=hid (y.out t E xs 1 G J wr O S Y (F.out.up g K));clear d O S Y;go_wp2_with fail;refine HQ.out.mono ?_;rintro e w2 ⟨rfl,v⟩;have M:=hid (g.trans (v.mono K));clear v;go_wp2;go_roundw
   case rel=>exact⟨k+1,by omega,by go_num,M.out⟩
   case measure=>simp[intOf];omega
  have hk2:(D==1)=false:=by rw[kqi];exact m
  clear d m;go_wp2;go_roundw
  case rel=>exact⟨k+1,by omega,by go_num,g⟩
  case measure=>simp[intOf];omega
 obtain rfl:k=l.length:=by omega
 go_wp2;go_ret2;exact⟨⟨A1,Z,rfl,o.out.up g K,H.out⟩,z.out.trans (g.mono z.out.size)⟩
theorem iz(A:Option Addr)(ws:List Nat)(c n:Nat)(w:World)(hn:ws.length=n)(h0:ag ws=0)(hr:RdW w w.heap.size A ws)(ho:∀x∈ws,x<18446744073709551616):
 Calls prog 241 #[.slice A n c,.int .i64 128] w λe w'=>(∃A c,e=.returned (.tuple #[.slice A (aa ws).length c,.bool true])/\RdB w' w'.heap.size A (aa ws)/\(aa ws).length<=c)/\Below w.heap.size w w':=by obtain⟨g,l,h,a,d⟩:=al h0;have f:=de ws g;rw[<-d] at h a;exact qX A ws c n 128 (aa ws) w hn g (by omega) (by omega) h (dl ws) (λb f=>kzq.1 a _ f) hr ho
theorem fo(A:Option Addr)(ws:List Nat)(c n:Nat)(w:World)(hn:ws.length=n)(h0:ag ws=0)(hr:RdW w w.heap.size A ws)(ho:∀x∈ws,x<18446744073709551616):
 Calls prog 238 #[.slice A n c] w λe w'=>e=.returned (.int .i64 0)/\Below w.heap.size w w':=by have b:=de ws (al h0).1;have a:=hid (fv A n c w (by omega));rw[aW (by rw[<-hn];exact (al h0).1)] at a;have f:=hid (iz A ws c n w hn h0 hr ho);clear hr ho h0 hn b;go_enter func238,ntmps238;go_wp2_with fail;refine a.out.mono ?_;rintro e w1 ⟨rfl,rfl⟩;go_wp2_with fail;refine f.out.mono ?_;rintro e w2 ⟨⟨A1,c1,rfl,-,-⟩,d⟩;go_wp2;go_ret;exact⟨rfl,d⟩
structure MvL (ws:List Nat) (l:List Bk) (s:Int):Prop where
 few:l.length<=1024
 all:bM ws l s=true
 at_:∀b∈l,∃a:Nat,b=bkAt ws a/\a+1<ws.length/\2<=szAt ws a/\szAt ws a<=2048
 bd:∀k,k<=l.length->0<=aD (l.take k) s/\aD (l.take k) s<=4096
theorem MvL.word{l:List Bk}(h:MvL ws l s)(hk:k<l.length)(hl:aA l[k]=true):∃a:Nat,l[k].at_=(a:Int)/\a+1<ws.length/\((wd ws (a+1):Nat):Int)=aD (l.take k) s:=by obtain⟨a,d,e,-⟩:=h.at_ _ (kqs hk);refine⟨a,by rw[d];rfl,e,?_⟩;have b:=h.all;rw[<-kz2 k l,jf,kxh hk] at b;simp only[kqw,bM,hl,if_true,kqu] at b;have c:=b.2.2.1;rw[d] at c;exact c
theorem xD(A LB:Option Addr)(ws:List Nat)(l:List Bk)(c n d m:Nat)(s:Int)(w:World)(hn:ws.length=n)(hn2:n<=2048)(hm:l.length=m)(h:MvL ws l s)(hr:RdW w w.heap.size A ws)(hl:RdB w w.heap.size LB l):
 Calls prog 273 #[.slice A n c,.slice LB m d,.int .i64 s] w λe w'=>(∃B d',e=.returned (.tuple #[.slice B (aq l s).length d',.bool true])/\w'.ownsRow w.heap.size 275 2 (.slice B (aq l s).length d') (aq l s).length ((aq l s).flatMap fI))/\Below w.heap.size w w':=by
 have Gk:=h.few;have Gg:=hid (wD LB l d m s w hm (by omega) h.bd hl);have Gn:=hid (λk (J:k<l.length) (h1:aA l[k]=true)=>h.word J h1);have Gd:Hid (∀k (J:k<l.length),(aL l s)[k]? = some (if aA (gk l k) then aD (l.take k) s else 0)):=hid λk J=>jX J;have Gm:Hid (∀k (J:k<l.length),gk l k=l[k]):=hid λk J=>bo l k J;have Gw:=hid (λk (J:k<l.length)=>oB J s);have Gf:Hid ((aq (l.take m) s)=aq l s):=hid (by rw[<-hm,kzj]);have Gz:Hid (∀k,(aq (l.take k) s).length<=k):=hid λk=>kzv (gp _ s) (kkm _ _);have HPN:=hid (cN l s);have Gx:=hid h.bd;have Gj:Hid (∀W r,r<n->RdW W W.heap.size A ws->∃b g,A=some ⟨b,g,none⟩/\b<W.heap.size/\W.cell? ⟨b,g+r,none⟩=some (.int .u64 (wd ws r:Int))):=hid λW r hr2 h=>by
  obtain⟨b,g,e,O,hc⟩:=RdW.at_ h (show r<ws.length by omega);rw[<-bI] at hc;exact⟨b,g,e,O,hc⟩
 have Gq:=hid hm;have Gy:=hid hn;have HR:=hid hr;have HL:=hid hl;rw[hm] at Gk;clear hr hl h hm hn;obtain⟨i0,hi,Fr,Fw,R⟩:=kze t6;have HI:=hid hi;have Gl:=hid Fr;have Gh:=hid Fw;have Gr:=hid R;clear hi Fr Fw R;go_enter func273,ntmps273;go_wp2_with fail;refine Gg.out.mono ?_;rintro e Q ⟨⟨BP,dP,rfl,f⟩,E⟩;have T:=hid E;have Fz:=hid (HR.out.up E E.size);have Ga:=hid (HL.out.up E E.size);have Gc:=hid (show RdI Q Q.heap.size BP (aL l s) from Rd.of_own f);clear E f;go_wp2_with fail;go_loopw [10,11] (λvo vi wr=>∃k:Nat,k<=m/\vi=.int .i64 k/\wr.ownsRow Q.heap.size 275 2 vo (aq (l.take k) s).length ((aq (l.take k) s).flatMap fI)/\Below Q.heap.size Q wr) (λ_ i _=>m-(intOf i).toNat)
 case atStart=>exact⟨0,kqx _,rfl,kq1 _ _ _ _,kqk _ _⟩
 obtain⟨k,J,rfl,y,hB⟩:=hrel;have hz:=hB.size;by_cases Fs:k<m
 .have H:k<l.length:=by rw[Gq.out];exact Fs
  obtain⟨b,g,rfl,O,Z,q1,q2,q3,q4,q5⟩:=RdB.at_ (Rd.below Ga.out hB) H;have o:=Gw.out k H;have C:=Gd.out k H;rw[Gm.out k H] at C;have I:=Gn.out k H;obtain⟨x,hx⟩:=xq (l[k]);rw[hx] at Z q1 q2 q3 q4 q5 o C I;have j:=hid (pr x wr);unfold qM at j;obtain⟨u,hu⟩:=xq (aD (l.take k) s);obtain⟨b1,b2⟩:=Gx.out k (by omega);rw[hu] at o C I b1 b2;have hml:=Gz.out k;have hk0:(0:Int)<=(k:Int):=by omega
  have hk1:(k:Int)<(m:Int):=by omega
  have P:=hid y;have Y:=hid hB;clear y hB hx hu;cases G:aA x
  .rw[G] at o j;rw[if_neg (by decide),kzm] at o;have D:=hid o;obtain⟨xa,xs,xk,xt,xm,xn⟩:=x;dsimp only at Z q1 q2 q3 q4 q5 j;clear o C I G;go_wp2_with fail;refine j.out.mono ?_;rintro e w2 ⟨rfl,t⟩;have F:=hid (ae P.out t (kqb _));have N:=hid (Y.out.trans (t.mono hz));clear t;go_wp2;go_roundw
   case rel=>exact⟨k+1,by omega,by go_num,by rw[D.out];exact F.out,N.out⟩
   case measure=>simp[intOf];omega
  obtain⟨a,ea,ha,ew⟩:=I G;rw[G] at o C j;rw[if_pos rfl] at o C;rw[ea] at Z o;rw[Gy.out] at ha;obtain⟨bA,oA,hA,Gs,v0⟩:=Gj.out wr (a+1) ha (Fz.out.up Y.out hz);subst hA;obtain⟨Fq,ekp⟩:=kzc.1 C;obtain⟨L,V,Gb,Fv,p0⟩:=RdI.at_ (show RdI wr Q.heap.size BP (aL l s) from Rd.below Gc.out Y.out) Fq;subst Gb;rw[ekp] at p0;obtain⟨v,hv⟩:=xq (wd ws (a+1));rw[hv] at v0 ew;have D:=hid (show (aq (l.take (k+1)) s).flatMap fI=(aq (l.take k) s).flatMap fI++[.int .i64 (a:Int),.int .i64 u]/\(aq (l.take (k+1)) s).length=(aq (l.take k) s).length+1 by rw[o,kz0,kqz];exact⟨rfl,rfl⟩);subst ew;have hwu:IntKind.u64.wrap (v:Int)=(v:Int):=kzi _ (by omega);have hne:((v:Int) != (v:Int))=false:=by rw[kqp]
  have hwa:IntKind.i64.wrap ((a:Int)+1)=(a:Int)+1:=kqo _ (by omega);have ha0:(0:Int)<=(a:Int)+1:=by omega
  have ha1:(a:Int)+1<(n:Int):=by omega
  have htn:((a:Int)+1).toNat=a+1:=by omega
  have Gi:b<wr.heap.size:=by omega
  have Ft:L<wr.heap.size:=by omega
  obtain⟨xa,xs,xk,xt,xm,xn⟩:=x;dsimp only at Z q1 q2 q3 q4 q5 j ea;subst ea;clear o C I G ekp Fq hv;go_wp2_with fail;refine j.out.mono ?_;rintro e w2 ⟨rfl,t⟩;have F:=hid (ae P.out t (kqb _));have N:=hid (Y.out.trans (t.mono hz));have r0:=(t.cell (p:=⟨b,g+k*6,none⟩) Gi).trans Z;have s0:=(t.cell (p:=⟨L,V+k,none⟩) Ft).trans p0;have t0:=(t.cell (p:=⟨bA,oA+(a+1),none⟩) Gs).trans v0;have Gu:=hid (And.intro r0 s0);clear t Z q1 q2 q3 q4 q5 p0 v0;go_wp2_with fail;go_quiet (fail);go_wp2_with fail;obtain⟨Av,cv,rfl⟩:=ap F.out;have R:=N.out.size;have z:=hid (az N.out nq).drew;have U:=hid (show (w2.drewN nq).drew.ownsRow Q.heap.size 275 2 (.slice Av (aq (l.take k) s).length cv) (aq (l.take k) s).length ((aq (l.take k) s).flatMap fI) from ⟨F.out.1,F.out.2⟩);refine kz9 (S:=λX:World=>X.cell? ⟨b,g+k*6,none⟩=some (.int .i64 (a:Int))/\X.cell? ⟨L,V+k,none⟩=some (.int .i64 (v:Int))) (by kernel_rfl) Gu.out (λq=>?_);show wpAnyH _ _ _ _ _ 14 #[false,false,false,false,false,false,false,false,false,false,false,false,false,false] _ _;refine tj 0 (.slice Av (aq (l.take k) s).length cv) ?_;dsimp only[Act.put,kqh,kqe,kqd,kqa,kqg,kqf];refine tj 1 (.slice (some ⟨b,g,none⟩) m d) ?_;dsimp only[Act.put,kqh,kqe,kqd,kqa,kqg,kqf];refine tj 2 (.int .i64 (k:Int)) ?_;dsimp only[Act.put,kqh,kqe,kqd,kqa,kqg,kqf];refine tj 3 (.pointer (some ⟨b,g+k*6,none⟩)) ?_
  dsimp only[Act.put,kqh,kqe,kqd,kqa,kqg,kqf];refine tj 4 (.pointer (some ⟨b,g+k*6,none⟩)) ?_;dsimp only[Act.put,kqh,kqe,kqd,kqa,kqg,kqf];refine tj 5 (.int .i64 (a:Int)) ?_;dsimp only[Act.put,kqh,kqe,kqd,kqa,kqg,kqf];refine tj 6 (.slice (some ⟨L,V,none⟩) m dP) ?_;dsimp only[Act.put,kqh,kqe,kqd,kqa,kqg,kqf];refine tj 7 (.int .i64 (k:Int)) ?_;dsimp only[Act.put,kqh,kqe,kqd,kqa,kqg,kqf];refine tj 8 (.pointer (some ⟨L,V+k,none⟩)) ?_;dsimp only[Act.put,kqh,kqe,kqd,kqa,kqg,kqf];refine tj 9 (.int .i64 (v:Int)) ?_;dsimp only[Act.put,kqh,kqe,kqd,kqa,kqg,kqf];refine tj 10 (.agg #[.int .i64 (a:Int),.int .i64 (v:Int)]) ?_;dsimp only[Act.put,kqh,kqe,kqd,kqa,kqg,kqf];obtain⟨W,hW⟩:=xq ((w2.drewN nq).drew);rw[hW] at z U q |-;have Gp:=z.out.size;have Fu:b<W.heap.size:=by omega
  have Fy:L<W.heap.size:=by omega
  clear hW;refine kz4 (rs:=[11]) (by kernel_rfl) (by simp) ?_;refine AllReadyH.cons rfl (λK hK=>?_) AllReadyH.nil;go_simp;refine hK.out _ _ ⟨(kq8 W _ ⟨b,g+k*6,none⟩ Fu).trans q.1,(kq8 W _ ⟨L,V+k,none⟩ Fy).trans q.2⟩ (λGt=>?_);clear hK K;refine kz4 (rs:=[12]) (by kernel_rfl) (by simp) ?_;refine AllReadyH.cons rfl (λK hK=>?_) AllReadyH.nil;refine fA _ _ _ 223 (by rfl) Q.heap.size 275 i0 _ 2 16 underlying223 HI.out Gl.out Gh.out Gr.out rfl (by decide) (.slice Av (aq (l.take k) s).length cv) (aq (l.take k) s).length ((aq (l.take k) s).flatMap fI) (by rfl) (U.out.alloc _) (W.alloc (.cells #[.int .i64 (a:Int),.int .i64 (v:Int)] 275)).heap.size (some ⟨W.heap.size,0,none⟩) 1 1 [.int .i64 (a:Int),.int .i64 (v:Int)] (by rfl) (by rfl) (Rd.of_own (bh (n:=1) (sz:=2) W 275 #[.int .i64 (a:Int),.int .i64 (v:Int)] (kqb _) (by rfl) (by unfold maxLen;omega))) (by simp[Value.oneCell']) (by unfold maxLen;omega) (by omega) (by rw[kqn];omega) ?_;intro v1 w8 f Fo;have M:=aM (z.out.alloc Gp _) (by rw[kqn];omega) (U.out.alloc _) Fo;have Fp:=hid (And.intro ((M.cell (p:=⟨b,g+k*6,none⟩) O)) ((M.cell (p:=⟨L,V+k,none⟩) Fv)))
  have Fx:=hid (And.intro ((z.out.cell (p:=⟨b,g+k*6,none⟩) O)) ((z.out.cell (p:=⟨L,V+k,none⟩) Fv)));refine hK.out _ _ ⟨Fp.out.1.trans (Fx.out.1.symm.trans q.1),Fp.out.2.trans (Fx.out.2.symm.trans q.2)⟩ (λHS4=>?_);have Gv:=hid M;rw[<-D.out.1,<-D.out.2] at f;have Ge:=hid f;clear hK K Gt M f Fo;simp only[Act.put,kqa,kqg,kqf];refine tj 13 (v1) ?_;dsimp only[Act.put,kqh,kqe,kqd,kqa,kqg,kqf];refine kjd (by kernel_rfl) ?_ _;go_simp;go_wp2;go_roundw
  case rel=>exact⟨k+1,by omega,by go_num,Ge.out,Gv.out⟩
  case measure=>simp[intOf];omega
 have Eq:k=m:=by omega
 have hE:aq (l.take k) s=aq l s:=by rw[Eq];exact Gf.out
 rw[hE] at y;obtain⟨Av,dv,rfl⟩:=ap y;have P:=hid y;have Y:=hid hB;have hkd:decide ((k:Int)<(m:Int))=false:=by rw[kqc];omega
 have hkn:decide (k<m)=false:=by rw[kqc];exact Fs
 clear Eq hE y hB;go_wp2;go_ret2;exact⟨⟨Av,dv,rfl,ar P.out T.out.size⟩,T.out.trans (Y.out.mono T.out.size)⟩
theorem sL{f:Int}(h:bi ws f s=0):∃(l:List Bk) (a b:Nat),f=(a:Int)/\s=(b:Int)/\blocks ws a=some l/\ak (ws.length:Int)=true/\a%2=0/\128<=a/\b%2=0/\128<=b/\b<=a/\a<=ws.length/\(∀x∈l,dA ws x=true)/\MvL ws l s/\gj ws f s=aq l s:=by
 obtain⟨i,n,l,d,j,t⟩:=bU h;obtain⟨r1,r2,r3,r4,r5⟩:=fV n;have hb:=kA i;rw[eJ] at i;obtain⟨a,q⟩:=kq2 (show 0<=f by omega);obtain⟨b,g⟩:=kq2 (show 0<=s by omega);subst q;subst g;rw[kqj] at d;have hch:=(a9 (by omega) a l d (by omega) (by omega) (by omega)).1;obtain⟨r,m,u,t4⟩:=cZ (ja (by omega) d (by omega) (by omega) (by omega) (s:=(b:Int)) (by omega) (by omega) (by omega));refine⟨l,a,b,rfl,rfl,d,i,by omega,by omega,by omega,by omega,by omega,by omega,?_,⟨by omega,j,?_,?_⟩,t⟩
 .intro x e;obtain⟨k,c,rfl⟩:=kqv e;exact (ue j c).1
 .intro x e;obtain⟨k,c,rfl⟩:=kqv e;obtain⟨p,v,p2,p3,p4,o,-⟩:=bC a l d (by omega) k c;have hsz:=ax o;exact⟨p,v,by omega,by omega,by omega⟩
 intro k c;have:=gA r c m u;omega
theorem pe(A:Option Addr)(ws:List Nat)(c n:Nat)(f s:Int)(w:World)(hn:ws.length=n)(he:bi ws f s=0)(hr:RdW w w.heap.size A ws)(ho:∀x∈ws,x<18446744073709551616):
 Calls prog 239 #[.slice A n c,.int .i64 f,.int .i64 s] w λe w'=>(∃B d,e=.returned (.tuple #[.slice B (gj ws f s).length d,.int .i64 0])/\w'.ownsRow w.heap.size 275 2 (.slice B (gj ws f s).length d) (gj ws f s).length ((gj ws f s).flatMap fI))/\Below w.heap.size w w':=by
 obtain⟨l,a,b,rfl,rfl,I,u,J,L,R,T,N,O,G,j,q⟩:=sL he;have M:=de ws u;rw[q];obtain⟨m,E⟩:=xq l.length;have o:=j.few;have H:=hid (fv A n c w (by omega));rw[aW (by rw[<-hn];exact u)] at H;have t:=hid (qX A ws c n a l w hn u J (by omega) I o G hr ho);have D:=hid (λv d W (h:RdW W W.heap.size A ws) (S:RdB W W.heap.size v l)=>xD A v ws l c n d m (b:Int) W hn (by omega) E j h S);rw[E] at t;have Q:=hid hr;have d1:decide ((b:Int)<128)=false:=by rw[kqc];omega
 have d2:decide ((a:Int)<(b:Int))=false:=by rw[kqc];omega
 have d3:decide ((n:Int)<(a:Int))=false:=by rw[kqc];omega
 have d2n:decide (a<b)=false:=by rw[kqc];omega
 have d3n:decide (n<a)=false:=by rw[kqc];omega
 have e1:Int.tmod (a:Int) 2=0:=by rw[kkd (by omega)];omega
 have e2:Int.tmod (b:Int) 2=0:=by rw[kkd (by omega)];omega
 clear hr ho I u J L R T N O G j q he o E M hn;go_enter func239,ntmps239;go_wp2_with fail;refine H.out.mono ?_;rintro e w1 ⟨rfl,rfl⟩;go_wp2_with fail;refine t.out.mono ?_;rintro e P ⟨⟨v,U,rfl,p,-⟩,g⟩;have F:=hid (Q.out.up g g.size);have k:=hid g;have z:=hid p;clear g p;go_wp2_with fail;refine (D.out v U P F.out z.out).mono ?_;rintro e w3 ⟨⟨B,K,rfl,i⟩,r⟩;have y:=hid (k.out.trans (r.mono k.out.size));have C:=hid (ar i k.out.size);clear r i;go_wp2;go_ret2;exact⟨⟨B,K,rfl,C.out⟩,y.out⟩
noncomputable def wtP (ws:List Nat) (k:Nat):List En:=(ku (seenL ws) ((aa ws).take k)).map (tH ws (seenL ws))
theorem EV(hrc:aF ws=0):wtP ws (aa ws).length=aN ws:=by unfold wtP aN;rw[if_pos hrc,kzj]
theorem AE(hk:k<(aa ws).length):wtP ws (k+1)=wtP ws k++(if di (seenL ws) (aa ws)[k]=true then [] else [tH ws (seenL ws) (aa ws)[k]]):=by
 unfold wtP ku;rw[kqq hk,kxj,kxu];congr 1;by_cases h:di (seenL ws) (aa ws)[k]=true
 .rw[if_pos h,List.filter_cons_of_neg (by simp[h])];rfl
 rw[if_neg h,kkt (by simpa using h)];rfl
theorem wt_at(hrc:aF ws=0)(hk:k<(aa ws).length):∃a K T S V:Nat,(aa ws)[k].at_=(a:Int)/\(aa ws)[k].kind=(K:Int)/\(aa ws)[k].typ=(T:Int)/\(aa ws)[k].size=(S:Int)/\a<ws.length/\K<256/\T<128/\S<65536 /\
 K+lO (cE ws (aa ws)[k])*256+T*512+S*65536+iH (K+lO (cE ws (aa ws)[k])*256+T*512+S*65536)%4294967296*4294967296=V /\
 (di (seenL ws) (aa ws)[k]=true->V=wd ws a)/\(di (seenL ws) (aa ws)[k]=false->V≠wd ws a/\tH ws (seenL ws) (aa ws)[k]=⟨(a:Int),V⟩):=by
 obtain⟨D,-,-⟩:=av hrc;obtain⟨-,l,s,-,j⟩:=al D;rw[<-j] at s;obtain⟨a,H,-,-,h,n,-⟩:=bC _ _ s (by omega) k hk;rw[H];have c:=n;unfold stands ay at c;simp only[kqw,kqu] at c;obtain⟨⟨d,t⟩,-⟩:=c;obtain⟨v,z,x,y,u,G,b7⟩:=pp d;have E:ah (wd ws a)={ ah (wd ws a) with mark:=(bkAt ws a).mark }:=rfl;have q:∀m:Bool,(ah (wd ws a)).kind.toNat+lO m*256+(ah (wd ws a)).typ.toNat*512+(ah (wd ws a)).size.toNat*65536+iH ((ah (wd ws a)).kind.toNat+lO m*256+(ah (wd ws a)).typ.toNat*512+(ah (wd ws a)).size.toNat*65536)%4294967296*4294967296=cC { ah (wd ws a) with mark:=m }:=λm=>rfl;refine⟨a,(ah (wd ws a)).kind.toNat,(ah (wd ws a)).typ.toNat,(ah (wd ws a)).size.toNat,_,rfl,(kja y).symm,(kja u).symm,(kja G).symm,h,v,z,x,rfl,λb=>?_,λb=>?_⟩
 .unfold di at b;rw[kqu] at b;have i:cE ws (bkAt ws a)=(bkAt ws a).mark:=b.symm;rw[i,q,<-E];exact t
 unfold di at b;rw[kqi] at b;have i:(seenL ws)[(bkAt ws a).at_.toNat]?.getD false=cE ws (bkAt ws a):=rfl;rw[i] at b;have hk1:(ah (wd ws a)).kind=1:=by
  cases p:cE ws (bkAt ws a) with
  | true=>exact (qt hrc ((cY h).1 p)).1.2.2.2.2.1
  | false =>
   have C:(bkAt ws a).mark=true:=by
    cases A:(bkAt ws a).mark with
    | true=>rfl
    | false=>rw[p,A] at b;exact absurd rfl b
   have w:=(bj _).1 d;rcases w.2 with g|g
   .exact g.1
   have B:(ah (wd ws a)).mark=false:=g.2.2.1;have o:(ah (wd ws a)).mark=true:=C;rw[B] at o;cases o
 have f:iF { ah (wd ws a) with mark:=cE ws (bkAt ws a) }=true:=by
  rw[bj] at d |-;refine⟨d.1,.inl ?_⟩;rcases d.2 with g|g
  .exact g
  have:(ah (wd ws a)).kind=2:=g.1;omega
 rw[q];refine⟨λe=>?_,?_⟩
 .have r:=kF f;rw[e] at r;have F:=congrArg Bk.mark r;exact b F
 unfold tH fR gC iJ;rw[i,ab,kqj,if_pos (by unfold ay;rw[d,t];simp),if_pos f]
theorem uK(A:Option Addr)(ws:List Nat)(c n:Nat)(w:World)(hn:ws.length=n)(hrc:aF ws=0)(hr:RdW w w.heap.size A ws)(ho:∀x∈ws,x<18446744073709551616):
 Calls prog 190 #[.slice A n c] w λe w'=>dx w.heap.size 0 (aN ws) e w'/\Below w.heap.size w w':=by
 obtain⟨h0,-,-⟩:=av hrc;have hb:=de ws (al h0).1;rw[hn] at hb;have Gl:=hid (fo A ws c n w hn h0 hr ho);have Fx:=hid (λW (h:RdW W W.heap.size A ws)=>iz A ws c n W hn h0 h ho);obtain⟨m,hm⟩:=xq ((aa ws).length);have hml:m<=1024:=by rw[<-hm];exact dl ws
 have Gi:=hid (λLB d W (h:RdW W W.heap.size A ws) (h2:RdB W W.heap.size LB (aa ws))=>zS A LB ws c n d m W hn hrc hm h ho h2);have Gg:=hid (λk (hk:k<(aa ws).length)=>wt_at hrc hk);have Gd:=hid (λk (hk:k<(aa ws).length)=>AE hk);have Fz:=hid (EV hrc);have Q:Hid (wtP ws 0=[]):=hid (by simp[wtP,ku]);have Gf:Hid (∀W r,r<n->RdW W W.heap.size A ws->∃b j,A=some ⟨b,j,none⟩/\b<W.heap.size/\W.cell? ⟨b,j+r,none⟩=some (.int .u64 (wd ws r:Int))):=hid λW r hr2 h=>by
  obtain⟨b,j,e,Ga,hc⟩:=RdW.at_ h (show r<ws.length by omega);rw[<-bI] at hc;exact⟨b,j,e,Ga,hc⟩
 rw[hm] at Fx;have Ft:=hid hm;have Gu:=hid hn;have HR:=hid hr;clear hr ho h0 hm hn hrc;obtain⟨i0,hi,Fp,Gb,Z⟩:=kze bB;have HI:=hid hi;have Gh:=hid Fp;have Ge:=hid Gb;have Gj:=hid Z;clear hi Fp Gb Z;go_enter func190,ntmps190;go_wp2_with fail;refine Gl.out.mono ?_;rintro e w1 ⟨rfl,F⟩;have Fs:=hid F;have U:=hid (HR.out.up F F.size);clear F;go_wp2_with fail;refine (Fx.out w1 U.out).mono ?_;rintro e w2 ⟨⟨LB,dL,rfl,Eq,-⟩,H⟩;have Fw:=hid (Fs.out.trans (H.mono Fs.out.size));have Fy:=hid (U.out.up H H.size);have Y:=hid Eq;clear H Eq;go_wp2_with fail;refine (Gi.out LB dL w2 Fy.out Y.out).mono ?_;rintro e w3 ⟨⟨g,cg,rfl,t⟩,y⟩;have N:=hid (Fw.out.trans (y.mono Fw.out.size));have Gq:=hid (Fy.out.up y y.size);have Gr:=hid (Y.out.up y y.size);have Gp:=hid t;have Gm:=(t.lt g rfl).2;clear y t;go_wp2_with fail;go_loopw [9,10] (λvo vi wr=>∃k:Nat,k<=m/\vi=.int .i64 k/\wr.ownsRow w3.heap.size 89 2 vo (wtP ws k).length ((wtP ws k).flatMap En.cells)/\(wtP ws k).length<=k/\Below w3.heap.size w3 wr) (λ_ i _=>m-(intOf i).toNat)
 case atStart=>exact⟨0,kqx _,rfl,by rw[Q.out];exact kq1 _ _ _ _,by rw[Q.out];exact kqb _,kqk _ _⟩
 obtain⟨k,hk,rfl,l,Fv,L⟩:=hrel;have hz:=L.size;by_cases Fq:k<m
 .have C:k<(aa ws).length:=by rw[Ft.out];exact Fq
  obtain⟨b,j,rfl,Ga,q0,q1,q2,q3,q4,q5⟩:=RdB.at_ (Rd.below Gr.out L) C;obtain⟨a,K,T,S,V,e1,e2,e3,e4,e5,e6,e7,e8,e9,E,D⟩:=Gg.out k C;rw[e1] at q0;rw[e4] at q1;rw[e2] at q2;rw[e3] at q3;rw[Gu.out] at e5;have Gc:=Gp.out.cellAt k (by omega);have u:=Gd.out k C;obtain⟨sn,O⟩:=xq (cE ws (aa ws)[k]);have Fo:w3.cell? ⟨g,k,none⟩=some (.bool sn):=Gc.trans (by
   rw[iM _ k (by rw[kzl];exact C),kxd,kqm C,kzp,O];rfl)
  have p0:=(L.cell (p:=⟨g,k,none⟩) Gm).trans Fo;rw[O] at e9;have M:=hid (λW=>kG K T S sn W e6 e7 e8);rw[e9] at M;obtain⟨bA,oA,hA,Fu,v0⟩:=Gf.out wr a e5 (Gq.out.up L hz);subst hA;obtain⟨v,hv⟩:=xq (wd ws a);rw[hv] at v0 E D;have hk0:(0:Int)<=(k:Int):=by omega
  have hk1:(k:Int)<(m:Int):=by omega
  have ha0:(0:Int)<=(a:Int):=by omega
  have ha1:(a:Int)<(n:Int):=by omega
  have q:b<wr.heap.size:=by omega
  have Fr:g<wr.heap.size:=by omega
  have J:=hid l;have P:=hid L;clear l L Gc Fo O hv e1 e2 e3 e4 e9 e6 e7 e8 q4 q5;cases o:di (seenL ws) (aa ws)[k]
  .obtain ⟨f1,f2⟩:=D o;rw[o] at u;rw[if_neg (by decide),f2] at u;have z:=hid (show (wtP ws (k+1)).flatMap En.cells=(wtP ws k).flatMap En.cells++[.int .i64 (a:Int),.int .u64 (V:Int)]/\(wtP ws (k+1)).length=(wtP ws k).length+1 by rw[u,kz0,kqz];exact⟨rfl,rfl⟩);have Gs:((V:Int) != (v:Int))=true:=by rw[kqt];omega
   have hVn:(V != v)=true:=by rw[kqt];exact f1
   clear o E D u f1 f2;go_wp2_with fail
   first
    | (go_region_held3 (λX:World=>X.cell? ⟨b,j+k*6+1,none⟩=some (.int .i64 (S:Int))/\X.cell? ⟨b,j+k*6+2,none⟩=some (.int .i64 (K:Int))/\X.cell? ⟨b,j+k*6+3,none⟩=some (.int .i64 (T:Int))/\X.cell? ⟨g,k,none⟩=some (.bool sn)) (go_keep)
     (first | (go_at_call 90;refine (M.out _).mono ?_;rintro e w5 ⟨rfl,f⟩;have m1:=(f.cell (p:=⟨b,j+k*6+1,none⟩) q).trans q1;have m2:=(f.cell (p:=⟨b,j+k*6+2,none⟩) q).trans q2;have m3:=(f.cell (p:=⟨b,j+k*6+3,none⟩) q).trans q3;have m4:=(f.cell (p:=⟨g,k,none⟩) Fr).trans p0;have m0:=(f.cell (p:=⟨b,j+k*6,none⟩) q).trans q0;have mv:=(f.cell (p:=⟨bA,oA+a,none⟩) Fu).trans v0;have G:=hid (ae J.out.drew f (kqb _));have I:=hid (P.out.drew.trans (f.mono P.out.size));clear f)))
    | fail
   have Gk:=I.out.size;go_wp2_with (at_builtin;refine kq9 _ rfl _ _ 26 rfl w3.heap.size 89 i0 _ 2 16 underlying26 HI.out Gh.out Ge.out Gj.out rfl (by decide) _ _ _ rfl (G.out.alloc _) ⟨_,0,none⟩ 1 1 [.int .i64 (a:Int),.int .u64 (V:Int)] rfl rfl (bn _ _ _) (by simp[Value.oneCell']) (by unfold maxLen;omega) (by omega) (by simp;omega) ?_;intro v1 w6 B R _;have Gn:=hid (am I.out Gk G.out R);have Gt:=hid B;clear B R);go_roundw
   case rel=>exact⟨k+1,by omega,by go_num,by rw[z.out.1,z.out.2];exact Gt.out,by rw[z.out.2];omega,Gn.out⟩
   case measure=>simp[intOf];omega
  have f1:=E o;rw[o,if_pos rfl,kzm] at u;have z:=hid u;subst f1;have Gs:((V:Int) != (V:Int))=false:=by rw[kqp]
  clear o E D u;go_wp2_with fail
  first
   | (go_region_held3 (λX:World=>X.cell? ⟨b,j+k*6+1,none⟩=some (.int .i64 (S:Int))/\X.cell? ⟨b,j+k*6+2,none⟩=some (.int .i64 (K:Int))/\X.cell? ⟨b,j+k*6+3,none⟩=some (.int .i64 (T:Int))/\X.cell? ⟨g,k,none⟩=some (.bool sn)) (go_keep)
    (first | (go_at_call 90;refine (M.out _).mono ?_;rintro e w5 ⟨rfl,f⟩;have m1:=(f.cell (p:=⟨b,j+k*6+1,none⟩) q).trans q1;have m2:=(f.cell (p:=⟨b,j+k*6+2,none⟩) q).trans q2;have m3:=(f.cell (p:=⟨b,j+k*6+3,none⟩) q).trans q3;have m4:=(f.cell (p:=⟨g,k,none⟩) Fr).trans p0;have m0:=(f.cell (p:=⟨b,j+k*6,none⟩) q).trans q0;have mv:=(f.cell (p:=⟨bA,oA+a,none⟩) Fu).trans v0;have G:=hid (ae J.out.drew f (kqb _));have I:=hid (P.out.drew.trans (f.mono P.out.size));clear f)))
   | fail
  go_wp2;go_roundw
  case rel=>exact⟨k+1,by omega,by go_num,by rw[z.out];exact G.out,by rw[z.out];omega,I.out⟩
  case measure=>simp[intOf];omega
 have o:k=m:=by omega
 have hE:wtP ws k=aN ws:=by rw[o,<-Ft.out];exact Fz.out
 rw[hE] at l Fv;obtain⟨Av,dv,rfl⟩:=ap l;have J:=hid l;have P:=hid L;have hkd:decide ((k:Int)<(m:Int))=false:=by rw[kqc];omega
 have hkn:decide (k<m)=false:=by rw[kqc];exact Fq
 clear o hE l L Fv;go_wp2;go_ret2;exact⟨⟨Av,dv,rfl,ar J.out N.out.size⟩,N.out.trans (P.out.mono N.out.size)⟩
end Go.Proofs.YtpcajamacpbjcaaGreat
