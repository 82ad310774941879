/- Texts laid together: FrmF Wnt DelP Del DelW Wtd WtdW. -/
import Derived.Test.YtpcajamacpbjcaaGreatZKHeap
import Derived.Test.YtpcajamacpbjcaaGreatZKRch
import Derived.Lib.SliceRun
import Derived.Test.YtpcajamacpbjcaaGreatZKMove
set_option maxHeartbeats 16000000
set_option maxRecDepth 100000
set_option linter.all false
namespace Go.Proofs.YtpcajamacpbjcaaGreat
open Lib (hid)
open Go.RowKit
variable {a r:Int}{R l:List Bk}{S:List Bool}{ws:List Nat}{H c g j k n sz:Nat}{e:TypeId}{v:Value}{w w':World}
open Go.Proofs.Tryz
def vJ (H:Nat) (ws:List Nat) (a:Int) (e:Ending) (w':World):Prop:=∃A c,e=.returned (.tuple #[.slice A (aT ws a).length c,.int .i64 (cj ws a)])/\w'.ownsRow H 55 6 (.slice A (aT ws a).length c) (aT ws a).length ((aT ws a).flatMap Bk.cells)
theorem jK(hr:cj ws a=r)(h0:r≠0):vJ H ws a (.returned (.tuple #[.slice none 0 0,.int .i64 r])) w':=by
 subst hr;have:aT ws a=[]:=by simp[aT,h0]
 exact⟨none,0,by rw[this];rfl,by rw[this];exact kq6 _ _ _ _⟩
theorem zu(h0:cj ws a=0)(hl:aT ws a=l)(h:w'.ownsRow H 55 6 v l.length (l.flatMap Bk.cells)):vJ H ws a (.returned (.tuple #[v,.int .i64 0])) w':=by obtain⟨A,c,rfl⟩:=aE h;exact⟨A,c,by rw[hl,h0],by rw[hl];exact h⟩
def zM (H:Nat) (ws:List Nat) (e:Ending) (w':World):Prop:=∃A c,e=.returned (.tuple #[.slice A (ah ws).length c,.int .i64 (aj ws)])/\w'.ownsRow H 55 6 (.slice A (ah ws).length c) (ah ws).length ((ah ws).flatMap Bk.cells)
theorem lF(hr:aj ws=r)(h0:r≠0):zM H ws (.returned (.tuple #[.slice none 0 0,.int .i64 r])) w':=by
 subst hr;have:ah ws=[]:=by simp[ah,h0]
 exact⟨none,0,by rw[this];rfl,by rw[this];exact kq6 _ _ _ _⟩
theorem Da(A:Option Addr)(ws:List Nat)(c n:Nat)(a:Int)(w:World)(hn:ws.length=n)(hm:n<=9223372036854775807)(hr:RdW w w.heap.size A ws)(ho:∀x∈ws,x<18446744073709551616):
 Calls prog 65 #[.slice A n c,.int .i64 a] w λe w'=>vJ w.heap.size ws a e w'/\Below w.heap.size w w':=by
 subst hn;have HR:=hid hr;have HO:=hid ho;clear hr ho;cases C:ak (ws.length:Int)
 .have T:=hid (bL C);have N:=hid (fP (a:=a) C);clear C;go_enter func65,ntmps65;go_wp2_with fail;refine (aB A ws.length c w hm).mono ?_;rintro e t ⟨rfl,rfl⟩;rw[T.out];go_wp2;go_ret2;exact⟨jK N.out (by omega),kqk _ _⟩
 have T:=hid (aV C);have HS:=hid C;have hb:=kR (aV C);obtain⟨h,hb2,Q⟩:=hb;have Lb:=hid Q;clear C hm Q;by_cases d:128<=a/\a<=(ws.length:Int)/\a%2=0
 .obtain ⟨a1,a2,a3⟩:=d;have F:Hid (fm ws.length a=false):=hid (by
   simp only[fm,kzs,kqh,kqr];omega)
  have La:(a%2 != 0)=false:=by rw[kqr];exact a3
  have d1:decide (a<128)=false:=by rw[kqh];omega
  have d2:decide ((ws.length:Int)<a)=false:=by rw[kqh];omega
  have Ky:=hid a3;obtain⟨P,rfl⟩:=kq1 (show 0<=a by omega);have d2n:decide (ws.length<P)=false:=by rw[kqh];omega
  clear a3;obtain⟨i2,S,I,r,O⟩:=kzr lx;have HJ:=hid S;have Kx:=hid I;have Kz:=hid r;have Eq:=hid O;clear S I r O;go_enter func65,ntmps65;go_wp2_with fail;refine (aB A ws.length c w (by omega)).mono ?_;rintro e t ⟨rfl,rfl⟩;rw[T.out];go_wp2_with fail;go_loopw [1,7] (λp v wr=>∃(i:Nat) (b:List Bk),p=.int .i64 i/\P<=i/\i<=ws.length/\i%2=0/\blocks ws P=(blocks ws i).map (b ++ ·)/\b.length<=i/\wr.ownsRow w.heap.size 55 6 v b.length (b.flatMap Bk.cells)/\Below w.heap.size w wr) (λp _ _=>ws.length-(intOf p).toNat)
  case atStart=>exact⟨P,[],rfl,kqa _,by omega,by have:=Ky.out;omega,by simp,by simp,kq6 _ _ _ _,kqk _ _⟩
  obtain⟨i,b,rfl,q1,q2,q3,q4,q5,j,E⟩:=hrel;have X:=E.size;have Lc:=hid q3;have D:=hid q4;clear q4;by_cases L:i<ws.length
  .have s:i+1<ws.length:=by have:=Lb.out;omega
   clear q3;have ik1:(i:Int)<(ws.length:Int):=by omega
   cases g:stands ws i
   .have HN:=hid (eY HS.out F.out (by rw[kqj,D.out,dC L g];rfl));obtain⟨J,K⟩:=AQ g;have k:=hid (nw A ws c ws.length i wr rfl (by omega) s (HR.out.up E X) HO.out);rw[J,K] at k;unfold mW Bk.val at k;dsimp only at k;clear g J K j;go_wp2_with fail;refine k.out.mono ?_;rintro e t ⟨rfl,q⟩;have h:=E.trans (q.mono X);go_wp2;go_ret2;exact⟨jK HN.out (by omega),h.alloc h.size _⟩
   have M:=aJ g;obtain⟨J,K⟩:=xM g;have k:=hid (nw A ws c ws.length i wr rfl (by omega) s (HR.out.up E X) HO.out);rw[J,K] at k;have y:=hid (show blocks ws P=(blocks ws (i+szAt ws i)).map ((b++[bkAt ws i]) ++ ·) by
    rw[D.out,aL L g];cases blocks ws (i+szAt ws i)<;>simp)
   have G:=hid (cB Bk.cells b (bkAt ws i));have m:=bo ws i;obtain⟨x,hx⟩:=xq (bkAt ws i);obtain⟨z,H⟩:=xq (szAt ws i);rw[hx] at k y G m;rw[H] at y M m;have HX:=hid hx;obtain⟨U,xs,Y,V,W,R⟩:=x;dsimp only at m;subst m;unfold Bk.val at k;dsimp only at k;obtain⟨z1,z2,z3⟩:=M;have Kw:=hid z2;clear g J K hx H z2;go_wp2_with fail;refine k.out.mono ?_;rintro e t ⟨rfl,q⟩;have h:=E.trans (q.mono X);have f:=aa j q (kqa _);have r:=h.size;go_wp2_with (at_builtin;refine kzh _ rfl _ _ 48 rfl w.heap.size 55 i2 _ 6 48 underlying48 HJ.out Kx.out Kz.out Eq.out rfl (by decide) _ _ _ rfl ((f.alloc _).alloc _) ⟨_,0,none⟩ 1 1 [.int .i64 U,.int .i64 (z:Int),.int .i64 Y,.int .i64 V,.bool W,.int .u64 (R:Int)] rfl rfl (mn _ _ _ (kqm _ _)) (by simp[Value.oneCell']) (by unfold maxLen;omega) (by omega) (by simp;omega) ?_;intro v1 w2 u B _;have o:Bx w2 t.heap.size 55 #[.int .i64 U,.int .i64 (z:Int),.int .i64 Y,.int .i64 V,.bool W,.int .u64 (R:Int)]:=((Bx.new t 55 _).alloc _).grown B (rD f);have Z:=aF (h.alloc r (.cells #[.int .i64 U,.int .i64 (z:Int),.int .i64 Y,.int .i64 V,.bool W,.int .u64 (R:Int)] 55)) (by simp;omega) (f.alloc _) B;have hc1:w2.cell? ⟨t.heap.size,1,none⟩=some (.int .i64 (z:Int)):=o.cell 1;have hf1:=o.frozen 1;have hl1:=o.lt;clear B o);go_roundw
   case rel=>exact⟨i+z,b++[⟨U,(z:Int),Y,V,W,R⟩],by rw[kjn],by omega,by omega,by have:=Lc.out;have:=Kw.out;omega,y.out,by simp;omega,by rw[G.out,kqs];exact u,Z⟩
   case measure=>simp[intOf];omega
  have S:i=ws.length:=by omega
  have HD:=hid (cV HS.out F.out (l:=b) (by rw[kqj,D.out,aD (by omega)];simp));clear S q3;go_wp2;go_ret2;exact⟨zu HD.out.1 HD.out.2 j,E⟩
 have N:=hid (jP HS.out (nV d));go_enter func65,ntmps65;go_wp2_with fail;refine (aB A ws.length c w (by omega)).mono ?_;rintro e t ⟨rfl,rfl⟩;rw[T.out];by_cases h1:a<128
 .clear d;go_wp2;go_ret2;exact⟨jK N.out (by omega),kqk _ _⟩
 by_cases h2:(ws.length:Int)<a
 .clear d;go_wp2;go_ret2;exact⟨jK N.out (by omega),kqk _ _⟩
 have La:(a%2 != 0)=true:=by rw[kqv];omega
 have d1:decide (a<128)=false:=by rw[kqh];omega
 have d2:decide ((ws.length:Int)<a)=false:=by rw[kqh];omega
 have a0:0<=a:=by omega
 clear d;go_wp2;go_ret2;exact⟨jK N.out (by omega),kqk _ _⟩
theorem GA(A:Option Addr)(ws:List Nat)(c n:Nat)(w:World)(hn:ws.length=n)(hm:n<=9223372036854775807)(C:RdW w w.heap.size A ws)(ho:∀x∈ws,x<18446744073709551616):
 Calls prog 62 #[.slice A n c] w λe w'=>zM w.heap.size ws e w'/\Below w.heap.size w w':=by
 subst hn;have HR:=hid C;have HO:=hid ho;have Eq:=hid (Da A ws c ws.length 128 w rfl hm C ho);clear C ho;cases K:ak (ws.length:Int)
 .have HI:=hid (bL K);have HE:=hid (nN K);clear K;go_enter func62,ntmps62;go_wp2_with fail;refine (aB A ws.length c w hm).mono ?_;rintro e M ⟨rfl,rfl⟩;rw[HI.out];go_wp2;go_ret2;exact⟨lF HE.out (by omega),kqk _ _⟩
 have HI:=hid (aV K);obtain⟨Ld,L,Le⟩:=ir ws K;have HS:=hid K;clear K Le;go_enter func62,ntmps62;go_wp2_with fail;refine (aB A ws.length c w hm).mono ?_;rintro e M ⟨rfl,rfl⟩;rw[HI.out];go_wp2_with fail;refine Eq.out.mono ?_;rintro e M ⟨⟨A1,c1,rfl,q⟩,d⟩;have F:RdB M M.heap.size A1 (aT ws 128):=Rd.of_own q;have o:=d.size;have R:=iR ws 128;have a:Hid (cj ws 128=0->ak (ws.length:Int)=true/\blocks ws 128=some (aT ws 128)):=hid BY;have E:Hid (∀r,cj ws 128=r->r≠0->aj ws=r):=hid (λ_ h h0=>wB h h0);obtain⟨l,hl⟩:=xq (aT ws 128);rw[hl] at F q R a |-;have La:=hid F;have Lb:=hid q;obtain⟨r,C⟩:=xq (cj ws 128);have Lc:=hid C;rw[C] at a |-;clear C F q hl;by_cases j:r=0
 .subst j;have G:=hid (a.out rfl).2;clear a E;go_wp2_with fail;go_loopw [26] (λi wr=>∃k:Nat,k<=l.length/\i=.int .i64 k/\Hid ((l.take k).all (dW ws)=true)/\Below M.heap.size M wr) (λi _=>l.length-(intOf i).toNat)
  case atStart=>exact⟨0,kqz _,rfl,rfl,kqk _ _⟩
  obtain⟨k,hk,rfl,U,B⟩:=hrel;have hz:=B.size;by_cases s:k<l.length
  .obtain ⟨b,off,rfl,hbw,q0,q1,q2,q3,q4,q5⟩:=RdB.at_ (La.out.below B) s;have v:=hid (λh=>iX G.out (by omega) s h);have J:=hid (λh=>vt s U.out h);have H:=hid (λh=>tN HS.out G.out (CQ s h));obtain⟨x,hx⟩:=xq (l[k]);rw[hx] at q0 q1 q2 q3 q4 q5 v J H;have u:=hid (λh=>jY (ws:=ws) (b:=x) h);have O:=hid (λh=>eK (ws:=ws) (b:=x) h);have S:tyA x=96+2*x.typ.toNat:=rfl;rw[S] at u;obtain⟨xa,xs,xk,xt,xm,xn⟩:=x;dsimp only at q0 q1 q2 q3 q4 q5 v u;have hlm:(k:Int)<(l.length:Int):=by omega
   clear hx S;have z:=Bx.new wr 55 #[.int .i64 xa,.int .i64 xs,.int .i64 xk,.int .i64 xt,.bool xm,.int .u64 (xn:Int)];by_cases g:xk=1
   .obtain ⟨t0,t8⟩:=v.out g;obtain⟨t,rfl⟩:=kq1 t0;have y:=hid (u.out g);simp only[kqj] at y;subst g;have HC:=hid (λW (h:RdW W W.heap.size A ws)=>rX A ws c ws.length t W rfl (by omega) Ld (by omega) h HO.out);have hz1w:=o;have Ky:=hid ((((HR.out.up d o).up B hz).alloc (kqa _) (.cells #[.int .i64 xa,.int .i64 xs,.int .i64 1,.int .i64 (t:Int),.bool xm,.int .u64 (xn:Int)] 55)).more (B':=(wr.alloc (.cells #[.int .i64 xa,.int .i64 xs,.int .i64 1,.int .i64 (t:Int),.bool xm,.int .u64 (xn:Int)] 55)).heap.size) (by simp));obtain⟨X,T⟩:=xq (wd ws (96+2*t));obtain⟨Z,N⟩:=xq (wd ws (96+2*t+1));rw[T,N] at HC y;clear z T N u O v;go_wp2_with fail;refine (HC.out _ Ky.out).mono ?_;rintro e w2 ⟨⟨A2,c2,rfl,Y,Q⟩,p⟩;rw[kqm] at p;have P:=Bx.of_new p;have L:=B.trans ((ay p).mono hz);obtain⟨c0,c1',c2',c3,c4,c5,cf,cz⟩:=P.c6;have I:=hid L;clear Y Q P p L cf;obtain⟨ok,V⟩:=xq (cD X Z);obtain⟨m,D⟩:=xq ((bq X Z).length);have hm8:m<=255:=by
     rw[<-D];unfold bq;split
     .rw[fk];have:=kz0 X (show 0<256 by omega);omega
     simp
    rw[V,D] at y |-;clear V D;cases ok
    .have HB:=hid (H.out (by rw[y.out];rfl));go_wp2;go_ret2;exact⟨lF HB.out (by omega),d.trans (I.out.mono o)⟩
    rw[kzq] at y;have Kw:((bg m:Nat):Int)=((m:Int)+3)/2*2:=by unfold bg;omega
    rw[Kw] at y;by_cases f:xs=((m:Int)+3)/2*2
    .have Kx:(xs != ((m:Int)+3)/2*2)=false:=by rw[kqr];exact f
     have HY:=hid (J.out (by rw[y.out,kqx];exact f));clear f;go_wp2;go_roundw
     case rel=>exact⟨k+1,by omega,by go_num,HY.out,I.out⟩
     case measure=>simp[intOf];omega
    have Kx:(xs != ((m:Int)+3)/2*2)=true:=by rw[kqv];exact f
    have HB:=hid (H.out (by rw[y.out,kqi];exact f));clear f;go_wp2;go_ret2;exact⟨lF HB.out (by omega),d.trans (I.out.mono o)⟩
   have hk2:(xk != 1)=true:=by rw[kqv];exact g
   have HY:=hid (J.out (O.out g));clear g z;go_wp2;go_roundw
   case rel=>exact⟨k+1,by omega,by go_num,HY.out,B.alloc hz _⟩
   case measure=>simp[intOf];omega
  have HP:=hid (fM HS.out G.out (by have:=U.out;rwa [kq8 (by omega)] at this));go_wp2;go_ret2;exact⟨⟨A1,c1,by rw[HP.out.1,HP.out.2];rfl,by rw[HP.out.2];exact aa Lb.out B (kqa _)⟩,d.trans (B.mono o)⟩
 have hn1:(r != 0)=true:=by rw[kqv];exact j
 have HN:=hid (E.out r Lc.out j);have Kz:=hid j;clear j a E;go_wp2;go_ret2;exact⟨lF HN.out Kz.out,d⟩
def eU (S:List Bool) (b:Bk):Bool:=b.mark==(S[b.at_.toNat]?.getD false)
theorem Af(gB g c n m:Nat)(S:List Bool)(xs xk xt:Int)(xm:Bool)(xn:Nat)(w:World)(hS:S.length=n)(hm:m<n)(hB:gB<w.heap.size)(hbox:w.cell? ⟨gB,0,none⟩=some (.slice (some ⟨g,0,none⟩) n c))(h:Rd w w.heap.size (some ⟨g,0,none⟩) (S.flatMap bJ)):
 Calls prog 204 #[.agg #[.int .i64 (m:Int),.int .i64 xs,.int .i64 xk,.int .i64 xt,.bool xm,.int .u64 (xn:Int)],.pointer (some ⟨gB,0,none⟩)] w λe w'=>e=.returned (.bool (xm==(S[m]?.getD false)))/\Below w.heap.size w w':=by
 have hmi:(m:Int)<(n:Int):=by omega
 have hm0:(0:Int)<=(m:Int):=by omega
 obtain⟨b,off,j,i,d⟩:=Rd.at_flat gm h (by omega) (show m<S.length by omega);cases j;have a:=d 0 (by omega);have a:w.cell? ⟨g,m,none⟩=some (.bool (S[m]'(by omega))):=by simpa [bJ] using a
 rw[show S[m]?.getD false=S[m]'(by omega) by rw[kql (by omega)];rfl];obtain⟨y,f⟩:=xq (S[m]'(show m<S.length by omega));rw[f] at a |-;have q0:=(kze w (.cells #[.int .i64 (m:Int),.int .i64 xs,.int .i64 xk,.int .i64 xt,.bool xm,.int .u64 (xn:Int)] 55) ⟨g,m,none⟩ i).trans a;have q1:=(kze w (.cells #[.int .i64 (m:Int),.int .i64 xs,.int .i64 xk,.int .i64 xt,.bool xm,.int .u64 (xn:Int)] 55) ⟨gB,0,none⟩ hB).trans hbox;clear d h f a hbox;go_enter func204,ntmps204;go_wp2_with fail;go_quiet (fail);go_wp2;go_ret;exact⟨rfl,bp ((kqk _ _).alloc (kqa _) _) _⟩
def ju (S:List Bool) (l:List Bk) (k:Nat):Prop:=∀j,j<k->eU S (gk l j)=false
theorem ju.zero(S:List Bool)(l:List Bk):ju S l 0:=λj h=>absurd h (by omega)
theorem ju.succ(h:ju S l k)(h1:eU S (gk l k)=false):ju S l (k+1):=λj hj=>by
 rcases kq7 j k with a|a
 .exact h j a
 .have:j=k:=by omega
  subst this;exact h1
def Jh (S:List Bool) (l:List Bk) (e:Ending):Prop:=(e=.returned (.int .i64 (-1))/\ju S l l.length)\/∃k:Nat,k<l.length/\e=.returned (.int .i64 (k:Int))/\ju S l k/\eU S (gk l k)=true
theorem xO(A:Option Addr)(l:List Bk)(S:List Bool)(gB g c n cl:Nat)(w:World)(hS:S.length=n)(hl:l.length<=2048)(hat:∀k (Z:k<l.length),∃m:Nat,l[k].at_=(m:Int)/\m<n)(hrl:RdB w w.heap.size A l)(f:gB<w.heap.size)(o:w.cell? ⟨gB,0,none⟩=some (.slice (some ⟨g,0,none⟩) n c))(h:Rd w w.heap.size (some ⟨g,0,none⟩) (S.flatMap bJ)):
 Calls prog 251 #[.slice A l.length cl,.func (.func 204) #[] #[.pointer (some ⟨gB,0,none⟩)]] w λe w'=>Jh S l e/\Below w.heap.size w w':=by
 have Y:=hid hrl;have s:=hid (And.intro f o);have X:=hid h;have G:=hid hat;have T:=hid (λm xs D z u C W hm U V R=>Af gB g c n m S xs D z u C W hS hm U V R);clear hrl f o h hat;go_enter func251,ntmps251;go_wp2_with fail;go_loopw [8] (λi wr=>∃k:Nat,k<=l.length/\i=.int .i64 k/\Hid (ju S l k)/\Below w.heap.size w wr) (λi _=>l.length-(intOf i).toNat)
 case atStart=>exact⟨0,kqz _,rfl,ju.zero S l,kqk _ _⟩
 obtain⟨k,Z,rfl,q,f⟩:=hrel;have K:=f.size;by_cases j:k<l.length
 .obtain ⟨b,off,rfl,hbw,I,P,M,N,Q,L⟩:=RdB.at_ (Rd.below Y.out f) j;obtain⟨m,t,H⟩:=G.out k j;have d:=hid (λh=>q.out.succ h);have a:=hid (show ∀r,eU S (gk l k)=r->Jh S l (.returned (.int .i64 (k:Int)))\/r=false from λr B=>by
   cases r
   .exact .inr rfl
   exact .inl (.inr ⟨k,j,rfl,q.out,B⟩))
  rw[bU l k j] at d a;obtain⟨x,J⟩:=xq (l[k]);rw[J] at I P M N Q L t d a;obtain⟨xa,xs,D,z,u,C⟩:=x;dsimp only at I P M N Q L t;subst t;have v:eU S ⟨(m:Int),xs,D,z,u,C⟩=(u==(S[m]?.getD false)):=by unfold eU;dsimp only;rw[kqj]
  rw[v] at d a;have hlm:(k:Int)<(l.length:Int):=by omega
  have hk0:(0:Int)<=(k:Int):=by omega
  have O:=hid (T.out m xs D z u C wr H (by have:=s.out.1;omega) ((f.cell (p:=⟨gB,0,none⟩) s.out.1).trans s.out.2) (X.out.up f K));obtain⟨r,B⟩:=xq ((u==(S[m]?.getD false)));rw[B] at O d a;clear J B v;go_wp2_with fail;refine O.out.mono ?_;rintro e w2 ⟨rfl,E⟩;have y:=f.trans (E.mono K);cases r
  .have F:=hid (d.out rfl);go_wp2;go_roundw
   case rel=>exact⟨k+1,by omega,by go_num,F.out,y⟩
   case measure=>simp[intOf];omega
  have F:=hid ((a.out true rfl).resolve_right (by decide));go_wp2;go_ret;exact⟨F.out,y⟩
 obtain rfl:k=l.length:=by omega
 go_wp2;go_ret;exact⟨.inl ⟨rfl,q.out⟩,f⟩
def tQ (xs:List Value):Nat->List Value->List Value
 | _,[]=>xs
 | o,v::vs=>tQ (xs.set o v) (o+1) vs
theorem tS(pre:List Value):∀(vs a:List Value) (o:Nat),tQ (pre++a) (pre.length+o) vs=pre++tQ a o vs:=by
 intro vs
 induction vs with
 | nil=>intro a o;rfl
 | cons v vs ih =>intro a o;simp only[tQ];rw[kvc _ _ (by omega),show pre.length+o-pre.length=o by omega,kj3,ih]
theorem CO:∀(l:List Bk) (k:Nat) (x:Bk),k<l.length->tQ (l.flatMap Bk.cells) (k*6) x.cells=(l.set k x).flatMap Bk.cells:=by
 intro l
 induction l with
 | nil=>intro k x h;simp at h
 | cons b l ih =>
  intro k x h;cases k with
  | zero=>rfl
  | succ k =>have a:=ih k x (by simpa using h);rw[kzy,kqf,kzy,<-a,show (k+1)*6=b.cells.length+k*6 by show (k+1)*6=6+k*6;omega,tS]
theorem dE :∀(vs:List Value) (o:Nat) (w:World) (xs:List Value),w.ownsRow H e sz (.slice (some ⟨g,0,none⟩) n c) n xs->(w.setCells g o vs).ownsRow H e sz (.slice (some ⟨g,0,none⟩) n c) n (tQ xs o vs):=by
 intro vs
 induction vs with
 | nil=>intro o w xs h;exact h
 | cons v vs ih=>intro o w xs h;exact ih (o+1) _ _ (h.stored o v).1
theorem j8{B b o:Nat}{cs:List Value}(h:Rd w B (some ⟨b,o,none⟩) cs)(hne:b≠g)(o':Nat)(vs:List Value):Rd (w.setCells g o' vs) B (some ⟨b,o,none⟩) cs:=by intro f;obtain⟨b',off,e,c,a⟩:=h f;cases e;refine⟨b,o,rfl,c,λj d=>?_⟩;rw[kx9 g vs o' w _ (λi _=>absurd i hne)];exact a j d
theorem kA{P:Program}(w:World)(t e ty:TypeId)(z:Value)(ht:P.underlying t=some (.slice e))(hv:∀w,(zeroValue e).run P w=.ok z w)(L:List Value)(b o n c:Nat)(hL:(Builtin.zeroCells z.cells n).toList=L)(hn:0<n)(h1:∀v∈L,v.oneCell'=true)(hc:∀j,j<L.length->(w.cell? ⟨b,o+j,none⟩).isSome=true)(hf:∀j,j<L.length->w.frozen? ⟨b,o+j,none⟩=false):
 (Builtin.clear_ #[t] ty #[.slice (some ⟨b,o,none⟩) n c]).run P w=.ok (.tuple #[]) (w.setCells b o L):=by have a:=Go.run_storeCells_cells (P:=P) b o L 0 w (by simpa using hc) (by simpa using hf) h1;simp only[kxa] at a;obtain⟨m,rfl⟩:∃m,n=m+1:=⟨n-1,by omega⟩;simp[Builtin.clear_,run_underlying ht,hv,hL,a]
def mt (S:List Bool) (l:List Bk):List Bk:=l.filter λb=>!eU S b
theorem sI(h:ju S l l.length):mt S l=l:=by unfold mt;rw[kvo];intro b c;obtain⟨k,a,rfl⟩:=kq0 c;have:=h k a;rw[bU l k a] at this;simp[this]
theorem C6(h:ju S l k)(hk:k<=l.length):mt S (l.take k)=l.take k:=by refine sI λj a=>?_;rw[kq4] at a;have:=h j (by omega);rw[bU _ _ (by omega)] at this;rw[bU _ _ (by rw[kq4];omega),kkl];exact this
theorem oY(hk:k<l.length):mt S (l.take (k+1))=mt S (l.take k)++(if eU S l[k]=true then [] else [l[k]]):=by unfold mt;rw[kqp hk,kjc];congr 1;cases a:eU S l[k]<;>simp[a]
def kT (S:List Bool) (l R:List Bk) (k j:Nat):Prop:=k<j/\j<=l.length/\R.length=l.length/\R.take k=mt S (l.take j)/\R.drop j=l.drop j
theorem kT.get(h:kT S l R k j)(hj:j<l.length):∃b:j<R.length,R[j]=l[j]:=by
 obtain⟨h1,b,h3,h4,c⟩:=h;refine⟨by omega,?_⟩;have a:(R.drop j)[0]? = R[j]?:=by simp
 have d:(l.drop j)[0]? = l[j]?:=by simp
 rw[c,d,kql hj,kql (by omega)] at a;injection a with a;exact a.symm
theorem kT.drop1(h:kT S l R k j)(_hj:j<l.length):R.drop (j+1)=l.drop (j+1):=by have:=congrArg (List.drop 1) h.2.2.2.2;rwa [kxx,kxx] at this
theorem kT.first(hk:k<l.length)(h:ju S l k)(h1:eU S (gk l k)=true):kT S l l k (k+1):=by refine⟨by omega,by omega,rfl,?_,rfl⟩;rw[bU l k hk] at h1;rw[oY hk,C6 h (by omega),if_pos h1,kzt]
theorem kT.del(h:kT S l R k j)(hj:j<l.length)(h1:eU S l[j]=true):kT S l R k (j+1):=by refine⟨by have:=h.1;omega,by omega,h.2.2.1,?_,h.drop1 hj⟩;rw[oY hj,if_pos h1,kzt];exact h.2.2.2.1
theorem kT.keep(h:kT S l R k j)(hj:j<l.length)(h1:eU S l[j]=false):kT S l (R.set k l[j]) (k+1) (j+1):=by
 obtain⟨e,c,a,b,d⟩:=h;refine⟨by omega,by omega,by rw[kq3];exact a,?_,?_⟩
 .rw[oY hj,if_neg (by rw[h1];simp),<-b,kqp (by rw[kq3];omega),List.getElem_set_self,kvp (kqa _)]
 rw[kvq (by omega)];exact kT.drop1 (S:=S) ⟨e,c,a,b,d⟩ hj
theorem lu{z:Array Value}(h:v∈(Builtin.zeroCells z n).toList)(h0:0<z.size):v∈z.toList:=by simp only[Builtin.zeroCells,Array.toList_map,kzx] at h;obtain⟨i,-,rfl⟩:=h;have a:i%z.size<z.size:=kz0 _ h0;rw[getElem!_pos z _ a];exact Array.getElem_mem_toList a
theorem lB(z:Array Value)(n:Nat):(Builtin.zeroCells z n).toList.length=n*z.size:=by simp[Builtin.zeroCells]
theorem jU{xs:List Value}(h:w.ownsRow H e sz (.slice (some ⟨g,0,none⟩) n c) n xs)(o k:Nat)(hk:o+k<=n*sz):w.there g o k:=λj hj =>
 ⟨by rw[h.cellAt (o+j) (by omega),kql (by have:=h.1;omega)];rfl,h.frozenAt (o+j)⟩
theorem zU(w:World):(zeroValue 55).run prog w=.ok (.agg #[.int .i64 0,.int .i64 0,.int .i64 0,.int .i64 0,.bool false,.int .u64 0]) w:=by kernel_rfl
theorem JQ:(prog.info? 55).map (·.size)=some 6:=by kernel_rfl
theorem un(A:Option Addr)(l:List Bk)(S:List Bool)(gB g c n cl H:Nat)(w:World)(hS:S.length=n)(hl:l.length<=2048)(hat:∀k (hk:k<l.length),∃m:Nat,l[k].at_=(m:Int)/\m<n)(a:w.ownsRow H 55 6 (.slice A l.length cl) l.length (l.flatMap Bk.cells))(hH:H<=w.heap.size)(X:gB<w.heap.size)(E:w.cell? ⟨gB,0,none⟩=some (.slice (some ⟨g,0,none⟩) n c))(h:Rd w w.heap.size (some ⟨g,0,none⟩) (S.flatMap bJ))(Lk:(Value.slice A l.length cl).ownBlock≠some gB)(Lj:(Value.slice A l.length cl).ownBlock≠some g):
 Calls prog 203 #[.slice A l.length cl,.func (.func 204) #[] #[.pointer (some ⟨gB,0,none⟩)]] w λe w'=>∃A' c',e=.returned (.slice A' (mt S l).length c')/\RdB w' w'.heap.size A' (mt S l)/\w'.cell? ⟨gB,0,none⟩=some (.slice (some ⟨g,0,none⟩) n c)/\Rd w' w'.heap.size (some ⟨g,0,none⟩) (S.flatMap bJ)/\gB<w'.heap.size/\Below H w w':=by
 have Ln:=hid (xO A l S gB g c n cl w hS hl hat (Rd.of_own a) X E h);unfold Jh at Ln;have K:=hid a;have B:=hid (And.intro X E);have HS:=hid h;have Ml:=hid hat;have HG:=hid (And.intro Lk Lj);have HC:=hid (λm xs u t f s W hm h1 h2 h3=>Af gB g c n m S xs u t f s W hS hm h1 h2 h3);clear a X E h hat Lk Lj;go_enter func203,ntmps203;go_wp2_with fail;refine Ln.out.mono ?_;rintro e w1 ⟨⟨rfl,I⟩|⟨k,hk,rfl,I,D⟩,d⟩
 .have HR:=hid ((Rd.of_own K.out).up d d.size);have G:=hid ((d.cell (p:=⟨gB,0,none⟩) B.out.1).trans B.out.2);have Eq:=hid (HS.out.up d d.size);have HE:=hid (sI I);have hz:=d.size;have Mg:=d.mono hH;clear I;go_wp2;go_ret;rw[HE.out];exact⟨A,cl,rfl,HR.out,G.out,Eq.out,by have:=B.out.1;omega,Mg⟩
 have HD:=hid (kT.first hk I D);obtain⟨y,cL,eL⟩:=gt K.out (by omega);cases eL;have Lp:=ft K.out;have U:y≠gB:=λh=>HG.out.1 (by rw[h];rfl);have T:y≠g:=λh=>HG.out.2 (by rw[h];rfl);have Mm:=hid (aa K.out d (kqa _));have G:=hid ((d.cell (p:=⟨gB,0,none⟩) B.out.1).trans B.out.2);have Eq:=hid (HS.out.up d d.size);have Ly:=hid (d.mono hH);have Mi:=d.size;have hwk:IntKind.i64.wrap ((k:Int)+1)=(k:Int)+1:=kqt _ (by omega);have hkm:((k:Int) == -1)=false:=by rw[kqi];omega
 clear I D d;go_wp2_with fail;go_loopw [5,6] (λiv jv wr=>∃(i j:Nat) (R:List Bk),iv=.int .i64 i/\jv=.int .i64 j/\Hid (kT S l R i j)/\wr.ownsRow H 55 6 (.slice (some ⟨y,0,none⟩) l.length cl) l.length (R.flatMap Bk.cells)/\wr.cell? ⟨gB,0,none⟩=some (.slice (some ⟨g,0,none⟩) n c)/\Rd wr wr.heap.size (some ⟨g,0,none⟩) (S.flatMap bJ)/\w.heap.size<=wr.heap.size/\Below H w wr) (λ_ jv _=>l.length-(intOf jv).toNat)
 case atStart=>exact⟨k,k+1,l,rfl,by go_num,HD.out,Mm.out,G.out,Eq.out,Mi,Ly.out⟩
 obtain⟨i,j,R,rfl,rfl,Kw,a,N,O,hz,X⟩:=hrel;have Kx:=Kw.out;by_cases M:j<l.length
 .obtain ⟨Mc,eR⟩:=Kx.get M;obtain⟨s1,s2,s3,-,-⟩:=Kx;obtain⟨b,off,eA,hbw,q0,q1,q2,q3,q4,q5⟩:=RdB.at_ (show RdB wr wr.heap.size _ _ from Rd.of_own a) Mc;cases eA;simp only[kxd] at q0 q1 q2 q3 q4 q5;rw[eR] at q0 q1 q2 q3 q4 q5;obtain⟨m,Lc,Lv⟩:=Ml.out j M;have HK:=hid (λh=>Kw.out.keep M h);have Q:=hid (λh=>Kw.out.del M h);obtain⟨x,hx⟩:=xq (l[j]);rw[hx] at q0 q1 q2 q3 q4 q5 Lc HK Q;obtain⟨xa,xs,u,t,f,s⟩:=x;dsimp only at q0 q1 q2 q3 q4 q5 Lc;subst Lc;have D:eU S ⟨(m:Int),xs,u,t,f,s⟩=(f==(S[m]?.getD false)):=by unfold eU;dsimp only;rw[kqj]
  rw[D] at HK Q;have hlm:(j:Int)<(l.length:Int):=by omega
  have hj0:(0:Int)<=(j:Int):=by omega
  have Lu:(0:Int)<=(i:Int):=by omega
  have Lq:(i:Int)<(l.length:Int):=by omega
  have hgB:=B.out.1;have Lo:=hid (X.alloc (kz7 hH hz) (.cells #[.int .i64 (m:Int),.int .i64 xs,.int .i64 u,.int .i64 t,.bool f,.int .u64 (s:Int)] 55));have BN:=hid (Bx.new wr 55 #[.int .i64 (m:Int),.int .i64 xs,.int .i64 u,.int .i64 t,.bool f,.int .u64 (s:Int)]);have Ls:=hid (a.alloc (.cells #[.int .i64 (m:Int),.int .i64 xs,.int .i64 u,.int .i64 t,.bool f,.int .u64 (s:Int)] 55));have La:=hid ((kze wr (.cells #[.int .i64 (m:Int),.int .i64 xs,.int .i64 u,.int .i64 t,.bool f,.int .u64 (s:Int)] 55) ⟨gB,0,none⟩ (by show gB<wr.heap.size;omega)).trans N);have Lb:=hid (Rd.more (Rd.alloc O (kqa _) (.cells #[.int .i64 (m:Int),.int .i64 xs,.int .i64 u,.int .i64 t,.bool f,.int .u64 (s:Int)] 55)) (show wr.heap.size<=(wr.alloc (.cells #[.int .i64 (m:Int),.int .i64 xs,.int .i64 u,.int .i64 t,.bool f,.int .u64 (s:Int)] 55)).heap.size by simp));have hgLw:=(a.lt y rfl).2;clear hx D N O a;go_upto_region 8 with (fail);obtain⟨wn,Y⟩:∃wn,wr.alloc (.cells #[.int .i64 (m:Int),.int .i64 xs,.int .i64 u,.int .i64 t,.bool f,.int .u64 (s:Int)] 55)=wn:=⟨_,rfl⟩;rw[Y] at Lo BN Ls La Lb |-;have hszn:wn.heap.size=wr.heap.size+1:=by rw[<-Y];simp
  clear Y q0 q1 q2 q3 q4 q5;have HQ:=hid (HC.out m xs u t f s wn Lv (by omega) La.out Lb.out);obtain⟨r,hr⟩:=xq ((f==(S[m]?.getD false)));rw[hr] at HQ HK Q;clear hr;obtain⟨p0,p1,p2,p3,p4,p5,pf,Lx⟩:=BN.out.c6;go_wp2_with fail;refine HQ.out.mono ?_;rintro e w2 ⟨rfl,z⟩;have Lr:=hid (Lo.out.trans (z.mono (kz7 hH (by omega))));have Z:=hid (aa Ls.out z (kqa _));have Li:=hid ((z.cell (p:=⟨gB,0,none⟩) (by show gB<wn.heap.size;omega)).trans La.out);have Ld:=hid (Lb.out.up z z.size);have bn2:=BN.out.up z Lx;have hz2:=z.size;clear z p0 p1 p2 p3 p4 p5 pf;obtain⟨p0,p1,p2,p3,p4,p5,pf,hgn2⟩:=bn2.c6;cases r
  .have HY:=hid (HK.out rfl);have C:w2.there y (i*6) (#[.int .i64 (m:Int),.int .i64 xs,.int .i64 u,.int .i64 t,.bool f,.int .u64 (s:Int)]:Array Value).size:=jU Z.out (i*6) 6 (by omega);have Le:(prog.info? 55).map (·.size)=some (#[.int .i64 (m:Int),.int .i64 xs,.int .i64 u,.int .i64 t,.bool f,.int .u64 (s:Int)]:Array Value).size:=JQ;have Lm:(#[.int .i64 (m:Int),.int .i64 xs,.int .i64 u,.int .i64 t,.bool f,.int .u64 (s:Int)]:Array Value).all (·.oneCell')=true:=by simp[Value.oneCell']
   have V:=hid (dE (Bk.cells ⟨(m:Int),xs,u,t,f,s⟩) (i*6) w2 _ Z.out);rw[CO R i ⟨(m:Int),xs,u,t,f,s⟩ (by omega)] at V;have Ll:=hid ((kx9 y (Bk.cells ⟨(m:Int),xs,u,t,f,s⟩) (i*6) w2 ⟨gB,0,none⟩ (λh9 _=>absurd h9.symm U)).trans Li.out);have Lg:=hid (j8 Ld.out (λh9=>T h9.symm) (i*6) (Bk.cells ⟨(m:Int),xs,u,t,f,s⟩));have Lt:=hid (bh Lp (Bk.cells ⟨(m:Int),xs,u,t,f,s⟩) (o:=i*6) Lr.out);have F:=cY (g:=y) (Bk.cells ⟨(m:Int),xs,u,t,f,s⟩) w2 (i*6);obtain⟨cs,Kz⟩:∃cs:Array Value,#[.int .i64 (m:Int),.int .i64 xs,.int .i64 u,.int .i64 t,.bool f,.int .u64 (s:Int)]=cs:=⟨_,rfl⟩;obtain⟨w3,Ky⟩:∃w3,w2.setCells y (i*6) (Bk.cells ⟨(m:Int),xs,u,t,f,s⟩)=w3:=⟨_,rfl⟩;have Me:w2.setCells y (i*6) cs.toList=w3:=by rw[<-Kz];exact Ky
   rw[Ky] at V Ll Lg Lt F;rw[Kz] at C Le Lm;clear Ky;go_wp2_with (refine kju rfl _ _ _ rfl y (i*6) cs (by rfl) (by rw[<-Kz];rfl) C Le Lm ?_;rw[Me]);go_roundw
   case rel=>exact⟨i+1,j+1,R.set i ⟨(m:Int),xs,u,t,f,s⟩,by go_num,by go_num,HY.out,V.out,Ll.out,Rd.more Lg.out (by rw[F];exact kqa _),by rw[F];omega,Lt.out⟩
   case measure=>simp[intOf];omega
  have HY:=hid (Q.out rfl);go_wp2;go_roundw
  case rel=>exact⟨i,j+1,R,rfl,by go_num,HY.out,Z.out,Li.out,Ld.out,by omega,Lr.out⟩
  case measure=>simp[intOf];omega
 obtain⟨s1,s2,s3,s4,-⟩:=Kx;obtain⟨A9,c9,e9,hle,Lf⟩:=kr a;cases e9;have HRD:=hid Lf;have hicl:(i:Int)<=(cl:Int):=by omega
 have hill:(i:Int)<=(l.length:Int):=by omega
 have Lu:(0:Int)<=(i:Int):=by omega
 have hne:i≠cl:=by omega
 have hnec:¬ ((i:Int)=(cl:Int)):=by omega
 have Mh:j=l.length:=by omega
 have Lw:=hid (show mt S l=R.take i by rw[s4,Mh,kzf]);have Mf:=a.1;obtain⟨L,hL⟩:=xq ((Builtin.zeroCells (Value.cells (.agg #[.int .i64 0,.int .i64 0,.int .i64 0,.int .i64 0,.bool false,.int .u64 0])) (l.length-i)).toList);have Lh:L.length=(l.length-i)*6:=by rw[<-hL,lB];rfl
 have C:=jU a (i*6) L.length (by rw[Lh];omega);have hcl:=kA (P:=prog) wr 48 55 0 _ underlying48 zU L y (i*6) (l.length-i) (cl-i) hL (by omega)
  (λv hv=>by
   rw[<-hL] at hv;have:=lu hv (by decide);simp[Value.cells] at this;rcases this with rfl|rfl|rfl<;>rfl)
  (λq hq=>(C q hq).1) (λq hq=>(C q hq).2)
 have Md:=hid ((kx9 y L (i*6) wr ⟨gB,0,none⟩ (λh9 _=>absurd h9.symm U)).trans N);have Ma:=hid (j8 O (λh9=>T h9.symm) (i*6) L);have Mb:=hid (bh Lp L (o:=i*6) X);have J:=cY (g:=y) L wr (i*6);have Lz:Hid (Rd (wr.setCells y (i*6) L) wr.heap.size (some ⟨y,0,none⟩) ((R.take i).flatMap Bk.cells)):=hid λ_=>by
  refine⟨y,0,rfl,(a.lt y rfl).2,λq hq=>?_⟩;have hq6:q<i*6:=by have:=hq;rw[iV Bk.cells 6 Bk.len,kq4] at this;omega
  rw[kx9 y L (i*6) wr _ (λ_ _=>.inl (by show 0+q<i*6;omega))];have e1:=a.cellAt q (by omega);rw[kxd,e1];have Mj:q<(R.flatMap Bk.cells).length:=by rw[Mf];omega
  rw[kql Mj];congr 1;simp only[iV Bk.cells 6 Bk.len,kkl]
 have Lq:(R.take i).length=i:=by rw[kq4];omega
 clear Lf hL Lh C a N O X;go_wp2;go_ret;rw[Lw.out,Lq];exact⟨some ⟨y,0,none⟩,cl,rfl,Rd.more Lz.out (by rw[J];exact kqa _),Md.out,Rd.more Ma.out (by rw[J];exact kqa _),by rw[J];have:=B.out.1;omega,Mb.out⟩
def zD (ws:List Nat) (S:List Bool) (b:Bk):En:=⟨b.at_,gN (wd ws b.at_.toNat) (S[b.at_.toNat]?.getD false)⟩
noncomputable def aW (ws:List Nat):List En:=if aC ws=0 then (mt (seenL ws) (ah ws)).map (zD ws (seenL ws)) else []
theorem vH(h1:aC ws=r)(h0:r≠0):aW ws=[]:=by unfold aW;rw[if_neg (by rw[h1];exact h0)]
theorem nq(S:List Bool)(l:List Bk):(mt S l).length<=l.length:=kjo _ _
theorem qK{b:Bk}(h:b∈mt S l):b∈l:=(kzu.1 h).1
theorem z9(ws:List Nat)(S:List Bool)(l:List Bk)(hk:k<l.length):(l.take (k+1)).map (zD ws S)=(l.take k).map (zD ws S)++[zD ws S l[k]]:=by rw[kqp hk,kxu];rfl
theorem hp_ats(h:aj ws=0):∀k (b:k<(ah ws).length),∃m:Nat,(ah ws)[k].at_=(m:Int)/\m<ws.length:=by intro k b;obtain⟨hs,l,c,ha,d⟩:=aA h;subst d;obtain⟨a,e,-,-,f,-⟩:=cC _ _ c (by omega) k b;exact⟨a,by rw[e];rfl,f⟩
theorem xC(A:Option Addr)(ws:List Nat)(c n:Nat)(w:World)(hn:ws.length=n)(hm:n<=9223372036854775807)(hr:RdW w w.heap.size A ws)(ho:∀x∈ws,x<18446744073709551616):
 Calls prog 141 #[.slice A n c] w λe w'=>fL w.heap.size (aC ws) (aW ws) e w'/\Below w.heap.size w w':=by
 subst hn;have HR:=hid hr;have HC:=hid (GA A ws c ws.length w rfl hm hr ho);unfold zM at HC;have HO:=hid ho;clear hr ho;by_cases T:aj ws=0
 .obtain ⟨l,hl⟩:∃l,ah ws=l:=⟨_,rfl⟩;have J:=hid (λL cl W (h:RdW W W.heap.size A ws) (h2:RdB W W.heap.size L l)=>Es A L ws c cl ws.length l W rfl hm T hl h h2 HO.out);unfold RcRes at J;have R:=hp_ats T;have Mr:=gY ws;rw[T,hl] at HC;rw[hl] at R Mr;have R:=hid R;have Y:=ir ws (aA T).1;have hlen:=Y.2.1;have hlen1:=Y.1;by_cases hz:aC ws=0
  .have HV:=hid (show aC ws=0/\aW ws=(mt (seenL ws) l).map (zD ws (seenL ws)) from ⟨hz,by unfold aW;rw[if_pos hz,hl]⟩);have Lk:=zS ws;obtain⟨i0,hi,Lx,Lv,Lq⟩:=kzr dD;have HI:=hid hi;have Mw:=hid Lx;have Mv:=hid Lv;have Mo:=hid Lq;clear hi Lx Lv Lq;clear T hl Y hz;generalize seenL ws=S at J HV Lk;have Mh:=hid (λ(A1:Option Addr) (cl V g U H:Nat) (W:World) h1 h2 h3 h4 h5 h6 h7=>un A1 l S V g U ws.length cl H W Lk (by omega) R.out h1 h2 h3 h4 h5 h6 h7);have Eq:=hid Lk;have Mn:=hid (λa m W=>pL (wd ws a) m W (fT HO.out a));go_enter func141,ntmps141;go_wp2_with fail;refine HC.out.mono ?_;rintro e w1 ⟨⟨A1,c1,rfl,f⟩,o⟩;have E:=hid o;have N:=hid (HR.out.up o o.size);have G:=hid f;clear f o;go_wp2_with fail;refine (J.out A1 _ w1 N.out (show RdB _ _ _ _ from Rd.of_own G.out)).mono ?_;rintro e wE ⟨⟨-,g,U,rfl,s⟩|⟨h9,-⟩,t⟩
   .have O:=hid (E.out.trans (t.mono E.out.size));have Me:=hid (N.out.up t t.size);have Lr:=hid (aa G.out t (kqa _));have HS:=hid s;have hgE:=s.lt g rfl;have Kx:=dg Lr.out s (by decide);have Ky:=G.out.lt;have Lv:=E.out.size;have Lq:=t.size;have My:=O.out.size;have h6:(Value.slice A1 l.length c1).ownBlock≠some wE.heap.size:=λh=>by
     have:=(Ky _ h).2;omega
    have h7:(Value.slice A1 l.length c1).ownBlock≠some g:=λh=>by
     rcases Kx with h8|h8
     .rw[h] at h8;cases h8
     exact h8 h
    clear s t Kx Ky;have HX:=hid (Bx.new wE 114 #[.slice (some ⟨g,0,none⟩) ws.length U]);have Ls:=hid (Lr.out.alloc (.cells #[.slice (some ⟨g,0,none⟩) ws.length U] 114));have Ll:=hid ((Rd.of_own HS.out).alloc (kqa _) (.cells #[.slice (some ⟨g,0,none⟩) ws.length U] 114));have Lz:=hid (Me.out.alloc (kqa _) (.cells #[.slice (some ⟨g,0,none⟩) ws.length U] 114));have Z:=hid (O.out.alloc My (.cells #[.slice (some ⟨g,0,none⟩) ws.length U] 114));go_wp2_with fail;obtain⟨wX,Lo⟩:∃wX,wE.alloc (.cells #[.slice (some ⟨g,0,none⟩) ws.length U] 114)=wX:=⟨_,rfl⟩;have Ly:wX.heap.size=wE.heap.size+1:=by rw[<-Lo];simp
    rw[Lo] at HX Ls Ll Lz Z |-;clear Lo;have Le:=hid (Rd.more Ll.out (show wE.heap.size<=wX.heap.size by omega));refine (Mh.out A1 c1 wE.heap.size g U w.heap.size wX Ls.out Z.out.size (by omega) HX.out.c1.1 Le.out h6 h7).mono ?_;rintro e w3 ⟨A3,c3,rfl,Lg,Kz,Lh,Lc,Mc⟩;have Q:=hid (Z.out.trans Mc);have Mp:=hid (HR.out.up Q.out Q.out.size);have Lb:=hid Lg;have La:=hid Kz;have Ms:=hid Lh;obtain⟨V,Li⟩:=xq wE.heap.size;rw[Li] at La Lc;have Mx:=nq S l;have Mi:Hid (∀k (hk:k<(mt S l).length),∃m:Nat,(mt S l)[k].at_=(m:Int)/\m<ws.length):=hid (λk hk=>by
     obtain⟨j,hj,e⟩:=kq0 (qK (kqn hk));rw[<-e];exact R.out j hj)
    have Mf:=hid (λk (hk:k<(mt S l).length)=>z9 ws S (mt S l) hk);obtain⟨d,hd⟩:=xq (mt S l);rw[hd] at Lb Mi Mf Mx HV;simp only[hd,Li];clear hd Lg Kz Lh Mc HX Ls Ll Lz Z Le h6 h7 Ly Li J Mh HC Lr G HS N Me;go_wp2_with fail;go_loopw [7,34] (λv i wr=>∃k:Nat,k<=d.length/\i=.int .i64 k/\wr.ownsRow w3.heap.size 89 2 v (d.take k).length (((d.take k).map (zD ws S)).flatMap En.cells)/\Below w3.heap.size w3 wr) (λ_ i _=>d.length-(intOf i).toNat)
    case atStart=>exact⟨0,kqz _,rfl,kq6 _ _ _ _,kqk _ _⟩
    obtain⟨k,hk,rfl,z,hB⟩:=hrel;have hz:=hB.size;by_cases Ln:k<d.length
    .obtain ⟨b,off,rfl,hbw,q0,q1,q2,q3,q4,q5⟩:=RdB.at_ (Rd.below Lb.out hB) Ln;obtain⟨m,Lw,K⟩:=Mi.out k Ln;have F:=hid (Mf.out k Ln);obtain⟨x,hx⟩:=xq (d[k]);rw[hx] at q0 q1 q2 q3 q4 q5 Lw F;obtain⟨xa,xs,xk,xt,xm,xn⟩:=x;dsimp only at q0 q1 q2 q3 q4 q5 Lw;subst Lw;have Mg:zD ws S ⟨(m:Int),xs,xk,xt,xm,xn⟩=⟨(m:Int),gN (wd ws m) (S[m]?.getD false)⟩:=by unfold zD;dsimp only;rw[kqj]
     rw[Mg] at F;obtain⟨bW,oW,rfl,hbW,x0⟩:=RdW.at_ (Rd.below Mp.out hB) K;rw[<-cF] at x0;obtain⟨bS,oS,eA,hbS,P⟩:=Rd.at_flat gm (Rd.below Ms.out hB) (by omega) (show m<S.length by rw[Eq.out];exact K);cases eA;have P:=P 0 (by omega);have P:wr.cell? ⟨g,m,none⟩=some (.bool (S[m]'(by rw[Eq.out];exact K))):=by simpa [bJ] using P
     have Mb:S[m]'(by rw[Eq.out];exact K)=S[m]?.getD false:=by rw[kql (by rw[Eq.out];exact K)];rfl
     rw[Mb] at P;have HQ:=hid (λW=>Mn.out m (S[m]?.getD false) W);obtain⟨y,hy⟩:=xq (S[m]?.getD false);rw[hy] at P F HQ;obtain⟨u,hu⟩:=xq (wd ws m);rw[hu] at x0 F HQ;obtain⟨v,hv⟩:=xq (gN u y);obtain⟨er,Md⟩:=xq (pm u y);rw[hv] at F HQ;rw[Md] at HQ;have z0:=(hB.cell (p:=⟨V,0,none⟩) Lc).trans La.out;have hlm:(k:Int)<(d.length:Int):=by omega
     have hmi:(m:Int)<(ws.length:Int):=by omega
     have hm0:(0:Int)<=(m:Int):=by omega
     have hk0:(0:Int)<=(k:Int):=by omega
     have Kw:=hid (hB.alloc hz (.cells #[.int .i64 (m:Int),.int .i64 xs,.int .i64 xk,.int .i64 xt,.bool xm,.int .u64 (xn:Int)] 55));have BN:=hid (Bx.new wr 55 #[.int .i64 (m:Int),.int .i64 xs,.int .i64 xk,.int .i64 xt,.bool xm,.int .u64 (xn:Int)]);have Lt:=hid (z.alloc (.cells #[.int .i64 (m:Int),.int .i64 xs,.int .i64 xk,.int .i64 xt,.bool xm,.int .u64 (xn:Int)] 55));have Lu:=hid ((kze wr (.cells #[.int .i64 (m:Int),.int .i64 xs,.int .i64 xk,.int .i64 xt,.bool xm,.int .u64 (xn:Int)] 55) ⟨bW,oW+m,none⟩ (by show bW<wr.heap.size;omega)).trans x0);have Lj:=hid ((kze wr (.cells #[.int .i64 (m:Int),.int .i64 xs,.int .i64 xk,.int .i64 xt,.bool xm,.int .u64 (xn:Int)] 55) ⟨g,m,none⟩ (by show g<wr.heap.size;omega)).trans P);have M:=hid ((kze wr (.cells #[.int .i64 (m:Int),.int .i64 xs,.int .i64 xk,.int .i64 xt,.bool xm,.int .u64 (xn:Int)] 55) ⟨V,0,none⟩ (by show V<wr.heap.size;omega)).trans z0);clear hx Mg Mb hy hu hv Md x0 P z0 z;go_upto_region 12 with (fail);obtain⟨wn,Lp⟩:∃wn,wr.alloc (.cells #[.int .i64 (m:Int),.int .i64 xs,.int .i64 xk,.int .i64 xt,.bool xm,.int .u64 (xn:Int)] 55)=wn:=⟨_,rfl⟩;rw[Lp] at Kw BN Lt Lu Lj M |-;have hszn:wn.heap.size=wr.heap.size+1:=by rw[<-Lp];simp
     clear Lp q0 q1 q2 q3 q4 q5;obtain⟨p0,p1,p2,p3,p4,p5,pf,Mq⟩:=BN.out.c6;have x0:=Lu.out;have P:=Lj.out;have z0:=M.out;have gW:bW<wn.heap.size:=by omega
     have gS:g<wn.heap.size:=by omega
     have gZ:V<wn.heap.size:=by omega
     go_region_held3 (λX:World=>X.cell? ⟨bW,oW+m,none⟩=some (.int .u64 (u:Int))/\X.cell? ⟨V,0,none⟩=some (.slice (some ⟨g,0,none⟩) ws.length U)/\X.cell? ⟨g,m,none⟩=some (.bool y)/\X.cell? ⟨wr.heap.size,0,none⟩=some (.int .i64 (m:Int))) (go_keep)
      (first | (go_at_call 205;refine (HQ.out _).mono ?_;rintro e w5 ⟨rfl,D⟩;have m0:=(D.cell (p:=⟨bW,oW+m,none⟩) gW).trans x0;have m1:=(D.cell (p:=⟨V,0,none⟩) gZ).trans z0;have m2:=(D.cell (p:=⟨g,m,none⟩) gS).trans P;have m3:=(D.cell (p:=⟨wr.heap.size,0,none⟩) Mq).trans p0))
     have Lm:Below wn.heap.size wn w5:=(kqk _ _).drew.trans D;have C:=aa Lt.out Lm (kqa _);have I:=Kw.out.trans (Lm.mono Kw.out.size);have hz5:=I.size;have Mj:(d.take k).length=k:=by rw[kq4];omega
     have Lf:(d.take (k+1)).length=k+1:=by rw[kq4];omega
     rw[Mj] at C;have Mm:=hid Lf;have Ld:=hid C;have Ma:=hid I;clear x0 P z0 p0 p1 p2 p4 p5 pf m0 m1 m2 D Lm Mj Lf C I Lt Kw BN Lu Lj M;go_wp2_with (at_builtin;refine kzh _ rfl _ _ 26 rfl w3.heap.size 89 i0 _ 2 16 underlying26 HI.out Mw.out Mv.out Mo.out rfl (by decide) _ _ _ rfl (Ld.out.alloc _) ⟨_,0,none⟩ 1 1 [.int .i64 (m:Int),.int .u64 (v:Int)] rfl rfl (cI _ _ _) (by simp[Value.oneCell']) (by unfold maxLen;omega) (by omega) (by simp;omega) ?_;intro v1 w6 f Mu _;have Mt:=aF Ma.out (by omega) Ld.out Mu);go_roundw
     case rel=>exact⟨k+1,by omega,by go_num,by rw[F.out,Mm.out,cB];exact f,Mt⟩
     case measure=>simp[intOf];omega
    rw[kq8 (by omega)] at z;have B:wr.ownsRow w3.heap.size 89 2 u7 (aW ws).length ((aW ws).flatMap En.cells):=by rw[HV.out.2,kzg];exact z
    obtain⟨A4,c4,rfl⟩:=aE B;have Ml:=hid (am B Q.out.size);clear z B;go_wp2;go_ret2;exact⟨⟨A4,c4,by rw[HV.out.1];rfl,Ml.out⟩,Q.out.trans (hB.mono Q.out.size)⟩
   exfalso;rw[HV.out.1] at h9;exact absurd h9 (by decide)
  have HZ:=hid hz;clear T hl Y hz;go_enter func141,ntmps141;go_wp2_with fail;refine HC.out.mono ?_;rintro e w1 ⟨⟨A1,c1,rfl,f⟩,o⟩;have E:=hid o;have N:=hid (HR.out.up o o.size);have G:=hid f;clear f o;go_wp2_with fail;refine (J.out A1 _ w1 N.out (show RdB _ _ _ _ from Rd.of_own G.out)).mono ?_;rintro e wE ⟨⟨h9,-⟩|⟨h9,rfl⟩,t⟩
  .exact absurd h9 HZ.out
  have O:=hid (E.out.trans (t.mono E.out.size));have H9:=hid h9;clear h9;go_wp2;go_ret2;exact⟨bN H9.out (vH H9.out (by decide)),O.out.alloc O.out.size _⟩
 have HZ:=hid (And.intro (xr T) T);obtain⟨r,hr⟩:=xq (aj ws);rw[hr] at HC HZ;have hn1:(r != 0)=true:=by rw[kqv,<-hr];exact T
 obtain⟨q,hq⟩:=xq ((ah ws).length);rw[hq] at HC;clear T hr hq;go_enter func141,ntmps141;go_wp2_with fail;refine HC.out.mono ?_;rintro e w1 ⟨⟨A1,c1,rfl,-⟩,o⟩;go_wp2;go_ret2;exact⟨bN HZ.out.1 (vH HZ.out.1 HZ.out.2),o⟩
end Go.Proofs.YtpcajamacpbjcaaGreat
