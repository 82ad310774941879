/- Texts laid together: FrmF Wnt DelP Del DelW Wtd WtdW. -/
import Derived.Test.YtpcajamacpbjcaaGreatZKHeap
import Derived.Test.YtpcajamacpbjcaaGreatZKRch
import Derived.Lib.SliceRun
import Derived.Test.YtpcajamacpbjcaaGreatZKMove
set_option maxHeartbeats 16000000
set_option maxRecDepth 100000
set_option linter.all false
namespace Go.Proofs.YtpcajamacpbjcaaGreat
open Lib (hid)
open Go.RowKit
variable {a r:Int}{R l:List Bk}{S:List Bool}{ws:List Nat}{H c g j k n sz:Nat}{e:TypeId}{v:Value}{w w':World}
open Go.Proofs.Tryz
def tP (H:Nat) (ws:List Nat) (a:Int) (e:Ending) (w':World):Prop:=∃A c,e=.returned (.tuple #[.slice A (aJ ws a).length c,.int .i64 (bJ ws a)])/\w'.ownsRow H 55 6 (.slice A (aJ ws a).length c) (aJ ws a).length ((aJ ws a).flatMap Bk.cells)
theorem jw(hr:bJ ws a=r)(h0:r≠0):tP H ws a (.returned (.tuple #[.slice none 0 0,.int .i64 r])) w':=by
 subst hr;have:aJ ws a=[]:=by simp[aJ,h0]
 exact⟨none,0,by rw[this];rfl,by rw[this];exact kza _ _ _ _⟩
theorem vF(h0:bJ ws a=0)(hl:aJ ws a=l)(h:w'.ownsRow H 55 6 v l.length (l.flatMap Bk.cells)):tP H ws a (.returned (.tuple #[v,.int .i64 0])) w':=by obtain⟨A,c,rfl⟩:=aS h;exact⟨A,c,by rw[hl,h0],by rw[hl];exact h⟩
def Ac (H:Nat) (ws:List Nat) (e:Ending) (w':World):Prop:=∃A c,e=.returned (.tuple #[.slice A (af ws).length c,.int .i64 (ah ws)])/\w'.ownsRow H 55 6 (.slice A (af ws).length c) (af ws).length ((af ws).flatMap Bk.cells)
theorem kA(hr:ah ws=r)(h0:r≠0):Ac H ws (.returned (.tuple #[.slice none 0 0,.int .i64 r])) w':=by
 subst hr;have:af ws=[]:=by simp[af,h0]
 exact⟨none,0,by rw[this];rfl,by rw[this];exact kza _ _ _ _⟩
theorem yG(A:Option Addr)(ws:List Nat)(c n:Nat)(a:Int)(w:World)(hn:ws.length=n)(hm:n<=9223372036854775807)(hr:RdW w w.heap.size A ws)(ho:∀x∈ws,x<18446744073709551616):
 Calls prog 65 #[.slice A n c,.int .i64 a] w λe w'=>tP w.heap.size ws a e w'/\Below w.heap.size w w':=by
 subst hn;have HR:=hid hr;have HO:=hid ho;clear hr ho;cases B:ap (ws.length:Int)
 .have X:=hid (cn B);have M:=hid (fp (a:=a) B);clear B;go_enter func65,ntmps65;go_wp2_with fail;refine (aB A ws.length c w hm).mono ?_;rintro e y ⟨rfl,rfl⟩;rw[X.out];go_wp2;go_ret2;exact⟨jw M.out (by omega),kqk _ _⟩
 have X:=hid (bG B);have HS:=hid B;have hb:=kc (bG B);obtain⟨h,hb2,K⟩:=hb;have Eq:=hid K;clear B hm K;by_cases d:128<=a/\a<=(ws.length:Int)/\a%2=0
 .obtain ⟨a1,a2,a3⟩:=d;have N:Hid (eY ws.length a=false):=hid (by
   simp only[eY,kzl,kqh,kqq];omega)
  have Ja:(a%2 != 0)=false:=by rw[kqq];exact a3
  have d1:decide (a<128)=false:=by rw[kqh];omega
  have d2:decide ((ws.length:Int)<a)=false:=by rw[kqh];omega
  have Jb:=hid a3;obtain⟨O,rfl⟩:=kqz (show 0<=a by omega);have d2n:decide (ws.length<O)=false:=by rw[kqh];omega
  clear a3;obtain⟨i2,T,H,o,G⟩:=kzw pt;have HJ:=hid T;have Jg:=hid H;have Jd:=hid o;have Je:=hid G;clear T H o G;go_enter func65,ntmps65;go_wp2_with fail;refine (aB A ws.length c w (by omega)).mono ?_;rintro e y ⟨rfl,rfl⟩;rw[X.out];go_wp2_with fail;go_loopw [1,7] (λp v wr=>∃(i:Nat) (b:List Bk),p=.int .i64 i/\O<=i/\i<=ws.length/\i%2=0/\blocks ws O=(blocks ws i).map (b ++ ·)/\b.length<=i/\wr.ownsRow w.heap.size 55 6 v b.length (b.flatMap Bk.cells)/\Below w.heap.size w wr) (λp _ _=>ws.length-(intOf p).toNat)
  case atStart=>exact⟨O,[],rfl,kqa _,by omega,by have:=Jb.out;omega,by simp,by simp,kza _ _ _ _,kqk _ _⟩
  obtain⟨i,b,rfl,q1,q2,q3,q4,q5,j,E⟩:=hrel;have U:=E.size;have Z:=hid q3;have t:=hid q4;clear q4;by_cases J:i<ws.length
  .have s:i+1<ws.length:=by have:=Eq.out;omega
   clear q3;have ik1:(i:Int)<(ws.length:Int):=by omega
   cases f:stands ws i
   .have HN:=hid (eN HS.out N.out (by rw[kqi,t.out,dP J f];rfl));obtain⟨L,F⟩:=Fn f;have k:=hid (mu A ws c ws.length i wr rfl (by omega) s (HR.out.up E U) HO.out);rw[L,F] at k;unfold nE Bk.val at k;dsimp only at k;clear f L F j;go_wp2_with fail;refine k.out.mono ?_;rintro e y ⟨rfl,r⟩;have h:=E.trans (r.mono U);go_wp2;go_ret2;exact⟨jw HN.out (by omega),h.alloc h.size _⟩
   have Q:=aG f;obtain⟨L,F⟩:=Gv f;have k:=hid (mu A ws c ws.length i wr rfl (by omega) s (HR.out.up E U) HO.out);rw[L,F] at k;have D:=hid (show blocks ws O=(blocks ws (i+szAt ws i)).map ((b++[bkAt ws i]) ++ ·) by
    rw[t.out,aP J f];cases blocks ws (i+szAt ws i)<;>simp)
   have P:=hid (cP Bk.cells b (bkAt ws i));have m:=bC ws i;obtain⟨x,hx⟩:=xq (bkAt ws i);obtain⟨z,I⟩:=xq (szAt ws i);rw[hx] at k D P m;rw[I] at D Q m;have HX:=hid hx;obtain⟨S,xs,Y,W,V,R⟩:=x;dsimp only at m;subst m;unfold Bk.val at k;dsimp only at k;obtain⟨z1,z2,z3⟩:=Q;have Jf:=hid z2;clear f L F hx I z2;go_wp2_with fail;refine k.out.mono ?_;rintro e y ⟨rfl,r⟩;have h:=E.trans (r.mono U);have g:=ak j r (kqa _);have o:=h.size;go_wp2_with (at_builtin;refine kzk _ rfl _ _ 48 rfl w.heap.size 55 i2 _ 6 48 underlying48 HJ.out Jg.out Jd.out Je.out rfl (by decide) _ _ _ rfl ((g.alloc _).alloc _) ⟨_,0,none⟩ 1 1 [.int .i64 S,.int .i64 (z:Int),.int .i64 Y,.int .i64 W,.bool V,.int .u64 (R:Int)] rfl rfl (oK _ _ _ (kqm _ _)) (by simp[Value.oneCell']) (by unfold maxLen;omega) (by omega) (by simp;omega) ?_;intro v1 w2 u C _;have q:Bx w2 y.heap.size 55 #[.int .i64 S,.int .i64 (z:Int),.int .i64 Y,.int .i64 W,.bool V,.int .u64 (R:Int)]:=((Bx.new y 55 _).alloc _).grown C (sL g);have Jc:=aO (h.alloc o (.cells #[.int .i64 S,.int .i64 (z:Int),.int .i64 Y,.int .i64 W,.bool V,.int .u64 (R:Int)] 55)) (by simp;omega) (g.alloc _) C;have hc1:w2.cell? ⟨y.heap.size,1,none⟩=some (.int .i64 (z:Int)):=q.cell 1;have hf1:=q.frozen 1;have hl1:=q.lt;clear C q);go_roundw
   case rel=>exact⟨i+z,b++[⟨S,(z:Int),Y,W,V,R⟩],by rw[kjk],by omega,by omega,by have:=Z.out;have:=Jf.out;omega,D.out,by simp;omega,by rw[P.out,kqs];exact u,Jc⟩
   case measure=>simp[intOf];omega
  have T:i=ws.length:=by omega
  have HD:=hid (cy HS.out N.out (l:=b) (by rw[kqi,t.out,aE (by omega)];simp));clear T q3;go_wp2;go_ret2;exact⟨vF HD.out.1 HD.out.2 j,E⟩
 have M:=hid (jo HS.out (nk d));go_enter func65,ntmps65;go_wp2_with fail;refine (aB A ws.length c w (by omega)).mono ?_;rintro e y ⟨rfl,rfl⟩;rw[X.out];by_cases h1:a<128
 .clear d;go_wp2;go_ret2;exact⟨jw M.out (by omega),kqk _ _⟩
 by_cases h2:(ws.length:Int)<a
 .clear d;go_wp2;go_ret2;exact⟨jw M.out (by omega),kqk _ _⟩
 have Ja:(a%2 != 0)=true:=by rw[kqu];omega
 have d1:decide (a<128)=false:=by rw[kqh];omega
 have d2:decide ((ws.length:Int)<a)=false:=by rw[kqh];omega
 have a0:0<=a:=by omega
 clear d;go_wp2;go_ret2;exact⟨jw M.out (by omega),kqk _ _⟩
theorem DE(A:Option Addr)(ws:List Nat)(c n:Nat)(w:World)(hn:ws.length=n)(hm:n<=9223372036854775807)(F:RdW w w.heap.size A ws)(ho:∀x∈ws,x<18446744073709551616):
 Calls prog 62 #[.slice A n c] w λe w'=>Ac w.heap.size ws e w'/\Below w.heap.size w w':=by
 subst hn;have HR:=hid F;have HO:=hid ho;have Jg:=hid (yG A ws c ws.length 128 w rfl hm F ho);clear F ho;cases I:ap (ws.length:Int)
 .have HI:=hid (cn I);have HE:=hid (np I);clear I;go_enter func62,ntmps62;go_wp2_with fail;refine (aB A ws.length c w hm).mono ?_;rintro e M ⟨rfl,rfl⟩;rw[HI.out];go_wp2;go_ret2;exact⟨kA HE.out (by omega),kqk _ _⟩
 have HI:=hid (bG I);obtain⟨Ji,K,Jc⟩:=gJ ws I;have HS:=hid I;clear I Jc;go_enter func62,ntmps62;go_wp2_with fail;refine (aB A ws.length c w hm).mono ?_;rintro e M ⟨rfl,rfl⟩;rw[HI.out];go_wp2_with fail;refine Jg.out.mono ?_;rintro e M ⟨⟨A1,c1,rfl,p⟩,g⟩;have D:RdB M M.heap.size A1 (aJ ws 128):=Rd.of_own p;have j:=g.size;have S:=iq ws 128;have a:Hid (bJ ws 128=0->ap (ws.length:Int)=true/\blocks ws 128=some (aJ ws 128)):=hid yf;have B:Hid (∀r,bJ ws 128=r->r≠0->ah ws=r):=hid (λ_ h h0=>tD h h0);obtain⟨l,hl⟩:=xq (aJ ws 128);rw[hl] at D p S a |-;have Ja:=hid D;have Jb:=hid p;obtain⟨r,F⟩:=xq (bJ ws 128);have Je:=hid F;rw[F] at a |-;clear F D p hl;by_cases o:r=0
 .subst o;have J:=hid (a.out rfl).2;clear a B;go_wp2_with fail;go_loopw [26] (λi wr=>∃k:Nat,k<=l.length/\i=.int .i64 k/\Hid ((l.take k).all (du ws)=true)/\Below M.heap.size M wr) (λi _=>l.length-(intOf i).toNat)
  case atStart=>exact⟨0,kqy _,rfl,rfl,kqk _ _⟩
  obtain⟨k,hk,rfl,V,G⟩:=hrel;have hz:=G.size;by_cases q:k<l.length
  .obtain ⟨b,off,rfl,hbw,q0,q1,q2,q3,q4,q5⟩:=RdB.at_ (Ja.out.below G) q;have s:=hid (λh=>jK J.out (by omega) q h);have E:=hid (λh=>tZ q V.out h);have L:=hid (λh=>qg HS.out J.out (xS q h));obtain⟨x,hx⟩:=xq (l[k]);rw[hx] at q0 q1 q2 q3 q4 q5 s E L;have v:=hid (λh=>js (ws:=ws) (b:=x) h);have T:=hid (λh=>eD (ws:=ws) (b:=x) h);have Y:tyA x=96+2*x.typ.toNat:=rfl;rw[Y] at v;obtain⟨xa,xs,xk,xt,xm,xn⟩:=x;dsimp only at q0 q1 q2 q3 q4 q5 s v;have hlm:(k:Int)<(l.length:Int):=by omega
   clear hx Y;have y:=Bx.new wr 55 #[.int .i64 xa,.int .i64 xs,.int .i64 xk,.int .i64 xt,.bool xm,.int .u64 (xn:Int)];by_cases f:xk=1
   .obtain ⟨t0,t8⟩:=s.out f;obtain⟨t,rfl⟩:=kqz t0;have z:=hid (v.out f);simp only[kqi] at z;subst f;have HC:=hid (λW (h:RdW W W.heap.size A ws)=>qt A ws c ws.length t W rfl (by omega) Ji (by omega) h HO.out);have hz1w:=j;have Jf:=hid ((((HR.out.up g j).up G hz).alloc (kqa _) (.cells #[.int .i64 xa,.int .i64 xs,.int .i64 1,.int .i64 (t:Int),.bool xm,.int .u64 (xn:Int)] 55)).more (B':=(wr.alloc (.cells #[.int .i64 xa,.int .i64 xs,.int .i64 1,.int .i64 (t:Int),.bool xm,.int .u64 (xn:Int)] 55)).heap.size) (by simp));obtain⟨R,N⟩:=xq (wd ws (96+2*t));obtain⟨Z,X⟩:=xq (wd ws (96+2*t+1));rw[N,X] at HC z;clear y N X v T s;go_wp2_with fail;refine (HC.out _ Jf.out).mono ?_;rintro e w2 ⟨⟨A2,c2,rfl,P,O⟩,u⟩;rw[kqm] at u;have U:=Bx.of_new u;have K:=G.trans ((ax u).mono hz);obtain⟨c0,c1',c2',c3,c4,c5,cf,cz⟩:=U.c6;have H:=hid K;clear P O U u K cf;obtain⟨ok,Q⟩:=xq (cw R Z);obtain⟨m,C⟩:=xq ((bB R Z).length);have hm8:m<=255:=by
     rw[<-C];unfold bB;split
     .rw[fP];have:=kz4 R (show 0<256 by omega);omega
     simp
    rw[Q,C] at z |-;clear Q C;cases ok
    .have HB:=hid (L.out (by rw[z.out];rfl));go_wp2;go_ret2;exact⟨kA HB.out (by omega),g.trans (H.out.mono j)⟩
    rw[kzx] at z;have Eq:((bZ m:Nat):Int)=((m:Int)+3)/2*2:=by unfold bZ;omega
    rw[Eq] at z;by_cases d:xs=((m:Int)+3)/2*2
    .have Jd:(xs != ((m:Int)+3)/2*2)=false:=by rw[kqq];exact d
     have HY:=hid (E.out (by rw[z.out,kqw];exact d));clear d;go_wp2;go_roundw
     case rel=>exact⟨k+1,by omega,by go_num,HY.out,H.out⟩
     case measure=>simp[intOf];omega
    have Jd:(xs != ((m:Int)+3)/2*2)=true:=by rw[kqu];exact d
    have HB:=hid (L.out (by rw[z.out,kqj];exact d));clear d;go_wp2;go_ret2;exact⟨kA HB.out (by omega),g.trans (H.out.mono j)⟩
   have hk2:(xk != 1)=true:=by rw[kqu];exact f
   have HY:=hid (E.out (T.out f));clear f y;go_wp2;go_roundw
   case rel=>exact⟨k+1,by omega,by go_num,HY.out,G.alloc hz _⟩
   case measure=>simp[intOf];omega
  have HP:=hid (fM HS.out J.out (by have:=V.out;rwa [kq5 (by omega)] at this));go_wp2;go_ret2;exact⟨⟨A1,c1,by rw[HP.out.1,HP.out.2];rfl,by rw[HP.out.2];exact ak Jb.out G (kqa _)⟩,g.trans (G.mono j)⟩
 have hn1:(r != 0)=true:=by rw[kqu];exact o
 have HN:=hid (B.out r Je.out o);have Jh:=hid o;clear o a B;go_wp2;go_ret2;exact⟨kA HN.out Jh.out,g⟩
def eJ (S:List Bool) (b:Bk):Bool:=b.mark==(S[b.at_.toNat]?.getD false)
theorem xu(gB g c n m:Nat)(S:List Bool)(xs xk xt:Int)(xm:Bool)(xn:Nat)(w:World)(hS:S.length=n)(hm:m<n)(hB:gB<w.heap.size)(hbox:w.cell? ⟨gB,0,none⟩=some (.slice (some ⟨g,0,none⟩) n c))(h:Rd w w.heap.size (some ⟨g,0,none⟩) (S.flatMap bA)):
 Calls prog 204 #[.agg #[.int .i64 (m:Int),.int .i64 xs,.int .i64 xk,.int .i64 xt,.bool xm,.int .u64 (xn:Int)],.pointer (some ⟨gB,0,none⟩)] w λe w'=>e=.returned (.bool (xm==(S[m]?.getD false)))/\Below w.heap.size w w':=by
 have hmi:(m:Int)<(n:Int):=by omega
 have hm0:(0:Int)<=(m:Int):=by omega
 obtain⟨b,off,j,i,d⟩:=Rd.at_flat fK h (by omega) (show m<S.length by omega);cases j;have a:=d 0 (by omega);have a:w.cell? ⟨g,m,none⟩=some (.bool (S[m]'(by omega))):=by simpa [bA] using a
 rw[show S[m]?.getD false=S[m]'(by omega) by rw[kql (by omega)];rfl];obtain⟨y,f⟩:=xq (S[m]'(show m<S.length by omega));rw[f] at a |-;have q0:=(kzh w (.cells #[.int .i64 (m:Int),.int .i64 xs,.int .i64 xk,.int .i64 xt,.bool xm,.int .u64 (xn:Int)] 55) ⟨g,m,none⟩ i).trans a;have q1:=(kzh w (.cells #[.int .i64 (m:Int),.int .i64 xs,.int .i64 xk,.int .i64 xt,.bool xm,.int .u64 (xn:Int)] 55) ⟨gB,0,none⟩ hB).trans hbox;clear d h f a hbox;go_enter func204,ntmps204;go_wp2_with fail;go_quiet (fail);go_wp2;go_ret;exact⟨rfl,bv ((kqk _ _).alloc (kqa _) _) _⟩
def iT (S:List Bool) (l:List Bk) (k:Nat):Prop:=∀j,j<k->eJ S (gk l j)=false
theorem iT.zero(S:List Bool)(l:List Bk):iT S l 0:=λj h=>absurd h (by omega)
theorem iT.succ(h:iT S l k)(h1:eJ S (gk l k)=false):iT S l (k+1):=λj hj=>by
 rcases kq6 j k with a|a
 .exact h j a
 .have:j=k:=by omega
  subst this;exact h1
def GR (S:List Bool) (l:List Bk) (e:Ending):Prop:=(e=.returned (.int .i64 (-1))/\iT S l l.length)\/∃k:Nat,k<l.length/\e=.returned (.int .i64 (k:Int))/\iT S l k/\eJ S (gk l k)=true
theorem wz(A:Option Addr)(l:List Bk)(S:List Bool)(gB g c n cl:Nat)(w:World)(hS:S.length=n)(hl:l.length<=2048)(hat:∀k (R:k<l.length),∃m:Nat,l[k].at_=(m:Int)/\m<n)(hrl:RdB w w.heap.size A l)(j:gB<w.heap.size)(o:w.cell? ⟨gB,0,none⟩=some (.slice (some ⟨g,0,none⟩) n c))(h:Rd w w.heap.size (some ⟨g,0,none⟩) (S.flatMap bA)):
 Calls prog 251 #[.slice A l.length cl,.func (.func 204) #[] #[.pointer (some ⟨gB,0,none⟩)]] w λe w'=>GR S l e/\Below w.heap.size w w':=by
 have V:=hid hrl;have t:=hid (And.intro j o);have T:=hid h;have F:=hid hat;have Z:=hid (λm xs D z u B W X h1 U Y=>xu gB g c n m S xs D z u B W hS X h1 U Y);clear hrl j o h hat;go_enter func251,ntmps251;go_wp2_with fail;go_loopw [8] (λi wr=>∃k:Nat,k<=l.length/\i=.int .i64 k/\Hid (iT S l k)/\Below w.heap.size w wr) (λi _=>l.length-(intOf i).toNat)
 case atStart=>exact⟨0,kqy _,rfl,iT.zero S l,kqk _ _⟩
 obtain⟨k,R,rfl,s,j⟩:=hrel;have J:=j.size;by_cases f:k<l.length
 .obtain ⟨b,off,rfl,hbw,N,O,P,L,M,Q⟩:=RdB.at_ (Rd.below V.out j) f;obtain⟨m,q,G⟩:=F.out k f;have a:=hid (λh=>s.out.succ h);have d:=hid (show ∀r,eJ S (gk l k)=r->GR S l (.returned (.int .i64 (k:Int)))\/r=false from λr C=>by
   cases r
   .exact .inr rfl
   exact .inl (.inr ⟨k,f,rfl,s.out,C⟩))
  rw[bM l k f] at a d;obtain⟨x,I⟩:=xq (l[k]);rw[I] at N O P L M Q q a d;obtain⟨xa,xs,D,z,u,B⟩:=x;dsimp only at N O P L M Q q;subst q;have y:eJ S ⟨(m:Int),xs,D,z,u,B⟩=(u==(S[m]?.getD false)):=by unfold eJ;dsimp only;rw[kqi]
  rw[y] at a d;have hlm:(k:Int)<(l.length:Int):=by omega
  have hk0:(0:Int)<=(k:Int):=by omega
  have K:=hid (Z.out m xs D z u B wr G (by have:=t.out.1;omega) ((j.cell (p:=⟨gB,0,none⟩) t.out.1).trans t.out.2) (T.out.up j J));obtain⟨r,C⟩:=xq ((u==(S[m]?.getD false)));rw[C] at K a d;clear I C y;go_wp2_with fail;refine K.out.mono ?_;rintro e w2 ⟨rfl,E⟩;have v:=j.trans (E.mono J);cases r
  .have H:=hid (a.out rfl);go_wp2;go_roundw
   case rel=>exact⟨k+1,by omega,by go_num,H.out,v⟩
   case measure=>simp[intOf];omega
  have H:=hid ((d.out true rfl).resolve_right (by decide));go_wp2;go_ret;exact⟨H.out,v⟩
 obtain rfl:k=l.length:=by omega
 go_wp2;go_ret;exact⟨.inl ⟨rfl,s.out⟩,j⟩
def rG (xs:List Value):Nat->List Value->List Value
 | _,[]=>xs
 | o,v::vs=>rG (xs.set o v) (o+1) vs
theorem sZ(pre:List Value):∀(vs a:List Value) (o:Nat),rG (pre++a) (pre.length+o) vs=pre++rG a o vs:=by
 intro vs
 induction vs with
 | nil=>intro a o;rfl
 | cons v vs ih =>intro a o;simp only[rG];rw[kk1 _ _ (by omega),show pre.length+o-pre.length=o by omega,kj2,ih]
theorem Ai:∀(l:List Bk) (k:Nat) (x:Bk),k<l.length->rG (l.flatMap Bk.cells) (k*6) x.cells=(l.set k x).flatMap Bk.cells:=by
 intro l
 induction l with
 | nil=>intro k x h;simp at h
 | cons b l ih =>
  intro k x h;cases k with
  | zero=>rfl
  | succ k =>have a:=ih k x (by simpa using h);rw[kzp,kqe,kzp,<-a,show (k+1)*6=b.cells.length+k*6 by show (k+1)*6=6+k*6;omega,sZ]
theorem cU :∀(vs:List Value) (o:Nat) (w:World) (xs:List Value),w.ownsRow H e sz (.slice (some ⟨g,0,none⟩) n c) n xs->(w.setCells g o vs).ownsRow H e sz (.slice (some ⟨g,0,none⟩) n c) n (rG xs o vs):=by
 intro vs
 induction vs with
 | nil=>intro o w xs h;exact h
 | cons v vs ih=>intro o w xs h;exact ih (o+1) _ _ (h.stored o v).1
theorem ji{B b o:Nat}{cs:List Value}(h:Rd w B (some ⟨b,o,none⟩) cs)(hne:b≠g)(o':Nat)(vs:List Value):Rd (w.setCells g o' vs) B (some ⟨b,o,none⟩) cs:=by intro d;obtain⟨b',off,e,a,c⟩:=h d;cases e;refine⟨b,o,rfl,a,λj i=>?_⟩;rw[kxu g vs o' w _ (λf _=>absurd f hne)];exact c j i
theorem jR{P:Program}(w:World)(t e ty:TypeId)(z:Value)(ht:P.underlying t=some (.slice e))(hv:∀w,(zeroValue e).run P w=.ok z w)(L:List Value)(b o n c:Nat)(hL:(Builtin.zeroCells z.cells n).toList=L)(hn:0<n)(h1:∀v∈L,v.oneCell'=true)(hc:∀j,j<L.length->(w.cell? ⟨b,o+j,none⟩).isSome=true)(hf:∀j,j<L.length->w.frozen? ⟨b,o+j,none⟩=false):
 (Builtin.clear_ #[t] ty #[.slice (some ⟨b,o,none⟩) n c]).run P w=.ok (.tuple #[]) (w.setCells b o L):=by have a:=Go.run_storeCells_cells (P:=P) b o L 0 w (by simpa using hc) (by simpa using hf) h1;simp only[kz8] at a;obtain⟨m,rfl⟩:∃m,n=m+1:=⟨n-1,by omega⟩;simp[Builtin.clear_,run_underlying ht,hv,hL,a]
def lu (S:List Bool) (l:List Bk):List Bk:=l.filter λb=>!eJ S b
theorem qO(h:iT S l l.length):lu S l=l:=by unfold lu;rw[kvd];intro b c;obtain⟨k,a,rfl⟩:=kq2 c;have:=h k a;rw[bM l k a] at this;simp[this]
theorem yl(h:iT S l k)(hk:k<=l.length):lu S (l.take k)=l.take k:=by refine qO λj a=>?_;rw[kq3] at a;have:=h j (by omega);rw[bM _ _ (by omega)] at this;rw[bM _ _ (by rw[kq3];omega),kka];exact this
theorem mU(hk:k<l.length):lu S (l.take (k+1))=lu S (l.take k)++(if eJ S l[k]=true then [] else [l[k]]):=by unfold lu;rw[kqn hk,kxx];congr 1;cases a:eJ S l[k]<;>simp[a]
def kg (S:List Bool) (l R:List Bk) (k j:Nat):Prop:=k<j/\j<=l.length/\R.length=l.length/\R.take k=lu S (l.take j)/\R.drop j=l.drop j
theorem kg.get(h:kg S l R k j)(hj:j<l.length):∃b:j<R.length,R[j]=l[j]:=by
 obtain⟨h1,b,h3,h4,c⟩:=h;refine⟨by omega,?_⟩;have a:(R.drop j)[0]? = R[j]?:=by simp
 have d:(l.drop j)[0]? = l[j]?:=by simp
 rw[c,d,kql hj,kql (by omega)] at a;injection a with a;exact a.symm
theorem kg.drop1(h:kg S l R k j)(_hj:j<l.length):R.drop (j+1)=l.drop (j+1):=by have:=congrArg (List.drop 1) h.2.2.2.2;rwa [kxg,kxg] at this
theorem kg.first(hk:k<l.length)(h:iT S l k)(h1:eJ S (gk l k)=true):kg S l l k (k+1):=by refine⟨by omega,by omega,rfl,?_,rfl⟩;rw[bM l k hk] at h1;rw[mU hk,yl h (by omega),if_pos h1,kzr]
theorem kg.del(h:kg S l R k j)(hj:j<l.length)(h1:eJ S l[j]=true):kg S l R k (j+1):=by refine⟨by have:=h.1;omega,by omega,h.2.2.1,?_,h.drop1 hj⟩;rw[mU hj,if_pos h1,kzr];exact h.2.2.2.1
theorem kg.keep(h:kg S l R k j)(hj:j<l.length)(h1:eJ S l[j]=false):kg S l (R.set k l[j]) (k+1) (j+1):=by
 obtain⟨e,c,a,b,d⟩:=h;refine⟨by omega,by omega,by rw[kq4];exact a,?_,?_⟩
 .rw[mU hj,if_neg (by rw[h1];simp),<-b,kqn (by rw[kq4];omega),List.getElem_set_self,kve (kqa _)]
 rw[kvf (by omega)];exact kg.drop1 (S:=S) ⟨e,c,a,b,d⟩ hj
theorem kX{z:Array Value}(h:v∈(Builtin.zeroCells z n).toList)(h0:0<z.size):v∈z.toList:=by simp only[Builtin.zeroCells,Array.toList_map,kzz] at h;obtain⟨i,-,rfl⟩:=h;have a:i%z.size<z.size:=kz4 _ h0;rw[getElem!_pos z _ a];exact Array.getElem_mem_toList a
theorem kq(z:Array Value)(n:Nat):(Builtin.zeroCells z n).toList.length=n*z.size:=by simp[Builtin.zeroCells]
theorem jb{xs:List Value}(h:w.ownsRow H e sz (.slice (some ⟨g,0,none⟩) n c) n xs)(o k:Nat)(hk:o+k<=n*sz):w.there g o k:=λj hj =>
 ⟨by rw[h.cellAt (o+j) (by omega),kql (by have:=h.1;omega)];rfl,h.frozenAt (o+j)⟩
theorem y8(w:World):(zeroValue 55).run prog w=.ok (.agg #[.int .i64 0,.int .i64 0,.int .i64 0,.int .i64 0,.bool false,.int .u64 0]) w:=by kernel_rfl
theorem FX:(prog.info? 55).map (·.size)=some 6:=by kernel_rfl
theorem sK(A:Option Addr)(l:List Bk)(S:List Bool)(gB g c n cl H:Nat)(w:World)(hS:S.length=n)(hl:l.length<=2048)(hat:∀k (hk:k<l.length),∃m:Nat,l[k].at_=(m:Int)/\m<n)(a:w.ownsRow H 55 6 (.slice A l.length cl) l.length (l.flatMap Bk.cells))(hH:H<=w.heap.size)(hB:gB<w.heap.size)(I:w.cell? ⟨gB,0,none⟩=some (.slice (some ⟨g,0,none⟩) n c))(h:Rd w w.heap.size (some ⟨g,0,none⟩) (S.flatMap bA))(Jv:(Value.slice A l.length cl).ownBlock≠some gB)(Js:(Value.slice A l.length cl).ownBlock≠some g):
 Calls prog 203 #[.slice A l.length cl,.func (.func 204) #[] #[.pointer (some ⟨gB,0,none⟩)]] w λe w'=>∃A' c',e=.returned (.slice A' (lu S l).length c')/\RdB w' w'.heap.size A' (lu S l)/\w'.cell? ⟨gB,0,none⟩=some (.slice (some ⟨g,0,none⟩) n c)/\Rd w' w'.heap.size (some ⟨g,0,none⟩) (S.flatMap bA)/\gB<w'.heap.size/\Below H w w':=by
 have Jl:=hid (wz A l S gB g c n cl w hS hl hat (Rd.of_own a) hB I h);unfold GR at Jl;have N:=hid a;have B:=hid (And.intro hB I);have HS:=hid h;have Kb:=hid hat;have HG:=hid (And.intro Jv Js);have HC:=hid (λm xs u t f s W hm h1 h2 h3=>xu gB g c n m S xs u t f s W hS hm h1 h2 h3);clear a hB I h hat Jv Js;go_enter func203,ntmps203;go_wp2_with fail;refine Jl.out.mono ?_;rintro e w1 ⟨⟨rfl,G⟩|⟨k,hk,rfl,G,J⟩,d⟩
 .have HR:=hid ((Rd.of_own N.out).up d d.size);have D:=hid ((d.cell (p:=⟨gB,0,none⟩) B.out.1).trans B.out.2);have Jb:=hid (HS.out.up d d.size);have HE:=hid (qO G);have hz:=d.size;have Kr:=d.mono hH;clear G;go_wp2;go_ret;rw[HE.out];exact⟨A,cl,rfl,HR.out,D.out,Jb.out,by have:=B.out.1;omega,Kr⟩
 have HD:=hid (kg.first hk G J);obtain⟨y,cL,eL⟩:=fj N.out (by omega);cases eL;have Jt:=fR N.out;have U:y≠gB:=λh=>HG.out.1 (by rw[h];rfl);have T:y≠g:=λh=>HG.out.2 (by rw[h];rfl);have Kq:=hid (ak N.out d (kqa _));have D:=hid ((d.cell (p:=⟨gB,0,none⟩) B.out.1).trans B.out.2);have Jb:=hid (HS.out.up d d.size);have Km:=hid (d.mono hH);have Kg:=d.size;have hwk:IntKind.i64.wrap ((k:Int)+1)=(k:Int)+1:=kqv _ (by omega);have hkm:((k:Int) == -1)=false:=by rw[kqj];omega
 clear G J d;go_wp2_with fail;go_loopw [5,6] (λiv jv wr=>∃(i j:Nat) (R:List Bk),iv=.int .i64 i/\jv=.int .i64 j/\Hid (kg S l R i j)/\wr.ownsRow H 55 6 (.slice (some ⟨y,0,none⟩) l.length cl) l.length (R.flatMap Bk.cells)/\wr.cell? ⟨gB,0,none⟩=some (.slice (some ⟨g,0,none⟩) n c)/\Rd wr wr.heap.size (some ⟨g,0,none⟩) (S.flatMap bA)/\w.heap.size<=wr.heap.size/\Below H w wr) (λ_ jv _=>l.length-(intOf jv).toNat)
 case atStart=>exact⟨k,k+1,l,rfl,by go_num,HD.out,Kq.out,D.out,Jb.out,Kg,Km.out⟩
 obtain⟨i,j,R,rfl,rfl,Je,a,O,K,hz,hB⟩:=hrel;have Y:=Je.out;by_cases M:j<l.length
 .obtain ⟨Ki,eR⟩:=Y.get M;obtain⟨s1,s2,s3,-,-⟩:=Y;obtain⟨b,off,eA,hbw,q0,q1,q2,q3,q4,q5⟩:=RdB.at_ (show RdB wr wr.heap.size _ _ from Rd.of_own a) Ki;cases eA;simp only[kxd] at q0 q1 q2 q3 q4 q5;rw[eR] at q0 q1 q2 q3 q4 q5;obtain⟨m,V,Kd⟩:=Kb.out j M;have HK:=hid (λh=>Je.out.keep M h);have Q:=hid (λh=>Je.out.del M h);obtain⟨x,hx⟩:=xq (l[j]);rw[hx] at q0 q1 q2 q3 q4 q5 V HK Q;obtain⟨xa,xs,u,t,f,s⟩:=x;dsimp only at q0 q1 q2 q3 q4 q5 V;subst V;have J:eJ S ⟨(m:Int),xs,u,t,f,s⟩=(f==(S[m]?.getD false)):=by unfold eJ;dsimp only;rw[kqi]
  rw[J] at HK Q;have hlm:(j:Int)<(l.length:Int):=by omega
  have hj0:(0:Int)<=(j:Int):=by omega
  have Ka:(0:Int)<=(i:Int):=by omega
  have Jj:(i:Int)<(l.length:Int):=by omega
  have hgB:=B.out.1;have Jr:=hid (hB.alloc (kz1 hH hz) (.cells #[.int .i64 (m:Int),.int .i64 xs,.int .i64 u,.int .i64 t,.bool f,.int .u64 (s:Int)] 55));have BN:=hid (Bx.new wr 55 #[.int .i64 (m:Int),.int .i64 xs,.int .i64 u,.int .i64 t,.bool f,.int .u64 (s:Int)]);have Jp:=hid (a.alloc (.cells #[.int .i64 (m:Int),.int .i64 xs,.int .i64 u,.int .i64 t,.bool f,.int .u64 (s:Int)] 55));have Jf:=hid ((kzh wr (.cells #[.int .i64 (m:Int),.int .i64 xs,.int .i64 u,.int .i64 t,.bool f,.int .u64 (s:Int)] 55) ⟨gB,0,none⟩ (by show gB<wr.heap.size;omega)).trans O);have Z:=hid (Rd.more (Rd.alloc K (kqa _) (.cells #[.int .i64 (m:Int),.int .i64 xs,.int .i64 u,.int .i64 t,.bool f,.int .u64 (s:Int)] 55)) (show wr.heap.size<=(wr.alloc (.cells #[.int .i64 (m:Int),.int .i64 xs,.int .i64 u,.int .i64 t,.bool f,.int .u64 (s:Int)] 55)).heap.size by simp));have hgLw:=(a.lt y rfl).2;clear hx J O K a;go_upto_region 8 with (fail);obtain⟨wn,Eq⟩:∃wn,wr.alloc (.cells #[.int .i64 (m:Int),.int .i64 xs,.int .i64 u,.int .i64 t,.bool f,.int .u64 (s:Int)] 55)=wn:=⟨_,rfl⟩;rw[Eq] at Jr BN Jp Jf Z |-;have hszn:wn.heap.size=wr.heap.size+1:=by rw[<-Eq];simp
  clear Eq q0 q1 q2 q3 q4 q5;have HQ:=hid (HC.out m xs u t f s wn Kd (by omega) Jf.out Z.out);obtain⟨r,hr⟩:=xq ((f==(S[m]?.getD false)));rw[hr] at HQ HK Q;clear hr;obtain⟨p0,p1,p2,p3,p4,p5,pf,Kh⟩:=BN.out.c6;go_wp2_with fail;refine HQ.out.mono ?_;rintro e w2 ⟨rfl,z⟩;have Jo:=hid (Jr.out.trans (z.mono (kz1 hH (by omega))));have Jg:=hid (ak Jp.out z (kqa _));have Jz:=hid ((z.cell (p:=⟨gB,0,none⟩) (by show gB<wn.heap.size;omega)).trans Jf.out);have Jq:=hid (Z.out.up z z.size);have bn2:=BN.out.up z Kh;have hz2:=z.size;clear z p0 p1 p2 p3 p4 p5 pf;obtain⟨p0,p1,p2,p3,p4,p5,pf,hgn2⟩:=bn2.c6;cases r
  .have HY:=hid (HK.out rfl);have C:w2.there y (i*6) (#[.int .i64 (m:Int),.int .i64 xs,.int .i64 u,.int .i64 t,.bool f,.int .u64 (s:Int)]:Array Value).size:=jb Jg.out (i*6) 6 (by omega);have Jm:(prog.info? 55).map (·.size)=some (#[.int .i64 (m:Int),.int .i64 xs,.int .i64 u,.int .i64 t,.bool f,.int .u64 (s:Int)]:Array Value).size:=FX;have Jy:(#[.int .i64 (m:Int),.int .i64 xs,.int .i64 u,.int .i64 t,.bool f,.int .u64 (s:Int)]:Array Value).all (·.oneCell')=true:=by simp[Value.oneCell']
   have Jd:=hid (cU (Bk.cells ⟨(m:Int),xs,u,t,f,s⟩) (i*6) w2 _ Jg.out);rw[Ai R i ⟨(m:Int),xs,u,t,f,s⟩ (by omega)] at Jd;have Ju:=hid ((kxu y (Bk.cells ⟨(m:Int),xs,u,t,f,s⟩) (i*6) w2 ⟨gB,0,none⟩ (λX _=>absurd X.symm U)).trans Jz.out);have Jk:=hid (ji Jq.out (λX=>T X.symm) (i*6) (Bk.cells ⟨(m:Int),xs,u,t,f,s⟩));have Ji:=hid (aU Jt (Bk.cells ⟨(m:Int),xs,u,t,f,s⟩) (o:=i*6) Jo.out);have F:=cD (g:=y) (Bk.cells ⟨(m:Int),xs,u,t,f,s⟩) w2 (i*6);obtain⟨cs,Jc⟩:∃cs:Array Value,#[.int .i64 (m:Int),.int .i64 xs,.int .i64 u,.int .i64 t,.bool f,.int .u64 (s:Int)]=cs:=⟨_,rfl⟩;obtain⟨w3,Ja⟩:∃w3,w2.setCells y (i*6) (Bk.cells ⟨(m:Int),xs,u,t,f,s⟩)=w3:=⟨_,rfl⟩;have Kl:w2.setCells y (i*6) cs.toList=w3:=by rw[<-Jc];exact Ja
   rw[Ja] at Jd Ju Jk Ji F;rw[Jc] at C Jm Jy;clear Ja;go_wp2_with (refine kjh rfl _ _ _ rfl y (i*6) cs (by rfl) (by rw[<-Jc];rfl) C Jm Jy ?_;rw[Kl]);go_roundw
   case rel=>exact⟨i+1,j+1,R.set i ⟨(m:Int),xs,u,t,f,s⟩,by go_num,by go_num,HY.out,Jd.out,Ju.out,Rd.more Jk.out (by rw[F];exact kqa _),by rw[F];omega,Ji.out⟩
   case measure=>simp[intOf];omega
  have HY:=hid (Q.out rfl);go_wp2;go_roundw
  case rel=>exact⟨i,j+1,R,rfl,by go_num,HY.out,Jg.out,Jz.out,Jq.out,by omega,Jo.out⟩
  case measure=>simp[intOf];omega
 obtain⟨s1,s2,s3,s4,-⟩:=Y;obtain⟨A9,c9,e9,hle,Jh⟩:=kG a;cases e9;have HRD:=hid Jh;have hicl:(i:Int)<=(cl:Int):=by omega
 have hill:(i:Int)<=(l.length:Int):=by omega
 have Ka:(0:Int)<=(i:Int):=by omega
 have hne:i≠cl:=by omega
 have hnec:¬ ((i:Int)=(cl:Int)):=by omega
 have Ko:j=l.length:=by omega
 have Kj:=hid (show lu S l=R.take i by rw[s4,Ko,kzf]);have Kp:=a.1;obtain⟨L,hL⟩:=xq ((Builtin.zeroCells (Value.cells (.agg #[.int .i64 0,.int .i64 0,.int .i64 0,.int .i64 0,.bool false,.int .u64 0])) (l.length-i)).toList);have Jw:L.length=(l.length-i)*6:=by rw[<-hL,kq];rfl
 have C:=jb a (i*6) L.length (by rw[Jw];omega);have hcl:=jR (P:=prog) wr 48 55 0 _ underlying48 y8 L y (i*6) (l.length-i) (cl-i) hL (by omega)
  (λv hv=>by
   rw[<-hL] at hv;have:=kX hv (by decide);simp[Value.cells] at this;rcases this with rfl|rfl|rfl<;>rfl)
  (λq hq=>(C q hq).1) (λq hq=>(C q hq).2)
 have Kk:=hid ((kxu y L (i*6) wr ⟨gB,0,none⟩ (λX _=>absurd X.symm U)).trans O);have Kn:=hid (ji K (λX=>T X.symm) (i*6) L);have Kf:=hid (aU Jt L (o:=i*6) hB);have E:=cD (g:=y) L wr (i*6);have Ke:Hid (Rd (wr.setCells y (i*6) L) wr.heap.size (some ⟨y,0,none⟩) ((R.take i).flatMap Bk.cells)):=hid λ_=>by
  refine⟨y,0,rfl,(a.lt y rfl).2,λq hq=>?_⟩;have hq6:q<i*6:=by have:=hq;rw[fB Bk.cells 6 Bk.len,kq3] at this;omega
  rw[kxu y L (i*6) wr _ (λ_ _=>.inl (by show 0+q<i*6;omega))];have e1:=a.cellAt q (by omega);rw[kxd,e1];have Kc:q<(R.flatMap Bk.cells).length:=by rw[Kp];omega
  rw[kql Kc];congr 1;simp only[fB Bk.cells 6 Bk.len,kka]
 have Jj:(R.take i).length=i:=by rw[kq3];omega
 clear Jh hL Jw C a O K hB;go_wp2;go_ret;rw[Kj.out,Jj];exact⟨some ⟨y,0,none⟩,cl,rfl,Rd.more Ke.out (by rw[E];exact kqa _),Kk.out,Rd.more Kn.out (by rw[E];exact kqa _),by rw[E];have:=B.out.1;omega,Kf.out⟩
def wZ (ws:List Nat) (S:List Bool) (b:Bk):En:=⟨b.at_,gb (wd ws b.at_.toNat) (S[b.at_.toNat]?.getD false)⟩
noncomputable def aL (ws:List Nat):List En:=if aA ws=0 then (lu (seenL ws) (af ws)).map (wZ ws (seenL ws)) else []
theorem uL(h1:aA ws=r)(h0:r≠0):aL ws=[]:=by unfold aL;rw[if_neg (by rw[h1];exact h0)]
theorem pV(S:List Bool)(l:List Bk):(lu S l).length<=l.length:=kj8 _ _
theorem pv{b:Bk}(h:b∈lu S l):b∈l:=(kzm.1 h).1
theorem yz(ws:List Nat)(S:List Bool)(l:List Bk)(hk:k<l.length):(l.take (k+1)).map (wZ ws S)=(l.take k).map (wZ ws S)++[wZ ws S l[k]]:=by rw[kqn hk,kjy];rfl
theorem hp_ats(h:ah ws=0):∀k (b:k<(af ws).length),∃m:Nat,(af ws)[k].at_=(m:Int)/\m<ws.length:=by intro k b;obtain⟨hs,l,c,ha,d⟩:=ay h;subst d;obtain⟨a,e,-,-,f,-⟩:=b9 _ _ c (by omega) k b;exact⟨a,by rw[e];rfl,f⟩
theorem uS(A:Option Addr)(ws:List Nat)(c n:Nat)(w:World)(hn:ws.length=n)(hm:n<=9223372036854775807)(hr:RdW w w.heap.size A ws)(ho:∀x∈ws,x<18446744073709551616):
 Calls prog 141 #[.slice A n c] w λe w'=>gp w.heap.size (aA ws) (aL ws) e w'/\Below w.heap.size w w':=by
 subst hn;have HR:=hid hr;have HC:=hid (DE A ws c ws.length w rfl hm hr ho);unfold Ac at HC;have HO:=hid ho;clear hr ho;by_cases V:ah ws=0
 .obtain ⟨l,hl⟩:∃l,af ws=l:=⟨_,rfl⟩;have Q:=hid (λL cl W (h:RdW W W.heap.size A ws) (h2:RdB W W.heap.size L l)=>Cv A L ws c cl ws.length l W rfl hm V hl h h2 HO.out);unfold RcRes at Q;have I:=hp_ats V;have Kw:=jd ws;rw[V,hl] at HC;rw[hl] at I Kw;have I:=hid I;have Eq:=gJ ws (ay V).1;have hlen:=Eq.2.1;have hlen1:=Eq.1;by_cases hz:aA ws=0
  .have HV:=hid (show aA ws=0/\aL ws=(lu (seenL ws) l).map (wZ ws (seenL ws)) from ⟨hz,by unfold aL;rw[if_pos hz,hl]⟩);have Kc:=yy ws;obtain⟨i0,hi,Kf,Jr,Jm⟩:=kzw dg;have HI:=hid hi;have Lb:=hid Kf;have Kx:=hid Jr;have La:=hid Jm;clear hi Kf Jr Jm;clear V hl Eq hz;generalize seenL ws=S at Q HV Kc;have Kl:=hid (λ(A1:Option Addr) (cl T g U H:Nat) (W:World) h1 h2 h3 h4 h5 h6 h7=>sK A1 l S T g U ws.length cl H W Kc (by omega) I.out h1 h2 h3 h4 h5 h6 h7);have Ja:=hid Kc;have Kz:=hid (λa m W=>oo (wd ws a) m W (gu HO.out a));go_enter func141,ntmps141;go_wp2_with fail;refine HC.out.mono ?_;rintro e w1 ⟨⟨A1,c1,rfl,f⟩,o⟩;have E:=hid o;have O:=hid (HR.out.up o o.size);have G:=hid f;clear f o;go_wp2_with fail;refine (Q.out A1 _ w1 O.out (show RdB _ _ _ _ from Rd.of_own G.out)).mono ?_;rintro e wE ⟨⟨-,g,U,rfl,s⟩|⟨h9,-⟩,t⟩
   .have N:=hid (E.out.trans (t.mono E.out.size));have Kd:=hid (O.out.up t t.size);have Kb:=hid (ak G.out t (kqa _));have HS:=hid s;have hgE:=s.lt g rfl;have Jj:=fD Kb.out s (by decide);have Jh:=G.out.lt;have Jr:=E.out.size;have Jm:=t.size;have Kv:=N.out.size;have h6:(Value.slice A1 l.length c1).ownBlock≠some wE.heap.size:=λh=>by
     have:=(Jh _ h).2;omega
    have h7:(Value.slice A1 l.length c1).ownBlock≠some g:=λh=>by
     rcases Jj with h8|h8
     .rw[h] at h8;cases h8
     exact h8 h
    clear s t Jj Jh;have HX:=hid (Bx.new wE 114 #[.slice (some ⟨g,0,none⟩) ws.length U]);have Jq:=hid (Kb.out.alloc (.cells #[.slice (some ⟨g,0,none⟩) ws.length U] 114));have Jy:=hid ((Rd.of_own HS.out).alloc (kqa _) (.cells #[.slice (some ⟨g,0,none⟩) ws.length U] 114));have Kj:=hid (Kd.out.alloc (kqa _) (.cells #[.slice (some ⟨g,0,none⟩) ws.length U] 114));have Y:=hid (N.out.alloc Kv (.cells #[.slice (some ⟨g,0,none⟩) ws.length U] 114));go_wp2_with fail;obtain⟨wX,Jw⟩:∃wX,wE.alloc (.cells #[.slice (some ⟨g,0,none⟩) ws.length U] 114)=wX:=⟨_,rfl⟩;have Kp:wX.heap.size=wE.heap.size+1:=by rw[<-Jw];simp
    rw[Jw] at HX Jq Jy Kj Y |-;clear Jw;have Jg:=hid (Rd.more Jy.out (show wE.heap.size<=wX.heap.size by omega));refine (Kl.out A1 c1 wE.heap.size g U w.heap.size wX Jq.out Y.out.size (by omega) HX.out.c1.1 Jg.out h6 h7).mono ?_;rintro e w3 ⟨A3,c3,rfl,Jl,Je,Jd,Jb,Kh⟩;have M:=hid (Y.out.trans Kh);have Kr:=hid (HR.out.up M.out M.out.size);have Ji:=hid Jl;have Jc:=hid Je;have Ku:=hid Jd;obtain⟨T,Ka⟩:=xq wE.heap.size;rw[Ka] at Jc Jb;have Kt:=pV S l;have Ki:Hid (∀k (hk:k<(lu S l).length),∃m:Nat,(lu S l)[k].at_=(m:Int)/\m<ws.length):=hid (λk hk=>by
     obtain⟨j,hj,e⟩:=kq2 (pv (kqp hk));rw[<-e];exact I.out j hj)
    have Km:=hid (λk (hk:k<(lu S l).length)=>yz ws S (lu S l) hk);obtain⟨d,hd⟩:=xq (lu S l);rw[hd] at Ji Ki Km Kt HV;simp only[hd,Ka];clear hd Jl Je Jd Kh HX Jq Jy Kj Y Jg h6 h7 Kp Ka Q Kl HC Kb G HS O Kd;go_wp2_with fail;go_loopw [7,34] (λv i wr=>∃k:Nat,k<=d.length/\i=.int .i64 k/\wr.ownsRow w3.heap.size 89 2 v (d.take k).length (((d.take k).map (wZ ws S)).flatMap En.cells)/\Below w3.heap.size w3 wr) (λ_ i _=>d.length-(intOf i).toNat)
    case atStart=>exact⟨0,kqy _,rfl,kza _ _ _ _,kqk _ _⟩
    obtain⟨k,hk,rfl,z,hB⟩:=hrel;have hz:=hB.size;by_cases Ju:k<d.length
    .obtain ⟨b,off,rfl,hbw,q0,q1,q2,q3,q4,q5⟩:=RdB.at_ (Rd.below Ji.out hB) Ju;obtain⟨m,Jo,J⟩:=Ki.out k Ju;have D:=hid (Km.out k Ju);obtain⟨x,hx⟩:=xq (d[k]);rw[hx] at q0 q1 q2 q3 q4 q5 Jo D;obtain⟨xa,xs,xk,xt,xm,xn⟩:=x;dsimp only at q0 q1 q2 q3 q4 q5 Jo;subst Jo;have Ko:wZ ws S ⟨(m:Int),xs,xk,xt,xm,xn⟩=⟨(m:Int),gb (wd ws m) (S[m]?.getD false)⟩:=by unfold wZ;dsimp only;rw[kqi]
     rw[Ko] at D;obtain⟨bW,oW,rfl,hbW,x0⟩:=RdW.at_ (Rd.below Kr.out hB) J;rw[<-d7] at x0;obtain⟨bS,oS,eA,hbS,R⟩:=Rd.at_flat fK (Rd.below Ku.out hB) (by omega) (show m<S.length by rw[Ja.out];exact J);cases eA;have R:=R 0 (by omega);have R:wr.cell? ⟨g,m,none⟩=some (.bool (S[m]'(by rw[Ja.out];exact J))):=by simpa [bA] using R
     have Kk:S[m]'(by rw[Ja.out];exact J)=S[m]?.getD false:=by rw[kql (by rw[Ja.out];exact J)];rfl
     rw[Kk] at R;have HQ:=hid (λW=>Kz.out m (S[m]?.getD false) W);obtain⟨y,hy⟩:=xq (S[m]?.getD false);rw[hy] at R D HQ;obtain⟨u,hu⟩:=xq (wd ws m);rw[hu] at x0 D HQ;obtain⟨v,hv⟩:=xq (gb u y);obtain⟨er,Ke⟩:=xq (nK u y);rw[hv] at D HQ;rw[Ke] at HQ;have z0:=(hB.cell (p:=⟨T,0,none⟩) Jb).trans Jc.out;have hlm:(k:Int)<(d.length:Int):=by omega
     have hmi:(m:Int)<(ws.length:Int):=by omega
     have hm0:(0:Int)<=(m:Int):=by omega
     have hk0:(0:Int)<=(k:Int):=by omega
     have Z:=hid (hB.alloc hz (.cells #[.int .i64 (m:Int),.int .i64 xs,.int .i64 xk,.int .i64 xt,.bool xm,.int .u64 (xn:Int)] 55));have BN:=hid (Bx.new wr 55 #[.int .i64 (m:Int),.int .i64 xs,.int .i64 xk,.int .i64 xt,.bool xm,.int .u64 (xn:Int)]);have Jz:=hid (z.alloc (.cells #[.int .i64 (m:Int),.int .i64 xs,.int .i64 xk,.int .i64 xt,.bool xm,.int .u64 (xn:Int)] 55));have Jv:=hid ((kzh wr (.cells #[.int .i64 (m:Int),.int .i64 xs,.int .i64 xk,.int .i64 xt,.bool xm,.int .u64 (xn:Int)] 55) ⟨bW,oW+m,none⟩ (by show bW<wr.heap.size;omega)).trans x0);have Jp:=hid ((kzh wr (.cells #[.int .i64 (m:Int),.int .i64 xs,.int .i64 xk,.int .i64 xt,.bool xm,.int .u64 (xn:Int)] 55) ⟨g,m,none⟩ (by show g<wr.heap.size;omega)).trans R);have P:=hid ((kzh wr (.cells #[.int .i64 (m:Int),.int .i64 xs,.int .i64 xk,.int .i64 xt,.bool xm,.int .u64 (xn:Int)] 55) ⟨T,0,none⟩ (by show T<wr.heap.size;omega)).trans z0);clear hx Ko Kk hy hu hv Ke x0 R z0 z;go_upto_region 12 with (fail);obtain⟨wn,Jt⟩:∃wn,wr.alloc (.cells #[.int .i64 (m:Int),.int .i64 xs,.int .i64 xk,.int .i64 xt,.bool xm,.int .u64 (xn:Int)] 55)=wn:=⟨_,rfl⟩;rw[Jt] at Z BN Jz Jv Jp P |-;have hszn:wn.heap.size=wr.heap.size+1:=by rw[<-Jt];simp
     clear Jt q0 q1 q2 q3 q4 q5;obtain⟨p0,p1,p2,p3,p4,p5,pf,Ky⟩:=BN.out.c6;have x0:=Jv.out;have R:=Jp.out;have z0:=P.out;have gW:bW<wn.heap.size:=by omega
     have gS:g<wn.heap.size:=by omega
     have gZ:T<wn.heap.size:=by omega
     go_region_held3 (λX:World=>X.cell? ⟨bW,oW+m,none⟩=some (.int .u64 (u:Int))/\X.cell? ⟨T,0,none⟩=some (.slice (some ⟨g,0,none⟩) ws.length U)/\X.cell? ⟨g,m,none⟩=some (.bool y)/\X.cell? ⟨wr.heap.size,0,none⟩=some (.int .i64 (m:Int))) (go_keep)
      (first | (go_at_call 205;refine (HQ.out _).mono ?_;rintro e w5 ⟨rfl,F⟩;have m0:=(F.cell (p:=⟨bW,oW+m,none⟩) gW).trans x0;have m1:=(F.cell (p:=⟨T,0,none⟩) gZ).trans z0;have m2:=(F.cell (p:=⟨g,m,none⟩) gS).trans R;have m3:=(F.cell (p:=⟨wr.heap.size,0,none⟩) Ky).trans p0))
     have Js:Below wn.heap.size wn w5:=(kqk _ _).drew.trans F;have B:=ak Jz.out Js (kqa _);have K:=Z.out.trans (Js.mono Z.out.size);have hz5:=K.size;have Kg:(d.take k).length=k:=by rw[kq3];omega
     have Jf:(d.take (k+1)).length=k+1:=by rw[kq3];omega
     rw[Kg] at B;have Ks:=hid Jf;have Jk:=hid B;have Kq:=hid K;clear x0 R z0 p0 p1 p2 p4 p5 pf m0 m1 m2 F Js Kg Jf B K Jz Z BN Jv Jp P;go_wp2_with (at_builtin;refine kzk _ rfl _ _ 26 rfl w3.heap.size 89 i0 _ 2 16 underlying26 HI.out Lb.out Kx.out La.out rfl (by decide) _ _ _ rfl (Jk.out.alloc _) ⟨_,0,none⟩ 1 1 [.int .i64 (m:Int),.int .u64 (v:Int)] rfl rfl (dd _ _ _) (by simp[Value.oneCell']) (by unfold maxLen;omega) (by omega) (by simp;omega) ?_;intro v1 w6 f Lc _;have Ld:=aO Kq.out (by omega) Jk.out Lc);go_roundw
     case rel=>exact⟨k+1,by omega,by go_num,by rw[D.out,Ks.out,cP];exact f,Ld⟩
     case measure=>simp[intOf];omega
    rw[kq5 (by omega)] at z;have C:wr.ownsRow w3.heap.size 89 2 u7 (aL ws).length ((aL ws).flatMap En.cells):=by rw[HV.out.2,kz2];exact z
    obtain⟨A4,c4,rfl⟩:=aS C;have Kn:=hid (am C M.out.size);clear z C;go_wp2;go_ret2;exact⟨⟨A4,c4,by rw[HV.out.1];rfl,Kn.out⟩,M.out.trans (hB.mono M.out.size)⟩
   exfalso;rw[HV.out.1] at h9;exact absurd h9 (by decide)
  have HZ:=hid hz;clear V hl Eq hz;go_enter func141,ntmps141;go_wp2_with fail;refine HC.out.mono ?_;rintro e w1 ⟨⟨A1,c1,rfl,f⟩,o⟩;have E:=hid o;have O:=hid (HR.out.up o o.size);have G:=hid f;clear f o;go_wp2_with fail;refine (Q.out A1 _ w1 O.out (show RdB _ _ _ _ from Rd.of_own G.out)).mono ?_;rintro e wE ⟨⟨h9,-⟩|⟨h9,rfl⟩,t⟩
  .exact absurd h9 HZ.out
  have N:=hid (E.out.trans (t.mono E.out.size));have H9:=hid h9;clear h9;go_wp2;go_ret2;exact⟨bE H9.out (uL H9.out (by decide)),N.out.alloc N.out.size _⟩
 have HZ:=hid (And.intro (vN V) V);obtain⟨r,hr⟩:=xq (ah ws);rw[hr] at HC HZ;have hn1:(r != 0)=true:=by rw[kqu,<-hr];exact V
 obtain⟨q,hq⟩:=xq ((af ws).length);rw[hq] at HC;clear V hr hq;go_enter func141,ntmps141;go_wp2_with fail;refine HC.out.mono ?_;rintro e w1 ⟨⟨A1,c1,rfl,-⟩,o⟩;go_wp2;go_ret2;exact⟨bE HZ.out.1 (uL HZ.out.1 HZ.out.2),o⟩
end Go.Proofs.YtpcajamacpbjcaaGreat
