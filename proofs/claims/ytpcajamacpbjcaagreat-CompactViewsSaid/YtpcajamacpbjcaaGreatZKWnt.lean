/- Texts laid together: FrmF Wnt DelP Del DelW Wtd WtdW. -/
import Derived.Test.YtpcajamacpbjcaaGreatZKHeap
import Derived.Test.YtpcajamacpbjcaaGreatZKRch
import Derived.Lib.SliceRun
import Derived.Test.YtpcajamacpbjcaaGreatZKMove
set_option maxHeartbeats 16000000
set_option maxRecDepth 100000
set_option linter.all false
namespace Go.Proofs.YtpcajamacpbjcaaGreat
open Lib (hid)
open Go.RowKit
variable {a r:Int}{R l:List Bk}{S:List Bool}{ws:List Nat}{H c g j k n sz:Nat}{e:TypeId}{v:Value}{w w':World}
open Go.Proofs.Tryz
def tr (H:Nat) (ws:List Nat) (a:Int) (e:Ending) (w':World):Prop:=∃A c,e=.returned (.tuple #[.slice A (aU ws a).length c,.int .i64 (co ws a)])/\w'.ownsRow H 55 6 (.slice A (aU ws a).length c) (aU ws a).length ((aU ws a).flatMap Bk.cells)
theorem iY(hr:co ws a=r)(h0:r≠0):tr H ws a (.returned (.tuple #[.slice none 0 0,.int .i64 r])) w':=by
 subst hr;have:aU ws a=[]:=by simp[aU,h0]
 exact⟨none,0,by rw[this];rfl,by rw[this];exact kq1 _ _ _ _⟩
theorem wt(h0:co ws a=0)(hl:aU ws a=l)(h:w'.ownsRow H 55 6 v l.length (l.flatMap Bk.cells)):tr H ws a (.returned (.tuple #[v,.int .i64 0])) w':=by obtain⟨A,c,rfl⟩:=ap h;exact⟨A,c,by rw[hl,h0],by rw[hl];exact h⟩
def xg (H:Nat) (ws:List Nat) (e:Ending) (w':World):Prop:=∃A c,e=.returned (.tuple #[.slice A (aa ws).length c,.int .i64 (ag ws)])/\w'.ownsRow H 55 6 (.slice A (aa ws).length c) (aa ws).length ((aa ws).flatMap Bk.cells)
theorem ks(hr:ag ws=r)(h0:r≠0):xg H ws (.returned (.tuple #[.slice none 0 0,.int .i64 r])) w':=by
 subst hr;have:aa ws=[]:=by simp[aa,h0]
 exact⟨none,0,by rw[this];rfl,by rw[this];exact kq1 _ _ _ _⟩
theorem xi(A:Option Addr)(ws:List Nat)(c n:Nat)(a:Int)(w:World)(hn:ws.length=n)(hm:n<=9223372036854775807)(hr:RdW w w.heap.size A ws)(ho:∀x∈ws,x<18446744073709551616):
 Calls prog 65 #[.slice A n c,.int .i64 a] w λe w'=>tr w.heap.size ws a e w'/\Below w.heap.size w w':=by
 subst hn;have HR:=hid hr;have HO:=hid ho;clear hr ho;cases u:ak (ws.length:Int)
 .have X:=hid (bJ u);have G:=hid (fp (a:=a) u);clear u;go_enter func65,ntmps65;go_wp2_with fail;refine (aJ A ws.length c w hm).mono ?_;rintro e B ⟨rfl,rfl⟩;rw[X.out];go_wp2;go_ret2;exact⟨iY G.out (by omega),kqk _ _⟩
 have X:=hid (aW u);have HS:=hid u;have hb:=jQ (aW u);obtain⟨h,hb2,Q⟩:=hb;have Fq:=hid Q;clear u hm Q;by_cases d:128<=a/\a<=(ws.length:Int)/\a%2=0
 .obtain ⟨a1,a2,a3⟩:=d;have N:Hid (eB ws.length a=false):=hid (by
   simp only[eB,kzo,kqc,kqp];omega)
  have Fp:(a%2 != 0)=false:=by rw[kqp];exact a3
  have d1:decide (a<128)=false:=by rw[kqc];omega
  have d2:decide ((ws.length:Int)<a)=false:=by rw[kqc];omega
  have Fo:=hid a3;obtain⟨J,rfl⟩:=kq2 (show 0<=a by omega);have d2n:decide (ws.length<J)=false:=by rw[kqc];omega
  clear a3;obtain⟨i2,W,K,q,F⟩:=kze kp;have HJ:=hid W;have Z:=hid K;have Fu:=hid q;have Eq:=hid F;clear W K q F;go_enter func65,ntmps65;go_wp2_with fail;refine (aJ A ws.length c w (by omega)).mono ?_;rintro e B ⟨rfl,rfl⟩;rw[X.out];go_wp2_with fail;go_loopw [1,7] (λp v wr=>∃(i:Nat) (b:List Bk),p=.int .i64 i/\J<=i/\i<=ws.length/\i%2=0/\blocks ws J=(blocks ws i).map (b ++ ·)/\b.length<=i/\wr.ownsRow w.heap.size 55 6 v b.length (b.flatMap Bk.cells)/\Below w.heap.size w wr) (λp _ _=>ws.length-(intOf p).toNat)
  case atStart=>exact⟨J,[],rfl,kqb _,by omega,by have:=Fo.out;omega,by simp,by simp,kq1 _ _ _ _,kqk _ _⟩
  obtain⟨i,b,rfl,q1,q2,q3,q4,q5,j,E⟩:=hrel;have V:=E.size;have Fs:=hid q3;have D:=hid q4;clear q4;by_cases L:i<ws.length
  .have s:i+1<ws.length:=by have:=Fq.out;omega
   clear q3;have ik1:(i:Int)<(ws.length:Int):=by omega
   cases g:stands ws i
   .have HN:=hid (eN HS.out N.out (by rw[kqj,D.out,da L g];rfl));obtain⟨O,M⟩:=y6 g;have k:=hid (mg A ws c ws.length i wr rfl (by omega) s (HR.out.up E V) HO.out);rw[O,M] at k;unfold lG Bk.val at k;dsimp only at k;clear g O M j;go_wp2_with fail;refine k.out.mono ?_;rintro e B ⟨rfl,o⟩;have h:=E.trans (o.mono V);go_wp2;go_ret2;exact⟨iY HN.out (by omega),h.alloc h.size _⟩
   have I:=ax g;obtain⟨O,M⟩:=wv g;have k:=hid (mg A ws c ws.length i wr rfl (by omega) s (HR.out.up E V) HO.out);rw[O,M] at k;have C:=hid (show blocks ws J=(blocks ws (i+szAt ws i)).map ((b++[bkAt ws i]) ++ ·) by
    rw[D.out,aO L g];cases blocks ws (i+szAt ws i)<;>simp)
   have P:=hid (b9 Bk.cells b (bkAt ws i));have r:=aP ws i;obtain⟨x,hx⟩:=xq (bkAt ws i);obtain⟨z,H⟩:=xq (szAt ws i);rw[hx] at k C P r;rw[H] at C I r;have HX:=hid hx;obtain⟨Y,xs,T,R,S,U⟩:=x;dsimp only at r;subst r;unfold Bk.val at k;dsimp only at k;obtain⟨z1,z2,z3⟩:=I;have Fr:=hid z2;clear g O M hx H z2;go_wp2_with fail;refine k.out.mono ?_;rintro e B ⟨rfl,o⟩;have h:=E.trans (o.mono V);have f:=ae j o (kqb _);have q:=h.size;go_wp2_with (at_builtin;refine kq9 _ rfl _ _ 48 rfl w.heap.size 55 i2 _ 6 48 underlying48 HJ.out Z.out Fu.out Eq.out rfl (by decide) _ _ _ rfl ((f.alloc _).alloc _) ⟨_,0,none⟩ 1 1 [.int .i64 Y,.int .i64 (z:Int),.int .i64 T,.int .i64 R,.bool S,.int .u64 (U:Int)] rfl rfl (kX _ _ _ (kqn _ _)) (by simp[Value.oneCell']) (by unfold maxLen;omega) (by omega) (by simp;omega) ?_;intro v1 w2 y t _;have m:Bx w2 B.heap.size 55 #[.int .i64 Y,.int .i64 (z:Int),.int .i64 T,.int .i64 R,.bool S,.int .u64 (U:Int)]:=((Bx.new B 55 _).alloc _).grown t (pG f);have Ft:=am (h.alloc q (.cells #[.int .i64 Y,.int .i64 (z:Int),.int .i64 T,.int .i64 R,.bool S,.int .u64 (U:Int)] 55)) (by simp;omega) (f.alloc _) t;have hc1:w2.cell? ⟨B.heap.size,1,none⟩=some (.int .i64 (z:Int)):=m.cell 1;have hf1:=m.frozen 1;have hl1:=m.lt;clear t m);go_roundw
   case rel=>exact⟨i+z,b++[⟨Y,(z:Int),T,R,S,U⟩],by rw[kx1],by omega,by omega,by have:=Fs.out;have:=Fr.out;omega,C.out,by simp;omega,by rw[P.out,kqz];exact y,Ft⟩
   case measure=>simp[intOf];omega
  have W:i=ws.length:=by omega
  have HD:=hid (ci HS.out N.out (l:=b) (by rw[kqj,D.out,aC (by omega)];simp));clear W q3;go_wp2;go_ret2;exact⟨wt HD.out.1 HD.out.2 j,E⟩
 have G:=hid (iL HS.out (mK d));go_enter func65,ntmps65;go_wp2_with fail;refine (aJ A ws.length c w (by omega)).mono ?_;rintro e B ⟨rfl,rfl⟩;rw[X.out];by_cases h1:a<128
 .clear d;go_wp2;go_ret2;exact⟨iY G.out (by omega),kqk _ _⟩
 by_cases h2:(ws.length:Int)<a
 .clear d;go_wp2;go_ret2;exact⟨iY G.out (by omega),kqk _ _⟩
 have Fp:(a%2 != 0)=true:=by rw[kqt];omega
 have d1:decide (a<128)=false:=by rw[kqc];omega
 have d2:decide ((ws.length:Int)<a)=false:=by rw[kqc];omega
 have a0:0<=a:=by omega
 clear d;go_wp2;go_ret2;exact⟨iY G.out (by omega),kqk _ _⟩
theorem Bz(A:Option Addr)(ws:List Nat)(c n:Nat)(w:World)(hn:ws.length=n)(hm:n<=9223372036854775807)(D:RdW w w.heap.size A ws)(ho:∀x∈ws,x<18446744073709551616):
 Calls prog 62 #[.slice A n c] w λe w'=>xg w.heap.size ws e w'/\Below w.heap.size w w':=by
 subst hn;have HR:=hid D;have HO:=hid ho;have Fu:=hid (xi A ws c ws.length 128 w rfl hm D ho);clear D ho;cases C:ak (ws.length:Int)
 .have HI:=hid (bJ C);have HE:=hid (mw C);clear C;go_enter func62,ntmps62;go_wp2_with fail;refine (aJ A ws.length c w hm).mono ?_;rintro e M ⟨rfl,rfl⟩;rw[HI.out];go_wp2;go_ret2;exact⟨ks HE.out (by omega),kqk _ _⟩
 have HI:=hid (aW C);obtain⟨Fv,E,Ft⟩:=de ws C;have HS:=hid C;clear C Ft;go_enter func62,ntmps62;go_wp2_with fail;refine (aJ A ws.length c w hm).mono ?_;rintro e M ⟨rfl,rfl⟩;rw[HI.out];go_wp2_with fail;refine Fu.out.mono ?_;rintro e M ⟨⟨A1,c1,rfl,p⟩,f⟩;have H:RdB M M.heap.size A1 (aU ws 128):=Rd.of_own p;have j:=f.size;have U:=gQ ws 128;have a:Hid (co ws 128=0->ak (ws.length:Int)=true/\blocks ws 128=some (aU ws 128)):=hid zh;have B:Hid (∀r,co ws 128=r->r≠0->ag ws=r):=hid (λ_ h h0=>tp h h0);obtain⟨l,hl⟩:=xq (aU ws 128);rw[hl] at H p U a |-;have Fq:=hid H;have Fs:=hid p;obtain⟨r,D⟩:=xq (co ws 128);have Fr:=hid D;rw[D] at a |-;clear D H p hl;by_cases o:r=0
 .subst o;have I:=hid (a.out rfl).2;clear a B;go_wp2_with fail;go_loopw [26] (λi wr=>∃k:Nat,k<=l.length/\i=.int .i64 k/\Hid ((l.take k).all (dA ws)=true)/\Below M.heap.size M wr) (λi _=>l.length-(intOf i).toNat)
  case atStart=>exact⟨0,kqx _,rfl,rfl,kqk _ _⟩
  obtain⟨k,hk,rfl,Q,J⟩:=hrel;have hz:=J.size;by_cases s:k<l.length
  .obtain ⟨b,off,rfl,hbw,q0,q1,q2,q3,q4,q5⟩:=RdB.at_ (Fq.out.below J) s;have v:=hid (λh=>fW I.out (by omega) s h);have L:=hid (λh=>sH s Q.out h);have K:=hid (λh=>qD HS.out I.out (yY s h));obtain⟨x,hx⟩:=xq (l[k]);rw[hx] at q0 q1 q2 q3 q4 q5 v L K;have q:=hid (λh=>gI (ws:=ws) (b:=x) h);have R:=hid (λh=>d6 (ws:=ws) (b:=x) h);have Y:tyA x=96+2*x.typ.toNat:=rfl;rw[Y] at q;obtain⟨xa,xs,xk,xt,xm,xn⟩:=x;dsimp only at q0 q1 q2 q3 q4 q5 v q;have hlm:(k:Int)<(l.length:Int):=by omega
   clear hx Y;have y:=Bx.new wr 55 #[.int .i64 xa,.int .i64 xs,.int .i64 xk,.int .i64 xt,.bool xm,.int .u64 (xn:Int)];by_cases g:xk=1
   .obtain ⟨t0,t8⟩:=v.out g;obtain⟨t,rfl⟩:=kq2 t0;have z:=hid (q.out g);simp only[kqj] at z;subst g;have HC:=hid (λW (h:RdW W W.heap.size A ws)=>qd A ws c ws.length t W rfl (by omega) Fv (by omega) h HO.out);have hz1w:=j;have Fp:=hid ((((HR.out.up f j).up J hz).alloc (kqb _) (.cells #[.int .i64 xa,.int .i64 xs,.int .i64 1,.int .i64 (t:Int),.bool xm,.int .u64 (xn:Int)] 55)).more (B':=(wr.alloc (.cells #[.int .i64 xa,.int .i64 xs,.int .i64 1,.int .i64 (t:Int),.bool xm,.int .u64 (xn:Int)] 55)).heap.size) (by simp));obtain⟨V,O⟩:=xq (wd ws (96+2*t));obtain⟨Z,P⟩:=xq (wd ws (96+2*t+1));rw[O,P] at HC z;clear y O P q R v;go_wp2_with fail;refine (HC.out _ Fp.out).mono ?_;rintro e w2 ⟨⟨A2,c2,rfl,X,N⟩,u⟩;rw[kqn] at u;have S:=Bx.of_new u;have E:=J.trans ((ao u).mono hz);obtain⟨c0,c1',c2',c3,c4,c5,cf,cz⟩:=S.c6;have F:=hid E;clear X N S u E cf;obtain⟨ok,T⟩:=xq (bE V Z);obtain⟨m,G⟩:=xq ((bc V Z).length);have hm8:m<=255:=by
     rw[<-G];unfold bc;split
     .rw[cV];have:=kz1 V (show 0<256 by omega);omega
     simp
    rw[T,G] at z |-;clear T G;cases ok
    .have HB:=hid (K.out (by rw[z.out];rfl));go_wp2;go_ret2;exact⟨ks HB.out (by omega),f.trans (F.out.mono j)⟩
    rw[kzz] at z;have Fo:((aX m:Nat):Int)=((m:Int)+3)/2*2:=by unfold aX;omega
    rw[Fo] at z;by_cases d:xs=((m:Int)+3)/2*2
    .have Eq:(xs != ((m:Int)+3)/2*2)=false:=by rw[kqp];exact d
     have HY:=hid (L.out (by rw[z.out,kqu];exact d));clear d;go_wp2;go_roundw
     case rel=>exact⟨k+1,by omega,by go_num,HY.out,F.out⟩
     case measure=>simp[intOf];omega
    have Eq:(xs != ((m:Int)+3)/2*2)=true:=by rw[kqt];exact d
    have HB:=hid (K.out (by rw[z.out,kqi];exact d));clear d;go_wp2;go_ret2;exact⟨ks HB.out (by omega),f.trans (F.out.mono j)⟩
   have hk2:(xk != 1)=true:=by rw[kqt];exact g
   have HY:=hid (L.out (R.out g));clear g y;go_wp2;go_roundw
   case rel=>exact⟨k+1,by omega,by go_num,HY.out,J.alloc hz _⟩
   case measure=>simp[intOf];omega
  have HP:=hid (fT HS.out I.out (by have:=Q.out;rwa [kzb (by omega)] at this));go_wp2;go_ret2;exact⟨⟨A1,c1,by rw[HP.out.1,HP.out.2];rfl,by rw[HP.out.2];exact ae Fs.out J (kqb _)⟩,f.trans (J.mono j)⟩
 have hn1:(r != 0)=true:=by rw[kqt];exact o
 have HN:=hid (B.out r Fr.out o);have Fw:=hid o;clear o a B;go_wp2;go_ret2;exact⟨ks HN.out Fw.out,f⟩
def di (S:List Bool) (b:Bk):Bool:=b.mark==(S[b.at_.toNat]?.getD false)
theorem wI(gB g c n m:Nat)(S:List Bool)(xs xk xt:Int)(xm:Bool)(xn:Nat)(w:World)(hS:S.length=n)(hm:m<n)(hB:gB<w.heap.size)(hbox:w.cell? ⟨gB,0,none⟩=some (.slice (some ⟨g,0,none⟩) n c))(h:Rd w w.heap.size (some ⟨g,0,none⟩) (S.flatMap aV)):
 Calls prog 204 #[.agg #[.int .i64 (m:Int),.int .i64 xs,.int .i64 xk,.int .i64 xt,.bool xm,.int .u64 (xn:Int)],.pointer (some ⟨gB,0,none⟩)] w λe w'=>e=.returned (.bool (xm==(S[m]?.getD false)))/\Below w.heap.size w w':=by
 have hmi:(m:Int)<(n:Int):=by omega
 have hm0:(0:Int)<=(m:Int):=by omega
 obtain⟨b,off,j,i,f⟩:=Rd.at_flat fQ h (by omega) (show m<S.length by omega);cases j;have a:=f 0 (by omega);have a:w.cell? ⟨g,m,none⟩=some (.bool (S[m]'(by omega))):=by simpa [aV] using a
 rw[show S[m]?.getD false=S[m]'(by omega) by rw[kqm (by omega)];rfl];obtain⟨y,d⟩:=xq (S[m]'(show m<S.length by omega));rw[d] at a |-;have q0:=(kq8 w (.cells #[.int .i64 (m:Int),.int .i64 xs,.int .i64 xk,.int .i64 xt,.bool xm,.int .u64 (xn:Int)] 55) ⟨g,m,none⟩ i).trans a;have q1:=(kq8 w (.cells #[.int .i64 (m:Int),.int .i64 xs,.int .i64 xk,.int .i64 xt,.bool xm,.int .u64 (xn:Int)] 55) ⟨gB,0,none⟩ hB).trans hbox;clear f h d a hbox;go_enter func204,ntmps204;go_wp2_with fail;go_quiet (fail);go_wp2;go_ret;exact⟨rfl,az ((kqk _ _).alloc (kqb _) _) _⟩
def iD (S:List Bool) (l:List Bk) (k:Nat):Prop:=∀j,j<k->di S (gk l j)=false
theorem iD.zero(S:List Bool)(l:List Bk):iD S l 0:=λj h=>absurd h (by omega)
theorem iD.succ(h:iD S l k)(h1:di S (gk l k)=false):iD S l (k+1):=λj hj=>by
 rcases kq6 j k with a|a
 .exact h j a
 .have:j=k:=by omega
  subst this;exact h1
def D7 (S:List Bool) (l:List Bk) (e:Ending):Prop:=(e=.returned (.int .i64 (-1))/\iD S l l.length)\/∃k:Nat,k<l.length/\e=.returned (.int .i64 (k:Int))/\iD S l k/\di S (gk l k)=true
theorem vY(A:Option Addr)(l:List Bk)(S:List Bool)(gB g c n cl:Nat)(w:World)(hS:S.length=n)(hl:l.length<=2048)(hat:∀k (V:k<l.length),∃m:Nat,l[k].at_=(m:Int)/\m<n)(hrl:RdB w w.heap.size A l)(j:gB<w.heap.size)(o:w.cell? ⟨gB,0,none⟩=some (.slice (some ⟨g,0,none⟩) n c))(h:Rd w w.heap.size (some ⟨g,0,none⟩) (S.flatMap aV)):
 Calls prog 251 #[.slice A l.length cl,.func (.func 204) #[] #[.pointer (some ⟨gB,0,none⟩)]] w λe w'=>D7 S l e/\Below w.heap.size w w':=by
 have X:=hid hrl;have s:=hid (And.intro j o);have U:=hid h;have E:=hid hat;have R:=hid (λm xs D z u C W Z Y T h3=>wI gB g c n m S xs D z u C W hS Z Y T h3);clear hrl j o h hat;go_enter func251,ntmps251;go_wp2_with fail;go_loopw [8] (λi wr=>∃k:Nat,k<=l.length/\i=.int .i64 k/\Hid (iD S l k)/\Below w.heap.size w wr) (λi _=>l.length-(intOf i).toNat)
 case atStart=>exact⟨0,kqx _,rfl,iD.zero S l,kqk _ _⟩
 obtain⟨k,V,rfl,q,j⟩:=hrel;have P:=j.size;by_cases f:k<l.length
 .obtain ⟨b,off,rfl,hbw,L,Q,M,J,N,O⟩:=RdB.at_ (Rd.below X.out j) f;obtain⟨m,t,G⟩:=E.out k f;have a:=hid (λh=>q.out.succ h);have d:=hid (show ∀r,di S (gk l k)=r->D7 S l (.returned (.int .i64 (k:Int)))\/r=false from λr B=>by
   cases r
   .exact .inr rfl
   exact .inl (.inr ⟨k,f,rfl,q.out,B⟩))
  rw[bo l k f] at a d;obtain⟨x,I⟩:=xq (l[k]);rw[I] at L Q M J N O t a d;obtain⟨xa,xs,D,z,u,C⟩:=x;dsimp only at L Q M J N O t;subst t;have y:di S ⟨(m:Int),xs,D,z,u,C⟩=(u==(S[m]?.getD false)):=by unfold di;dsimp only;rw[kqj]
  rw[y] at a d;have hlm:(k:Int)<(l.length:Int):=by omega
  have hk0:(0:Int)<=(k:Int):=by omega
  have K:=hid (R.out m xs D z u C wr G (by have:=s.out.1;omega) ((j.cell (p:=⟨gB,0,none⟩) s.out.1).trans s.out.2) (U.out.up j P));obtain⟨r,B⟩:=xq ((u==(S[m]?.getD false)));rw[B] at K a d;clear I B y;go_wp2_with fail;refine K.out.mono ?_;rintro e w2 ⟨rfl,H⟩;have v:=j.trans (H.mono P);cases r
  .have F:=hid (a.out rfl);go_wp2;go_roundw
   case rel=>exact⟨k+1,by omega,by go_num,F.out,v⟩
   case measure=>simp[intOf];omega
  have F:=hid ((d.out true rfl).resolve_right (by decide));go_wp2;go_ret;exact⟨F.out,v⟩
 obtain rfl:k=l.length:=by omega
 go_wp2;go_ret;exact⟨.inl ⟨rfl,q.out⟩,j⟩
def Fm (xs:List Value):Nat->List Value->List Value
 | _,[]=>xs
 | o,v::vs=>Fm (xs.set o v) (o+1) vs
theorem se(pre:List Value):∀(a b:List Value) (o:Nat),Fm (pre++b) (pre.length+o) a=pre++Fm b o a:=by
 intro a
 induction a with
 | nil=>intro b o;rfl
 | cons v a ih =>intro b o;simp only[Fm];rw[List.set_append_right _ _ (by omega),show pre.length+o-pre.length=o by omega,kj3,ih]
theorem yk:∀(l:List Bk) (k:Nat) (x:Bk),k<l.length->Fm (l.flatMap Bk.cells) (k*6) x.cells=(l.set k x).flatMap Bk.cells:=by
 intro l
 induction l with
 | nil=>intro k x h;simp at h
 | cons b l ih =>
  intro k x h;cases k with
  | zero=>rfl
  | succ k =>have a:=ih k x (by simpa using h);rw[kz7,kqf,kz7,<-a,show (k+1)*6=b.cells.length+k*6 by show (k+1)*6=6+k*6;omega,se]
theorem qF :∀(a:List Value) (o:Nat) (w:World) (xs:List Value),w.ownsRow H e sz (.slice (some ⟨g,0,none⟩) n c) n xs->(w.setCells g o a).ownsRow H e sz (.slice (some ⟨g,0,none⟩) n c) n (Fm xs o a):=by
 intro a
 induction a with
 | nil=>intro o w xs h;exact h
 | cons v a ih=>intro o w xs h;exact ih (o+1) _ _ (h.stored o v).1
theorem iT{B b o:Nat}{cs:List Value}(h:Rd w B (some ⟨b,o,none⟩) cs)(hne:b≠g)(o':Nat)(vs:List Value):Rd (w.setCells g o' vs) B (some ⟨b,o,none⟩) cs:=by intro d;obtain⟨b',off,e,a,f⟩:=h d;cases e;refine⟨b,o,rfl,a,λj c=>?_⟩;rw[kj2 g vs o' w _ (λi _=>absurd i hne)];exact f j c
theorem nG{P:Program}(w:World)(t e ty:TypeId)(z:Value)(ht:P.underlying t=some (.slice e))(hv:∀w,(zeroValue e).run P w=.ok z w)(L:List Value)(b o n c:Nat)(hL:(Builtin.zeroCells z.cells n).toList=L)(hn:0<n)(h1:∀v∈L,v.oneCell'=true)(hc:∀j,j<L.length->(w.cell? ⟨b,o+j,none⟩).isSome=true)(hf:∀j,j<L.length->w.frozen? ⟨b,o+j,none⟩=false):
 (Builtin.clear_ #[t] ty #[.slice (some ⟨b,o,none⟩) n c]).run P w=.ok (.tuple #[]) (w.setCells b o L):=by have a:=Go.run_storeCells_cells (P:=P) b o L 0 w (by simpa using hc) (by simpa using hf) h1;simp only[kz6] at a;obtain⟨m,rfl⟩:∃m,n=m+1:=⟨n-1,by omega⟩;simp[Builtin.clear_,run_underlying ht,hv,hL,a]
def ku (S:List Bool) (l:List Bk):List Bk:=l.filter λb=>!di S b
theorem pW(h:iD S l l.length):ku S l=l:=by unfold ku;rw[List.filter_eq_self];intro b c;obtain⟨k,a,rfl⟩:=kqv c;have:=h k a;rw[bo l k a] at this;simp[this]
theorem yt(h:iD S l k)(hk:k<=l.length):ku S (l.take k)=l.take k:=by refine pW λj a=>?_;rw[kzd] at a;have:=h j (by omega);rw[bo _ _ (by omega)] at this;rw[bo _ _ (by rw[kzd];omega),kkb];exact this
theorem nv(hk:k<l.length):ku S (l.take (k+1))=ku S (l.take k)++(if di S l[k]=true then [] else [l[k]]):=by unfold ku;rw[kqq hk,kxj];congr 1;cases a:di S l[k]<;>simp[a]
def jV (S:List Bool) (l R:List Bk) (k j:Nat):Prop:=k<j/\j<=l.length/\R.length=l.length/\R.take k=ku S (l.take j)/\R.drop j=l.drop j
theorem jV.get(h:jV S l R k j)(hj:j<l.length):∃c:j<R.length,R[j]=l[j]:=by
 obtain⟨h1,c,h3,h4,b⟩:=h;refine⟨by omega,?_⟩;have a:(R.drop j)[0]? = R[j]?:=by simp
 have d:(l.drop j)[0]? = l[j]?:=by simp
 rw[b,d,kqm hj,kqm (by omega)] at a;injection a with a;exact a.symm
theorem jV.drop1(h:jV S l R k j)(_hj:j<l.length):R.drop (j+1)=l.drop (j+1):=by have:=congrArg (List.drop 1) h.2.2.2.2;rwa [kxv,kxv] at this
theorem jV.first(hk:k<l.length)(h:iD S l k)(h1:di S (gk l k)=true):jV S l l k (k+1):=by refine⟨by omega,by omega,rfl,?_,rfl⟩;rw[bo l k hk] at h1;rw[nv hk,yt h (by omega),if_pos h1,kzm]
theorem jV.del(h:jV S l R k j)(hj:j<l.length)(h1:di S l[j]=true):jV S l R k (j+1):=by refine⟨by have:=h.1;omega,by omega,h.2.2.1,?_,h.drop1 hj⟩;rw[nv hj,if_pos h1,kzm];exact h.2.2.2.1
theorem jV.keep(h:jV S l R k j)(hj:j<l.length)(h1:di S l[j]=false):jV S l (R.set k l[j]) (k+1) (j+1):=by
 obtain⟨d,e,b,a,c⟩:=h;refine⟨by omega,by omega,by rw[kza];exact b,?_,?_⟩
 .rw[nv hj,if_neg (by rw[h1];simp),<-a,kqq (by rw[kza];omega),List.getElem_set_self,List.take_set_of_le (kqb _)]
 rw[List.drop_set_of_lt (by omega)];exact jV.drop1 (S:=S) ⟨d,e,b,a,c⟩ hj
theorem pQ{z:Array Value}(h:v∈(Builtin.zeroCells z n).toList)(h0:0<z.size):v∈z.toList:=by simp only[Builtin.zeroCells,Array.toList_map,kzy] at h;obtain⟨i,-,rfl⟩:=h;have a:i%z.size<z.size:=kz1 _ h0;rw[getElem!_pos z _ a];exact Array.getElem_mem_toList a
theorem pS(z:Array Value)(n:Nat):(Builtin.zeroCells z n).toList.length=n*z.size:=by simp[Builtin.zeroCells]
theorem rp{xs:List Value}(h:w.ownsRow H e sz (.slice (some ⟨g,0,none⟩) n c) n xs)(o k:Nat)(hk:o+k<=n*sz):w.there g o k:=λj hj =>
 ⟨by rw[h.cellAt (o+j) (by omega),kqm (by have:=h.1;omega)];rfl,h.frozenAt (o+j)⟩
theorem yy(w:World):(zeroValue 55).run prog w=.ok (.agg #[.int .i64 0,.int .i64 0,.int .i64 0,.int .i64 0,.bool false,.int .u64 0]) w:=by kernel_rfl
theorem Fj:(prog.info? 55).map (·.size)=some 6:=by kernel_rfl
theorem rU(A:Option Addr)(l:List Bk)(S:List Bool)(gB g c n cl H:Nat)(w:World)(hS:S.length=n)(hl:l.length<=2048)(hat:∀k (hk:k<l.length),∃m:Nat,l[k].at_=(m:Int)/\m<n)(a:w.ownsRow H 55 6 (.slice A l.length cl) l.length (l.flatMap Bk.cells))(hH:H<=w.heap.size)(hB:gB<w.heap.size)(D:w.cell? ⟨gB,0,none⟩=some (.slice (some ⟨g,0,none⟩) n c))(h:Rd w w.heap.size (some ⟨g,0,none⟩) (S.flatMap aV))(Fw:(Value.slice A l.length cl).ownBlock≠some gB)(Fy:(Value.slice A l.length cl).ownBlock≠some g):
 Calls prog 203 #[.slice A l.length cl,.func (.func 204) #[] #[.pointer (some ⟨gB,0,none⟩)]] w λe w'=>∃A' c',e=.returned (.slice A' (ku S l).length c')/\RdB w' w'.heap.size A' (ku S l)/\w'.cell? ⟨gB,0,none⟩=some (.slice (some ⟨g,0,none⟩) n c)/\Rd w' w'.heap.size (some ⟨g,0,none⟩) (S.flatMap aV)/\gB<w'.heap.size/\Below H w w':=by
 have Gk:=hid (vY A l S gB g c n cl w hS hl hat (Rd.of_own a) hB D h);unfold D7 at Gk;have Q:=hid a;have B:=hid (And.intro hB D);have HS:=hid h;have Gy:=hid hat;have HG:=hid (And.intro Fw Fy);have HC:=hid (λm xs t s f u W hm h1 h2 h3=>wI gB g c n m S xs t s f u W hS hm h1 h2 h3);clear a hB D h hat Fw Fy;go_enter func203,ntmps203;go_wp2_with fail;refine Gk.out.mono ?_;rintro e w1 ⟨⟨rfl,E⟩|⟨k,hk,rfl,E,J⟩,d⟩
 .have HR:=hid ((Rd.of_own Q.out).up d d.size);have I:=hid ((d.cell (p:=⟨gB,0,none⟩) B.out.1).trans B.out.2);have Fq:=hid (HS.out.up d d.size);have HE:=hid (pW E);have hz:=d.size;have Jd:=d.mono hH;clear E;go_wp2;go_ret;rw[HE.out];exact⟨A,cl,rfl,HR.out,I.out,Fq.out,by have:=B.out.1;omega,Jd⟩
 have HD:=hid (jV.first hk E J);obtain⟨y,cL,eL⟩:=jw Q.out (by omega);cases eL;have Fz:=lX Q.out;have U:y≠gB:=λh=>HG.out.1 (by rw[h];rfl);have T:y≠g:=λh=>HG.out.2 (by rw[h];rfl);have Gn:=hid (ae Q.out d (kqb _));have I:=hid ((d.cell (p:=⟨gB,0,none⟩) B.out.1).trans B.out.2);have Fq:=hid (HS.out.up d d.size);have Gs:=hid (d.mono hH);have Ja:=d.size;have hwk:IntKind.i64.wrap ((k:Int)+1)=(k:Int)+1:=kqo _ (by omega);have hkm:((k:Int) == -1)=false:=by rw[kqi];omega
 clear E J d;go_wp2_with fail;go_loopw [5,6] (λiv jv wr=>∃(i j:Nat) (R:List Bk),iv=.int .i64 i/\jv=.int .i64 j/\Hid (jV S l R i j)/\wr.ownsRow H 55 6 (.slice (some ⟨y,0,none⟩) l.length cl) l.length (R.flatMap Bk.cells)/\wr.cell? ⟨gB,0,none⟩=some (.slice (some ⟨g,0,none⟩) n c)/\Rd wr wr.heap.size (some ⟨g,0,none⟩) (S.flatMap aV)/\w.heap.size<=wr.heap.size/\Below H w wr) (λ_ jv _=>l.length-(intOf jv).toNat)
 case atStart=>exact⟨k,k+1,l,rfl,by go_num,HD.out,Gn.out,I.out,Fq.out,Ja,Gs.out⟩
 obtain⟨i,j,R,rfl,rfl,Y,a,K,M,hz,hB⟩:=hrel;have Fr:=Y.out;by_cases N:j<l.length
 .obtain ⟨Jc,eR⟩:=Fr.get N;obtain⟨s1,s2,s3,-,-⟩:=Fr;obtain⟨b,off,eA,hbw,q0,q1,q2,q3,q4,q5⟩:=RdB.at_ (show RdB wr wr.heap.size _ _ from Rd.of_own a) Jc;cases eA;simp only[kx5] at q0 q1 q2 q3 q4 q5;rw[eR] at q0 q1 q2 q3 q4 q5;obtain⟨m,Fp,Jb⟩:=Gy.out j N;have HK:=hid (λh=>Y.out.keep N h);have O:=hid (λh=>Y.out.del N h);obtain⟨x,hx⟩:=xq (l[j]);rw[hx] at q0 q1 q2 q3 q4 q5 Fp HK O;obtain⟨xa,xs,t,s,f,u⟩:=x;dsimp only at q0 q1 q2 q3 q4 q5 Fp;subst Fp;have J:di S ⟨(m:Int),xs,t,s,f,u⟩=(f==(S[m]?.getD false)):=by unfold di;dsimp only;rw[kqj]
  rw[J] at HK O;have hlm:(j:Int)<(l.length:Int):=by omega
  have hj0:(0:Int)<=(j:Int):=by omega
  have Gv:(0:Int)<=(i:Int):=by omega
  have Gb:(i:Int)<(l.length:Int):=by omega
  have hgB:=B.out.1;have Fu:=hid (hB.alloc (kzv hH hz) (.cells #[.int .i64 (m:Int),.int .i64 xs,.int .i64 t,.int .i64 s,.bool f,.int .u64 (u:Int)] 55));have BN:=hid (Bx.new wr 55 #[.int .i64 (m:Int),.int .i64 xs,.int .i64 t,.int .i64 s,.bool f,.int .u64 (u:Int)]);have Fx:=hid (a.alloc (.cells #[.int .i64 (m:Int),.int .i64 xs,.int .i64 t,.int .i64 s,.bool f,.int .u64 (u:Int)] 55));have Fo:=hid ((kq8 wr (.cells #[.int .i64 (m:Int),.int .i64 xs,.int .i64 t,.int .i64 s,.bool f,.int .u64 (u:Int)] 55) ⟨gB,0,none⟩ (by show gB<wr.heap.size;omega)).trans K);have Fs:=hid (Rd.more (Rd.alloc M (kqb _) (.cells #[.int .i64 (m:Int),.int .i64 xs,.int .i64 t,.int .i64 s,.bool f,.int .u64 (u:Int)] 55)) (show wr.heap.size<=(wr.alloc (.cells #[.int .i64 (m:Int),.int .i64 xs,.int .i64 t,.int .i64 s,.bool f,.int .u64 (u:Int)] 55)).heap.size by simp));have hgLw:=(a.lt y rfl).2;clear hx J K M a;go_upto_region 8 with (fail);obtain⟨wn,Ft⟩:∃wn,wr.alloc (.cells #[.int .i64 (m:Int),.int .i64 xs,.int .i64 t,.int .i64 s,.bool f,.int .u64 (u:Int)] 55)=wn:=⟨_,rfl⟩;rw[Ft] at Fu BN Fx Fo Fs |-;have hszn:wn.heap.size=wr.heap.size+1:=by rw[<-Ft];simp
  clear Ft q0 q1 q2 q3 q4 q5;have HQ:=hid (HC.out m xs t s f u wn Jb (by omega) Fo.out Fs.out);obtain⟨r,hr⟩:=xq ((f==(S[m]?.getD false)));rw[hr] at HQ HK O;clear hr;obtain⟨p0,p1,p2,p3,p4,p5,pf,Gt⟩:=BN.out.c6;go_wp2_with fail;refine HQ.out.mono ?_;rintro e w2 ⟨rfl,z⟩;have Gf:=hid (Fu.out.trans (z.mono (kzv hH (by omega))));have Eq:=hid (ae Fx.out z (kqb _));have Gi:=hid ((z.cell (p:=⟨gB,0,none⟩) (by show gB<wn.heap.size;omega)).trans Fo.out);have Fv:=hid (Fs.out.up z z.size);have bn2:=BN.out.up z Gt;have hz2:=z.size;clear z p0 p1 p2 p3 p4 p5 pf;obtain⟨p0,p1,p2,p3,p4,p5,pf,hgn2⟩:=bn2.c6;cases r
  .have HY:=hid (HK.out rfl);have C:w2.there y (i*6) (#[.int .i64 (m:Int),.int .i64 xs,.int .i64 t,.int .i64 s,.bool f,.int .u64 (u:Int)]:Array Value).size:=rp Eq.out (i*6) 6 (by omega);have Gg:(prog.info? 55).map (·.size)=some (#[.int .i64 (m:Int),.int .i64 xs,.int .i64 t,.int .i64 s,.bool f,.int .u64 (u:Int)]:Array Value).size:=Fj;have Gj:(#[.int .i64 (m:Int),.int .i64 xs,.int .i64 t,.int .i64 s,.bool f,.int .u64 (u:Int)]:Array Value).all (·.oneCell')=true:=by simp[Value.oneCell']
   have V:=hid (qF (Bk.cells ⟨(m:Int),xs,t,s,f,u⟩) (i*6) w2 _ Eq.out);rw[yk R i ⟨(m:Int),xs,t,s,f,u⟩ (by omega)] at V;have Ge:=hid ((kj2 y (Bk.cells ⟨(m:Int),xs,t,s,f,u⟩) (i*6) w2 ⟨gB,0,none⟩ (λh9 _=>absurd h9.symm U)).trans Gi.out);have Gd:=hid (iT Fv.out (λh9=>T h9.symm) (i*6) (Bk.cells ⟨(m:Int),xs,t,s,f,u⟩));have Ga:=hid (cP Fz (Bk.cells ⟨(m:Int),xs,t,s,f,u⟩) (o:=i*6) Gf.out);have G:=fU (g:=y) (Bk.cells ⟨(m:Int),xs,t,s,f,u⟩) w2 (i*6);obtain⟨cs,Z⟩:∃cs:Array Value,#[.int .i64 (m:Int),.int .i64 xs,.int .i64 t,.int .i64 s,.bool f,.int .u64 (u:Int)]=cs:=⟨_,rfl⟩;obtain⟨w3,X⟩:∃w3,w2.setCells y (i*6) (Bk.cells ⟨(m:Int),xs,t,s,f,u⟩)=w3:=⟨_,rfl⟩;have Gq:w2.setCells y (i*6) cs.toList=w3:=by rw[<-Z];exact X
   rw[X] at V Ge Gd Ga G;rw[Z] at C Gg Gj;clear X;go_wp2_with (refine kkj rfl _ _ _ rfl y (i*6) cs (by rfl) (by rw[<-Z];rfl) C Gg Gj ?_;rw[Gq]);go_roundw
   case rel=>exact⟨i+1,j+1,R.set i ⟨(m:Int),xs,t,s,f,u⟩,by go_num,by go_num,HY.out,V.out,Ge.out,Rd.more Gd.out (by rw[G];exact kqb _),by rw[G];omega,Ga.out⟩
   case measure=>simp[intOf];omega
  have HY:=hid (O.out rfl);go_wp2;go_roundw
  case rel=>exact⟨i,j+1,R,rfl,by go_num,HY.out,Eq.out,Gi.out,Fv.out,by omega,Gf.out⟩
  case measure=>simp[intOf];omega
 obtain⟨s1,s2,s3,s4,-⟩:=Fr;obtain⟨A9,c9,e9,hle,Gh⟩:=kI a;cases e9;have HRD:=hid Gh;have hicl:(i:Int)<=(cl:Int):=by omega
 have hill:(i:Int)<=(l.length:Int):=by omega
 have Gv:(0:Int)<=(i:Int):=by omega
 have hne:i≠cl:=by omega
 have hnec:¬ ((i:Int)=(cl:Int)):=by omega
 have Gp:j=l.length:=by omega
 have Gl:=hid (show ku S l=R.take i by rw[s4,Gp,kzj]);have Gr:=a.1;obtain⟨L,hL⟩:=xq ((Builtin.zeroCells (Value.cells (.agg #[.int .i64 0,.int .i64 0,.int .i64 0,.int .i64 0,.bool false,.int .u64 0])) (l.length-i)).toList);have Gc:L.length=(l.length-i)*6:=by rw[<-hL,pS];rfl
 have C:=rp a (i*6) L.length (by rw[Gc];omega);have hcl:=nG (P:=prog) wr 48 55 0 _ underlying48 yy L y (i*6) (l.length-i) (cl-i) hL (by omega)
  (λv hv=>by
   rw[<-hL] at hv;have:=pQ hv (by decide);simp[Value.cells] at this;rcases this with rfl|rfl|rfl<;>rfl)
  (λq hq=>(C q hq).1) (λq hq=>(C q hq).2)
 have Gw:=hid ((kj2 y L (i*6) wr ⟨gB,0,none⟩ (λh9 _=>absurd h9.symm U)).trans K);have Gx:=hid (iT M (λh9=>T h9.symm) (i*6) L);have Gm:=hid (cP Fz L (o:=i*6) hB);have F:=fU (g:=y) L wr (i*6);have Gz:Hid (Rd (wr.setCells y (i*6) L) wr.heap.size (some ⟨y,0,none⟩) ((R.take i).flatMap Bk.cells)):=hid λ_=>by
  refine⟨y,0,rfl,(a.lt y rfl).2,λq hq=>?_⟩;have hq6:q<i*6:=by have:=hq;rw[kC Bk.cells 6 Bk.len,kzd] at this;omega
  rw[kj2 y L (i*6) wr _ (λ_ _=>.inl (by show 0+q<i*6;omega))];have e1:=a.cellAt q (by omega);rw[kx5,e1];have Gu:q<(R.flatMap Bk.cells).length:=by rw[Gr];omega
  rw[kqm Gu];congr 1;simp only[kC Bk.cells 6 Bk.len,kkb]
 have Gb:(R.take i).length=i:=by rw[kzd];omega
 clear Gh hL Gc C a K M hB;go_wp2;go_ret;rw[Gl.out,Gb];exact⟨some ⟨y,0,none⟩,cl,rfl,Rd.more Gz.out (by rw[F];exact kqb _),Gw.out,Rd.more Gx.out (by rw[F];exact kqb _),by rw[F];have:=B.out.1;omega,Gm.out⟩
def tH (ws:List Nat) (S:List Bool) (b:Bk):En:=⟨b.at_,fR (wd ws b.at_.toNat) (S[b.at_.toNat]?.getD false)⟩
noncomputable def aN (ws:List Nat):List En:=if aF ws=0 then (ku (seenL ws) (aa ws)).map (tH ws (seenL ws)) else []
theorem sV(h1:aF ws=r)(h0:r≠0):aN ws=[]:=by unfold aN;rw[if_neg (by rw[h1];exact h0)]
theorem l7(S:List Bool)(l:List Bk):(ku S l).length<=l.length:=kxm _ _
theorem th{b:Bk}(h:b∈ku S l):b∈l:=(kzu.1 h).1
theorem xU(ws:List Nat)(S:List Bool)(l:List Bk)(hk:k<l.length):(l.take (k+1)).map (tH ws S)=(l.take k).map (tH ws S)++[tH ws S l[k]]:=by rw[kqq hk,kxu];rfl
theorem hp_ats(h:ag ws=0):∀k (b:k<(aa ws).length),∃m:Nat,(aa ws)[k].at_=(m:Int)/\m<ws.length:=by intro k b;obtain⟨hs,l,e,ha,f⟩:=al h;subst f;obtain⟨a,d,-,-,c,-⟩:=bC _ _ e (by omega) k b;exact⟨a,by rw[d];rfl,c⟩
theorem vl(A:Option Addr)(ws:List Nat)(c n:Nat)(w:World)(hn:ws.length=n)(hm:n<=9223372036854775807)(hr:RdW w w.heap.size A ws)(ho:∀x∈ws,x<18446744073709551616):
 Calls prog 141 #[.slice A n c] w λe w'=>dx w.heap.size (aF ws) (aN ws) e w'/\Below w.heap.size w w':=by
 subst hn;have HR:=hid hr;have HC:=hid (Bz A ws c ws.length w rfl hm hr ho);unfold xg at HC;have HO:=hid ho;clear hr ho;by_cases V:ag ws=0
 .obtain ⟨l,hl⟩:∃l,aa ws=l:=⟨_,rfl⟩;have P:=hid (λL cl W (h:RdW W W.heap.size A ws) (h2:RdB W W.heap.size L l)=>CL A L ws c cl ws.length l W rfl hm V hl h h2 HO.out);unfold RcRes at P;have Q:=hp_ats V;have Jm:=dl ws;rw[V,hl] at HC;rw[hl] at Q Jm;have Q:=hid Q;have Eq:=de ws (al V).1;have hlen:=Eq.2.1;have hlen1:=Eq.1;by_cases hz:aF ws=0
  .have HV:=hid (show aF ws=0/\aN ws=(ku (seenL ws) l).map (tH ws (seenL ws)) from ⟨hz,by unfold aN;rw[if_pos hz,hl]⟩);have Gb:=zd ws;obtain⟨i0,hi,Gv,Gm,Gd⟩:=kze bB;have HI:=hid hi;have Jj:=hid Gv;have Jg:=hid Gm;have Jl:=hid Gd;clear hi Gv Gm Gd;clear V hl Eq hz;generalize seenL ws=S at P HV Gb;have Gr:=hid (λ(A1:Option Addr) (cl T g U H:Nat) (W:World) h1 h2 h3 h4 h5 h6 h7=>rU A1 l S T g U ws.length cl H W Gb (by omega) Q.out h1 h2 h3 h4 h5 h6 h7);have Fo:=hid Gb;have Jp:=hid (λa m W=>od (wd ws a) m W (eX HO.out a));go_enter func141,ntmps141;go_wp2_with fail;refine HC.out.mono ?_;rintro e w1 ⟨⟨A1,c1,rfl,f⟩,o⟩;have E:=hid o;have J:=hid (HR.out.up o o.size);have D:=hid f;clear f o;go_wp2_with fail;refine (P.out A1 _ w1 J.out (show RdB _ _ _ _ from Rd.of_own D.out)).mono ?_;rintro e wE ⟨⟨-,g,U,rfl,s⟩|⟨h9,-⟩,z⟩
   .have I:=hid (E.out.trans (z.mono E.out.size));have Ja:=hid (J.out.up z z.size);have Gc:=hid (ae D.out z (kqb _));have HS:=hid s;have hgE:=s.lt g rfl;have Fq:=gK Gc.out s (by decide);have Fv:=D.out.lt;have Gm:=E.out.size;have Gd:=z.size;have Jk:=I.out.size;have h6:(Value.slice A1 l.length c1).ownBlock≠some wE.heap.size:=λh=>by
     have:=(Fv _ h).2;omega
    have h7:(Value.slice A1 l.length c1).ownBlock≠some g:=λh=>by
     rcases Fq with h8|h8
     .rw[h] at h8;cases h8
     exact h8 h
    clear s z Fq Fv;have HX:=hid (Bx.new wE 114 #[.slice (some ⟨g,0,none⟩) ws.length U]);have Gn:=hid (Gc.out.alloc (.cells #[.slice (some ⟨g,0,none⟩) ws.length U] 114));have Gi:=hid ((Rd.of_own HS.out).alloc (kqb _) (.cells #[.slice (some ⟨g,0,none⟩) ws.length U] 114));have Jc:=hid (Ja.out.alloc (kqb _) (.cells #[.slice (some ⟨g,0,none⟩) ws.length U] 114));have Z:=hid (I.out.alloc Jk (.cells #[.slice (some ⟨g,0,none⟩) ws.length U] 114));go_wp2_with fail;obtain⟨wX,Gg⟩:∃wX,wE.alloc (.cells #[.slice (some ⟨g,0,none⟩) ws.length U] 114)=wX:=⟨_,rfl⟩;have Gz:wX.heap.size=wE.heap.size+1:=by rw[<-Gg];simp
    rw[Gg] at HX Gn Gi Jc Z |-;clear Gg;have Fr:=hid (Rd.more Gi.out (show wE.heap.size<=wX.heap.size by omega));refine (Gr.out A1 c1 wE.heap.size g U w.heap.size wX Gn.out Z.out.size (by omega) HX.out.c1.1 Fr.out h6 h7).mono ?_;rintro e w3 ⟨A3,c3,rfl,Fw,Fz,Ft,Fp,Gs⟩;have N:=hid (Z.out.trans Gs);have Jq:=hid (HR.out.up N.out N.out.size);have Fy:=hid Fw;have Fs:=hid Fz;have Jo:=hid Ft;obtain⟨T,Gk⟩:=xq wE.heap.size;rw[Gk] at Fs Fp;have Ji:=l7 S l;have Jb:Hid (∀k (hk:k<(ku S l).length),∃m:Nat,(ku S l)[k].at_=(m:Int)/\m<ws.length):=hid (λk hk=>by
     obtain⟨j,hj,e⟩:=kqv (th (kqs hk));rw[<-e];exact Q.out j hj)
    have Gw:=hid (λk (hk:k<(ku S l).length)=>xU ws S (ku S l) hk);obtain⟨d,hd⟩:=xq (ku S l);rw[hd] at Fy Jb Gw Ji HV;simp only[hd,Gk];clear hd Fw Fz Ft Gs HX Gn Gi Jc Z Fr h6 h7 Gz Gk P Gr HC Gc D HS J Ja;go_wp2_with fail;go_loopw [7,34] (λv i wr=>∃k:Nat,k<=d.length/\i=.int .i64 k/\wr.ownsRow w3.heap.size 89 2 v (d.take k).length (((d.take k).map (tH ws S)).flatMap En.cells)/\Below w3.heap.size w3 wr) (λ_ i _=>d.length-(intOf i).toNat)
    case atStart=>exact⟨0,kqx _,rfl,kq1 _ _ _ _,kqk _ _⟩
    obtain⟨k,hk,rfl,t,hB⟩:=hrel;have hz:=hB.size;by_cases Gf:k<d.length
    .obtain ⟨b,off,rfl,hbw,q0,q1,q2,q3,q4,q5⟩:=RdB.at_ (Rd.below Fy.out hB) Gf;obtain⟨m,Gj,R⟩:=Jb.out k Gf;have G:=hid (Gw.out k Gf);obtain⟨x,hx⟩:=xq (d[k]);rw[hx] at q0 q1 q2 q3 q4 q5 Gj G;obtain⟨xa,xs,xk,xt,xm,xn⟩:=x;dsimp only at q0 q1 q2 q3 q4 q5 Gj;subst Gj;have Gt:tH ws S ⟨(m:Int),xs,xk,xt,xm,xn⟩=⟨(m:Int),fR (wd ws m) (S[m]?.getD false)⟩:=by unfold tH;dsimp only;rw[kqj]
     rw[Gt] at G;obtain⟨bW,oW,rfl,hbW,x0⟩:=RdW.at_ (Rd.below Jq.out hB) R;rw[<-bI] at x0;obtain⟨bS,oS,eA,hbS,M⟩:=Rd.at_flat fQ (Rd.below Jo.out hB) (by omega) (show m<S.length by rw[Fo.out];exact R);cases eA;have M:=M 0 (by omega);have M:wr.cell? ⟨g,m,none⟩=some (.bool (S[m]'(by rw[Fo.out];exact R))):=by simpa [aV] using M
     have Gy:S[m]'(by rw[Fo.out];exact R)=S[m]?.getD false:=by rw[kqm (by rw[Fo.out];exact R)];rfl
     rw[Gy] at M;have HQ:=hid (λW=>Jp.out m (S[m]?.getD false) W);obtain⟨y,hy⟩:=xq (S[m]?.getD false);rw[hy] at M G HQ;obtain⟨u,hu⟩:=xq (wd ws m);rw[hu] at x0 G HQ;obtain⟨v,hv⟩:=xq (fR u y);obtain⟨er,Gq⟩:=xq (nD u y);rw[hv] at G HQ;rw[Gq] at HQ;have z0:=(hB.cell (p:=⟨T,0,none⟩) Fp).trans Fs.out;have hlm:(k:Int)<(d.length:Int):=by omega
     have hmi:(m:Int)<(ws.length:Int):=by omega
     have hm0:(0:Int)<=(m:Int):=by omega
     have hk0:(0:Int)<=(k:Int):=by omega
     have Y:=hid (hB.alloc hz (.cells #[.int .i64 (m:Int),.int .i64 xs,.int .i64 xk,.int .i64 xt,.bool xm,.int .u64 (xn:Int)] 55));have BN:=hid (Bx.new wr 55 #[.int .i64 (m:Int),.int .i64 xs,.int .i64 xk,.int .i64 xt,.bool xm,.int .u64 (xn:Int)]);have Ge:=hid (t.alloc (.cells #[.int .i64 (m:Int),.int .i64 xs,.int .i64 xk,.int .i64 xt,.bool xm,.int .u64 (xn:Int)] 55));have Gl:=hid ((kq8 wr (.cells #[.int .i64 (m:Int),.int .i64 xs,.int .i64 xk,.int .i64 xt,.bool xm,.int .u64 (xn:Int)] 55) ⟨bW,oW+m,none⟩ (by show bW<wr.heap.size;omega)).trans x0);have Ga:=hid ((kq8 wr (.cells #[.int .i64 (m:Int),.int .i64 xs,.int .i64 xk,.int .i64 xt,.bool xm,.int .u64 (xn:Int)] 55) ⟨g,m,none⟩ (by show g<wr.heap.size;omega)).trans M);have K:=hid ((kq8 wr (.cells #[.int .i64 (m:Int),.int .i64 xs,.int .i64 xk,.int .i64 xt,.bool xm,.int .u64 (xn:Int)] 55) ⟨T,0,none⟩ (by show T<wr.heap.size;omega)).trans z0);clear hx Gt Gy hy hu hv Gq x0 M z0 t;go_upto_region 12 with (fail);obtain⟨wn,Gp⟩:∃wn,wr.alloc (.cells #[.int .i64 (m:Int),.int .i64 xs,.int .i64 xk,.int .i64 xt,.bool xm,.int .u64 (xn:Int)] 55)=wn:=⟨_,rfl⟩;rw[Gp] at Y BN Ge Gl Ga K |-;have hszn:wn.heap.size=wr.heap.size+1:=by rw[<-Gp];simp
     clear Gp q0 q1 q2 q3 q4 q5;obtain⟨p0,p1,p2,p3,p4,p5,pf,Jn⟩:=BN.out.c6;have x0:=Gl.out;have M:=Ga.out;have z0:=K.out;have gW:bW<wn.heap.size:=by omega
     have gS:g<wn.heap.size:=by omega
     have gZ:T<wn.heap.size:=by omega
     go_region_held3 (λX:World=>X.cell? ⟨bW,oW+m,none⟩=some (.int .u64 (u:Int))/\X.cell? ⟨T,0,none⟩=some (.slice (some ⟨g,0,none⟩) ws.length U)/\X.cell? ⟨g,m,none⟩=some (.bool y)/\X.cell? ⟨wr.heap.size,0,none⟩=some (.int .i64 (m:Int))) (go_keep)
      (first | (go_at_call 205;refine (HQ.out _).mono ?_;rintro e w5 ⟨rfl,F⟩;have m0:=(F.cell (p:=⟨bW,oW+m,none⟩) gW).trans x0;have m1:=(F.cell (p:=⟨T,0,none⟩) gZ).trans z0;have m2:=(F.cell (p:=⟨g,m,none⟩) gS).trans M;have m3:=(F.cell (p:=⟨wr.heap.size,0,none⟩) Jn).trans p0))
     have Gh:Below wn.heap.size wn w5:=(kqk _ _).drew.trans F;have C:=ae Ge.out Gh (kqb _);have O:=Y.out.trans (Gh.mono Y.out.size);have hz5:=O.size;have Gx:(d.take k).length=k:=by rw[kzd];omega
     have Fx:(d.take (k+1)).length=k+1:=by rw[kzd];omega
     rw[Gx] at C;have Jf:=hid Fx;have Fu:=hid C;have Jd:=hid O;clear x0 M z0 p0 p1 p2 p4 p5 pf m0 m1 m2 F Gh Gx Fx C O Ge Y BN Gl Ga K;go_wp2_with (at_builtin;refine kq9 _ rfl _ _ 26 rfl w3.heap.size 89 i0 _ 2 16 underlying26 HI.out Jj.out Jg.out Jl.out rfl (by decide) _ _ _ rfl (Fu.out.alloc _) ⟨_,0,none⟩ 1 1 [.int .i64 (m:Int),.int .u64 (v:Int)] rfl rfl (bn _ _ _) (by simp[Value.oneCell']) (by unfold maxLen;omega) (by omega) (by simp;omega) ?_;intro v1 w6 f Je _;have Jh:=am Jd.out (by omega) Fu.out Je);go_roundw
     case rel=>exact⟨k+1,by omega,by go_num,by rw[G.out,Jf.out,b9];exact f,Jh⟩
     case measure=>simp[intOf];omega
    rw[kzb (by omega)] at t;have B:wr.ownsRow w3.heap.size 89 2 u7 (aN ws).length ((aN ws).flatMap En.cells):=by rw[HV.out.2,kzl];exact t
    obtain⟨A4,c4,rfl⟩:=ap B;have Gu:=hid (ar B N.out.size);clear t B;go_wp2;go_ret2;exact⟨⟨A4,c4,by rw[HV.out.1];rfl,Gu.out⟩,N.out.trans (hB.mono N.out.size)⟩
   exfalso;rw[HV.out.1] at h9;exact absurd h9 (by decide)
  have HZ:=hid hz;clear V hl Eq hz;go_enter func141,ntmps141;go_wp2_with fail;refine HC.out.mono ?_;rintro e w1 ⟨⟨A1,c1,rfl,f⟩,o⟩;have E:=hid o;have J:=hid (HR.out.up o o.size);have D:=hid f;clear f o;go_wp2_with fail;refine (P.out A1 _ w1 J.out (show RdB _ _ _ _ from Rd.of_own D.out)).mono ?_;rintro e wE ⟨⟨h9,-⟩|⟨h9,rfl⟩,z⟩
  .exact absurd h9 HZ.out
  have I:=hid (E.out.trans (z.mono E.out.size));have H9:=hid h9;clear h9;go_wp2;go_ret2;exact⟨bH H9.out (sV H9.out (by decide)),I.out.alloc I.out.size _⟩
 have HZ:=hid (And.intro (vT V) V);obtain⟨r,hr⟩:=xq (ag ws);rw[hr] at HC HZ;have hn1:(r != 0)=true:=by rw[kqt,<-hr];exact V
 obtain⟨q,hq⟩:=xq ((aa ws).length);rw[hq] at HC;clear V hr hq;go_enter func141,ntmps141;go_wp2_with fail;refine HC.out.mono ?_;rintro e w1 ⟨⟨A1,c1,rfl,-⟩,o⟩;go_wp2;go_ret2;exact⟨bH HZ.out.1 (sV HZ.out.1 HZ.out.2),o⟩
end Go.Proofs.YtpcajamacpbjcaaGreat
