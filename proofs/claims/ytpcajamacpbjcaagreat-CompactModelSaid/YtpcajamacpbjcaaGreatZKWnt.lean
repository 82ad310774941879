/- Texts laid together: FrmF Wnt DelP Del DelW Wtd WtdW. -/
import Derived.Test.YtpcajamacpbjcaaGreatZKHeap
import Derived.Test.YtpcajamacpbjcaaGreatZKRch
import Derived.Lib.SliceRun
import Derived.Test.YtpcajamacpbjcaaGreatZKMove
set_option maxHeartbeats 16000000
set_option maxRecDepth 100000
set_option linter.all false
namespace Go.Proofs.YtpcajamacpbjcaaGreat
open Lib (hid)
open Go.RowKit
variable {a r:Int}{R l:List Bk}{S:List Bool}{ws:List Nat}{H c g j k n sz:Nat}{e:TypeId}{v:Value}{w w':World}
open Go.Proofs.Tryz
def uw (H:Nat) (ws:List Nat) (a:Int) (e:Ending) (w':World):Prop:=∃A c,e=.returned (.tuple #[.slice A (aO ws a).length c,.int .i64 (bU ws a)])/\w'.ownsRow H 55 6 (.slice A (aO ws a).length c) (aO ws a).length ((aO ws a).flatMap Bk.cells)
theorem iT(hr:bU ws a=r)(h0:r≠0):uw H ws a (.returned (.tuple #[.slice none 0 0,.int .i64 r])) w':=by
 subst hr;have:aO ws a=[]:=by simp[aO,h0]
 exact⟨none,0,by rw[this];rfl,by rw[this];exact kq3 _ _ _ _⟩
theorem wy(h0:bU ws a=0)(hl:aO ws a=l)(h:w'.ownsRow H 55 6 v l.length (l.flatMap Bk.cells)):uw H ws a (.returned (.tuple #[v,.int .i64 0])) w':=by obtain⟨A,c,rfl⟩:=aE h;exact⟨A,c,by rw[hl,h0],by rw[hl];exact h⟩
def yw (H:Nat) (ws:List Nat) (e:Ending) (w':World):Prop:=∃A c,e=.returned (.tuple #[.slice A (aa ws).length c,.int .i64 (af ws)])/\w'.ownsRow H 55 6 (.slice A (aa ws).length c) (aa ws).length ((aa ws).flatMap Bk.cells)
theorem kt(hr:af ws=r)(h0:r≠0):yw H ws (.returned (.tuple #[.slice none 0 0,.int .i64 r])) w':=by
 subst hr;have:aa ws=[]:=by simp[aa,h0]
 exact⟨none,0,by rw[this];rfl,by rw[this];exact kq3 _ _ _ _⟩
theorem yS(A:Option Addr)(ws:List Nat)(c n:Nat)(a:Int)(w:World)(hn:ws.length=n)(hm:n<=9223372036854775807)(hr:RdW w w.heap.size A ws)(ho:∀x∈ws,x<18446744073709551616):
 Calls prog 65 #[.slice A n c,.int .i64 a] w λe w'=>uw w.heap.size ws a e w'/\Below w.heap.size w w':=by
 subst hn;have HR:=hid hr;have HO:=hid ho;clear hr ho;cases y:al (ws.length:Int)
 .have W:=hid (bA y);have M:=hid (eZ (a:=a) y);clear y;go_enter func65,ntmps65;go_wp2_with fail;refine (aF A ws.length c w hm).mono ?_;rintro e C ⟨rfl,rfl⟩;rw[W.out];go_wp2;go_ret2;exact⟨iT M.out (by omega),kql _ _⟩
 have W:=hid (aW y);have HS:=hid y;have hb:=jG (aW y);obtain⟨h,hb2,K⟩:=hb;have Je:=hid K;clear y hm K;by_cases d:128<=a/\a<=(ws.length:Int)/\a%2=0
 .obtain ⟨a1,a2,a3⟩:=d;have N:Hid (eP ws.length a=false):=hid (by
   simp only[eP,kzw,kqh,kqq];omega)
  have Z:(a%2 != 0)=false:=by rw[kqq];exact a3
  have d1:decide (a<128)=false:=by rw[kqh];omega
  have d2:decide ((ws.length:Int)<a)=false:=by rw[kqh];omega
  have Jf:=hid a3;obtain⟨Q,rfl⟩:=kq5 (show 0<=a by omega);have d2n:decide (ws.length<Q)=false:=by rw[kqh];omega
  clear a3;obtain⟨i2,S,F,r,G⟩:=kzt kL;have HJ:=hid S;have Jg:=hid F;have Jc:=hid r;have Jd:=hid G;clear S F r G;go_enter func65,ntmps65;go_wp2_with fail;refine (aF A ws.length c w (by omega)).mono ?_;rintro e C ⟨rfl,rfl⟩;rw[W.out];go_wp2_with fail;go_loopw [1,7] (λp v wr=>∃(i:Nat) (b:List Bk),p=.int .i64 i/\Q<=i/\i<=ws.length/\i%2=0/\blocks ws Q=(blocks ws i).map (b ++ ·)/\b.length<=i/\wr.ownsRow w.heap.size 55 6 v b.length (b.flatMap Bk.cells)/\Below w.heap.size w wr) (λp _ _=>ws.length-(intOf p).toNat)
  case atStart=>exact⟨Q,[],rfl,kqg _,by omega,by have:=Jf.out;omega,by simp,by simp,kq3 _ _ _ _,kql _ _⟩
  obtain⟨i,b,rfl,q1,q2,q3,q4,q5,j,E⟩:=hrel;have U:=E.size;have Ja:=hid q3;have t:=hid q4;clear q4;by_cases L:i<ws.length
  .have s:i+1<ws.length:=by have:=Je.out;omega
   clear q3;have ik1:(i:Int)<(ws.length:Int):=by omega
   cases g:stands ws i
   .have HN:=hid (dV HS.out N.out (by rw[kqk,t.out,cF L g];rfl));obtain⟨I,P⟩:=z9 g;have k:=hid (l7 A ws c ws.length i wr rfl (by omega) s (HR.out.up E U) HO.out);rw[I,P] at k;unfold lN Bk.val at k;dsimp only at k;clear g I P j;go_wp2_with fail;refine k.out.mono ?_;rintro e C ⟨rfl,o⟩;have h:=E.trans (o.mono U);go_wp2;go_ret2;exact⟨iT HN.out (by omega),h.alloc h.size _⟩
   have H:=aC g;obtain⟨I,P⟩:=wu g;have k:=hid (l7 A ws c ws.length i wr rfl (by omega) s (HR.out.up E U) HO.out);rw[I,P] at k;have B:=hid (show blocks ws Q=(blocks ws (i+szAt ws i)).map ((b++[bkAt ws i]) ++ ·) by
    rw[t.out,aG L g];cases blocks ws (i+szAt ws i)<;>simp)
   have O:=hid (bP Bk.cells b (bkAt ws i));have q:=aV ws i;obtain⟨x,hx⟩:=xq (bkAt ws i);obtain⟨z,J⟩:=xq (szAt ws i);rw[hx] at k B O q;rw[J] at B H q;have HX:=hid hx;obtain⟨Y,xs,X,R,V,T⟩:=x;dsimp only at q;subst q;unfold Bk.val at k;dsimp only at k;obtain⟨z1,z2,z3⟩:=H;have Eq:=hid z2;clear g I P hx J z2;go_wp2_with fail;refine k.out.mono ?_;rintro e C ⟨rfl,o⟩;have h:=E.trans (o.mono U);have f:=aj j o (kqg _);have r:=h.size;go_wp2_with (at_builtin;refine kzn _ rfl _ _ 48 rfl w.heap.size 55 i2 _ 6 48 underlying48 HJ.out Jg.out Jc.out Jd.out rfl (by decide) _ _ _ rfl ((f.alloc _).alloc _) ⟨_,0,none⟩ 1 1 [.int .i64 Y,.int .i64 (z:Int),.int .i64 X,.int .i64 R,.bool V,.int .u64 (T:Int)] rfl rfl (kU _ _ _ (kqn _ _)) (by simp[Value.oneCell']) (by unfold maxLen;omega) (by omega) (by simp;omega) ?_;intro v1 w2 D u _;have m:Bx w2 C.heap.size 55 #[.int .i64 Y,.int .i64 (z:Int),.int .i64 X,.int .i64 R,.bool V,.int .u64 (T:Int)]:=((Bx.new C 55 _).alloc _).grown u (pL f);have Jb:=aw (h.alloc r (.cells #[.int .i64 Y,.int .i64 (z:Int),.int .i64 X,.int .i64 R,.bool V,.int .u64 (T:Int)] 55)) (by simp;omega) (f.alloc _) u;have hc1:w2.cell? ⟨C.heap.size,1,none⟩=some (.int .i64 (z:Int)):=m.cell 1;have hf1:=m.frozen 1;have hl1:=m.lt;clear u m);go_roundw
   case rel=>exact⟨i+z,b++[⟨Y,(z:Int),X,R,V,T⟩],by rw[kju],by omega,by omega,by have:=Ja.out;have:=Eq.out;omega,B.out,by simp;omega,by rw[O.out,kqw];exact D,Jb⟩
   case measure=>simp[intOf];omega
  have S:i=ws.length:=by omega
  have HD:=hid (cj HS.out N.out (l:=b) (by rw[kqk,t.out,ay (by omega)];simp));clear S q3;go_wp2;go_ret2;exact⟨wy HD.out.1 HD.out.2 j,E⟩
 have M:=hid (iW HS.out (ny d));go_enter func65,ntmps65;go_wp2_with fail;refine (aF A ws.length c w (by omega)).mono ?_;rintro e C ⟨rfl,rfl⟩;rw[W.out];by_cases h1:a<128
 .clear d;go_wp2;go_ret2;exact⟨iT M.out (by omega),kql _ _⟩
 by_cases h2:(ws.length:Int)<a
 .clear d;go_wp2;go_ret2;exact⟨iT M.out (by omega),kql _ _⟩
 have Z:(a%2 != 0)=true:=by rw[kqt];omega
 have d1:decide (a<128)=false:=by rw[kqh];omega
 have d2:decide ((ws.length:Int)<a)=false:=by rw[kqh];omega
 have a0:0<=a:=by omega
 clear d;go_wp2;go_ret2;exact⟨iT M.out (by omega),kql _ _⟩
theorem D6(A:Option Addr)(ws:List Nat)(c n:Nat)(w:World)(hn:ws.length=n)(hm:n<=9223372036854775807)(I:RdW w w.heap.size A ws)(ho:∀x∈ws,x<18446744073709551616):
 Calls prog 62 #[.slice A n c] w λe w'=>yw w.heap.size ws e w'/\Below w.heap.size w w':=by
 subst hn;have HR:=hid I;have HO:=hid ho;have Jh:=hid (yS A ws c ws.length 128 w rfl hm I ho);clear I ho;cases E:al (ws.length:Int)
 .have HI:=hid (bA E);have HE:=hid (mQ E);clear E;go_enter func62,ntmps62;go_wp2_with fail;refine (aF A ws.length c w hm).mono ?_;rintro e M ⟨rfl,rfl⟩;rw[HI.out];go_wp2;go_ret2;exact⟨kt HE.out (by omega),kql _ _⟩
 have HI:=hid (aW E);obtain⟨Jg,H,Jc⟩:=fP ws E;have HS:=hid E;clear E Jc;go_enter func62,ntmps62;go_wp2_with fail;refine (aF A ws.length c w hm).mono ?_;rintro e M ⟨rfl,rfl⟩;rw[HI.out];go_wp2_with fail;refine Jh.out.mono ?_;rintro e M ⟨⟨A1,c1,rfl,p⟩,f⟩;have F:RdB M M.heap.size A1 (aO ws 128):=Rd.of_own p;have o:=f.size;have Q:=gu ws 128;have a:Hid (bU ws 128=0->al (ws.length:Int)=true/\blocks ws 128=some (aO ws 128)):=hid BT;have G:Hid (∀r,bU ws 128=r->r≠0->af ws=r):=hid (λ_ h h0=>uH h h0);obtain⟨l,hl⟩:=xq (aO ws 128);rw[hl] at F p Q a |-;have Ja:=hid F;have Ji:=hid p;obtain⟨r,I⟩:=xq (bU ws 128);have Jf:=hid I;rw[I] at a |-;clear I F p hl;by_cases j:r=0
 .subst j;have C:=hid (a.out rfl).2;clear a G;go_wp2_with fail;go_loopw [26] (λi wr=>∃k:Nat,k<=l.length/\i=.int .i64 k/\Hid ((l.take k).all (dm ws)=true)/\Below M.heap.size M wr) (λi _=>l.length-(intOf i).toNat)
  case atStart=>exact⟨0,kqy _,rfl,rfl,kql _ _⟩
  obtain⟨k,hk,rfl,P,D⟩:=hrel;have hz:=D.size;by_cases s:k<l.length
  .obtain ⟨b,off,rfl,hbw,q0,q1,q2,q3,q4,q5⟩:=RdB.at_ (Ja.out.below D) s;have u:=hid (λh=>gG C.out (by omega) s h);have J:=hid (λh=>tT s P.out h);have L:=hid (λh=>qP HS.out C.out (yB s h));obtain⟨x,hx⟩:=xq (l[k]);rw[hx] at q0 q1 q2 q3 q4 q5 u J L;have v:=hid (λh=>iK (ws:=ws) (b:=x) h);have O:=hid (λh=>dC (ws:=ws) (b:=x) h);have X:tyA x=96+2*x.typ.toNat:=rfl;rw[X] at v;obtain⟨xa,xs,xk,xt,xm,xn⟩:=x;dsimp only at q0 q1 q2 q3 q4 q5 u v;have hlm:(k:Int)<(l.length:Int):=by omega
   clear hx X;have z:=Bx.new wr 55 #[.int .i64 xa,.int .i64 xs,.int .i64 xk,.int .i64 xt,.bool xm,.int .u64 (xn:Int)];by_cases d:xk=1
   .obtain ⟨t0,t8⟩:=u.out d;obtain⟨t,rfl⟩:=kq5 t0;have y:=hid (v.out d);simp only[kqk] at y;subst d;have HC:=hid (λW (h:RdW W W.heap.size A ws)=>rO A ws c ws.length t W rfl (by omega) Jg (by omega) h HO.out);have hz1w:=o;have Jd:=hid ((((HR.out.up f o).up D hz).alloc (kqg _) (.cells #[.int .i64 xa,.int .i64 xs,.int .i64 1,.int .i64 (t:Int),.bool xm,.int .u64 (xn:Int)] 55)).more (B':=(wr.alloc (.cells #[.int .i64 xa,.int .i64 xs,.int .i64 1,.int .i64 (t:Int),.bool xm,.int .u64 (xn:Int)] 55)).heap.size) (by simp));obtain⟨T,R⟩:=xq (wd ws (96+2*t));obtain⟨Z,S⟩:=xq (wd ws (96+2*t+1));rw[R,S] at HC y;clear z R S v O u;go_wp2_with fail;refine (HC.out _ Jd.out).mono ?_;rintro e w2 ⟨⟨A2,c2,rfl,V,U⟩,q⟩;rw[kqn] at q;have Y:=Bx.of_new q;have H:=D.trans ((au q).mono hz);obtain⟨c0,c1',c2',c3,c4,c5,cf,cz⟩:=Y.c6;have K:=hid H;clear V U Y q H cf;obtain⟨ok,N⟩:=xq (bN T Z);obtain⟨m,B⟩:=xq ((aX T Z).length);have hm8:m<=255:=by
     rw[<-B];unfold aX;split
     .rw[ei];have:=kz3 T (show 0<256 by omega);omega
     simp
    rw[N,B] at y |-;clear N B;cases ok
    .have HB:=hid (L.out (by rw[y.out];rfl));go_wp2;go_ret2;exact⟨kt HB.out (by omega),f.trans (K.out.mono o)⟩
    rw[kzx] at y;have Jb:((aP m:Nat):Int)=((m:Int)+3)/2*2:=by unfold aP;omega
    rw[Jb] at y;by_cases g:xs=((m:Int)+3)/2*2
    .have Je:(xs != ((m:Int)+3)/2*2)=false:=by rw[kqq];exact g
     have HY:=hid (J.out (by rw[y.out,kqx];exact g));clear g;go_wp2;go_roundw
     case rel=>exact⟨k+1,by omega,by go_num,HY.out,K.out⟩
     case measure=>simp[intOf];omega
    have Je:(xs != ((m:Int)+3)/2*2)=true:=by rw[kqt];exact g
    have HB:=hid (L.out (by rw[y.out,kqi];exact g));clear g;go_wp2;go_ret2;exact⟨kt HB.out (by omega),f.trans (K.out.mono o)⟩
   have hk2:(xk != 1)=true:=by rw[kqt];exact d
   have HY:=hid (J.out (O.out d));clear d z;go_wp2;go_roundw
   case rel=>exact⟨k+1,by omega,by go_num,HY.out,D.alloc hz _⟩
   case measure=>simp[intOf];omega
  have HP:=hid (eV HS.out C.out (by have:=P.out;rwa [kzg (by omega)] at this));go_wp2;go_ret2;exact⟨⟨A1,c1,by rw[HP.out.1,HP.out.2];rfl,by rw[HP.out.2];exact aj Ji.out D (kqg _)⟩,f.trans (D.mono o)⟩
 have hn1:(r != 0)=true:=by rw[kqt];exact j
 have HN:=hid (G.out r Jf.out j);have Eq:=hid j;clear j a G;go_wp2;go_ret2;exact⟨kt HN.out Eq.out,f⟩
def dS (S:List Bool) (b:Bk):Bool:=b.mark==(S[b.at_.toNat]?.getD false)
theorem yd(gB g c n m:Nat)(S:List Bool)(xs xk xt:Int)(xm:Bool)(xn:Nat)(w:World)(hS:S.length=n)(hm:m<n)(hB:gB<w.heap.size)(hbox:w.cell? ⟨gB,0,none⟩=some (.slice (some ⟨g,0,none⟩) n c))(h:Rd w w.heap.size (some ⟨g,0,none⟩) (S.flatMap br)):
 Calls prog 204 #[.agg #[.int .i64 (m:Int),.int .i64 xs,.int .i64 xk,.int .i64 xt,.bool xm,.int .u64 (xn:Int)],.pointer (some ⟨gB,0,none⟩)] w λe w'=>e=.returned (.bool (xm==(S[m]?.getD false)))/\Below w.heap.size w w':=by
 have hmi:(m:Int)<(n:Int):=by omega
 have hm0:(0:Int)<=(m:Int):=by omega
 obtain⟨b,off,j,i,d⟩:=Rd.at_flat ft h (by omega) (show m<S.length by omega);cases j;have a:=d 0 (by omega);have a:w.cell? ⟨g,m,none⟩=some (.bool (S[m]'(by omega))):=by simpa [br] using a
 rw[show S[m]?.getD false=S[m]'(by omega) by rw[kqj (by omega)];rfl];obtain⟨y,f⟩:=xq (S[m]'(show m<S.length by omega));rw[f] at a |-;have q0:=(kq4 w (.cells #[.int .i64 (m:Int),.int .i64 xs,.int .i64 xk,.int .i64 xt,.bool xm,.int .u64 (xn:Int)] 55) ⟨g,m,none⟩ i).trans a;have q1:=(kq4 w (.cells #[.int .i64 (m:Int),.int .i64 xs,.int .i64 xk,.int .i64 xt,.bool xm,.int .u64 (xn:Int)] 55) ⟨gB,0,none⟩ hB).trans hbox;clear d h f a hbox;go_enter func204,ntmps204;go_wp2_with fail;go_quiet (fail);go_wp2;go_ret;exact⟨rfl,jK ((kql _ _).alloc (kqg _) _) _⟩
def iB (S:List Bool) (l:List Bk) (k:Nat):Prop:=∀j,j<k->dS S (gk l j)=false
theorem iB.zero(S:List Bool)(l:List Bk):iB S l 0:=λj h=>absurd h (by omega)
theorem iB.succ(h:iB S l k)(h1:dS S (gk l k)=false):iB S l (k+1):=λj hj=>by
 rcases kq9 j k with a|a
 .exact h j a
 .have:j=k:=by omega
  subst this;exact h1
def Hj (S:List Bool) (l:List Bk) (e:Ending):Prop:=(e=.returned (.int .i64 (-1))/\iB S l l.length)\/∃k:Nat,k<l.length/\e=.returned (.int .i64 (k:Int))/\iB S l k/\dS S (gk l k)=true
theorem vp(A:Option Addr)(l:List Bk)(S:List Bool)(gB g c n cl:Nat)(w:World)(hS:S.length=n)(hl:l.length<=2048)(hat:∀k (hk:k<l.length),∃m:Nat,l[k].at_=(m:Int)/\m<n)(hrl:RdB w w.heap.size A l)(j:gB<w.heap.size)(o:w.cell? ⟨gB,0,none⟩=some (.slice (some ⟨g,0,none⟩) n c))(h:Rd w w.heap.size (some ⟨g,0,none⟩) (S.flatMap br)):
 Calls prog 251 #[.slice A l.length cl,.func (.func 204) #[] #[.pointer (some ⟨gB,0,none⟩)]] w λe w'=>Hj S l e/\Below w.heap.size w w':=by
 have Y:=hid hrl;have q:=hid (And.intro j o);have Z:=hid h;have E:=hid hat;have T:=hid (λm xs B D u C W R U V X=>yd gB g c n m S xs B D u C W hS R U V X);clear hrl j o h hat;go_enter func251,ntmps251;go_wp2_with fail;go_loopw [8] (λi wr=>∃k:Nat,k<=l.length/\i=.int .i64 k/\Hid (iB S l k)/\Below w.heap.size w wr) (λi _=>l.length-(intOf i).toNat)
 case atStart=>exact⟨0,kqy _,rfl,iB.zero S l,kql _ _⟩
 obtain⟨k,hk,rfl,s,j⟩:=hrel;have Q:=j.size;by_cases f:k<l.length
 .obtain ⟨b,off,rfl,hbw,N,L,I,O,P,J⟩:=RdB.at_ (Rd.below Y.out j) f;obtain⟨m,t,F⟩:=E.out k f;have d:=hid (λh=>s.out.succ h);have a:=hid (show ∀r,dS S (gk l k)=r->Hj S l (.returned (.int .i64 (k:Int)))\/r=false from λr z=>by
   cases r
   .exact .inr rfl
   exact .inl (.inr ⟨k,f,rfl,s.out,z⟩))
  rw[bB l k f] at d a;obtain⟨x,K⟩:=xq (l[k]);rw[K] at N L I O P J t d a;obtain⟨xa,xs,B,D,u,C⟩:=x;dsimp only at N L I O P J t;subst t;have y:dS S ⟨(m:Int),xs,B,D,u,C⟩=(u==(S[m]?.getD false)):=by unfold dS;dsimp only;rw[kqk]
  rw[y] at d a;have hlm:(k:Int)<(l.length:Int):=by omega
  have hk0:(0:Int)<=(k:Int):=by omega
  have M:=hid (T.out m xs B D u C wr F (by have:=q.out.1;omega) ((j.cell (p:=⟨gB,0,none⟩) q.out.1).trans q.out.2) (Z.out.up j Q));obtain⟨r,z⟩:=xq ((u==(S[m]?.getD false)));rw[z] at M d a;clear K z y;go_wp2_with fail;refine M.out.mono ?_;rintro e w2 ⟨rfl,G⟩;have v:=j.trans (G.mono Q);cases r
  .have H:=hid (d.out rfl);go_wp2;go_roundw
   case rel=>exact⟨k+1,by omega,by go_num,H.out,v⟩
   case measure=>simp[intOf];omega
  have H:=hid ((a.out true rfl).resolve_right (by decide));go_wp2;go_ret;exact⟨H.out,v⟩
 obtain rfl:k=l.length:=by omega
 go_wp2;go_ret;exact⟨.inl ⟨rfl,s.out⟩,j⟩
def Il (xs:List Value):Nat->List Value->List Value
 | _,[]=>xs
 | o,v::vs=>Il (xs.set o v) (o+1) vs
theorem sT(pre:List Value):∀(a b:List Value) (o:Nat),Il (pre++b) (pre.length+o) a=pre++Il b o a:=by
 intro a
 induction a with
 | nil=>intro b o;rfl
 | cons v a ih =>intro b o;simp only[Il];rw[kkf _ _ (by omega),show pre.length+o-pre.length=o by omega,kjz,ih]
theorem xZ:∀(l:List Bk) (k:Nat) (x:Bk),k<l.length->Il (l.flatMap Bk.cells) (k*6) x.cells=(l.set k x).flatMap Bk.cells:=by
 intro l
 induction l with
 | nil=>intro k x h;simp at h
 | cons b l ih =>
  intro k x h;cases k with
  | zero=>rfl
  | succ k =>have a:=ih k x (by simpa using h);rw[kzy,kqd,kzy,<-a,show (k+1)*6=b.cells.length+k*6 by show (k+1)*6=6+k*6;omega,sT]
theorem qv :∀(a:List Value) (o:Nat) (w:World) (xs:List Value),w.ownsRow H e sz (.slice (some ⟨g,0,none⟩) n c) n xs->(w.setCells g o a).ownsRow H e sz (.slice (some ⟨g,0,none⟩) n c) n (Il xs o a):=by
 intro a
 induction a with
 | nil=>intro o w xs h;exact h
 | cons v a ih=>intro o w xs h;exact ih (o+1) _ _ (h.stored o v).1
theorem iP{B b o:Nat}{cs:List Value}(h:Rd w B (some ⟨b,o,none⟩) cs)(hne:b≠g)(o':Nat)(vs:List Value):Rd (w.setCells g o' vs) B (some ⟨b,o,none⟩) cs:=by intro i;obtain⟨b',off,e,c,d⟩:=h i;cases e;refine⟨b,o,rfl,c,λj f=>?_⟩;rw[kj8 g vs o' w _ (λa _=>absurd a hne)];exact d j f
theorem nQ{P:Program}(w:World)(t e ty:TypeId)(z:Value)(ht:P.underlying t=some (.slice e))(hv:∀w,(zeroValue e).run P w=.ok z w)(L:List Value)(b o n c:Nat)(hL:(Builtin.zeroCells z.cells n).toList=L)(hn:0<n)(h1:∀v∈L,v.oneCell'=true)(hc:∀j,j<L.length->(w.cell? ⟨b,o+j,none⟩).isSome=true)(hf:∀j,j<L.length->w.frozen? ⟨b,o+j,none⟩=false):
 (Builtin.clear_ #[t] ty #[.slice (some ⟨b,o,none⟩) n c]).run P w=.ok (.tuple #[]) (w.setCells b o L):=by have a:=Go.run_storeCells_cells (P:=P) b o L 0 w (by simpa using hc) (by simpa using hf) h1;simp only[kxd] at a;obtain⟨m,rfl⟩:∃m,n=m+1:=⟨n-1,by omega⟩;simp[Builtin.clear_,run_underlying ht,hv,hL,a]
def lf (S:List Bool) (l:List Bk):List Bk:=l.filter λb=>!dS S b
theorem rC(h:iB S l l.length):lf S l=l:=by unfold lf;rw[List.filter_eq_self];intro b c;obtain⟨k,a,rfl⟩:=kqu c;have:=h k a;rw[bB l k a] at this;simp[this]
theorem zd(h:iB S l k)(hk:k<=l.length):lf S (l.take k)=l.take k:=by refine rC λj a=>?_;rw[kq6] at a;have:=h j (by omega);rw[bB _ _ (by omega)] at this;rw[bB _ _ (by rw[kq6];omega),kk5];exact this
theorem mP(hk:k<l.length):lf S (l.take (k+1))=lf S (l.take k)++(if dS S l[k]=true then [] else [l[k]]):=by unfold lf;rw[kqp hk,kjl];congr 1;cases a:dS S l[k]<;>simp[a]
def jH (S:List Bool) (l R:List Bk) (k j:Nat):Prop:=k<j/\j<=l.length/\R.length=l.length/\R.take k=lf S (l.take j)/\R.drop j=l.drop j
theorem jH.get(h:jH S l R k j)(hj:j<l.length):∃b:j<R.length,R[j]=l[j]:=by
 obtain⟨h1,b,h3,h4,c⟩:=h;refine⟨by omega,?_⟩;have a:(R.drop j)[0]? = R[j]?:=by simp
 have d:(l.drop j)[0]? = l[j]?:=by simp
 rw[c,d,kqj hj,kqj (by omega)] at a;injection a with a;exact a.symm
theorem jH.drop1(h:jH S l R k j)(_hj:j<l.length):R.drop (j+1)=l.drop (j+1):=by have:=congrArg (List.drop 1) h.2.2.2.2;rwa [kxz,kxz] at this
theorem jH.first(hk:k<l.length)(h:iB S l k)(h1:dS S (gk l k)=true):jH S l l k (k+1):=by refine⟨by omega,by omega,rfl,?_,rfl⟩;rw[bB l k hk] at h1;rw[mP hk,zd h (by omega),if_pos h1,kz1]
theorem jH.del(h:jH S l R k j)(hj:j<l.length)(h1:dS S l[j]=true):jH S l R k (j+1):=by refine⟨by have:=h.1;omega,by omega,h.2.2.1,?_,h.drop1 hj⟩;rw[mP hj,if_pos h1,kz1];exact h.2.2.2.1
theorem jH.keep(h:jH S l R k j)(hj:j<l.length)(h1:dS S l[j]=false):jH S l (R.set k l[j]) (k+1) (j+1):=by
 obtain⟨d,e,b,a,c⟩:=h;refine⟨by omega,by omega,by rw[kze];exact b,?_,?_⟩
 .rw[mP hj,if_neg (by rw[h1];simp),<-a,kqp (by rw[kze];omega),List.getElem_set_self,List.take_set_of_le (kqg _)]
 rw[List.drop_set_of_lt (by omega)];exact jH.drop1 (S:=S) ⟨d,e,b,a,c⟩ hj
theorem pp{z:Array Value}(h:v∈(Builtin.zeroCells z n).toList)(h0:0<z.size):v∈z.toList:=by simp only[Builtin.zeroCells,Array.toList_map,kzi] at h;obtain⟨i,-,rfl⟩:=h;have a:i%z.size<z.size:=kz3 _ h0;rw[getElem!_pos z _ a];exact Array.getElem_mem_toList a
theorem pD(z:Array Value)(n:Nat):(Builtin.zeroCells z n).toList.length=n*z.size:=by simp[Builtin.zeroCells]
theorem rM{xs:List Value}(h:w.ownsRow H e sz (.slice (some ⟨g,0,none⟩) n c) n xs)(o k:Nat)(hk:o+k<=n*sz):w.there g o k:=λj hj =>
 ⟨by rw[h.cellAt (o+j) (by omega),kqj (by have:=h.1;omega)];rfl,h.frozenAt (o+j)⟩
theorem Bn(w:World):(zeroValue 55).run prog w=.ok (.agg #[.int .i64 0,.int .i64 0,.int .i64 0,.int .i64 0,.bool false,.int .u64 0]) w:=by kernel_rfl
theorem Ft:(prog.info? 55).map (·.size)=some 6:=by kernel_rfl
theorem sL(A:Option Addr)(l:List Bk)(S:List Bool)(gB g c n cl H:Nat)(w:World)(hS:S.length=n)(hl:l.length<=2048)(hat:∀k (hk:k<l.length),∃m:Nat,l[k].at_=(m:Int)/\m<n)(a:w.ownsRow H 55 6 (.slice A l.length cl) l.length (l.flatMap Bk.cells))(hH:H<=w.heap.size)(X:gB<w.heap.size)(D:w.cell? ⟨gB,0,none⟩=some (.slice (some ⟨g,0,none⟩) n c))(h:Rd w w.heap.size (some ⟨g,0,none⟩) (S.flatMap br))(Jm:(Value.slice A l.length cl).ownBlock≠some gB)(Jv:(Value.slice A l.length cl).ownBlock≠some g):
 Calls prog 203 #[.slice A l.length cl,.func (.func 204) #[] #[.pointer (some ⟨gB,0,none⟩)]] w λe w'=>∃A' c',e=.returned (.slice A' (lf S l).length c')/\RdB w' w'.heap.size A' (lf S l)/\w'.cell? ⟨gB,0,none⟩=some (.slice (some ⟨g,0,none⟩) n c)/\Rd w' w'.heap.size (some ⟨g,0,none⟩) (S.flatMap br)/\gB<w'.heap.size/\Below H w w':=by
 have Jq:=hid (vp A l S gB g c n cl w hS hl hat (Rd.of_own a) X D h);unfold Hj at Jq;have O:=hid a;have B:=hid (And.intro X D);have HS:=hid h;have Kc:=hid hat;have HG:=hid (And.intro Jm Jv);have HC:=hid (λm xs u s f t W hm h1 h2 h3=>yd gB g c n m S xs u s f t W hS hm h1 h2 h3);clear a X D h hat Jm Jv;go_enter func203,ntmps203;go_wp2_with fail;refine Jq.out.mono ?_;rintro e w1 ⟨⟨rfl,I⟩|⟨k,hk,rfl,I,F⟩,d⟩
 .have HR:=hid ((Rd.of_own O.out).up d d.size);have G:=hid ((d.cell (p:=⟨gB,0,none⟩) B.out.1).trans B.out.2);have Jh:=hid (HS.out.up d d.size);have HE:=hid (rC I);have hz:=d.size;have Km:=d.mono hH;clear I;go_wp2;go_ret;rw[HE.out];exact⟨A,cl,rfl,HR.out,G.out,Jh.out,by have:=B.out.1;omega,Km⟩
 have HD:=hid (jH.first hk I F);obtain⟨y,cL,eL⟩:=kA O.out (by omega);cases eL;have Jr:=lX O.out;have U:y≠gB:=λh=>HG.out.1 (by rw[h];rfl);have T:y≠g:=λh=>HG.out.2 (by rw[h];rfl);have Ki:=hid (aj O.out d (kqg _));have G:=hid ((d.cell (p:=⟨gB,0,none⟩) B.out.1).trans B.out.2);have Jh:=hid (HS.out.up d d.size);have Kk:=hid (d.mono hH);have Kr:=d.size;have hwk:IntKind.i64.wrap ((k:Int)+1)=(k:Int)+1:=kqr _ (by omega);have hkm:((k:Int) == -1)=false:=by rw[kqi];omega
 clear I F d;go_wp2_with fail;go_loopw [5,6] (λiv jv wr=>∃(i j:Nat) (R:List Bk),iv=.int .i64 i/\jv=.int .i64 j/\Hid (jH S l R i j)/\wr.ownsRow H 55 6 (.slice (some ⟨y,0,none⟩) l.length cl) l.length (R.flatMap Bk.cells)/\wr.cell? ⟨gB,0,none⟩=some (.slice (some ⟨g,0,none⟩) n c)/\Rd wr wr.heap.size (some ⟨g,0,none⟩) (S.flatMap br)/\w.heap.size<=wr.heap.size/\Below H w wr) (λ_ jv _=>l.length-(intOf jv).toNat)
 case atStart=>exact⟨k,k+1,l,rfl,by go_num,HD.out,Ki.out,G.out,Jh.out,Kr,Kk.out⟩
 obtain⟨i,j,R,rfl,rfl,Jc,a,M,K,hz,X⟩:=hrel;have Je:=Jc.out;by_cases N:j<l.length
 .obtain ⟨Kq,eR⟩:=Je.get N;obtain⟨s1,s2,s3,-,-⟩:=Je;obtain⟨b,off,eA,hbw,q0,q1,q2,q3,q4,q5⟩:=RdB.at_ (show RdB wr wr.heap.size _ _ from Rd.of_own a) Kq;cases eA;simp only[kxm] at q0 q1 q2 q3 q4 q5;rw[eR] at q0 q1 q2 q3 q4 q5;obtain⟨m,Jd,Kg⟩:=Kc.out j N;have HK:=hid (λh=>Jc.out.keep N h);have Q:=hid (λh=>Jc.out.del N h);obtain⟨x,hx⟩:=xq (l[j]);rw[hx] at q0 q1 q2 q3 q4 q5 Jd HK Q;obtain⟨xa,xs,u,s,f,t⟩:=x;dsimp only at q0 q1 q2 q3 q4 q5 Jd;subst Jd;have F:dS S ⟨(m:Int),xs,u,s,f,t⟩=(f==(S[m]?.getD false)):=by unfold dS;dsimp only;rw[kqk]
  rw[F] at HK Q;have hlm:(j:Int)<(l.length:Int):=by omega
  have hj0:(0:Int)<=(j:Int):=by omega
  have Ko:(0:Int)<=(i:Int):=by omega
  have Jz:(i:Int)<(l.length:Int):=by omega
  have hgB:=B.out.1;have Ji:=hid (X.alloc (kza hH hz) (.cells #[.int .i64 (m:Int),.int .i64 xs,.int .i64 u,.int .i64 s,.bool f,.int .u64 (t:Int)] 55));have BN:=hid (Bx.new wr 55 #[.int .i64 (m:Int),.int .i64 xs,.int .i64 u,.int .i64 s,.bool f,.int .u64 (t:Int)]);have Jy:=hid (a.alloc (.cells #[.int .i64 (m:Int),.int .i64 xs,.int .i64 u,.int .i64 s,.bool f,.int .u64 (t:Int)] 55));have Jf:=hid ((kq4 wr (.cells #[.int .i64 (m:Int),.int .i64 xs,.int .i64 u,.int .i64 s,.bool f,.int .u64 (t:Int)] 55) ⟨gB,0,none⟩ (by show gB<wr.heap.size;omega)).trans M);have Ja:=hid (Rd.more (Rd.alloc K (kqg _) (.cells #[.int .i64 (m:Int),.int .i64 xs,.int .i64 u,.int .i64 s,.bool f,.int .u64 (t:Int)] 55)) (show wr.heap.size<=(wr.alloc (.cells #[.int .i64 (m:Int),.int .i64 xs,.int .i64 u,.int .i64 s,.bool f,.int .u64 (t:Int)] 55)).heap.size by simp));have hgLw:=(a.lt y rfl).2;clear hx F M K a;go_upto_region 8 with (fail);obtain⟨wn,Jg⟩:∃wn,wr.alloc (.cells #[.int .i64 (m:Int),.int .i64 xs,.int .i64 u,.int .i64 s,.bool f,.int .u64 (t:Int)] 55)=wn:=⟨_,rfl⟩;rw[Jg] at Ji BN Jy Jf Ja |-;have hszn:wn.heap.size=wr.heap.size+1:=by rw[<-Jg];simp
  clear Jg q0 q1 q2 q3 q4 q5;have HQ:=hid (HC.out m xs u s f t wn Kg (by omega) Jf.out Ja.out);obtain⟨r,hr⟩:=xq ((f==(S[m]?.getD false)));rw[hr] at HQ HK Q;clear hr;obtain⟨p0,p1,p2,p3,p4,p5,pf,Ke⟩:=BN.out.c6;go_wp2_with fail;refine HQ.out.mono ?_;rintro e w2 ⟨rfl,z⟩;have Jt:=hid (Ji.out.trans (z.mono (kza hH (by omega))));have V:=hid (aj Jy.out z (kqg _));have Jk:=hid ((z.cell (p:=⟨gB,0,none⟩) (by show gB<wn.heap.size;omega)).trans Jf.out);have Jw:=hid (Ja.out.up z z.size);have bn2:=BN.out.up z Ke;have hz2:=z.size;clear z p0 p1 p2 p3 p4 p5 pf;obtain⟨p0,p1,p2,p3,p4,p5,pf,hgn2⟩:=bn2.c6;cases r
  .have HY:=hid (HK.out rfl);have C:w2.there y (i*6) (#[.int .i64 (m:Int),.int .i64 xs,.int .i64 u,.int .i64 s,.bool f,.int .u64 (t:Int)]:Array Value).size:=rM V.out (i*6) 6 (by omega);have Jn:(prog.info? 55).map (·.size)=some (#[.int .i64 (m:Int),.int .i64 xs,.int .i64 u,.int .i64 s,.bool f,.int .u64 (t:Int)]:Array Value).size:=Ft;have Jp:(#[.int .i64 (m:Int),.int .i64 xs,.int .i64 u,.int .i64 s,.bool f,.int .u64 (t:Int)]:Array Value).all (·.oneCell')=true:=by simp[Value.oneCell']
   have Jb:=hid (qv (Bk.cells ⟨(m:Int),xs,u,s,f,t⟩) (i*6) w2 _ V.out);rw[xZ R i ⟨(m:Int),xs,u,s,f,t⟩ (by omega)] at Jb;have Jl:=hid ((kj8 y (Bk.cells ⟨(m:Int),xs,u,s,f,t⟩) (i*6) w2 ⟨gB,0,none⟩ (λY _=>absurd Y.symm U)).trans Jk.out);have Js:=hid (iP Jw.out (λY=>T Y.symm) (i*6) (Bk.cells ⟨(m:Int),xs,u,s,f,t⟩));have Ju:=hid (cX Jr (Bk.cells ⟨(m:Int),xs,u,s,f,t⟩) (o:=i*6) Jt.out);have E:=hU (g:=y) (Bk.cells ⟨(m:Int),xs,u,s,f,t⟩) w2 (i*6);obtain⟨cs,Z⟩:∃cs:Array Value,#[.int .i64 (m:Int),.int .i64 xs,.int .i64 u,.int .i64 s,.bool f,.int .u64 (t:Int)]=cs:=⟨_,rfl⟩;obtain⟨w3,Eq⟩:∃w3,w2.setCells y (i*6) (Bk.cells ⟨(m:Int),xs,u,s,f,t⟩)=w3:=⟨_,rfl⟩;have Kl:w2.setCells y (i*6) cs.toList=w3:=by rw[<-Z];exact Eq
   rw[Eq] at Jb Jl Js Ju E;rw[Z] at C Jn Jp;clear Eq;go_wp2_with (refine kkq rfl _ _ _ rfl y (i*6) cs (by rfl) (by rw[<-Z];rfl) C Jn Jp ?_;rw[Kl]);go_roundw
   case rel=>exact⟨i+1,j+1,R.set i ⟨(m:Int),xs,u,s,f,t⟩,by go_num,by go_num,HY.out,Jb.out,Jl.out,Rd.more Js.out (by rw[E];exact kqg _),by rw[E];omega,Ju.out⟩
   case measure=>simp[intOf];omega
  have HY:=hid (Q.out rfl);go_wp2;go_roundw
  case rel=>exact⟨i,j+1,R,rfl,by go_num,HY.out,V.out,Jk.out,Jw.out,by omega,Jt.out⟩
  case measure=>simp[intOf];omega
 obtain⟨s1,s2,s3,s4,-⟩:=Je;obtain⟨A9,c9,e9,hle,Jo⟩:=jh a;cases e9;have HRD:=hid Jo;have hicl:(i:Int)<=(cl:Int):=by omega
 have hill:(i:Int)<=(l.length:Int):=by omega
 have Ko:(0:Int)<=(i:Int):=by omega
 have hne:i≠cl:=by omega
 have hnec:¬ ((i:Int)=(cl:Int)):=by omega
 have Kp:j=l.length:=by omega
 have Kd:=hid (show lf S l=R.take i by rw[s4,Kp,kz2]);have Ka:=a.1;obtain⟨L,hL⟩:=xq ((Builtin.zeroCells (Value.cells (.agg #[.int .i64 0,.int .i64 0,.int .i64 0,.int .i64 0,.bool false,.int .u64 0])) (l.length-i)).toList);have Jj:L.length=(l.length-i)*6:=by rw[<-hL,pD];rfl
 have C:=rM a (i*6) L.length (by rw[Jj];omega);have hcl:=nQ (P:=prog) wr 48 55 0 _ underlying48 Bn L y (i*6) (l.length-i) (cl-i) hL (by omega)
  (λv hv=>by
   rw[<-hL] at hv;have:=pp hv (by decide);simp[Value.cells] at this;rcases this with rfl|rfl|rfl<;>rfl)
  (λq hq=>(C q hq).1) (λq hq=>(C q hq).2)
 have Kh:=hid ((kj8 y L (i*6) wr ⟨gB,0,none⟩ (λY _=>absurd Y.symm U)).trans M);have Kn:=hid (iP K (λY=>T Y.symm) (i*6) L);have Kb:=hid (cX Jr L (o:=i*6) X);have J:=hU (g:=y) L wr (i*6);have Kj:Hid (Rd (wr.setCells y (i*6) L) wr.heap.size (some ⟨y,0,none⟩) ((R.take i).flatMap Bk.cells)):=hid λ_=>by
  refine⟨y,0,rfl,(a.lt y rfl).2,λq hq=>?_⟩;have hq6:q<i*6:=by have:=hq;rw[jY Bk.cells 6 Bk.len,kq6] at this;omega
  rw[kj8 y L (i*6) wr _ (λ_ _=>.inl (by show 0+q<i*6;omega))];have e1:=a.cellAt q (by omega);rw[kxm,e1];have Kf:q<(R.flatMap Bk.cells).length:=by rw[Ka];omega
  rw[kqj Kf];congr 1;simp only[jY Bk.cells 6 Bk.len,kk5]
 have Jz:(R.take i).length=i:=by rw[kq6];omega
 clear Jo hL Jj C a M K X;go_wp2;go_ret;rw[Kd.out,Jz];exact⟨some ⟨y,0,none⟩,cl,rfl,Rd.more Kj.out (by rw[J];exact kqg _),Kh.out,Rd.more Kn.out (by rw[J];exact kqg _),by rw[J];have:=B.out.1;omega,Kb.out⟩
def xY (ws:List Nat) (S:List Bool) (b:Bk):En:=⟨b.at_,fJ (wd ws b.at_.toNat) (S[b.at_.toNat]?.getD false)⟩
noncomputable def aM (ws:List Nat):List En:=if ax ws=0 then (lf (seenL ws) (aa ws)).map (xY ws (seenL ws)) else []
theorem uu(h1:ax ws=r)(h0:r≠0):aM ws=[]:=by unfold aM;rw[if_neg (by rw[h1];exact h0)]
theorem pX(S:List Bool)(l:List Bk):(lf S l).length<=l.length:=kxi _ _
theorem uC{b:Bk}(h:b∈lf S l):b∈l:=(kzv.1 h).1
theorem zH(ws:List Nat)(S:List Bool)(l:List Bk)(hk:k<l.length):(l.take (k+1)).map (xY ws S)=(l.take k).map (xY ws S)++[xY ws S l[k]]:=by rw[kqp hk,kxa];rfl
theorem hp_ats(h:af ws=0):∀k (b:k<(aa ws).length),∃m:Nat,(aa ws)[k].at_=(m:Int)/\m<ws.length:=by intro k b;obtain⟨hs,l,e,ha,d⟩:=ao h;subst d;obtain⟨a,c,-,-,f,-⟩:=bH _ _ e (by omega) k b;exact⟨a,by rw[c];rfl,f⟩
theorem vm(A:Option Addr)(ws:List Nat)(c n:Nat)(w:World)(hn:ws.length=n)(hm:n<=9223372036854775807)(hr:RdW w w.heap.size A ws)(ho:∀x∈ws,x<18446744073709551616):
 Calls prog 141 #[.slice A n c] w λe w'=>io w.heap.size (ax ws) (aM ws) e w'/\Below w.heap.size w w':=by
 subst hn;have HR:=hid hr;have HC:=hid (D6 A ws c ws.length w rfl hm hr ho);unfold yw at HC;have HO:=hid ho;clear hr ho;by_cases V:af ws=0
 .obtain ⟨l,hl⟩:∃l,aa ws=l:=⟨_,rfl⟩;have P:=hid (λL cl W (h:RdW W W.heap.size A ws) (h2:RdB W W.heap.size L l)=>uh A L ws c cl ws.length l W rfl hm V hl h h2 HO.out);unfold Hx at P;have J:=hp_ats V;have Kz:=fe ws;rw[V,hl] at HC;rw[hl] at J Kz;have J:=hid J;have Eq:=fP ws (ao V).1;have hlen:=Eq.2.1;have hlen1:=Eq.1;by_cases hz:ax ws=0
  .have HV:=hid (show ax ws=0/\aM ws=(lf (seenL ws) l).map (xY ws (seenL ws)) from ⟨hz,by unfold aM;rw[if_pos hz,hl]⟩);have Jo:=qL ws;obtain⟨i0,hi,Kc,Jz,Jn⟩:=kzt dp;have HI:=hid hi;have Kx:=hid Kc;have Kw:=hid Jz;have Kq:=hid Jn;clear hi Kc Jz Jn;clear V hl Eq hz;generalize seenL ws=S at P HV Jo;have Ki:=hid (λ(A1:Option Addr) (cl T g U H:Nat) (W:World) h1 h2 h3 h4 h5 h6 h7=>sL A1 l S T g U ws.length cl H W Jo (by omega) J.out h1 h2 h3 h4 h5 h6 h7);have Z:=hid Jo;have Kt:=hid (λa m W=>oJ (wd ws a) m W (fd HO.out a));go_enter func141,ntmps141;go_wp2_with fail;refine HC.out.mono ?_;rintro e w1 ⟨⟨A1,c1,rfl,f⟩,o⟩;have F:=hid o;have O:=hid (HR.out.up o o.size);have E:=hid f;clear f o;go_wp2_with fail;refine (P.out A1 _ w1 O.out (show RdB _ _ _ _ from Rd.of_own E.out)).mono ?_;rintro e wE ⟨⟨-,g,U,rfl,s⟩|⟨h9,-⟩,z⟩
   .have I:=hid (F.out.trans (z.mono F.out.size));have Kh:=hid (O.out.up z z.size);have Jt:=hid (aj E.out z (kqg _));have HS:=hid s;have hgE:=s.lt g rfl;have Jd:=eQ Jt.out s (by decide);have Jg:=E.out.lt;have Jz:=F.out.size;have Jn:=z.size;have Ku:=I.out.size;have h6:(Value.slice A1 l.length c1).ownBlock≠some wE.heap.size:=λh=>by
     have:=(Jg _ h).2;omega
    have h7:(Value.slice A1 l.length c1).ownBlock≠some g:=λh=>by
     rcases Jd with h8|h8
     .rw[h] at h8;cases h8
     exact h8 h
    clear s z Jd Jg;have HX:=hid (Bx.new wE 114 #[.slice (some ⟨g,0,none⟩) ws.length U]);have Jv:=hid (Jt.out.alloc (.cells #[.slice (some ⟨g,0,none⟩) ws.length U] 114));have Js:=hid ((Rd.of_own HS.out).alloc (kqg _) (.cells #[.slice (some ⟨g,0,none⟩) ws.length U] 114));have Kf:=hid (Kh.out.alloc (kqg _) (.cells #[.slice (some ⟨g,0,none⟩) ws.length U] 114));have Ja:=hid (I.out.alloc Ku (.cells #[.slice (some ⟨g,0,none⟩) ws.length U] 114));go_wp2_with fail;obtain⟨wX,Jr⟩:∃wX,wE.alloc (.cells #[.slice (some ⟨g,0,none⟩) ws.length U] 114)=wX:=⟨_,rfl⟩;have Kl:wX.heap.size=wE.heap.size+1:=by rw[<-Jr];simp
    rw[Jr] at HX Jv Js Kf Ja |-;clear Jr;have Ji:=hid (Rd.more Js.out (show wE.heap.size<=wX.heap.size by omega));refine (Ki.out A1 c1 wE.heap.size g U w.heap.size wX Jv.out Ja.out.size (by omega) HX.out.c1.1 Ji.out h6 h7).mono ?_;rintro e w3 ⟨A3,c3,rfl,Jf,Jk,Jl,Je,Ke⟩;have R:=hid (Ja.out.trans Ke);have Lb:=hid (HR.out.up R.out R.out.size);have Jb:=hid Jf;have Jj:=hid Jk;have La:=hid Jl;obtain⟨T,Jm⟩:=xq wE.heap.size;rw[Jm] at Jj Je;have Ky:=pX S l;have Kj:Hid (∀k (hk:k<(lf S l).length),∃m:Nat,(lf S l)[k].at_=(m:Int)/\m<ws.length):=hid (λk hk=>by
     obtain⟨j,hj,e⟩:=kqu (uC (kqm hk));rw[<-e];exact J.out j hj)
    have Ko:=hid (λk (hk:k<(lf S l).length)=>zH ws S (lf S l) hk);obtain⟨d,hd⟩:=xq (lf S l);rw[hd] at Jb Kj Ko Ky HV;simp only[hd,Jm];clear hd Jf Jk Jl Ke HX Jv Js Kf Ja Ji h6 h7 Kl Jm P Ki HC Jt E HS O Kh;go_wp2_with fail;go_loopw [7,34] (λv i wr=>∃k:Nat,k<=d.length/\i=.int .i64 k/\wr.ownsRow w3.heap.size 89 2 v (d.take k).length (((d.take k).map (xY ws S)).flatMap En.cells)/\Below w3.heap.size w3 wr) (λ_ i _=>d.length-(intOf i).toNat)
    case atStart=>exact⟨0,kqy _,rfl,kq3 _ _ _ _,kql _ _⟩
    obtain⟨k,hk,rfl,t,hB⟩:=hrel;have hz:=hB.size;by_cases Ju:k<d.length
    .obtain ⟨b,off,rfl,hbw,q0,q1,q2,q3,q4,q5⟩:=RdB.at_ (Rd.below Jb.out hB) Ju;obtain⟨m,Jw,K⟩:=Kj.out k Ju;have G:=hid (Ko.out k Ju);obtain⟨x,hx⟩:=xq (d[k]);rw[hx] at q0 q1 q2 q3 q4 q5 Jw G;obtain⟨xa,xs,xk,xt,xm,xn⟩:=x;dsimp only at q0 q1 q2 q3 q4 q5 Jw;subst Jw;have Kn:xY ws S ⟨(m:Int),xs,xk,xt,xm,xn⟩=⟨(m:Int),fJ (wd ws m) (S[m]?.getD false)⟩:=by unfold xY;dsimp only;rw[kqk]
     rw[Kn] at G;obtain⟨bW,oW,rfl,hbW,x0⟩:=RdW.at_ (Rd.below Lb.out hB) K;rw[<-ce] at x0;obtain⟨bS,oS,eA,hbS,N⟩:=Rd.at_flat ft (Rd.below La.out hB) (by omega) (show m<S.length by rw[Z.out];exact K);cases eA;have N:=N 0 (by omega);have N:wr.cell? ⟨g,m,none⟩=some (.bool (S[m]'(by rw[Z.out];exact K))):=by simpa [br] using N
     have Kp:S[m]'(by rw[Z.out];exact K)=S[m]?.getD false:=by rw[kqj (by rw[Z.out];exact K)];rfl
     rw[Kp] at N;have HQ:=hid (λW=>Kt.out m (S[m]?.getD false) W);obtain⟨y,hy⟩:=xq (S[m]?.getD false);rw[hy] at N G HQ;obtain⟨u,hu⟩:=xq (wd ws m);rw[hu] at x0 G HQ;obtain⟨v,hv⟩:=xq (fJ u y);obtain⟨er,Kk⟩:=xq (nT u y);rw[hv] at G HQ;rw[Kk] at HQ;have z0:=(hB.cell (p:=⟨T,0,none⟩) Je).trans Jj.out;have hlm:(k:Int)<(d.length:Int):=by omega
     have hmi:(m:Int)<(ws.length:Int):=by omega
     have hm0:(0:Int)<=(m:Int):=by omega
     have hk0:(0:Int)<=(k:Int):=by omega
     have Y:=hid (hB.alloc hz (.cells #[.int .i64 (m:Int),.int .i64 xs,.int .i64 xk,.int .i64 xt,.bool xm,.int .u64 (xn:Int)] 55));have BN:=hid (Bx.new wr 55 #[.int .i64 (m:Int),.int .i64 xs,.int .i64 xk,.int .i64 xt,.bool xm,.int .u64 (xn:Int)]);have Ka:=hid (t.alloc (.cells #[.int .i64 (m:Int),.int .i64 xs,.int .i64 xk,.int .i64 xt,.bool xm,.int .u64 (xn:Int)] 55));have Jp:=hid ((kq4 wr (.cells #[.int .i64 (m:Int),.int .i64 xs,.int .i64 xk,.int .i64 xt,.bool xm,.int .u64 (xn:Int)] 55) ⟨bW,oW+m,none⟩ (by show bW<wr.heap.size;omega)).trans x0);have Jq:=hid ((kq4 wr (.cells #[.int .i64 (m:Int),.int .i64 xs,.int .i64 xk,.int .i64 xt,.bool xm,.int .u64 (xn:Int)] 55) ⟨g,m,none⟩ (by show g<wr.heap.size;omega)).trans N);have Q:=hid ((kq4 wr (.cells #[.int .i64 (m:Int),.int .i64 xs,.int .i64 xk,.int .i64 xt,.bool xm,.int .u64 (xn:Int)] 55) ⟨T,0,none⟩ (by show T<wr.heap.size;omega)).trans z0);clear hx Kn Kp hy hu hv Kk x0 N z0 t;go_upto_region 12 with (fail);obtain⟨wn,Kb⟩:∃wn,wr.alloc (.cells #[.int .i64 (m:Int),.int .i64 xs,.int .i64 xk,.int .i64 xt,.bool xm,.int .u64 (xn:Int)] 55)=wn:=⟨_,rfl⟩;rw[Kb] at Y BN Ka Jp Jq Q |-;have hszn:wn.heap.size=wr.heap.size+1:=by rw[<-Kb];simp
     clear Kb q0 q1 q2 q3 q4 q5;obtain⟨p0,p1,p2,p3,p4,p5,pf,Kr⟩:=BN.out.c6;have x0:=Jp.out;have N:=Jq.out;have z0:=Q.out;have gW:bW<wn.heap.size:=by omega
     have gS:g<wn.heap.size:=by omega
     have gZ:T<wn.heap.size:=by omega
     go_region_held3 (λX:World=>X.cell? ⟨bW,oW+m,none⟩=some (.int .u64 (u:Int))/\X.cell? ⟨T,0,none⟩=some (.slice (some ⟨g,0,none⟩) ws.length U)/\X.cell? ⟨g,m,none⟩=some (.bool y)/\X.cell? ⟨wr.heap.size,0,none⟩=some (.int .i64 (m:Int))) (go_keep)
      (first | (go_at_call 205;refine (HQ.out _).mono ?_;rintro e w5 ⟨rfl,D⟩;have m0:=(D.cell (p:=⟨bW,oW+m,none⟩) gW).trans x0;have m1:=(D.cell (p:=⟨T,0,none⟩) gZ).trans z0;have m2:=(D.cell (p:=⟨g,m,none⟩) gS).trans N;have m3:=(D.cell (p:=⟨wr.heap.size,0,none⟩) Kr).trans p0))
     have Jy:Below wn.heap.size wn w5:=(kql _ _).drew.trans D;have B:=aj Ka.out Jy (kqg _);have M:=Y.out.trans (Jy.mono Y.out.size);have hz5:=M.size;have Kg:(d.take k).length=k:=by rw[kq6];omega
     have Jc:(d.take (k+1)).length=k+1:=by rw[kq6];omega
     rw[Kg] at B;have Kv:=hid Jc;have Jh:=hid B;have Km:=hid M;clear x0 N z0 p0 p1 p2 p4 p5 pf m0 m1 m2 D Jy Kg Jc B M Ka Y BN Jp Jq Q;go_wp2_with (at_builtin;refine kzn _ rfl _ _ 26 rfl w3.heap.size 89 i0 _ 2 16 underlying26 HI.out Kx.out Kw.out Kq.out rfl (by decide) _ _ _ rfl (Jh.out.alloc _) ⟨_,0,none⟩ 1 1 [.int .i64 (m:Int),.int .u64 (v:Int)] rfl rfl (bY _ _ _) (by simp[Value.oneCell']) (by unfold maxLen;omega) (by omega) (by simp;omega) ?_;intro v1 w6 f Ks _;have Lc:=aw Km.out (by omega) Jh.out Ks);go_roundw
     case rel=>exact⟨k+1,by omega,by go_num,by rw[G.out,Kv.out,bP];exact f,Lc⟩
     case measure=>simp[intOf];omega
    rw[kzg (by omega)] at t;have C:wr.ownsRow w3.heap.size 89 2 u7 (aM ws).length ((aM ws).flatMap En.cells):=by rw[HV.out.2,kqs];exact t
    obtain⟨A4,c4,rfl⟩:=aE C;have Kd:=hid (aB C R.out.size);clear t C;go_wp2;go_ret2;exact⟨⟨A4,c4,by rw[HV.out.1];rfl,Kd.out⟩,R.out.trans (hB.mono R.out.size)⟩
   exfalso;rw[HV.out.1] at h9;exact absurd h9 (by decide)
  have HZ:=hid hz;clear V hl Eq hz;go_enter func141,ntmps141;go_wp2_with fail;refine HC.out.mono ?_;rintro e w1 ⟨⟨A1,c1,rfl,f⟩,o⟩;have F:=hid o;have O:=hid (HR.out.up o o.size);have E:=hid f;clear f o;go_wp2_with fail;refine (P.out A1 _ w1 O.out (show RdB _ _ _ _ from Rd.of_own E.out)).mono ?_;rintro e wE ⟨⟨h9,-⟩|⟨h9,rfl⟩,z⟩
  .exact absurd h9 HZ.out
  have I:=hid (F.out.trans (z.mono F.out.size));have H9:=hid h9;clear h9;go_wp2;go_ret2;exact⟨bu H9.out (uu H9.out (by decide)),I.out.alloc I.out.size _⟩
 have HZ:=hid (And.intro (oY V) V);obtain⟨r,hr⟩:=xq (af ws);rw[hr] at HC HZ;have hn1:(r != 0)=true:=by rw[kqt,<-hr];exact V
 obtain⟨q,hq⟩:=xq ((aa ws).length);rw[hq] at HC;clear V hr hq;go_enter func141,ntmps141;go_wp2_with fail;refine HC.out.mono ?_;rintro e w1 ⟨⟨A1,c1,rfl,-⟩,o⟩;go_wp2;go_ret2;exact⟨bu HZ.out.1 (uu HZ.out.1 HZ.out.2),o⟩
end Go.Proofs.YtpcajamacpbjcaaGreat
