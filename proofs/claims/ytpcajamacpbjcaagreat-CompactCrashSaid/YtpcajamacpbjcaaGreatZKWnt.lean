/- Texts laid together: FrmF Wnt DelP Del DelW Wtd WtdW. -/
import Derived.Test.YtpcajamacpbjcaaGreatZKHeap
import Derived.Test.YtpcajamacpbjcaaGreatZKRch
import Derived.Lib.SliceRun
import Derived.Test.YtpcajamacpbjcaaGreatZKMove
set_option maxHeartbeats 16000000
set_option maxRecDepth 100000
set_option linter.all false
namespace Go.Proofs.YtpcajamacpbjcaaGreat
open Lib (hid)
open Go.RowKit
variable {a r:Int}{R l:List Bk}{S:List Bool}{ws:List Nat}{H c g j k n sz:Nat}{e:TypeId}{v:Value}{w w':World}
open Go.Proofs.Tryz
def uP (H:Nat) (ws:List Nat) (a:Int) (e:Ending) (w':World):Prop:=∃A c,e=.returned (.tuple #[.slice A (aN ws a).length c,.int .i64 (bQ ws a)])/\w'.ownsRow H 55 6 (.slice A (aN ws a).length c) (aN ws a).length ((aN ws a).flatMap Bk.cells)
theorem jt(hr:bQ ws a=r)(h0:r≠0):uP H ws a (.returned (.tuple #[.slice none 0 0,.int .i64 r])) w':=by
 subst hr;have:aN ws a=[]:=by simp[aN,h0]
 exact⟨none,0,by rw[this];rfl,by rw[this];exact kq8 _ _ _ _⟩
theorem we(h0:bQ ws a=0)(hl:aN ws a=l)(h:w'.ownsRow H 55 6 v l.length (l.flatMap Bk.cells)):uP H ws a (.returned (.tuple #[v,.int .i64 0])) w':=by obtain⟨A,c,rfl⟩:=aJ h;exact⟨A,c,by rw[hl,h0],by rw[hl];exact h⟩
def zZ (H:Nat) (ws:List Nat) (e:Ending) (w':World):Prop:=∃A c,e=.returned (.tuple #[.slice A (ag ws).length c,.int .i64 (ah ws)])/\w'.ownsRow H 55 6 (.slice A (ag ws).length c) (ag ws).length ((ag ws).flatMap Bk.cells)
theorem kF(hr:ah ws=r)(h0:r≠0):zZ H ws (.returned (.tuple #[.slice none 0 0,.int .i64 r])) w':=by
 subst hr;have:ag ws=[]:=by simp[ag,h0]
 exact⟨none,0,by rw[this];rfl,by rw[this];exact kq8 _ _ _ _⟩
theorem zY(A:Option Addr)(ws:List Nat)(c n:Nat)(a:Int)(w:World)(hn:ws.length=n)(hm:n<=9223372036854775807)(hr:RdW w w.heap.size A ws)(ho:∀x∈ws,x<18446744073709551616):
 Calls prog 65 #[.slice A n c,.int .i64 a] w λe w'=>uP w.heap.size ws a e w'/\Below w.heap.size w w':=by
 subst hn;have HR:=hid hr;have HO:=hid ho;clear hr ho;cases t:aj (ws.length:Int)
 .have R:=hid (bD t);have M:=hid (fv (a:=a) t);clear t;go_enter func65,ntmps65;go_wp2_with fail;refine (aE A ws.length c w hm).mono ?_;rintro e D ⟨rfl,rfl⟩;rw[R.out];go_wp2;go_ret2;exact⟨jt M.out (by omega),kql _ _⟩
 have R:=hid (aX t);have HS:=hid t;have hb:=km (aX t);obtain⟨h,hb2,J⟩:=hb;have Jg:=hid J;clear t hm J;by_cases d:128<=a/\a<=(ws.length:Int)/\a%2=0
 .obtain ⟨a1,a2,Z⟩:=d;have G:Hid (fc ws.length a=false):=hid (by
   simp only[fc,kzl,kqh,kqq];omega)
  have Jd:(a%2 != 0)=false:=by rw[kqq];exact Z
  have d1:decide (a<128)=false:=by rw[kqh];omega
  have d2:decide ((ws.length:Int)<a)=false:=by rw[kqh];omega
  have Jc:=hid Z;obtain⟨K,rfl⟩:=kq1 (show 0<=a by omega);have d2n:decide (ws.length<K)=false:=by rw[kqh];omega
  clear Z;obtain⟨i2,Y,I,m,O⟩:=kzv kz;have HJ:=hid Y;have Jf:=hid I;have Jb:=hid m;have Eq:=hid O;clear Y I m O;go_enter func65,ntmps65;go_wp2_with fail;refine (aE A ws.length c w (by omega)).mono ?_;rintro e D ⟨rfl,rfl⟩;rw[R.out];go_wp2_with fail;go_loopw [1,7] (λp v wr=>∃(i:Nat) (b:List Bk),p=.int .i64 i/\K<=i/\i<=ws.length/\i%2=0/\blocks ws K=(blocks ws i).map (b ++ ·)/\b.length<=i/\wr.ownsRow w.heap.size 55 6 v b.length (b.flatMap Bk.cells)/\Below w.heap.size w wr) (λp _ _=>ws.length-(intOf p).toNat)
  case atStart=>exact⟨K,[],rfl,kqd _,by omega,by have:=Jc.out;omega,by simp,by simp,kq8 _ _ _ _,kql _ _⟩
  obtain⟨i,b,rfl,q1,q2,q3,q4,q5,j,E⟩:=hrel;have T:=E.size;have Je:=hid q3;have B:=hid q4;clear q4;by_cases F:i<ws.length
  .have s:i+1<ws.length:=by have:=Jg.out;omega
   clear q3;have ik1:(i:Int)<(ws.length:Int):=by omega
   cases f:stands ws i
   .have HN:=hid (eQ HS.out G.out (by rw[kqj,B.out,db F f];rfl));obtain⟨H,Q⟩:=zd f;have k:=hid (mx A ws c ws.length i wr rfl (by omega) s (HR.out.up E T) HO.out);rw[H,Q] at k;unfold mf Bk.val at k;dsimp only at k;clear f H Q j;go_wp2_with fail;refine k.out.mono ?_;rintro e D ⟨rfl,o⟩;have h:=E.trans (o.mono T);go_wp2;go_ret2;exact⟨jt HN.out (by omega),h.alloc h.size _⟩
   have L:=aH f;obtain⟨H,Q⟩:=xI f;have k:=hid (mx A ws c ws.length i wr rfl (by omega) s (HR.out.up E T) HO.out);rw[H,Q] at k;have u:=hid (show blocks ws K=(blocks ws (i+szAt ws i)).map ((b++[bkAt ws i]) ++ ·) by
    rw[B.out,aL F f];cases blocks ws (i+szAt ws i)<;>simp)
   have N:=hid (ce Bk.cells b (bkAt ws i));have r:=bq ws i;obtain⟨x,hx⟩:=xq (bkAt ws i);obtain⟨z,P⟩:=xq (szAt ws i);rw[hx] at k u N r;rw[P] at u L r;have HX:=hid hx;obtain⟨V,xs,X,W,S,U⟩:=x;dsimp only at r;subst r;unfold Bk.val at k;dsimp only at k;obtain⟨z1,z2,z3⟩:=L;have Ja:=hid z2;clear f H Q hx P z2;go_wp2_with fail;refine k.out.mono ?_;rintro e D ⟨rfl,o⟩;have h:=E.trans (o.mono T);have g:=ai j o (kqd _);have m:=h.size;go_wp2_with (at_builtin;refine kzd _ rfl _ _ 48 rfl w.heap.size 55 i2 _ 6 48 underlying48 HJ.out Jf.out Jb.out Eq.out rfl (by decide) _ _ _ rfl ((g.alloc _).alloc _) ⟨_,0,none⟩ 1 1 [.int .i64 V,.int .i64 (z:Int),.int .i64 X,.int .i64 W,.bool S,.int .u64 (U:Int)] rfl rfl (ld _ _ _ (kqm _ _)) (by simp[Value.oneCell']) (by unfold maxLen;omega) (by omega) (by simp;omega) ?_;intro v1 w2 y C _;have q:Bx w2 D.heap.size 55 #[.int .i64 V,.int .i64 (z:Int),.int .i64 X,.int .i64 W,.bool S,.int .u64 (U:Int)]:=((Bx.new D 55 _).alloc _).grown C (pD g);have Jh:=aC (h.alloc m (.cells #[.int .i64 V,.int .i64 (z:Int),.int .i64 X,.int .i64 W,.bool S,.int .u64 (U:Int)] 55)) (by simp;omega) (g.alloc _) C;have hc1:w2.cell? ⟨D.heap.size,1,none⟩=some (.int .i64 (z:Int)):=q.cell 1;have hf1:=q.frozen 1;have hl1:=q.lt;clear C q);go_roundw
   case rel=>exact⟨i+z,b++[⟨V,(z:Int),X,W,S,U⟩],by rw[kjs],by omega,by omega,by have:=Je.out;have:=Ja.out;omega,u.out,by simp;omega,by rw[N.out,kqu];exact y,Jh⟩
   case measure=>simp[intOf];omega
  have Y:i=ws.length:=by omega
  have HD:=hid (cF HS.out G.out (l:=b) (by rw[kqj,B.out,aD (by omega)];simp));clear Y q3;go_wp2;go_ret2;exact⟨we HD.out.1 HD.out.2 j,E⟩
 have M:=hid (jj HS.out (mQ d));go_enter func65,ntmps65;go_wp2_with fail;refine (aE A ws.length c w (by omega)).mono ?_;rintro e D ⟨rfl,rfl⟩;rw[R.out];by_cases h1:a<128
 .clear d;go_wp2;go_ret2;exact⟨jt M.out (by omega),kql _ _⟩
 by_cases h2:(ws.length:Int)<a
 .clear d;go_wp2;go_ret2;exact⟨jt M.out (by omega),kql _ _⟩
 have Jd:(a%2 != 0)=true:=by rw[kqv];omega
 have d1:decide (a<128)=false:=by rw[kqh];omega
 have d2:decide ((ws.length:Int)<a)=false:=by rw[kqh];omega
 have a0:0<=a:=by omega
 clear d;go_wp2;go_ret2;exact⟨jt M.out (by omega),kql _ _⟩
theorem Dc(A:Option Addr)(ws:List Nat)(c n:Nat)(w:World)(hn:ws.length=n)(hm:n<=9223372036854775807)(E:RdW w w.heap.size A ws)(ho:∀x∈ws,x<18446744073709551616):
 Calls prog 62 #[.slice A n c] w λe w'=>zZ w.heap.size ws e w'/\Below w.heap.size w w':=by
 subst hn;have HR:=hid E;have HO:=hid ho;have Jc:=hid (zY A ws c ws.length 128 w rfl hm E ho);clear E ho;cases B:aj (ws.length:Int)
 .have HI:=hid (bD B);have HE:=hid (na B);clear B;go_enter func62,ntmps62;go_wp2_with fail;refine (aE A ws.length c w hm).mono ?_;rintro e M ⟨rfl,rfl⟩;rw[HI.out];go_wp2;go_ret2;exact⟨kF HE.out (by omega),kql _ _⟩
 have HI:=hid (aX B);obtain⟨Eq,J,Jf⟩:=gJ ws B;have HS:=hid B;clear B Jf;go_enter func62,ntmps62;go_wp2_with fail;refine (aE A ws.length c w hm).mono ?_;rintro e M ⟨rfl,rfl⟩;rw[HI.out];go_wp2_with fail;refine Jc.out.mono ?_;rintro e M ⟨⟨A1,c1,rfl,s⟩,d⟩;have I:RdB M M.heap.size A1 (aN ws 128):=Rd.of_own s;have j:=d.size;have Y:=gO ws 128;have a:Hid (bQ ws 128=0->aj (ws.length:Int)=true/\blocks ws 128=some (aN ws 128)):=hid yr;have D:Hid (∀r,bQ ws 128=r->r≠0->ah ws=r):=hid (λ_ h h0=>uy h h0);obtain⟨l,hl⟩:=xq (aN ws 128);rw[hl] at I s Y a |-;have Jb:=hid I;have Jh:=hid s;obtain⟨r,E⟩:=xq (bQ ws 128);have Ja:=hid E;rw[E] at a |-;clear E I s hl;by_cases o:r=0
 .subst o;have L:=hid (a.out rfl).2;clear a D;go_wp2_with fail;go_loopw [26] (λi wr=>∃k:Nat,k<=l.length/\i=.int .i64 k/\Hid ((l.take k).all (dC ws)=true)/\Below M.heap.size M wr) (λi _=>l.length-(intOf i).toNat)
  case atStart=>exact⟨0,kqy _,rfl,rfl,kql _ _⟩
  obtain⟨k,hk,rfl,S,K⟩:=hrel;have hz:=K.size;by_cases q:k<l.length
  .obtain ⟨b,off,rfl,hbw,q0,q1,q2,q3,q4,q5⟩:=RdB.at_ (Jb.out.below K) q;have p:=hid (λh=>jK L.out (by omega) q h);have G:=hid (λh=>ue q S.out h);have C:=hid (λh=>qM HS.out L.out (Aa q h));obtain⟨x,hx⟩:=xq (l[k]);rw[hx] at q0 q1 q2 q3 q4 q5 p G C;have u:=hid (λh=>i9 (ws:=ws) (b:=x) h);have T:=hid (λh=>ey (ws:=ws) (b:=x) h);have N:tyA x=96+2*x.typ.toNat:=rfl;rw[N] at u;obtain⟨xa,xs,xk,xt,xm,xn⟩:=x;dsimp only at q0 q1 q2 q3 q4 q5 p u;have hlm:(k:Int)<(l.length:Int):=by omega
   clear hx N;have z:=Bx.new wr 55 #[.int .i64 xa,.int .i64 xs,.int .i64 xk,.int .i64 xt,.bool xm,.int .u64 (xn:Int)];by_cases f:xk=1
   .obtain ⟨t0,t8⟩:=p.out f;obtain⟨t,rfl⟩:=kq1 t0;have y:=hid (u.out f);simp only[kqj] at y;subst f;have HC:=hid (λW (h:RdW W W.heap.size A ws)=>qY A ws c ws.length t W rfl (by omega) Eq (by omega) h HO.out);have hz1w:=j;have Je:=hid ((((HR.out.up d j).up K hz).alloc (kqd _) (.cells #[.int .i64 xa,.int .i64 xs,.int .i64 1,.int .i64 (t:Int),.bool xm,.int .u64 (xn:Int)] 55)).more (B':=(wr.alloc (.cells #[.int .i64 xa,.int .i64 xs,.int .i64 1,.int .i64 (t:Int),.bool xm,.int .u64 (xn:Int)] 55)).heap.size) (by simp));obtain⟨R,V⟩:=xq (wd ws (96+2*t));obtain⟨Z,O⟩:=xq (wd ws (96+2*t+1));rw[V,O] at HC y;clear z V O u T p;go_wp2_with fail;refine (HC.out _ Je.out).mono ?_;rintro e w2 ⟨⟨A2,c2,rfl,Q,X⟩,v⟩;rw[kqm] at v;have P:=Bx.of_new v;have J:=K.trans ((av v).mono hz);obtain⟨c0,c1',c2',c3,c4,c5,cf,cz⟩:=P.c6;have F:=hid J;clear Q X P v J cf;obtain⟨ok,U⟩:=xq (ch R Z);obtain⟨m,H⟩:=xq ((a8 R Z).length);have hm8:m<=255:=by
     rw[<-H];unfold a8;split
     .rw[eY];have:=kz0 R (show 0<256 by omega);omega
     simp
    rw[U,H] at y |-;clear U H;cases ok
    .have HB:=hid (C.out (by rw[y.out];rfl));go_wp2;go_ret2;exact⟨kF HB.out (by omega),d.trans (F.out.mono j)⟩
    rw[kzr] at y;have Ji:((aY m:Nat):Int)=((m:Int)+3)/2*2:=by unfold aY;omega
    rw[Ji] at y;by_cases g:xs=((m:Int)+3)/2*2
    .have Jg:(xs != ((m:Int)+3)/2*2)=false:=by rw[kqq];exact g
     have HY:=hid (G.out (by rw[y.out,kqw];exact g));clear g;go_wp2;go_roundw
     case rel=>exact⟨k+1,by omega,by go_num,HY.out,F.out⟩
     case measure=>simp[intOf];omega
    have Jg:(xs != ((m:Int)+3)/2*2)=true:=by rw[kqv];exact g
    have HB:=hid (C.out (by rw[y.out,kqi];exact g));clear g;go_wp2;go_ret2;exact⟨kF HB.out (by omega),d.trans (F.out.mono j)⟩
   have hk2:(xk != 1)=true:=by rw[kqv];exact f
   have HY:=hid (G.out (T.out f));clear f z;go_wp2;go_roundw
   case rel=>exact⟨k+1,by omega,by go_num,HY.out,K.alloc hz _⟩
   case measure=>simp[intOf];omega
  have HP:=hid (fS HS.out L.out (by have:=S.out;rwa [kq5 (by omega)] at this));go_wp2;go_ret2;exact⟨⟨A1,c1,by rw[HP.out.1,HP.out.2];rfl,by rw[HP.out.2];exact ai Jh.out K (kqd _)⟩,d.trans (K.mono j)⟩
 have hn1:(r != 0)=true:=by rw[kqv];exact o
 have HN:=hid (D.out r Ja.out o);have Jd:=hid o;clear o a D;go_wp2;go_ret2;exact⟨kF HN.out Jd.out,d⟩
def eG (S:List Bool) (b:Bk):Bool:=b.mark==(S[b.at_.toNat]?.getD false)
theorem AO(gB g c n m:Nat)(S:List Bool)(xs xk xt:Int)(xm:Bool)(xn:Nat)(w:World)(hS:S.length=n)(hm:m<n)(hB:gB<w.heap.size)(hbox:w.cell? ⟨gB,0,none⟩=some (.slice (some ⟨g,0,none⟩) n c))(h:Rd w w.heap.size (some ⟨g,0,none⟩) (S.flatMap bE)):
 Calls prog 204 #[.agg #[.int .i64 (m:Int),.int .i64 xs,.int .i64 xk,.int .i64 xt,.bool xm,.int .u64 (xn:Int)],.pointer (some ⟨gB,0,none⟩)] w λe w'=>e=.returned (.bool (xm==(S[m]?.getD false)))/\Below w.heap.size w w':=by
 have hmi:(m:Int)<(n:Int):=by omega
 have hm0:(0:Int)<=(m:Int):=by omega
 obtain⟨b,off,j,i,d⟩:=Rd.at_flat fM h (by omega) (show m<S.length by omega);cases j;have a:=d 0 (by omega);have a:w.cell? ⟨g,m,none⟩=some (.bool (S[m]'(by omega))):=by simpa [bE] using a
 rw[show S[m]?.getD false=S[m]'(by omega) by rw[kqk (by omega)];rfl];obtain⟨y,f⟩:=xq (S[m]'(show m<S.length by omega));rw[f] at a |-;have q0:=(kzi w (.cells #[.int .i64 (m:Int),.int .i64 xs,.int .i64 xk,.int .i64 xt,.bool xm,.int .u64 (xn:Int)] 55) ⟨g,m,none⟩ i).trans a;have q1:=(kzi w (.cells #[.int .i64 (m:Int),.int .i64 xs,.int .i64 xk,.int .i64 xt,.bool xm,.int .u64 (xn:Int)] 55) ⟨gB,0,none⟩ hB).trans hbox;clear d h f a hbox;go_enter func204,ntmps204;go_wp2_with fail;go_quiet (fail);go_wp2;go_ret;exact⟨rfl,jW ((kql _ _).alloc (kqd _) _) _⟩
def iU (S:List Bool) (l:List Bk) (k:Nat):Prop:=∀j,j<k->eG S (gk l j)=false
theorem iU.zero(S:List Bool)(l:List Bk):iU S l 0:=λj h=>absurd h (by omega)
theorem iU.succ(h:iU S l k)(h1:eG S (gk l k)=false):iU S l (k+1):=λj hj=>by
 rcases kq6 j k with a|a
 .exact h j a
 .have:j=k:=by omega
  subst this;exact h1
def FR (S:List Bool) (l:List Bk) (e:Ending):Prop:=(e=.returned (.int .i64 (-1))/\iU S l l.length)\/∃k:Nat,k<l.length/\e=.returned (.int .i64 (k:Int))/\iU S l k/\eG S (gk l k)=true
theorem wc(A:Option Addr)(l:List Bk)(S:List Bool)(gB g c n cl:Nat)(w:World)(hS:S.length=n)(hl:l.length<=2048)(hat:∀k (Z:k<l.length),∃m:Nat,l[k].at_=(m:Int)/\m<n)(hrl:RdB w w.heap.size A l)(f:gB<w.heap.size)(o:w.cell? ⟨gB,0,none⟩=some (.slice (some ⟨g,0,none⟩) n c))(h:Rd w w.heap.size (some ⟨g,0,none⟩) (S.flatMap bE)):
 Calls prog 251 #[.slice A l.length cl,.func (.func 204) #[] #[.pointer (some ⟨gB,0,none⟩)]] w λe w'=>FR S l e/\Below w.heap.size w w':=by
 have T:=hid hrl;have s:=hid (And.intro f o);have X:=hid h;have E:=hid hat;have V:=hid (λm xs C z u B W R U h2 Y=>AO gB g c n m S xs C z u B W hS R U h2 Y);clear hrl f o h hat;go_enter func251,ntmps251;go_wp2_with fail;go_loopw [8] (λi wr=>∃k:Nat,k<=l.length/\i=.int .i64 k/\Hid (iU S l k)/\Below w.heap.size w wr) (λi _=>l.length-(intOf i).toNat)
 case atStart=>exact⟨0,kqy _,rfl,iU.zero S l,kql _ _⟩
 obtain⟨k,Z,rfl,t,f⟩:=hrel;have Q:=f.size;by_cases j:k<l.length
 .obtain ⟨b,off,rfl,hbw,N,M,I,L,P,K⟩:=RdB.at_ (Rd.below T.out f) j;obtain⟨m,q,H⟩:=E.out k j;have d:=hid (λh=>t.out.succ h);have a:=hid (show ∀r,eG S (gk l k)=r->FR S l (.returned (.int .i64 (k:Int)))\/r=false from λr D=>by
   cases r
   .exact .inr rfl
   exact .inl (.inr ⟨k,j,rfl,t.out,D⟩))
  rw[bN l k j] at d a;obtain⟨x,O⟩:=xq (l[k]);rw[O] at N M I L P K q d a;obtain⟨xa,xs,C,z,u,B⟩:=x;dsimp only at N M I L P K q;subst q;have y:eG S ⟨(m:Int),xs,C,z,u,B⟩=(u==(S[m]?.getD false)):=by unfold eG;dsimp only;rw[kqj]
  rw[y] at d a;have hlm:(k:Int)<(l.length:Int):=by omega
  have hk0:(0:Int)<=(k:Int):=by omega
  have J:=hid (V.out m xs C z u B wr H (by have:=s.out.1;omega) ((f.cell (p:=⟨gB,0,none⟩) s.out.1).trans s.out.2) (X.out.up f Q));obtain⟨r,D⟩:=xq ((u==(S[m]?.getD false)));rw[D] at J d a;clear O D y;go_wp2_with fail;refine J.out.mono ?_;rintro e w2 ⟨rfl,G⟩;have v:=f.trans (G.mono Q);cases r
  .have F:=hid (d.out rfl);go_wp2;go_roundw
   case rel=>exact⟨k+1,by omega,by go_num,F.out,v⟩
   case measure=>simp[intOf];omega
  have F:=hid ((a.out true rfl).resolve_right (by decide));go_wp2;go_ret;exact⟨F.out,v⟩
 obtain rfl:k=l.length:=by omega
 go_wp2;go_ret;exact⟨.inl ⟨rfl,t.out⟩,f⟩
def r7 (xs:List Value):Nat->List Value->List Value
 | _,[]=>xs
 | o,v::vs=>r7 (xs.set o v) (o+1) vs
theorem sD(pre:List Value):∀(vs a:List Value) (o:Nat),r7 (pre++a) (pre.length+o) vs=pre++r7 a o vs:=by
 intro vs
 induction vs with
 | nil=>intro a o;rfl
 | cons v vs ih =>intro a o;simp only[r7];rw[kk4 _ _ (by omega),show pre.length+o-pre.length=o by omega,kjx,ih]
theorem Au:∀(l:List Bk) (k:Nat) (x:Bk),k<l.length->r7 (l.flatMap Bk.cells) (k*6) x.cells=(l.set k x).flatMap Bk.cells:=by
 intro l
 induction l with
 | nil=>intro k x h;simp at h
 | cons b l ih =>
  intro k x h;cases k with
  | zero=>rfl
  | succ k =>have a:=ih k x (by simpa using h);rw[kzy,kqe,kzy,<-a,show (k+1)*6=b.cells.length+k*6 by show (k+1)*6=6+k*6;omega,sD]
theorem de :∀(vs:List Value) (o:Nat) (w:World) (xs:List Value),w.ownsRow H e sz (.slice (some ⟨g,0,none⟩) n c) n xs->(w.setCells g o vs).ownsRow H e sz (.slice (some ⟨g,0,none⟩) n c) n (r7 xs o vs):=by
 intro vs
 induction vs with
 | nil=>intro o w xs h;exact h
 | cons v vs ih=>intro o w xs h;exact ih (o+1) _ _ (h.stored o v).1
theorem jz{B b o:Nat}{cs:List Value}(h:Rd w B (some ⟨b,o,none⟩) cs)(hne:b≠g)(o':Nat)(vs:List Value):Rd (w.setCells g o' vs) B (some ⟨b,o,none⟩) cs:=by intro f;obtain⟨b',off,e,a,c⟩:=h f;cases e;refine⟨b,o,rfl,a,λj i=>?_⟩;rw[kx4 g vs o' w _ (λd _=>absurd d hne)];exact c j i
theorem jR{P:Program}(w:World)(t e ty:TypeId)(z:Value)(ht:P.underlying t=some (.slice e))(hv:∀w,(zeroValue e).run P w=.ok z w)(L:List Value)(b o n c:Nat)(hL:(Builtin.zeroCells z.cells n).toList=L)(hn:0<n)(h1:∀v∈L,v.oneCell'=true)(hc:∀j,j<L.length->(w.cell? ⟨b,o+j,none⟩).isSome=true)(hf:∀j,j<L.length->w.frozen? ⟨b,o+j,none⟩=false):
 (Builtin.clear_ #[t] ty #[.slice (some ⟨b,o,none⟩) n c]).run P w=.ok (.tuple #[]) (w.setCells b o L):=by have a:=Go.run_storeCells_cells (P:=P) b o L 0 w (by simpa using hc) (by simpa using hf) h1;simp only[kz8] at a;obtain⟨m,rfl⟩:∃m,n=m+1:=⟨n-1,by omega⟩;simp[Builtin.clear_,run_underlying ht,hv,hL,a]
def lm (S:List Bool) (l:List Bk):List Bk:=l.filter λb=>!eG S b
theorem qT(h:iU S l l.length):lm S l=l:=by unfold lm;rw[kvj];intro b c;obtain⟨k,a,rfl⟩:=kqz c;have:=h k a;rw[bN l k a] at this;simp[this]
theorem yY(h:iU S l k)(hk:k<=l.length):lm S (l.take k)=l.take k:=by refine qT λj a=>?_;rw[kq3] at a;have:=h j (by omega);rw[bN _ _ (by omega)] at this;rw[bN _ _ (by rw[kq3];omega),kkf];exact this
theorem nI(hk:k<l.length):lm S (l.take (k+1))=lm S (l.take k)++(if eG S l[k]=true then [] else [l[k]]):=by unfold lm;rw[kqo hk,kx8];congr 1;cases a:eG S l[k]<;>simp[a]
def ki (S:List Bool) (l R:List Bk) (k j:Nat):Prop:=k<j/\j<=l.length/\R.length=l.length/\R.take k=lm S (l.take j)/\R.drop j=l.drop j
theorem ki.get(h:ki S l R k j)(hj:j<l.length):∃b:j<R.length,R[j]=l[j]:=by
 obtain⟨h1,b,h3,h4,d⟩:=h;refine⟨by omega,?_⟩;have a:(R.drop j)[0]? = R[j]?:=by simp
 have c:(l.drop j)[0]? = l[j]?:=by simp
 rw[d,c,kqk hj,kqk (by omega)] at a;injection a with a;exact a.symm
theorem ki.drop1(h:ki S l R k j)(_hj:j<l.length):R.drop (j+1)=l.drop (j+1):=by have:=congrArg (List.drop 1) h.2.2.2.2;rwa [kxm,kxm] at this
theorem ki.first(hk:k<l.length)(h:iU S l k)(h1:eG S (gk l k)=true):ki S l l k (k+1):=by refine⟨by omega,by omega,rfl,?_,rfl⟩;rw[bN l k hk] at h1;rw[nI hk,yY h (by omega),if_pos h1,kzs]
theorem ki.del(h:ki S l R k j)(hj:j<l.length)(h1:eG S l[j]=true):ki S l R k (j+1):=by refine⟨by have:=h.1;omega,by omega,h.2.2.1,?_,h.drop1 hj⟩;rw[nI hj,if_pos h1,kzs];exact h.2.2.2.1
theorem ki.keep(h:ki S l R k j)(hj:j<l.length)(h1:eG S l[j]=false):ki S l (R.set k l[j]) (k+1) (j+1):=by
 obtain⟨c,e,a,b,d⟩:=h;refine⟨by omega,by omega,by rw[kq4];exact a,?_,?_⟩
 .rw[nI hj,if_neg (by rw[h1];simp),<-b,kqo (by rw[kq4];omega),List.getElem_set_self,kvk (kqd _)]
 rw[kvl (by omega)];exact ki.drop1 (S:=S) ⟨c,e,a,b,d⟩ hj
theorem kW{z:Array Value}(h:v∈(Builtin.zeroCells z n).toList)(h0:0<z.size):v∈z.toList:=by simp only[Builtin.zeroCells,Array.toList_map,kzw] at h;obtain⟨i,-,rfl⟩:=h;have a:i%z.size<z.size:=kz0 _ h0;rw[getElem!_pos z _ a];exact Array.getElem_mem_toList a
theorem kH(z:Array Value)(n:Nat):(Builtin.zeroCells z n).toList.length=n*z.size:=by simp[Builtin.zeroCells]
theorem jl{xs:List Value}(h:w.ownsRow H e sz (.slice (some ⟨g,0,none⟩) n c) n xs)(o k:Nat)(hk:o+k<=n*sz):w.there g o k:=λj hj =>
 ⟨by rw[h.cellAt (o+j) (by omega),kqk (by have:=h.1;omega)];rfl,h.frozenAt (o+j)⟩
theorem Cm(w:World):(zeroValue 55).run prog w=.ok (.agg #[.int .i64 0,.int .i64 0,.int .i64 0,.int .i64 0,.bool false,.int .u64 0]) w:=by kernel_rfl
theorem Gf:(prog.info? 55).map (·.size)=some 6:=by kernel_rfl
theorem sR(A:Option Addr)(l:List Bk)(S:List Bool)(gB g c n cl H:Nat)(w:World)(hS:S.length=n)(hl:l.length<=2048)(hat:∀k (hk:k<l.length),∃m:Nat,l[k].at_=(m:Int)/\m<n)(a:w.ownsRow H 55 6 (.slice A l.length cl) l.length (l.flatMap Bk.cells))(hH:H<=w.heap.size)(hB:gB<w.heap.size)(E:w.cell? ⟨gB,0,none⟩=some (.slice (some ⟨g,0,none⟩) n c))(h:Rd w w.heap.size (some ⟨g,0,none⟩) (S.flatMap bE))(Jy:(Value.slice A l.length cl).ownBlock≠some gB)(Jq:(Value.slice A l.length cl).ownBlock≠some g):
 Calls prog 203 #[.slice A l.length cl,.func (.func 204) #[] #[.pointer (some ⟨gB,0,none⟩)]] w λe w'=>∃A' c',e=.returned (.slice A' (lm S l).length c')/\RdB w' w'.heap.size A' (lm S l)/\w'.cell? ⟨gB,0,none⟩=some (.slice (some ⟨g,0,none⟩) n c)/\Rd w' w'.heap.size (some ⟨g,0,none⟩) (S.flatMap bE)/\gB<w'.heap.size/\Below H w w':=by
 have Jh:=hid (wc A l S gB g c n cl w hS hl hat (Rd.of_own a) hB E h);unfold FR at Jh;have Q:=hid a;have B:=hid (And.intro hB E);have HS:=hid h;have Ki:=hid hat;have HG:=hid (And.intro Jy Jq);have HC:=hid (λm xs u t f s W hm h1 h2 h3=>AO gB g c n m S xs u t f s W hS hm h1 h2 h3);clear a hB E h hat Jy Jq;go_enter func203,ntmps203;go_wp2_with fail;refine Jh.out.mono ?_;rintro e w1 ⟨⟨rfl,G⟩|⟨k,hk,rfl,G,F⟩,d⟩
 .have HR:=hid ((Rd.of_own Q.out).up d d.size);have D:=hid ((d.cell (p:=⟨gB,0,none⟩) B.out.1).trans B.out.2);have Je:=hid (HS.out.up d d.size);have HE:=hid (qT G);have hz:=d.size;have Ka:=d.mono hH;clear G;go_wp2;go_ret;rw[HE.out];exact⟨A,cl,rfl,HR.out,D.out,Je.out,by have:=B.out.1;omega,Ka⟩
 have HD:=hid (ki.first hk G F);obtain⟨y,cL,eL⟩:=fK Q.out (by omega);cases eL;have Js:=gp Q.out;have U:y≠gB:=λh=>HG.out.1 (by rw[h];rfl);have T:y≠g:=λh=>HG.out.2 (by rw[h];rfl);have Kh:=hid (ai Q.out d (kqd _));have D:=hid ((d.cell (p:=⟨gB,0,none⟩) B.out.1).trans B.out.2);have Je:=hid (HS.out.up d d.size);have Kl:=hid (d.mono hH);have Jz:=d.size;have hwk:IntKind.i64.wrap ((k:Int)+1)=(k:Int)+1:=kqs _ (by omega);have hkm:((k:Int) == -1)=false:=by rw[kqi];omega
 clear G F d;go_wp2_with fail;go_loopw [5,6] (λiv jv wr=>∃(i j:Nat) (R:List Bk),iv=.int .i64 i/\jv=.int .i64 j/\Hid (ki S l R i j)/\wr.ownsRow H 55 6 (.slice (some ⟨y,0,none⟩) l.length cl) l.length (R.flatMap Bk.cells)/\wr.cell? ⟨gB,0,none⟩=some (.slice (some ⟨g,0,none⟩) n c)/\Rd wr wr.heap.size (some ⟨g,0,none⟩) (S.flatMap bE)/\w.heap.size<=wr.heap.size/\Below H w wr) (λ_ jv _=>l.length-(intOf jv).toNat)
 case atStart=>exact⟨k,k+1,l,rfl,by go_num,HD.out,Kh.out,D.out,Je.out,Jz,Kl.out⟩
 obtain⟨i,j,R,rfl,rfl,Jc,a,N,O,hz,hB⟩:=hrel;have Z:=Jc.out;by_cases K:j<l.length
 .obtain ⟨Kq,eR⟩:=Z.get K;obtain⟨s1,s2,s3,-,-⟩:=Z;obtain⟨b,off,eA,hbw,q0,q1,q2,q3,q4,q5⟩:=RdB.at_ (show RdB wr wr.heap.size _ _ from Rd.of_own a) Kq;cases eA;simp only[kxa] at q0 q1 q2 q3 q4 q5;rw[eR] at q0 q1 q2 q3 q4 q5;obtain⟨m,Jd,Kc⟩:=Ki.out j K;have HK:=hid (λh=>Jc.out.keep K h);have M:=hid (λh=>Jc.out.del K h);obtain⟨x,hx⟩:=xq (l[j]);rw[hx] at q0 q1 q2 q3 q4 q5 Jd HK M;obtain⟨xa,xs,u,t,f,s⟩:=x;dsimp only at q0 q1 q2 q3 q4 q5 Jd;subst Jd;have F:eG S ⟨(m:Int),xs,u,t,f,s⟩=(f==(S[m]?.getD false)):=by unfold eG;dsimp only;rw[kqj]
  rw[F] at HK M;have hlm:(j:Int)<(l.length:Int):=by omega
  have hj0:(0:Int)<=(j:Int):=by omega
  have Kp:(0:Int)<=(i:Int):=by omega
  have Jk:(i:Int)<(l.length:Int):=by omega
  have hgB:=B.out.1;have Jt:=hid (hB.alloc (kz5 hH hz) (.cells #[.int .i64 (m:Int),.int .i64 xs,.int .i64 u,.int .i64 t,.bool f,.int .u64 (s:Int)] 55));have BN:=hid (Bx.new wr 55 #[.int .i64 (m:Int),.int .i64 xs,.int .i64 u,.int .i64 t,.bool f,.int .u64 (s:Int)]);have Jj:=hid (a.alloc (.cells #[.int .i64 (m:Int),.int .i64 xs,.int .i64 u,.int .i64 t,.bool f,.int .u64 (s:Int)] 55));have X:=hid ((kzi wr (.cells #[.int .i64 (m:Int),.int .i64 xs,.int .i64 u,.int .i64 t,.bool f,.int .u64 (s:Int)] 55) ⟨gB,0,none⟩ (by show gB<wr.heap.size;omega)).trans N);have Ja:=hid (Rd.more (Rd.alloc O (kqd _) (.cells #[.int .i64 (m:Int),.int .i64 xs,.int .i64 u,.int .i64 t,.bool f,.int .u64 (s:Int)] 55)) (show wr.heap.size<=(wr.alloc (.cells #[.int .i64 (m:Int),.int .i64 xs,.int .i64 u,.int .i64 t,.bool f,.int .u64 (s:Int)] 55)).heap.size by simp));have hgLw:=(a.lt y rfl).2;clear hx F N O a;go_upto_region 8 with (fail);obtain⟨wn,Y⟩:∃wn,wr.alloc (.cells #[.int .i64 (m:Int),.int .i64 xs,.int .i64 u,.int .i64 t,.bool f,.int .u64 (s:Int)] 55)=wn:=⟨_,rfl⟩;rw[Y] at Jt BN Jj X Ja |-;have hszn:wn.heap.size=wr.heap.size+1:=by rw[<-Y];simp
  clear Y q0 q1 q2 q3 q4 q5;have HQ:=hid (HC.out m xs u t f s wn Kc (by omega) X.out Ja.out);obtain⟨r,hr⟩:=xq ((f==(S[m]?.getD false)));rw[hr] at HQ HK M;clear hr;obtain⟨p0,p1,p2,p3,p4,p5,pf,Ke⟩:=BN.out.c6;go_wp2_with fail;refine HQ.out.mono ?_;rintro e w2 ⟨rfl,z⟩;have Ji:=hid (Jt.out.trans (z.mono (kz5 hH (by omega))));have Jb:=hid (ai Jj.out z (kqd _));have Jm:=hid ((z.cell (p:=⟨gB,0,none⟩) (by show gB<wn.heap.size;omega)).trans X.out);have Jp:=hid (Ja.out.up z z.size);have bn2:=BN.out.up z Ke;have hz2:=z.size;clear z p0 p1 p2 p3 p4 p5 pf;obtain⟨p0,p1,p2,p3,p4,p5,pf,hgn2⟩:=bn2.c6;cases r
  .have HY:=hid (HK.out rfl);have C:w2.there y (i*6) (#[.int .i64 (m:Int),.int .i64 xs,.int .i64 u,.int .i64 t,.bool f,.int .u64 (s:Int)]:Array Value).size:=jl Jb.out (i*6) 6 (by omega);have Jo:(prog.info? 55).map (·.size)=some (#[.int .i64 (m:Int),.int .i64 xs,.int .i64 u,.int .i64 t,.bool f,.int .u64 (s:Int)]:Array Value).size:=Gf;have Jl:(#[.int .i64 (m:Int),.int .i64 xs,.int .i64 u,.int .i64 t,.bool f,.int .u64 (s:Int)]:Array Value).all (·.oneCell')=true:=by simp[Value.oneCell']
   have V:=hid (de (Bk.cells ⟨(m:Int),xs,u,t,f,s⟩) (i*6) w2 _ Jb.out);rw[Au R i ⟨(m:Int),xs,u,t,f,s⟩ (by omega)] at V;have Jg:=hid ((kx4 y (Bk.cells ⟨(m:Int),xs,u,t,f,s⟩) (i*6) w2 ⟨gB,0,none⟩ (λh9 _=>absurd h9.symm U)).trans Jm.out);have Ju:=hid (jz Jp.out (λh9=>T h9.symm) (i*6) (Bk.cells ⟨(m:Int),xs,u,t,f,s⟩));have Jw:=hid (aU Js (Bk.cells ⟨(m:Int),xs,u,t,f,s⟩) (o:=i*6) Ji.out);have J:=cV (g:=y) (Bk.cells ⟨(m:Int),xs,u,t,f,s⟩) w2 (i*6);obtain⟨cs,Eq⟩:∃cs:Array Value,#[.int .i64 (m:Int),.int .i64 xs,.int .i64 u,.int .i64 t,.bool f,.int .u64 (s:Int)]=cs:=⟨_,rfl⟩;obtain⟨w3,Jf⟩:∃w3,w2.setCells y (i*6) (Bk.cells ⟨(m:Int),xs,u,t,f,s⟩)=w3:=⟨_,rfl⟩;have Kn:w2.setCells y (i*6) cs.toList=w3:=by rw[<-Eq];exact Jf
   rw[Jf] at V Jg Ju Jw J;rw[Eq] at C Jo Jl;clear Jf;go_wp2_with (refine kjo rfl _ _ _ rfl y (i*6) cs (by rfl) (by rw[<-Eq];rfl) C Jo Jl ?_;rw[Kn]);go_roundw
   case rel=>exact⟨i+1,j+1,R.set i ⟨(m:Int),xs,u,t,f,s⟩,by go_num,by go_num,HY.out,V.out,Jg.out,Rd.more Ju.out (by rw[J];exact kqd _),by rw[J];omega,Jw.out⟩
   case measure=>simp[intOf];omega
  have HY:=hid (M.out rfl);go_wp2;go_roundw
  case rel=>exact⟨i,j+1,R,rfl,by go_num,HY.out,Jb.out,Jm.out,Jp.out,by omega,Ji.out⟩
  case measure=>simp[intOf];omega
 obtain⟨s1,s2,s3,s4,-⟩:=Z;obtain⟨A9,c9,e9,hle,Jr⟩:=kC a;cases e9;have HRD:=hid Jr;have hicl:(i:Int)<=(cl:Int):=by omega
 have hill:(i:Int)<=(l.length:Int):=by omega
 have Kp:(0:Int)<=(i:Int):=by omega
 have hne:i≠cl:=by omega
 have hnec:¬ ((i:Int)=(cl:Int)):=by omega
 have Kd:j=l.length:=by omega
 have Kj:=hid (show lm S l=R.take i by rw[s4,Kd,kzn]);have Ko:=a.1;obtain⟨L,hL⟩:=xq ((Builtin.zeroCells (Value.cells (.agg #[.int .i64 0,.int .i64 0,.int .i64 0,.int .i64 0,.bool false,.int .u64 0])) (l.length-i)).toList);have Jv:L.length=(l.length-i)*6:=by rw[<-hL,kH];rfl
 have C:=jl a (i*6) L.length (by rw[Jv];omega);have hcl:=jR (P:=prog) wr 48 55 0 _ underlying48 Cm L y (i*6) (l.length-i) (cl-i) hL (by omega)
  (λv hv=>by
   rw[<-hL] at hv;have:=kW hv (by decide);simp[Value.cells] at this;rcases this with rfl|rfl|rfl<;>rfl)
  (λq hq=>(C q hq).1) (λq hq=>(C q hq).2)
 have Kk:=hid ((kx4 y L (i*6) wr ⟨gB,0,none⟩ (λh9 _=>absurd h9.symm U)).trans N);have Kg:=hid (jz O (λh9=>T h9.symm) (i*6) L);have Km:=hid (aU Js L (o:=i*6) hB);have I:=cV (g:=y) L wr (i*6);have Kf:Hid (Rd (wr.setCells y (i*6) L) wr.heap.size (some ⟨y,0,none⟩) ((R.take i).flatMap Bk.cells)):=hid λ_=>by
  refine⟨y,0,rfl,(a.lt y rfl).2,λq hq=>?_⟩;have hq6:q<i*6:=by have:=hq;rw[gU Bk.cells 6 Bk.len,kq3] at this;omega
  rw[kx4 y L (i*6) wr _ (λ_ _=>.inl (by show 0+q<i*6;omega))];have e1:=a.cellAt q (by omega);rw[kxa,e1];have Kb:q<(R.flatMap Bk.cells).length:=by rw[Ko];omega
  rw[kqk Kb];congr 1;simp only[gU Bk.cells 6 Bk.len,kkf]
 have Jk:(R.take i).length=i:=by rw[kq3];omega
 clear Jr hL Jv C a N O hB;go_wp2;go_ret;rw[Kj.out,Jk];exact⟨some ⟨y,0,none⟩,cl,rfl,Rd.more Kf.out (by rw[I];exact kqd _),Kk.out,Rd.more Kg.out (by rw[I];exact kqd _),by rw[I];have:=B.out.1;omega,Km.out⟩
def xS (ws:List Nat) (S:List Bool) (b:Bk):En:=⟨b.at_,fX (wd ws b.at_.toNat) (S[b.at_.toNat]?.getD false)⟩
noncomputable def aO (ws:List Nat):List En:=if aA ws=0 then (lm (seenL ws) (ag ws)).map (xS ws (seenL ws)) else []
theorem vk(h1:aA ws=r)(h0:r≠0):aO ws=[]:=by unfold aO;rw[if_neg (by rw[h1];exact h0)]
theorem qe(S:List Bool)(l:List Bk):(lm S l).length<=l.length:=kjk _ _
theorem qt{b:Bk}(h:b∈lm S l):b∈l:=(kzo.1 h).1
theorem AC(ws:List Nat)(S:List Bool)(l:List Bk)(hk:k<l.length):(l.take (k+1)).map (xS ws S)=(l.take k).map (xS ws S)++[xS ws S l[k]]:=by rw[kqo hk,kjj];rfl
theorem hp_ats(h:ah ws=0):∀k (b:k<(ag ws).length),∃m:Nat,(ag ws)[k].at_=(m:Int)/\m<ws.length:=by intro k b;obtain⟨hs,l,d,ha,e⟩:=ay h;subst e;obtain⟨a,c,-,-,f,-⟩:=b9 _ _ d (by omega) k b;exact⟨a,by rw[c];rfl,f⟩
theorem vQ(A:Option Addr)(ws:List Nat)(c n:Nat)(w:World)(hn:ws.length=n)(hm:n<=9223372036854775807)(hr:RdW w w.heap.size A ws)(ho:∀x∈ws,x<18446744073709551616):
 Calls prog 141 #[.slice A n c] w λe w'=>ii w.heap.size (aA ws) (aO ws) e w'/\Below w.heap.size w w':=by
 subst hn;have HR:=hid hr;have HC:=hid (Dc A ws c ws.length w rfl hm hr ho);unfold zZ at HC;have HO:=hid ho;clear hr ho;by_cases T:ah ws=0
 .obtain ⟨l,hl⟩:∃l,ag ws=l:=⟨_,rfl⟩;have J:=hid (λL cl W (h:RdW W W.heap.size A ws) (h2:RdB W W.heap.size L l)=>CF A L ws c cl ws.length l W rfl hm T hl h h2 HO.out);unfold RcRes at J;have N:=hp_ats T;have Kz:=jh ws;rw[T,hl] at HC;rw[hl] at N Kz;have N:=hid N;have Z:=gJ ws (ay T).1;have hlen:=Z.2.1;have hlen1:=Z.1;by_cases hz:aA ws=0
  .have HV:=hid (show aA ws=0/\aO ws=(lm (seenL ws) l).map (xS ws (seenL ws)) from ⟨hz,by unfold aO;rw[if_pos hz,hl]⟩);have Jy:=AK ws;obtain⟨i0,hi,Km,Jq,Ka⟩:=kzv dm;have HI:=hid hi;have Ku:=hid Km;have Lb:=hid Jq;have Kv:=hid Ka;clear hi Km Jq Ka;clear T hl Z hz;generalize seenL ws=S at J HV Jy;have Kf:=hid (λ(A1:Option Addr) (cl V g U H:Nat) (W:World) h1 h2 h3 h4 h5 h6 h7=>sR A1 l S V g U ws.length cl H W Jy (by omega) N.out h1 h2 h3 h4 h5 h6 h7);have Y:=hid Jy;have Kt:=hid (λa m W=>ov (wd ws a) m W (fF HO.out a));go_enter func141,ntmps141;go_wp2_with fail;refine HC.out.mono ?_;rintro e w1 ⟨⟨A1,c1,rfl,f⟩,o⟩;have G:=hid o;have K:=hid (HR.out.up o o.size);have F:=hid f;clear f o;go_wp2_with fail;refine (J.out A1 _ w1 K.out (show RdB _ _ _ _ from Rd.of_own F.out)).mono ?_;rintro e wE ⟨⟨-,g,U,rfl,s⟩|⟨h9,-⟩,z⟩
   .have P:=hid (G.out.trans (z.mono G.out.size));have Kn:=hid (K.out.up z z.size);have Kc:=hid (ai F.out z (kqd _));have HS:=hid s;have hgE:=s.lt g rfl;have Jg:=fE Kc.out s (by decide);have Jd:=F.out.lt;have Jq:=G.out.size;have Ka:=z.size;have Ks:=P.out.size;have h6:(Value.slice A1 l.length c1).ownBlock≠some wE.heap.size:=λh=>by
     have:=(Jd _ h).2;omega
    have h7:(Value.slice A1 l.length c1).ownBlock≠some g:=λh=>by
     rcases Jg with h8|h8
     .rw[h] at h8;cases h8
     exact h8 h
    clear s z Jg Jd;have HX:=hid (Bx.new wE 114 #[.slice (some ⟨g,0,none⟩) ws.length U]);have Jz:=hid (Kc.out.alloc (.cells #[.slice (some ⟨g,0,none⟩) ws.length U] 114));have Jp:=hid ((Rd.of_own HS.out).alloc (kqd _) (.cells #[.slice (some ⟨g,0,none⟩) ws.length U] 114));have Kq:=hid (Kn.out.alloc (kqd _) (.cells #[.slice (some ⟨g,0,none⟩) ws.length U] 114));have Ja:=hid (P.out.alloc Ks (.cells #[.slice (some ⟨g,0,none⟩) ws.length U] 114));go_wp2_with fail;obtain⟨wX,Jo⟩:∃wX,wE.alloc (.cells #[.slice (some ⟨g,0,none⟩) ws.length U] 114)=wX:=⟨_,rfl⟩;have Ke:wX.heap.size=wE.heap.size+1:=by rw[<-Jo];simp
    rw[Jo] at HX Jz Jp Kq Ja |-;clear Jo;have Jf:=hid (Rd.more Jp.out (show wE.heap.size<=wX.heap.size by omega));refine (Kf.out A1 c1 wE.heap.size g U w.heap.size wX Jz.out Ja.out.size (by omega) HX.out.c1.1 Jf.out h6 h7).mono ?_;rintro e w3 ⟨A3,c3,rfl,Jj,Jc,Jb,Jh,Kd⟩;have R:=hid (Ja.out.trans Kd);have La:=hid (HR.out.up R.out R.out.size);have Je:=hid Jj;have Ji:=hid Jc;have Ky:=hid Jb;obtain⟨V,Jt⟩:=xq wE.heap.size;rw[Jt] at Ji Jh;have Kr:=qe S l;have Kg:Hid (∀k (hk:k<(lm S l).length),∃m:Nat,(lm S l)[k].at_=(m:Int)/\m<ws.length):=hid (λk hk=>by
     obtain⟨j,hj,e⟩:=kqz (qt (kqp hk));rw[<-e];exact N.out j hj)
    have Kh:=hid (λk (hk:k<(lm S l).length)=>AC ws S (lm S l) hk);obtain⟨d,hd⟩:=xq (lm S l);rw[hd] at Je Kg Kh Kr HV;simp only[hd,Jt];clear hd Jj Jc Jb Kd HX Jz Jp Kq Ja Jf h6 h7 Ke Jt J Kf HC Kc F HS K Kn;go_wp2_with fail;go_loopw [7,34] (λv i wr=>∃k:Nat,k<=d.length/\i=.int .i64 k/\wr.ownsRow w3.heap.size 89 2 v (d.take k).length (((d.take k).map (xS ws S)).flatMap En.cells)/\Below w3.heap.size w3 wr) (λ_ i _=>d.length-(intOf i).toNat)
    case atStart=>exact⟨0,kqy _,rfl,kq8 _ _ _ _,kql _ _⟩
    obtain⟨k,hk,rfl,t,hB⟩:=hrel;have hz:=hB.size;by_cases Jm:k<d.length
    .obtain ⟨b,off,rfl,hbw,q0,q1,q2,q3,q4,q5⟩:=RdB.at_ (Rd.below Je.out hB) Jm;obtain⟨m,Kb,M⟩:=Kg.out k Jm;have E:=hid (Kh.out k Jm);obtain⟨x,hx⟩:=xq (d[k]);rw[hx] at q0 q1 q2 q3 q4 q5 Kb E;obtain⟨xa,xs,xk,xt,xm,xn⟩:=x;dsimp only at q0 q1 q2 q3 q4 q5 Kb;subst Kb;have Kp:xS ws S ⟨(m:Int),xs,xk,xt,xm,xn⟩=⟨(m:Int),fX (wd ws m) (S[m]?.getD false)⟩:=by unfold xS;dsimp only;rw[kqj]
     rw[Kp] at E;obtain⟨bW,oW,rfl,hbW,x0⟩:=RdW.at_ (Rd.below La.out hB) M;rw[<-cq] at x0;obtain⟨bS,oS,eA,hbS,O⟩:=Rd.at_flat fM (Rd.below Ky.out hB) (by omega) (show m<S.length by rw[Y.out];exact M);cases eA;have O:=O 0 (by omega);have O:wr.cell? ⟨g,m,none⟩=some (.bool (S[m]'(by rw[Y.out];exact M))):=by simpa [bE] using O
     have Kl:S[m]'(by rw[Y.out];exact M)=S[m]?.getD false:=by rw[kqk (by rw[Y.out];exact M)];rfl
     rw[Kl] at O;have HQ:=hid (λW=>Kt.out m (S[m]?.getD false) W);obtain⟨y,hy⟩:=xq (S[m]?.getD false);rw[hy] at O E HQ;obtain⟨u,hu⟩:=xq (wd ws m);rw[hu] at x0 E HQ;obtain⟨v,hv⟩:=xq (fX u y);obtain⟨er,Ki⟩:=xq (n9 u y);rw[hv] at E HQ;rw[Ki] at HQ;have z0:=(hB.cell (p:=⟨V,0,none⟩) Jh).trans Ji.out;have hlm:(k:Int)<(d.length:Int):=by omega
     have hmi:(m:Int)<(ws.length:Int):=by omega
     have hm0:(0:Int)<=(m:Int):=by omega
     have hk0:(0:Int)<=(k:Int):=by omega
     have Eq:=hid (hB.alloc hz (.cells #[.int .i64 (m:Int),.int .i64 xs,.int .i64 xk,.int .i64 xt,.bool xm,.int .u64 (xn:Int)] 55));have BN:=hid (Bx.new wr 55 #[.int .i64 (m:Int),.int .i64 xs,.int .i64 xk,.int .i64 xt,.bool xm,.int .u64 (xn:Int)]);have Jw:=hid (t.alloc (.cells #[.int .i64 (m:Int),.int .i64 xs,.int .i64 xk,.int .i64 xt,.bool xm,.int .u64 (xn:Int)] 55));have Jv:=hid ((kzi wr (.cells #[.int .i64 (m:Int),.int .i64 xs,.int .i64 xk,.int .i64 xt,.bool xm,.int .u64 (xn:Int)] 55) ⟨bW,oW+m,none⟩ (by show bW<wr.heap.size;omega)).trans x0);have Js:=hid ((kzi wr (.cells #[.int .i64 (m:Int),.int .i64 xs,.int .i64 xk,.int .i64 xt,.bool xm,.int .u64 (xn:Int)] 55) ⟨g,m,none⟩ (by show g<wr.heap.size;omega)).trans O);have Q:=hid ((kzi wr (.cells #[.int .i64 (m:Int),.int .i64 xs,.int .i64 xk,.int .i64 xt,.bool xm,.int .u64 (xn:Int)] 55) ⟨V,0,none⟩ (by show V<wr.heap.size;omega)).trans z0);clear hx Kp Kl hy hu hv Ki x0 O z0 t;go_upto_region 12 with (fail);obtain⟨wn,Jr⟩:∃wn,wr.alloc (.cells #[.int .i64 (m:Int),.int .i64 xs,.int .i64 xk,.int .i64 xt,.bool xm,.int .u64 (xn:Int)] 55)=wn:=⟨_,rfl⟩;rw[Jr] at Eq BN Jw Jv Js Q |-;have hszn:wn.heap.size=wr.heap.size+1:=by rw[<-Jr];simp
     clear Jr q0 q1 q2 q3 q4 q5;obtain⟨p0,p1,p2,p3,p4,p5,pf,Kw⟩:=BN.out.c6;have x0:=Jv.out;have O:=Js.out;have z0:=Q.out;have gW:bW<wn.heap.size:=by omega
     have gS:g<wn.heap.size:=by omega
     have gZ:V<wn.heap.size:=by omega
     go_region_held3 (λX:World=>X.cell? ⟨bW,oW+m,none⟩=some (.int .u64 (u:Int))/\X.cell? ⟨V,0,none⟩=some (.slice (some ⟨g,0,none⟩) ws.length U)/\X.cell? ⟨g,m,none⟩=some (.bool y)/\X.cell? ⟨wr.heap.size,0,none⟩=some (.int .i64 (m:Int))) (go_keep)
      (first | (go_at_call 205;refine (HQ.out _).mono ?_;rintro e w5 ⟨rfl,D⟩;have m0:=(D.cell (p:=⟨bW,oW+m,none⟩) gW).trans x0;have m1:=(D.cell (p:=⟨V,0,none⟩) gZ).trans z0;have m2:=(D.cell (p:=⟨g,m,none⟩) gS).trans O;have m3:=(D.cell (p:=⟨wr.heap.size,0,none⟩) Kw).trans p0))
     have Ju:Below wn.heap.size wn w5:=(kql _ _).drew.trans D;have B:=ai Jw.out Ju (kqd _);have I:=Eq.out.trans (Ju.mono Eq.out.size);have hz5:=I.size;have Ko:(d.take k).length=k:=by rw[kq3];omega
     have Jl:(d.take (k+1)).length=k+1:=by rw[kq3];omega
     rw[Ko] at B;have Lc:=hid Jl;have Jk:=hid B;have Kj:=hid I;clear x0 O z0 p0 p1 p2 p4 p5 pf m0 m1 m2 D Ju Ko Jl B I Jw Eq BN Jv Js Q;go_wp2_with (at_builtin;refine kzd _ rfl _ _ 26 rfl w3.heap.size 89 i0 _ 2 16 underlying26 HI.out Ku.out Lb.out Kv.out rfl (by decide) _ _ _ rfl (Jk.out.alloc _) ⟨_,0,none⟩ 1 1 [.int .i64 (m:Int),.int .u64 (v:Int)] rfl rfl (cC _ _ _) (by simp[Value.oneCell']) (by unfold maxLen;omega) (by omega) (by simp;omega) ?_;intro v1 w6 f Ld _;have Kx:=aC Kj.out (by omega) Jk.out Ld);go_roundw
     case rel=>exact⟨k+1,by omega,by go_num,by rw[E.out,Lc.out,ce];exact f,Kx⟩
     case measure=>simp[intOf];omega
    rw[kq5 (by omega)] at t;have C:wr.ownsRow w3.heap.size 89 2 u7 (aO ws).length ((aO ws).flatMap En.cells):=by rw[HV.out.2,kz3];exact t
    obtain⟨A4,c4,rfl⟩:=aJ C;have Kk:=hid (ao C R.out.size);clear t C;go_wp2;go_ret2;exact⟨⟨A4,c4,by rw[HV.out.1];rfl,Kk.out⟩,R.out.trans (hB.mono R.out.size)⟩
   exfalso;rw[HV.out.1] at h9;exact absurd h9 (by decide)
  have HZ:=hid hz;clear T hl Z hz;go_enter func141,ntmps141;go_wp2_with fail;refine HC.out.mono ?_;rintro e w1 ⟨⟨A1,c1,rfl,f⟩,o⟩;have G:=hid o;have K:=hid (HR.out.up o o.size);have F:=hid f;clear f o;go_wp2_with fail;refine (J.out A1 _ w1 K.out (show RdB _ _ _ _ from Rd.of_own F.out)).mono ?_;rintro e wE ⟨⟨h9,-⟩|⟨h9,rfl⟩,z⟩
  .exact absurd h9 HZ.out
  have P:=hid (G.out.trans (z.mono G.out.size));have H9:=hid h9;clear h9;go_wp2;go_ret2;exact⟨bL H9.out (vk H9.out (by decide)),P.out.alloc P.out.size _⟩
 have HZ:=hid (And.intro (wB T) T);obtain⟨r,hr⟩:=xq (ah ws);rw[hr] at HC HZ;have hn1:(r != 0)=true:=by rw[kqv,<-hr];exact T
 obtain⟨q,hq⟩:=xq ((ag ws).length);rw[hq] at HC;clear T hr hq;go_enter func141,ntmps141;go_wp2_with fail;refine HC.out.mono ?_;rintro e w1 ⟨⟨A1,c1,rfl,-⟩,o⟩;go_wp2;go_ret2;exact⟨bL HZ.out.1 (vk HZ.out.1 HZ.out.2),o⟩
end Go.Proofs.YtpcajamacpbjcaaGreat
