/- Texts laid together: FrmF Wnt DelP Del DelW Wtd WtdW. -/
import Derived.Test.YtpcajamacpbjcaaGreatZKHeap
import Derived.Test.YtpcajamacpbjcaaGreatZKRch
import Derived.Lib.SliceRun
import Derived.Test.YtpcajamacpbjcaaGreatZKMove
set_option maxHeartbeats 16000000
set_option maxRecDepth 100000
set_option linter.all false
namespace Go.Proofs.YtpcajamacpbjcaaGreat
open Lib (hid)
open Go.RowKit
variable {a r:Int}{R l:List Bk}{S:List Bool}{ws:List Nat}{H c g j k n sz:Nat}{e:TypeId}{v:Value}{w w':World}
open Go.Proofs.Tryz
def uG (H:Nat) (ws:List Nat) (a:Int) (e:Ending) (w':World):Prop:=∃A c,e=.returned (.tuple #[.slice A (aQ ws a).length c,.int .i64 (cc ws a)])/\w'.ownsRow H 55 6 (.slice A (aQ ws a).length c) (aQ ws a).length ((aQ ws a).flatMap Bk.cells)
theorem jB(hr:cc ws a=r)(h0:r≠0):uG H ws a (.returned (.tuple #[.slice none 0 0,.int .i64 r])) w':=by
 subst hr;have:aQ ws a=[]:=by simp[aQ,h0]
 exact⟨none,0,by rw[this];rfl,by rw[this];exact kza _ _ _ _⟩
theorem yc(h0:cc ws a=0)(hl:aQ ws a=l)(h:w'.ownsRow H 55 6 v l.length (l.flatMap Bk.cells)):uG H ws a (.returned (.tuple #[v,.int .i64 0])) w':=by obtain⟨A,c,rfl⟩:=aO h;exact⟨A,c,by rw[hl,h0],by rw[hl];exact h⟩
def Ar (H:Nat) (ws:List Nat) (e:Ending) (w':World):Prop:=∃A c,e=.returned (.tuple #[.slice A (af ws).length c,.int .i64 (ah ws)])/\w'.ownsRow H 55 6 (.slice A (af ws).length c) (af ws).length ((af ws).flatMap Bk.cells)
theorem kY(hr:ah ws=r)(h0:r≠0):Ar H ws (.returned (.tuple #[.slice none 0 0,.int .i64 r])) w':=by
 subst hr;have:af ws=[]:=by simp[af,h0]
 exact⟨none,0,by rw[this];rfl,by rw[this];exact kza _ _ _ _⟩
theorem BE(A:Option Addr)(ws:List Nat)(c n:Nat)(a:Int)(w:World)(hn:ws.length=n)(hm:n<=9223372036854775807)(hr:RdW w w.heap.size A ws)(ho:∀x∈ws,x<18446744073709551616):
 Calls prog 65 #[.slice A n c,.int .i64 a] w λe w'=>uG w.heap.size ws a e w'/\Below w.heap.size w w':=by
 subst hn;have HR:=hid hr;have HO:=hid ho;clear hr ho;cases D:aj (ws.length:Int)
 .have U:=hid (bI D);have Q:=hid (fH (a:=a) D);clear D;go_enter func65,ntmps65;go_wp2_with fail;refine (aG A ws.length c w hm).mono ?_;rintro e B ⟨rfl,rfl⟩;rw[U.out];go_wp2;go_ret2;exact⟨jB Q.out (by omega),kqk _ _⟩
 have U:=hid (aZ D);have HS:=hid D;have hb:=kh (aZ D);obtain⟨h,hb2,M⟩:=hb;have Ke:=hid M;clear D hm M;by_cases d:128<=a/\a<=(ws.length:Int)/\a%2=0
 .obtain ⟨a1,a2,a3⟩:=d;have J:Hid (fe ws.length a=false):=hid (by
   simp only[fe,kzn,kqc,kqr];omega)
  have Kb:(a%2 != 0)=false:=by rw[kqr];exact a3
  have d1:decide (a<128)=false:=by rw[kqc];omega
  have d2:decide ((ws.length:Int)<a)=false:=by rw[kqc];omega
  have Eq:=hid a3;obtain⟨O,rfl⟩:=kq2 (show 0<=a by omega);have d2n:decide (ws.length<O)=false:=by rw[kqc];omega
  clear a3;obtain⟨i2,W,I,q,L⟩:=kzw kP;have HJ:=hid W;have Kd:=hid I;have Ka:=hid q;have Kf:=hid L;clear W I q L;go_enter func65,ntmps65;go_wp2_with fail;refine (aG A ws.length c w (by omega)).mono ?_;rintro e B ⟨rfl,rfl⟩;rw[U.out];go_wp2_with fail;go_loopw [1,7] (λp v wr=>∃(i:Nat) (b:List Bk),p=.int .i64 i/\O<=i/\i<=ws.length/\i%2=0/\blocks ws O=(blocks ws i).map (b ++ ·)/\b.length<=i/\wr.ownsRow w.heap.size 55 6 v b.length (b.flatMap Bk.cells)/\Below w.heap.size w wr) (λp _ _=>ws.length-(intOf p).toNat)
  case atStart=>exact⟨O,[],rfl,kqa _,by omega,by have:=Eq.out;omega,by simp,by simp,kza _ _ _ _,kqk _ _⟩
  obtain⟨i,b,rfl,q1,q2,q3,q4,q5,j,E⟩:=hrel;have X:=E.size;have Kg:=hid q3;have y:=hid q4;clear q4;by_cases F:i<ws.length
  .have s:i+1<ws.length:=by have:=Ke.out;omega
   clear q3;have ik1:(i:Int)<(ws.length:Int):=by omega
   cases g:stands ws i
   .have HN:=hid (eP HS.out J.out (by rw[kqj,y.out,di F g];rfl));obtain⟨K,G⟩:=zE g;have k:=hid (mP A ws c ws.length i wr rfl (by omega) s (HR.out.up E X) HO.out);rw[K,G] at k;unfold mA Bk.val at k;dsimp only at k;clear g K G j;go_wp2_with fail;refine k.out.mono ?_;rintro e B ⟨rfl,r⟩;have h:=E.trans (r.mono X);go_wp2;go_ret2;exact⟨jB HN.out (by omega),h.alloc h.size _⟩
   have H:=aF g;obtain⟨K,G⟩:=wL g;have k:=hid (mP A ws c ws.length i wr rfl (by omega) s (HR.out.up E X) HO.out);rw[K,G] at k;have u:=hid (show blocks ws O=(blocks ws (i+szAt ws i)).map ((b++[bkAt ws i]) ++ ·) by
    rw[y.out,aR F g];cases blocks ws (i+szAt ws i)<;>simp)
   have N:=hid (cq Bk.cells b (bkAt ws i));have m:=bq ws i;obtain⟨x,hx⟩:=xq (bkAt ws i);obtain⟨z,P⟩:=xq (szAt ws i);rw[hx] at k u N m;rw[P] at u H m;have HX:=hid hx;obtain⟨Y,xs,S,R,V,T⟩:=x;dsimp only at m;subst m;unfold Bk.val at k;dsimp only at k;obtain⟨z1,z2,z3⟩:=H;have Z:=hid z2;clear g K G hx P z2;go_wp2_with fail;refine k.out.mono ?_;rintro e B ⟨rfl,r⟩;have h:=E.trans (r.mono X);have f:=ai j r (kqa _);have q:=h.size;go_wp2_with (at_builtin;refine kze _ rfl _ _ 48 rfl w.heap.size 55 i2 _ 6 48 underlying48 HJ.out Kd.out Ka.out Kf.out rfl (by decide) _ _ _ rfl ((f.alloc _).alloc _) ⟨_,0,none⟩ 1 1 [.int .i64 Y,.int .i64 (z:Int),.int .i64 S,.int .i64 R,.bool V,.int .u64 (T:Int)] rfl rfl (lA _ _ _ (kqm _ _)) (by simp[Value.oneCell']) (by unfold maxLen;omega) (by omega) (by simp;omega) ?_;intro v1 w2 C t _;have o:Bx w2 B.heap.size 55 #[.int .i64 Y,.int .i64 (z:Int),.int .i64 S,.int .i64 R,.bool V,.int .u64 (T:Int)]:=((Bx.new B 55 _).alloc _).grown t (qh f);have Kc:=aE (h.alloc q (.cells #[.int .i64 Y,.int .i64 (z:Int),.int .i64 S,.int .i64 R,.bool V,.int .u64 (T:Int)] 55)) (by simp;omega) (f.alloc _) t;have hc1:w2.cell? ⟨B.heap.size,1,none⟩=some (.int .i64 (z:Int)):=o.cell 1;have hf1:=o.frozen 1;have hl1:=o.lt;clear t o);go_roundw
   case rel=>exact⟨i+z,b++[⟨Y,(z:Int),S,R,V,T⟩],by rw[kjn],by omega,by omega,by have:=Kg.out;have:=Z.out;omega,u.out,by simp;omega,by rw[N.out,kqu];exact C,Kc⟩
   case measure=>simp[intOf];omega
  have W:i=ws.length:=by omega
  have HD:=hid (cO HS.out J.out (l:=b) (by rw[kqj,y.out,aH (by omega)];simp));clear W q3;go_wp2;go_ret2;exact⟨yc HD.out.1 HD.out.2 j,E⟩
 have Q:=hid (jf HS.out (mX d));go_enter func65,ntmps65;go_wp2_with fail;refine (aG A ws.length c w (by omega)).mono ?_;rintro e B ⟨rfl,rfl⟩;rw[U.out];by_cases h1:a<128
 .clear d;go_wp2;go_ret2;exact⟨jB Q.out (by omega),kqk _ _⟩
 by_cases h2:(ws.length:Int)<a
 .clear d;go_wp2;go_ret2;exact⟨jB Q.out (by omega),kqk _ _⟩
 have Kb:(a%2 != 0)=true:=by rw[kqv];omega
 have d1:decide (a<128)=false:=by rw[kqc];omega
 have d2:decide ((ws.length:Int)<a)=false:=by rw[kqc];omega
 have a0:0<=a:=by omega
 clear d;go_wp2;go_ret2;exact⟨jB Q.out (by omega),kqk _ _⟩
theorem FC(A:Option Addr)(ws:List Nat)(c n:Nat)(w:World)(hn:ws.length=n)(hm:n<=9223372036854775807)(K:RdW w w.heap.size A ws)(ho:∀x∈ws,x<18446744073709551616):
 Calls prog 62 #[.slice A n c] w λe w'=>Ar w.heap.size ws e w'/\Below w.heap.size w w':=by
 subst hn;have HR:=hid K;have HO:=hid ho;have Eq:=hid (BE A ws c ws.length 128 w rfl hm K ho);clear K ho;cases L:aj (ws.length:Int)
 .have HI:=hid (bI L);have HE:=hid (nl L);clear L;go_enter func62,ntmps62;go_wp2_with fail;refine (aG A ws.length c w hm).mono ?_;rintro e M ⟨rfl,rfl⟩;rw[HI.out];go_wp2;go_ret2;exact⟨kY HE.out (by omega),kqk _ _⟩
 have HI:=hid (aZ L);obtain⟨Kd,B,Kh⟩:=gX ws L;have HS:=hid L;clear L Kh;go_enter func62,ntmps62;go_wp2_with fail;refine (aG A ws.length c w hm).mono ?_;rintro e M ⟨rfl,rfl⟩;rw[HI.out];go_wp2_with fail;refine Eq.out.mono ?_;rintro e M ⟨⟨A1,c1,rfl,p⟩,g⟩;have D:RdB M M.heap.size A1 (aQ ws 128):=Rd.of_own p;have o:=g.size;have S:=ix ws 128;have a:Hid (cc ws 128=0->aj (ws.length:Int)=true/\blocks ws 128=some (aQ ws 128)):=hid Cy;have J:Hid (∀r,cc ws 128=r->r≠0->ah ws=r):=hid (λ_ h h0=>vD h h0);obtain⟨l,hl⟩:=xq (aQ ws 128);rw[hl] at D p S a |-;have Ki:=hid D;have Kf:=hid p;obtain⟨r,K⟩:=xq (cc ws 128);have Ke:=hid K;rw[K] at a |-;clear K D p hl;by_cases j:r=0
 .subst j;have F:=hid (a.out rfl).2;clear a J;go_wp2_with fail;go_loopw [26] (λi wr=>∃k:Nat,k<=l.length/\i=.int .i64 k/\Hid ((l.take k).all (dK ws)=true)/\Below M.heap.size M wr) (λi _=>l.length-(intOf i).toNat)
  case atStart=>exact⟨0,kqy _,rfl,rfl,kqk _ _⟩
  obtain⟨k,hk,rfl,P,G⟩:=hrel;have hz:=G.size;by_cases q:k<l.length
  .obtain ⟨b,off,rfl,hbw,q0,q1,q2,q3,q4,q5⟩:=RdB.at_ (Ki.out.below G) q;have s:=hid (λh=>jM F.out (by omega) q h);have E:=hid (λh=>uv q P.out h);have C:=hid (λh=>ry HS.out F.out (Dc q h));obtain⟨x,hx⟩:=xq (l[k]);rw[hx] at q0 q1 q2 q3 q4 q5 s E C;have v:=hid (λh=>jC (ws:=ws) (b:=x) h);have N:=hid (λh=>eC (ws:=ws) (b:=x) h);have T:tyA x=96+2*x.typ.toNat:=rfl;rw[T] at v;obtain⟨xa,xs,xk,xt,xm,xn⟩:=x;dsimp only at q0 q1 q2 q3 q4 q5 s v;have hlm:(k:Int)<(l.length:Int):=by omega
   clear hx T;have y:=Bx.new wr 55 #[.int .i64 xa,.int .i64 xs,.int .i64 xk,.int .i64 xt,.bool xm,.int .u64 (xn:Int)];by_cases f:xk=1
   .obtain ⟨t0,t8⟩:=s.out f;obtain⟨t,rfl⟩:=kq2 t0;have z:=hid (v.out f);simp only[kqj] at z;subst f;have HC:=hid (λW (h:RdW W W.heap.size A ws)=>sd A ws c ws.length t W rfl (by omega) Kd (by omega) h HO.out);have hz1w:=o;have Ka:=hid ((((HR.out.up g o).up G hz).alloc (kqa _) (.cells #[.int .i64 xa,.int .i64 xs,.int .i64 1,.int .i64 (t:Int),.bool xm,.int .u64 (xn:Int)] 55)).more (B':=(wr.alloc (.cells #[.int .i64 xa,.int .i64 xs,.int .i64 1,.int .i64 (t:Int),.bool xm,.int .u64 (xn:Int)] 55)).heap.size) (by simp));obtain⟨O,Y⟩:=xq (wd ws (96+2*t));obtain⟨Z,Q⟩:=xq (wd ws (96+2*t+1));rw[Y,Q] at HC z;clear y Y Q v N s;go_wp2_with fail;refine (HC.out _ Ka.out).mono ?_;rintro e w2 ⟨⟨A2,c2,rfl,R,U⟩,u⟩;rw[kqm] at u;have X:=Bx.of_new u;have B:=G.trans ((aw u).mono hz);obtain⟨c0,c1',c2',c3,c4,c5,cf,cz⟩:=X.c6;have I:=hid B;clear R U X u B cf;obtain⟨ok,V⟩:=xq (cr O Z);obtain⟨m,H⟩:=xq ((bp O Z).length);have hm8:m<=255:=by
     rw[<-H];unfold bp;split
     .rw[eZ];have:=kzz O (show 0<256 by omega);omega
     simp
    rw[V,H] at z |-;clear V H;cases ok
    .have HB:=hid (C.out (by rw[z.out];rfl));go_wp2;go_ret2;exact⟨kY HB.out (by omega),g.trans (I.out.mono o)⟩
    rw[kzq] at z;have Kc:((bi m:Nat):Int)=((m:Int)+3)/2*2:=by unfold bi;omega
    rw[Kc] at z;by_cases d:xs=((m:Int)+3)/2*2
    .have Kb:(xs != ((m:Int)+3)/2*2)=false:=by rw[kqr];exact d
     have HY:=hid (E.out (by rw[z.out,kqw];exact d));clear d;go_wp2;go_roundw
     case rel=>exact⟨k+1,by omega,by go_num,HY.out,I.out⟩
     case measure=>simp[intOf];omega
    have Kb:(xs != ((m:Int)+3)/2*2)=true:=by rw[kqv];exact d
    have HB:=hid (C.out (by rw[z.out,kqi];exact d));clear d;go_wp2;go_ret2;exact⟨kY HB.out (by omega),g.trans (I.out.mono o)⟩
   have hk2:(xk != 1)=true:=by rw[kqv];exact f
   have HY:=hid (E.out (N.out f));clear f y;go_wp2;go_roundw
   case rel=>exact⟨k+1,by omega,by go_num,HY.out,G.alloc hz _⟩
   case measure=>simp[intOf];omega
  have HP:=hid (fT HS.out F.out (by have:=P.out;rwa [kq5 (by omega)] at this));go_wp2;go_ret2;exact⟨⟨A1,c1,by rw[HP.out.1,HP.out.2];rfl,by rw[HP.out.2];exact ai Kf.out G (kqa _)⟩,g.trans (G.mono o)⟩
 have hn1:(r != 0)=true:=by rw[kqv];exact j
 have HN:=hid (J.out r Ke.out j);have Kg:=hid j;clear j a J;go_wp2;go_ret2;exact⟨kY HN.out Kg.out,g⟩
def cG (S:List Bool) (b:Bk):Bool:=b.mark==(S[b.at_.toNat]?.getD false)
theorem Ak(gB g c n m:Nat)(S:List Bool)(xs xk xt:Int)(xm:Bool)(xn:Nat)(w:World)(hS:S.length=n)(hm:m<n)(hB:gB<w.heap.size)(hbox:w.cell? ⟨gB,0,none⟩=some (.slice (some ⟨g,0,none⟩) n c))(h:Rd w w.heap.size (some ⟨g,0,none⟩) (S.flatMap bL)):
 Calls prog 204 #[.agg #[.int .i64 (m:Int),.int .i64 xs,.int .i64 xk,.int .i64 xt,.bool xm,.int .u64 (xn:Int)],.pointer (some ⟨gB,0,none⟩)] w λe w'=>e=.returned (.bool (xm==(S[m]?.getD false)))/\Below w.heap.size w w':=by
 have hmi:(m:Int)<(n:Int):=by omega
 have hm0:(0:Int)<=(m:Int):=by omega
 obtain⟨b,off,i,j,d⟩:=Rd.at_flat fX h (by omega) (show m<S.length by omega);cases i;have a:=d 0 (by omega);have a:w.cell? ⟨g,m,none⟩=some (.bool (S[m]'(by omega))):=by simpa [bL] using a
 rw[show S[m]?.getD false=S[m]'(by omega) by rw[kql (by omega)];rfl];obtain⟨y,f⟩:=xq (S[m]'(show m<S.length by omega));rw[f] at a |-;have q0:=(kzk w (.cells #[.int .i64 (m:Int),.int .i64 xs,.int .i64 xk,.int .i64 xt,.bool xm,.int .u64 (xn:Int)] 55) ⟨g,m,none⟩ j).trans a;have q1:=(kzk w (.cells #[.int .i64 (m:Int),.int .i64 xs,.int .i64 xk,.int .i64 xt,.bool xm,.int .u64 (xn:Int)] 55) ⟨gB,0,none⟩ hB).trans hbox;clear d h f a hbox;go_enter func204,ntmps204;go_wp2_with fail;go_quiet (fail);go_wp2;go_ret;exact⟨rfl,aW ((kqk _ _).alloc (kqa _) _) _⟩
def jb (S:List Bool) (l:List Bk) (k:Nat):Prop:=∀j,j<k->cG S (gk l j)=false
theorem jb.zero(S:List Bool)(l:List Bk):jb S l 0:=λj h=>absurd h (by omega)
theorem jb.succ(h:jb S l k)(h1:cG S (gk l k)=false):jb S l (k+1):=λj hj=>by
 rcases kq6 j k with a|a
 .exact h j a
 .have:j=k:=by omega
  subst this;exact h1
def IM (S:List Bool) (l:List Bk) (e:Ending):Prop:=(e=.returned (.int .i64 (-1))/\jb S l l.length)\/∃k:Nat,k<l.length/\e=.returned (.int .i64 (k:Int))/\jb S l k/\cG S (gk l k)=true
theorem wK(A:Option Addr)(l:List Bk)(S:List Bool)(gB g c n cl:Nat)(w:World)(hS:S.length=n)(hl:l.length<=2048)(hat:∀k (U:k<l.length),∃m:Nat,l[k].at_=(m:Int)/\m<n)(hrl:RdB w w.heap.size A l)(j:gB<w.heap.size)(o:w.cell? ⟨gB,0,none⟩=some (.slice (some ⟨g,0,none⟩) n c))(h:Rd w w.heap.size (some ⟨g,0,none⟩) (S.flatMap bL)):
 Calls prog 251 #[.slice A l.length cl,.func (.func 204) #[] #[.pointer (some ⟨gB,0,none⟩)]] w λe w'=>IM S l e/\Below w.heap.size w w':=by
 have Y:=hid hrl;have s:=hid (And.intro j o);have HS:=hid h;have H:=hid hat;have R:=hid (λm xs B D u C W V T Z X=>Ak gB g c n m S xs B D u C W hS V T Z X);clear hrl j o h hat;go_enter func251,ntmps251;go_wp2_with fail;go_loopw [8] (λi wr=>∃k:Nat,k<=l.length/\i=.int .i64 k/\Hid (jb S l k)/\Below w.heap.size w wr) (λi _=>l.length-(intOf i).toNat)
 case atStart=>exact⟨0,kqy _,rfl,jb.zero S l,kqk _ _⟩
 obtain⟨k,U,rfl,t,j⟩:=hrel;have Q:=j.size;by_cases f:k<l.length
 .obtain ⟨b,off,rfl,hbw,N,K,P,O,I,J⟩:=RdB.at_ (Rd.below Y.out j) f;obtain⟨m,q,F⟩:=H.out k f;have d:=hid (λh=>t.out.succ h);have a:=hid (show ∀r,cG S (gk l k)=r->IM S l (.returned (.int .i64 (k:Int)))\/r=false from λr z=>by
   cases r
   .exact .inr rfl
   exact .inl (.inr ⟨k,f,rfl,t.out,z⟩))
  rw[bP l k f] at d a;obtain⟨x,L⟩:=xq (l[k]);rw[L] at N K P O I J q d a;obtain⟨xa,xs,B,D,u,C⟩:=x;dsimp only at N K P O I J q;subst q;have y:cG S ⟨(m:Int),xs,B,D,u,C⟩=(u==(S[m]?.getD false)):=by unfold cG;dsimp only;rw[kqj]
  rw[y] at d a;have hlm:(k:Int)<(l.length:Int):=by omega
  have hk0:(0:Int)<=(k:Int):=by omega
  have M:=hid (R.out m xs B D u C wr F (by have:=s.out.1;omega) ((j.cell (p:=⟨gB,0,none⟩) s.out.1).trans s.out.2) (HS.out.up j Q));obtain⟨r,z⟩:=xq ((u==(S[m]?.getD false)));rw[z] at M d a;clear L z y;go_wp2_with fail;refine M.out.mono ?_;rintro e w2 ⟨rfl,G⟩;have v:=j.trans (G.mono Q);cases r
  .have E:=hid (d.out rfl);go_wp2;go_roundw
   case rel=>exact⟨k+1,by omega,by go_num,E.out,v⟩
   case measure=>simp[intOf];omega
  have E:=hid ((a.out true rfl).resolve_right (by decide));go_wp2;go_ret;exact⟨E.out,v⟩
 obtain rfl:k=l.length:=by omega
 go_wp2;go_ret;exact⟨.inl ⟨rfl,t.out⟩,j⟩
def sW (xs:List Value):Nat->List Value->List Value
 | _,[]=>xs
 | o,v::vs=>sW (xs.set o v) (o+1) vs
theorem ub(pre:List Value):∀(vs a:List Value) (o:Nat),sW (pre++a) (pre.length+o) vs=pre++sW a o vs:=by
 intro vs
 induction vs with
 | nil=>intro a o;rfl
 | cons v vs ih =>intro a o;simp only[sW];rw[kvd _ _ (by omega),show pre.length+o-pre.length=o by omega,kj7,ih]
theorem yZ:∀(l:List Bk) (k:Nat) (x:Bk),k<l.length->sW (l.flatMap Bk.cells) (k*6) x.cells=(l.set k x).flatMap Bk.cells:=by
 intro l
 induction l with
 | nil=>intro k x h;simp at h
 | cons b l ih =>
  intro k x h;cases k with
  | zero=>rfl
  | succ k =>have a:=ih k x (by simpa using h);rw[kzx,kqf,kzx,<-a,show (k+1)*6=b.cells.length+k*6 by show (k+1)*6=6+k*6;omega,ub]
theorem dr :∀(vs:List Value) (o:Nat) (w:World) (xs:List Value),w.ownsRow H e sz (.slice (some ⟨g,0,none⟩) n c) n xs->(w.setCells g o vs).ownsRow H e sz (.slice (some ⟨g,0,none⟩) n c) n (sW xs o vs):=by
 intro vs
 induction vs with
 | nil=>intro o w xs h;exact h
 | cons v vs ih=>intro o w xs h;exact ih (o+1) _ _ (h.stored o v).1
theorem jD{B b o:Nat}{cs:List Value}(h:Rd w B (some ⟨b,o,none⟩) cs)(hne:b≠g)(o':Nat)(vs:List Value):Rd (w.setCells g o' vs) B (some ⟨b,o,none⟩) cs:=by intro f;obtain⟨b',off,e,a,d⟩:=h f;cases e;refine⟨b,o,rfl,a,λj c=>?_⟩;rw[kx5 g vs o' w _ (λi _=>absurd i hne)];exact d j c
theorem jY{P:Program}(w:World)(t e ty:TypeId)(z:Value)(ht:P.underlying t=some (.slice e))(hv:∀w,(zeroValue e).run P w=.ok z w)(L:List Value)(b o n c:Nat)(hL:(Builtin.zeroCells z.cells n).toList=L)(hn:0<n)(h1:∀v∈L,v.oneCell'=true)(hc:∀j,j<L.length->(w.cell? ⟨b,o+j,none⟩).isSome=true)(hf:∀j,j<L.length->w.frozen? ⟨b,o+j,none⟩=false):
 (Builtin.clear_ #[t] ty #[.slice (some ⟨b,o,none⟩) n c]).run P w=.ok (.tuple #[]) (w.setCells b o L):=by have a:=Go.run_storeCells_cells (P:=P) b o L 0 w (by simpa using hc) (by simpa using hf) h1;simp only[kz8] at a;obtain⟨m,rfl⟩:∃m,n=m+1:=⟨n-1,by omega⟩;simp[Builtin.clear_,run_underlying ht,hv,hL,a]
def lw (S:List Bool) (l:List Bk):List Bk:=l.filter λb=>!cG S b
theorem rY(h:jb S l l.length):lw S l=l:=by unfold lw;rw[kkb];intro b c;obtain⟨k,a,rfl⟩:=kqz c;have:=h k a;rw[bP l k a] at this;simp[this]
theorem zY(h:jb S l k)(hk:k<=l.length):lw S (l.take k)=l.take k:=by refine rY λj a=>?_;rw[kq3] at a;have:=h j (by omega);rw[bP _ _ (by omega)] at this;rw[bP _ _ (by rw[kq3];omega),kkk];exact this
theorem nf(hk:k<l.length):lw S (l.take (k+1))=lw S (l.take k)++(if cG S l[k]=true then [] else [l[k]]):=by unfold lw;rw[kqp hk,kx8];congr 1;cases a:cG S l[k]<;>simp[a]
def kt (S:List Bool) (l R:List Bk) (k j:Nat):Prop:=k<j/\j<=l.length/\R.length=l.length/\R.take k=lw S (l.take j)/\R.drop j=l.drop j
theorem kt.get(h:kt S l R k j)(hj:j<l.length):∃c:j<R.length,R[j]=l[j]:=by
 obtain⟨h1,c,h3,h4,d⟩:=h;refine⟨by omega,?_⟩;have a:(R.drop j)[0]? = R[j]?:=by simp
 have b:(l.drop j)[0]? = l[j]?:=by simp
 rw[d,b,kql hj,kql (by omega)] at a;injection a with a;exact a.symm
theorem kt.drop1(h:kt S l R k j)(_hj:j<l.length):R.drop (j+1)=l.drop (j+1):=by have:=congrArg (List.drop 1) h.2.2.2.2;rwa [kxl,kxl] at this
theorem kt.first(hk:k<l.length)(h:jb S l k)(h1:cG S (gk l k)=true):kt S l l k (k+1):=by refine⟨by omega,by omega,rfl,?_,rfl⟩;rw[bP l k hk] at h1;rw[nf hk,zY h (by omega),if_pos h1,kzs]
theorem kt.del(h:kt S l R k j)(hj:j<l.length)(h1:cG S l[j]=true):kt S l R k (j+1):=by refine⟨by have:=h.1;omega,by omega,h.2.2.1,?_,h.drop1 hj⟩;rw[nf hj,if_pos h1,kzs];exact h.2.2.2.1
theorem kt.keep(h:kt S l R k j)(hj:j<l.length)(h1:cG S l[j]=false):kt S l (R.set k l[j]) (k+1) (j+1):=by
 obtain⟨c,e,a,b,d⟩:=h;refine⟨by omega,by omega,by rw[kq4];exact a,?_,?_⟩
 .rw[nf hj,if_neg (by rw[h1];simp),<-b,kqp (by rw[kq4];omega),List.getElem_set_self,kvr (kqa _)]
 rw[kvs (by omega)];exact kt.drop1 (S:=S) ⟨c,e,a,b,d⟩ hj
theorem kX{z:Array Value}(h:v∈(Builtin.zeroCells z n).toList)(h0:0<z.size):v∈z.toList:=by simp only[Builtin.zeroCells,Array.toList_map,kzr] at h;obtain⟨i,-,rfl⟩:=h;have a:i%z.size<z.size:=kzz _ h0;rw[getElem!_pos z _ a];exact Array.getElem_mem_toList a
theorem lu(z:Array Value)(n:Nat):(Builtin.zeroCells z n).toList.length=n*z.size:=by simp[Builtin.zeroCells]
theorem jk{xs:List Value}(h:w.ownsRow H e sz (.slice (some ⟨g,0,none⟩) n c) n xs)(o k:Nat)(hk:o+k<=n*sz):w.there g o k:=λj hj =>
 ⟨by rw[h.cellAt (o+j) (by omega),kql (by have:=h.1;omega)];rfl,h.frozenAt (o+j)⟩
theorem CI(w:World):(zeroValue 55).run prog w=.ok (.agg #[.int .i64 0,.int .i64 0,.int .i64 0,.int .i64 0,.bool false,.int .u64 0]) w:=by kernel_rfl
theorem JH:(prog.info? 55).map (·.size)=some 6:=by kernel_rfl
theorem uq(A:Option Addr)(l:List Bk)(S:List Bool)(gB g c n cl H:Nat)(w:World)(hS:S.length=n)(hl:l.length<=2048)(hat:∀k (hk:k<l.length),∃m:Nat,l[k].at_=(m:Int)/\m<n)(a:w.ownsRow H 55 6 (.slice A l.length cl) l.length (l.flatMap Bk.cells))(hH:H<=w.heap.size)(hB:gB<w.heap.size)(E:w.cell? ⟨gB,0,none⟩=some (.slice (some ⟨g,0,none⟩) n c))(h:Rd w w.heap.size (some ⟨g,0,none⟩) (S.flatMap bL))(Kk:(Value.slice A l.length cl).ownBlock≠some gB)(Kh:(Value.slice A l.length cl).ownBlock≠some g):
 Calls prog 203 #[.slice A l.length cl,.func (.func 204) #[] #[.pointer (some ⟨gB,0,none⟩)]] w λe w'=>∃A' c',e=.returned (.slice A' (lw S l).length c')/\RdB w' w'.heap.size A' (lw S l)/\w'.cell? ⟨gB,0,none⟩=some (.slice (some ⟨g,0,none⟩) n c)/\Rd w' w'.heap.size (some ⟨g,0,none⟩) (S.flatMap bL)/\gB<w'.heap.size/\Below H w w':=by
 have Kx:=hid (wK A l S gB g c n cl w hS hl hat (Rd.of_own a) hB E h);unfold IM at Kx;have Q:=hid a;have B:=hid (And.intro hB E);have HS:=hid h;have Lc:=hid hat;have HG:=hid (And.intro Kk Kh);have HC:=hid (λm xs t s f u W hm h1 h2 h3=>Ak gB g c n m S xs t s f u W hS hm h1 h2 h3);clear a hB E h hat Kk Kh;go_enter func203,ntmps203;go_wp2_with fail;refine Kx.out.mono ?_;rintro e w1 ⟨⟨rfl,I⟩|⟨k,hk,rfl,I,G⟩,d⟩
 .have HR:=hid ((Rd.of_own Q.out).up d d.size);have F:=hid ((d.cell (p:=⟨gB,0,none⟩) B.out.1).trans B.out.2);have Kf:=hid (HS.out.up d d.size);have HE:=hid (rY I);have hz:=d.size;have Li:=d.mono hH;clear I;go_wp2;go_ret;rw[HE.out];exact⟨A,cl,rfl,HR.out,F.out,Kf.out,by have:=B.out.1;omega,Li⟩
 have HD:=hid (kt.first hk I G);obtain⟨y,cL,eL⟩:=fV Q.out (by omega);cases eL;have Kn:=gG Q.out;have U:y≠gB:=λh=>HG.out.1 (by rw[h];rfl);have T:y≠g:=λh=>HG.out.2 (by rw[h];rfl);have Kz:=hid (ai Q.out d (kqa _));have F:=hid ((d.cell (p:=⟨gB,0,none⟩) B.out.1).trans B.out.2);have Kf:=hid (HS.out.up d d.size);have Ky:=hid (d.mono hH);have Lg:=d.size;have hwk:IntKind.i64.wrap ((k:Int)+1)=(k:Int)+1:=kqs _ (by omega);have hkm:((k:Int) == -1)=false:=by rw[kqi];omega
 clear I G d;go_wp2_with fail;go_loopw [5,6] (λiv jv wr=>∃(i j:Nat) (R:List Bk),iv=.int .i64 i/\jv=.int .i64 j/\Hid (kt S l R i j)/\wr.ownsRow H 55 6 (.slice (some ⟨y,0,none⟩) l.length cl) l.length (R.flatMap Bk.cells)/\wr.cell? ⟨gB,0,none⟩=some (.slice (some ⟨g,0,none⟩) n c)/\Rd wr wr.heap.size (some ⟨g,0,none⟩) (S.flatMap bL)/\w.heap.size<=wr.heap.size/\Below H w wr) (λ_ jv _=>l.length-(intOf jv).toNat)
 case atStart=>exact⟨k,k+1,l,rfl,by go_num,HD.out,Kz.out,F.out,Kf.out,Lg,Ky.out⟩
 obtain⟨i,j,R,rfl,rfl,Kb,a,O,K,hz,hB⟩:=hrel;have X:=Kb.out;by_cases M:j<l.length
 .obtain ⟨Lk,eR⟩:=X.get M;obtain⟨s1,s2,s3,-,-⟩:=X;obtain⟨b,off,eA,hbw,q0,q1,q2,q3,q4,q5⟩:=RdB.at_ (show RdB wr wr.heap.size _ _ from Rd.of_own a) Lk;cases eA;simp only[kxd] at q0 q1 q2 q3 q4 q5;rw[eR] at q0 q1 q2 q3 q4 q5;obtain⟨m,V,Ll⟩:=Lc.out j M;have HK:=hid (λh=>Kb.out.keep M h);have N:=hid (λh=>Kb.out.del M h);obtain⟨x,hx⟩:=xq (l[j]);rw[hx] at q0 q1 q2 q3 q4 q5 V HK N;obtain⟨xa,xs,t,s,f,u⟩:=x;dsimp only at q0 q1 q2 q3 q4 q5 V;subst V;have G:cG S ⟨(m:Int),xs,t,s,f,u⟩=(f==(S[m]?.getD false)):=by unfold cG;dsimp only;rw[kqj]
  rw[G] at HK N;have hlm:(j:Int)<(l.length:Int):=by omega
  have hj0:(0:Int)<=(j:Int):=by omega
  have Le:(0:Int)<=(i:Int):=by omega
  have Kl:(i:Int)<(l.length:Int):=by omega
  have hgB:=B.out.1;have Kv:=hid (hB.alloc (kz3 hH hz) (.cells #[.int .i64 (m:Int),.int .i64 xs,.int .i64 t,.int .i64 s,.bool f,.int .u64 (u:Int)] 55));have BN:=hid (Bx.new wr 55 #[.int .i64 (m:Int),.int .i64 xs,.int .i64 t,.int .i64 s,.bool f,.int .u64 (u:Int)]);have Km:=hid (a.alloc (.cells #[.int .i64 (m:Int),.int .i64 xs,.int .i64 t,.int .i64 s,.bool f,.int .u64 (u:Int)] 55));have Ke:=hid ((kzk wr (.cells #[.int .i64 (m:Int),.int .i64 xs,.int .i64 t,.int .i64 s,.bool f,.int .u64 (u:Int)] 55) ⟨gB,0,none⟩ (by show gB<wr.heap.size;omega)).trans O);have Eq:=hid (Rd.more (Rd.alloc K (kqa _) (.cells #[.int .i64 (m:Int),.int .i64 xs,.int .i64 t,.int .i64 s,.bool f,.int .u64 (u:Int)] 55)) (show wr.heap.size<=(wr.alloc (.cells #[.int .i64 (m:Int),.int .i64 xs,.int .i64 t,.int .i64 s,.bool f,.int .u64 (u:Int)] 55)).heap.size by simp));have hgLw:=(a.lt y rfl).2;clear hx G O K a;go_upto_region 8 with (fail);obtain⟨wn,Kd⟩:∃wn,wr.alloc (.cells #[.int .i64 (m:Int),.int .i64 xs,.int .i64 t,.int .i64 s,.bool f,.int .u64 (u:Int)] 55)=wn:=⟨_,rfl⟩;rw[Kd] at Kv BN Km Ke Eq |-;have hszn:wn.heap.size=wr.heap.size+1:=by rw[<-Kd];simp
  clear Kd q0 q1 q2 q3 q4 q5;have HQ:=hid (HC.out m xs t s f u wn Ll (by omega) Ke.out Eq.out);obtain⟨r,hr⟩:=xq ((f==(S[m]?.getD false)));rw[hr] at HQ HK N;clear hr;obtain⟨p0,p1,p2,p3,p4,p5,pf,La⟩:=BN.out.c6;go_wp2_with fail;refine HQ.out.mono ?_;rintro e w2 ⟨rfl,z⟩;have Kw:=hid (Kv.out.trans (z.mono (kz3 hH (by omega))));have Z:=hid (ai Km.out z (kqa _));have Kt:=hid ((z.cell (p:=⟨gB,0,none⟩) (by show gB<wn.heap.size;omega)).trans Ke.out);have Ks:=hid (Eq.out.up z z.size);have bn2:=BN.out.up z La;have hz2:=z.size;clear z p0 p1 p2 p3 p4 p5 pf;obtain⟨p0,p1,p2,p3,p4,p5,pf,hgn2⟩:=bn2.c6;cases r
  .have HY:=hid (HK.out rfl);have C:w2.there y (i*6) (#[.int .i64 (m:Int),.int .i64 xs,.int .i64 t,.int .i64 s,.bool f,.int .u64 (u:Int)]:Array Value).size:=jk Z.out (i*6) 6 (by omega);have Ki:(prog.info? 55).map (·.size)=some (#[.int .i64 (m:Int),.int .i64 xs,.int .i64 t,.int .i64 s,.bool f,.int .u64 (u:Int)]:Array Value).size:=JH;have Kp:(#[.int .i64 (m:Int),.int .i64 xs,.int .i64 t,.int .i64 s,.bool f,.int .u64 (u:Int)]:Array Value).all (·.oneCell')=true:=by simp[Value.oneCell']
   have Ka:=hid (dr (Bk.cells ⟨(m:Int),xs,t,s,f,u⟩) (i*6) w2 _ Z.out);rw[yZ R i ⟨(m:Int),xs,t,s,f,u⟩ (by omega)] at Ka;have Kj:=hid ((kx5 y (Bk.cells ⟨(m:Int),xs,t,s,f,u⟩) (i*6) w2 ⟨gB,0,none⟩ (λY _=>absurd Y.symm U)).trans Kt.out);have Kr:=hid (jD Ks.out (λY=>T Y.symm) (i*6) (Bk.cells ⟨(m:Int),xs,t,s,f,u⟩));have Ku:=hid (a9 Kn (Bk.cells ⟨(m:Int),xs,t,s,f,u⟩) (o:=i*6) Kw.out);have J:=cY (g:=y) (Bk.cells ⟨(m:Int),xs,t,s,f,u⟩) w2 (i*6);obtain⟨cs,Kc⟩:∃cs:Array Value,#[.int .i64 (m:Int),.int .i64 xs,.int .i64 t,.int .i64 s,.bool f,.int .u64 (u:Int)]=cs:=⟨_,rfl⟩;obtain⟨w3,Kg⟩:∃w3,w2.setCells y (i*6) (Bk.cells ⟨(m:Int),xs,t,s,f,u⟩)=w3:=⟨_,rfl⟩;have Lp:w2.setCells y (i*6) cs.toList=w3:=by rw[<-Kc];exact Kg
   rw[Kg] at Ka Kj Kr Ku J;rw[Kc] at C Ki Kp;clear Kg;go_wp2_with (refine kjt rfl _ _ _ rfl y (i*6) cs (by rfl) (by rw[<-Kc];rfl) C Ki Kp ?_;rw[Lp]);go_roundw
   case rel=>exact⟨i+1,j+1,R.set i ⟨(m:Int),xs,t,s,f,u⟩,by go_num,by go_num,HY.out,Ka.out,Kj.out,Rd.more Kr.out (by rw[J];exact kqa _),by rw[J];omega,Ku.out⟩
   case measure=>simp[intOf];omega
  have HY:=hid (N.out rfl);go_wp2;go_roundw
  case rel=>exact⟨i,j+1,R,rfl,by go_num,HY.out,Z.out,Kt.out,Ks.out,by omega,Kw.out⟩
  case measure=>simp[intOf];omega
 obtain⟨s1,s2,s3,s4,-⟩:=X;obtain⟨A9,c9,e9,hle,Ko⟩:=kJ a;cases e9;have HRD:=hid Ko;have hicl:(i:Int)<=(cl:Int):=by omega
 have hill:(i:Int)<=(l.length:Int):=by omega
 have Le:(0:Int)<=(i:Int):=by omega
 have hne:i≠cl:=by omega
 have hnec:¬ ((i:Int)=(cl:Int)):=by omega
 have Lm:j=l.length:=by omega
 have Lb:=hid (show lw S l=R.take i by rw[s4,Lm,kzl]);have Ld:=a.1;obtain⟨L,hL⟩:=xq ((Builtin.zeroCells (Value.cells (.agg #[.int .i64 0,.int .i64 0,.int .i64 0,.int .i64 0,.bool false,.int .u64 0])) (l.length-i)).toList);have Kq:L.length=(l.length-i)*6:=by rw[<-hL,lu];rfl
 have C:=jk a (i*6) L.length (by rw[Kq];omega);have hcl:=jY (P:=prog) wr 48 55 0 _ underlying48 CI L y (i*6) (l.length-i) (cl-i) hL (by omega)
  (λv hv=>by
   rw[<-hL] at hv;have:=kX hv (by decide);simp[Value.cells] at this;rcases this with rfl|rfl|rfl<;>rfl)
  (λq hq=>(C q hq).1) (λq hq=>(C q hq).2)
 have Lj:=hid ((kx5 y L (i*6) wr ⟨gB,0,none⟩ (λY _=>absurd Y.symm U)).trans O);have Lf:=hid (jD K (λY=>T Y.symm) (i*6) L);have Ln:=hid (a9 Kn L (o:=i*6) hB);have D:=cY (g:=y) L wr (i*6);have Lo:Hid (Rd (wr.setCells y (i*6) L) wr.heap.size (some ⟨y,0,none⟩) ((R.take i).flatMap Bk.cells)):=hid λ_=>by
  refine⟨y,0,rfl,(a.lt y rfl).2,λq hq=>?_⟩;have hq6:q<i*6:=by have:=hq;rw[iA Bk.cells 6 Bk.len,kq3] at this;omega
  rw[kx5 y L (i*6) wr _ (λ_ _=>.inl (by show 0+q<i*6;omega))];have e1:=a.cellAt q (by omega);rw[kxd,e1];have Lh:q<(R.flatMap Bk.cells).length:=by rw[Ld];omega
  rw[kql Lh];congr 1;simp only[iA Bk.cells 6 Bk.len,kkk]
 have Kl:(R.take i).length=i:=by rw[kq3];omega
 clear Ko hL Kq C a O K hB;go_wp2;go_ret;rw[Lb.out,Kl];exact⟨some ⟨y,0,none⟩,cl,rfl,Rd.more Lo.out (by rw[D];exact kqa _),Lj.out,Rd.more Lf.out (by rw[D];exact kqa _),by rw[D];have:=B.out.1;omega,Ln.out⟩
def yE (ws:List Nat) (S:List Bool) (b:Bk):En:=⟨b.at_,gt (wd ws b.at_.toNat) (S[b.at_.toNat]?.getD false)⟩
noncomputable def aK (ws:List Nat):List En:=if aC ws=0 then (lw (seenL ws) (af ws)).map (yE ws (seenL ws)) else []
theorem uT(h1:aC ws=r)(h0:r≠0):aK ws=[]:=by unfold aK;rw[if_neg (by rw[h1];exact h0)]
theorem qv(S:List Bool)(l:List Bk):(lw S l).length<=l.length:=kjp _ _
theorem qi{b:Bk}(h:b∈lw S l):b∈l:=(kzp.1 h).1
theorem BH(ws:List Nat)(S:List Bool)(l:List Bk)(hk:k<l.length):(l.take (k+1)).map (yE ws S)=(l.take k).map (yE ws S)++[yE ws S l[k]]:=by rw[kqp hk,kjo];rfl
theorem hp_ats(h:ah ws=0):∀k (b:k<(af ws).length),∃m:Nat,(af ws)[k].at_=(m:Int)/\m<ws.length:=by intro k b;obtain⟨hs,l,d,ha,c⟩:=aA h;subst c;obtain⟨a,f,-,-,e,-⟩:=cp _ _ d (by omega) k b;exact⟨a,by rw[f];rfl,e⟩
theorem wY(A:Option Addr)(ws:List Nat)(c n:Nat)(w:World)(hn:ws.length=n)(hm:n<=9223372036854775807)(hr:RdW w w.heap.size A ws)(ho:∀x∈ws,x<18446744073709551616):
 Calls prog 141 #[.slice A n c] w λe w'=>iu w.heap.size (aC ws) (aK ws) e w'/\Below w.heap.size w w':=by
 subst hn;have HR:=hid hr;have HC:=hid (FC A ws c ws.length w rfl hm hr ho);unfold Ar at HC;have HO:=hid ho;clear hr ho;by_cases U:ah ws=0
 .obtain ⟨l,hl⟩:∃l,af ws=l:=⟨_,rfl⟩;have K:=hid (λL cl W (h:RdW W W.heap.size A ws) (h2:RdB W W.heap.size L l)=>DJ A L ws c cl ws.length l W rfl hm U hl h h2 HO.out);unfold RcRes at K;have M:=hp_ats U;have Ly:=jG ws;rw[U,hl] at HC;rw[hl] at M Ly;have M:=hid M;have Z:=gX ws (aA U).1;have hlen:=Z.2.1;have hlen1:=Z.1;by_cases hz:aC ws=0
  .have HV:=hid (show aC ws=0/\aK ws=(lw (seenL ws) l).map (yE ws (seenL ws)) from ⟨hz,by unfold aK;rw[if_pos hz,hl]⟩);have La:=Cu ws;obtain⟨i0,hi,Lg,Ks,Kx⟩:=kzw dC;have HI:=hid hi;have Mc:=hid Lg;have Lz:=hid Ks;have Lr:=hid Kx;clear hi Lg Ks Kx;clear U hl Z hz;generalize seenL ws=S at K HV La;have Li:=hid (λ(Y:Option Addr) (cl V g T H:Nat) (W:World) h1 h2 h3 h4 h5 h6 h7=>uq Y l S V g T ws.length cl H W La (by omega) M.out h1 h2 h3 h4 h5 h6 h7);have Kb:=hid La;have Lq:=hid (λa m W=>pi (wd ws a) m W (fM HO.out a));go_enter func141,ntmps141;go_wp2_with fail;refine HC.out.mono ?_;rintro e w1 ⟨⟨Y,c1,rfl,f⟩,o⟩;have D:=hid o;have J:=hid (HR.out.up o o.size);have E:=hid f;clear f o;go_wp2_with fail;refine (K.out Y _ w1 J.out (show RdB _ _ _ _ from Rd.of_own E.out)).mono ?_;rintro e wE ⟨⟨-,g,T,rfl,s⟩|⟨h9,-⟩,t⟩
   .have R:=hid (D.out.trans (t.mono D.out.size));have Lk:=hid (J.out.up t t.size);have Kp:=hid (ai E.out t (kqa _));have HS:=hid s;have hgE:=s.lt g rfl;have Kl:=fO Kp.out s (by decide);have Kk:=E.out.lt;have Ks:=D.out.size;have Kx:=t.size;have Ls:=R.out.size;have h6:(Value.slice Y l.length c1).ownBlock≠some wE.heap.size:=λh=>by
     have:=(Kk _ h).2;omega
    have h7:(Value.slice Y l.length c1).ownBlock≠some g:=λh=>by
     rcases Kl with h8|h8
     .rw[h] at h8;cases h8
     exact h8 h
    clear s t Kl Kk;have HX:=hid (Bx.new wE 114 #[.slice (some ⟨g,0,none⟩) ws.length T]);have Lb:=hid (Kp.out.alloc (.cells #[.slice (some ⟨g,0,none⟩) ws.length T] 114));have Ky:=hid ((Rd.of_own HS.out).alloc (kqa _) (.cells #[.slice (some ⟨g,0,none⟩) ws.length T] 114));have Ll:=hid (Lk.out.alloc (kqa _) (.cells #[.slice (some ⟨g,0,none⟩) ws.length T] 114));have Eq:=hid (R.out.alloc Ls (.cells #[.slice (some ⟨g,0,none⟩) ws.length T] 114));go_wp2_with fail;obtain⟨wX,Kt⟩:∃wX,wE.alloc (.cells #[.slice (some ⟨g,0,none⟩) ws.length T] 114)=wX:=⟨_,rfl⟩;have Lp:wX.heap.size=wE.heap.size+1:=by rw[<-Kt];simp
    rw[Kt] at HX Lb Ky Ll Eq |-;clear Kt;have Kc:=hid (Rd.more Ky.out (show wE.heap.size<=wX.heap.size by omega));refine (Li.out Y c1 wE.heap.size g T w.heap.size wX Lb.out Eq.out.size (by omega) HX.out.c1.1 Kc.out h6 h7).mono ?_;rintro e w3 ⟨A3,c3,rfl,Km,Ke,Kf,Ki,Lm⟩;have Q:=hid (Eq.out.trans Lm);have Lw:=hid (HR.out.up Q.out Q.out.size);have Kh:=hid Km;have Kj:=hid Ke;have Ma:=hid Kf;obtain⟨V,Kz⟩:=xq wE.heap.size;rw[Kz] at Kj Ki;have Lx:=qv S l;have Lj:Hid (∀k (hk:k<(lw S l).length),∃m:Nat,(lw S l)[k].at_=(m:Int)/\m<ws.length):=hid (λk hk=>by
     obtain⟨j,hj,e⟩:=kqz (qi (kqq hk));rw[<-e];exact M.out j hj)
    have Ld:=hid (λk (hk:k<(lw S l).length)=>BH ws S (lw S l) hk);obtain⟨d,hd⟩:=xq (lw S l);rw[hd] at Kh Lj Ld Lx HV;simp only[hd,Kz];clear hd Km Ke Kf Lm HX Lb Ky Ll Eq Kc h6 h7 Lp Kz K Li HC Kp E HS J Lk;go_wp2_with fail;go_loopw [7,34] (λv i wr=>∃k:Nat,k<=d.length/\i=.int .i64 k/\wr.ownsRow w3.heap.size 89 2 v (d.take k).length (((d.take k).map (yE ws S)).flatMap En.cells)/\Below w3.heap.size w3 wr) (λ_ i _=>d.length-(intOf i).toNat)
    case atStart=>exact⟨0,kqy _,rfl,kza _ _ _ _,kqk _ _⟩
    obtain⟨k,hk,rfl,z,hB⟩:=hrel;have hz:=hB.size;by_cases Ko:k<d.length
    .obtain ⟨b,off,rfl,hbw,q0,q1,q2,q3,q4,q5⟩:=RdB.at_ (Rd.below Kh.out hB) Ko;obtain⟨m,Kq,O⟩:=Lj.out k Ko;have G:=hid (Ld.out k Ko);obtain⟨x,hx⟩:=xq (d[k]);rw[hx] at q0 q1 q2 q3 q4 q5 Kq G;obtain⟨xa,xs,xk,xt,xm,xn⟩:=x;dsimp only at q0 q1 q2 q3 q4 q5 Kq;subst Kq;have Lf:yE ws S ⟨(m:Int),xs,xk,xt,xm,xn⟩=⟨(m:Int),gt (wd ws m) (S[m]?.getD false)⟩:=by unfold yE;dsimp only;rw[kqj]
     rw[Lf] at G;obtain⟨bW,oW,rfl,hbW,x0⟩:=RdW.at_ (Rd.below Lw.out hB) O;rw[<-cA] at x0;obtain⟨bS,oS,eA,hbS,N⟩:=Rd.at_flat fX (Rd.below Ma.out hB) (by omega) (show m<S.length by rw[Kb.out];exact O);cases eA;have N:=N 0 (by omega);have N:wr.cell? ⟨g,m,none⟩=some (.bool (S[m]'(by rw[Kb.out];exact O))):=by simpa [bL] using N
     have Lo:S[m]'(by rw[Kb.out];exact O)=S[m]?.getD false:=by rw[kql (by rw[Kb.out];exact O)];rfl
     rw[Lo] at N;have HQ:=hid (λW=>Lq.out m (S[m]?.getD false) W);obtain⟨y,hy⟩:=xq (S[m]?.getD false);rw[hy] at N G HQ;obtain⟨u,hu⟩:=xq (wd ws m);rw[hu] at x0 G HQ;obtain⟨v,hv⟩:=xq (gt u y);obtain⟨er,Lh⟩:=xq (oK u y);rw[hv] at G HQ;rw[Lh] at HQ;have z0:=(hB.cell (p:=⟨V,0,none⟩) Ki).trans Kj.out;have hlm:(k:Int)<(d.length:Int):=by omega
     have hmi:(m:Int)<(ws.length:Int):=by omega
     have hm0:(0:Int)<=(m:Int):=by omega
     have hk0:(0:Int)<=(k:Int):=by omega
     have Ka:=hid (hB.alloc hz (.cells #[.int .i64 (m:Int),.int .i64 xs,.int .i64 xk,.int .i64 xt,.bool xm,.int .u64 (xn:Int)] 55));have BN:=hid (Bx.new wr 55 #[.int .i64 (m:Int),.int .i64 xs,.int .i64 xk,.int .i64 xt,.bool xm,.int .u64 (xn:Int)]);have Kr:=hid (z.alloc (.cells #[.int .i64 (m:Int),.int .i64 xs,.int .i64 xk,.int .i64 xt,.bool xm,.int .u64 (xn:Int)] 55));have Ku:=hid ((kzk wr (.cells #[.int .i64 (m:Int),.int .i64 xs,.int .i64 xk,.int .i64 xt,.bool xm,.int .u64 (xn:Int)] 55) ⟨bW,oW+m,none⟩ (by show bW<wr.heap.size;omega)).trans x0);have Kv:=hid ((kzk wr (.cells #[.int .i64 (m:Int),.int .i64 xs,.int .i64 xk,.int .i64 xt,.bool xm,.int .u64 (xn:Int)] 55) ⟨g,m,none⟩ (by show g<wr.heap.size;omega)).trans N);have P:=hid ((kzk wr (.cells #[.int .i64 (m:Int),.int .i64 xs,.int .i64 xk,.int .i64 xt,.bool xm,.int .u64 (xn:Int)] 55) ⟨V,0,none⟩ (by show V<wr.heap.size;omega)).trans z0);clear hx Lf Lo hy hu hv Lh x0 N z0 z;go_upto_region 12 with (fail);obtain⟨wn,Kw⟩:∃wn,wr.alloc (.cells #[.int .i64 (m:Int),.int .i64 xs,.int .i64 xk,.int .i64 xt,.bool xm,.int .u64 (xn:Int)] 55)=wn:=⟨_,rfl⟩;rw[Kw] at Ka BN Kr Ku Kv P |-;have hszn:wn.heap.size=wr.heap.size+1:=by rw[<-Kw];simp
     clear Kw q0 q1 q2 q3 q4 q5;obtain⟨p0,p1,p2,p3,p4,p5,pf,Lu⟩:=BN.out.c6;have x0:=Ku.out;have N:=Kv.out;have z0:=P.out;have gW:bW<wn.heap.size:=by omega
     have gS:g<wn.heap.size:=by omega
     have gZ:V<wn.heap.size:=by omega
     go_region_held3 (λX:World=>X.cell? ⟨bW,oW+m,none⟩=some (.int .u64 (u:Int))/\X.cell? ⟨V,0,none⟩=some (.slice (some ⟨g,0,none⟩) ws.length T)/\X.cell? ⟨g,m,none⟩=some (.bool y)/\X.cell? ⟨wr.heap.size,0,none⟩=some (.int .i64 (m:Int))) (go_keep)
      (first | (go_at_call 205;refine (HQ.out _).mono ?_;rintro e w5 ⟨rfl,F⟩;have m0:=(F.cell (p:=⟨bW,oW+m,none⟩) gW).trans x0;have m1:=(F.cell (p:=⟨V,0,none⟩) gZ).trans z0;have m2:=(F.cell (p:=⟨g,m,none⟩) gS).trans N;have m3:=(F.cell (p:=⟨wr.heap.size,0,none⟩) Lu).trans p0))
     have Kn:Below wn.heap.size wn w5:=(kqk _ _).drew.trans F;have B:=ai Kr.out Kn (kqa _);have I:=Ka.out.trans (Kn.mono Ka.out.size);have hz5:=I.size;have Ln:(d.take k).length=k:=by rw[kq3];omega
     have Kd:(d.take (k+1)).length=k+1:=by rw[kq3];omega
     rw[Ln] at B;have Mb:=hid Kd;have Kg:=hid B;have Le:=hid I;clear x0 N z0 p0 p1 p2 p4 p5 pf m0 m1 m2 F Kn Ln Kd B I Kr Ka BN Ku Kv P;go_wp2_with (at_builtin;refine kze _ rfl _ _ 26 rfl w3.heap.size 89 i0 _ 2 16 underlying26 HI.out Mc.out Lz.out Lr.out rfl (by decide) _ _ _ rfl (Kg.out.alloc _) ⟨_,0,none⟩ 1 1 [.int .i64 (m:Int),.int .u64 (v:Int)] rfl rfl (cI _ _ _) (by simp[Value.oneCell']) (by unfold maxLen;omega) (by omega) (by simp;omega) ?_;intro v1 w6 f Lt _;have Lv:=aE Le.out (by omega) Kg.out Lt);go_roundw
     case rel=>exact⟨k+1,by omega,by go_num,by rw[G.out,Mb.out,cq];exact f,Lv⟩
     case measure=>simp[intOf];omega
    rw[kq5 (by omega)] at z;have C:wr.ownsRow w3.heap.size 89 2 u7 (aK ws).length ((aK ws).flatMap En.cells):=by rw[HV.out.2,kzo];exact z
    obtain⟨A4,c4,rfl⟩:=aO C;have Lc:=hid (ao C Q.out.size);clear z C;go_wp2;go_ret2;exact⟨⟨A4,c4,by rw[HV.out.1];rfl,Lc.out⟩,Q.out.trans (hB.mono Q.out.size)⟩
   exfalso;rw[HV.out.1] at h9;exact absurd h9 (by decide)
  have HZ:=hid hz;clear U hl Z hz;go_enter func141,ntmps141;go_wp2_with fail;refine HC.out.mono ?_;rintro e w1 ⟨⟨Y,c1,rfl,f⟩,o⟩;have D:=hid o;have J:=hid (HR.out.up o o.size);have E:=hid f;clear f o;go_wp2_with fail;refine (K.out Y _ w1 J.out (show RdB _ _ _ _ from Rd.of_own E.out)).mono ?_;rintro e wE ⟨⟨h9,-⟩|⟨h9,rfl⟩,t⟩
  .exact absurd h9 HZ.out
  have R:=hid (D.out.trans (t.mono D.out.size));have H9:=hid h9;clear h9;go_wp2;go_ret2;exact⟨bQ H9.out (uT H9.out (by decide)),R.out.alloc R.out.size _⟩
 have HZ:=hid (And.intro (xj U) U);obtain⟨r,hr⟩:=xq (ah ws);rw[hr] at HC HZ;have hn1:(r != 0)=true:=by rw[kqv,<-hr];exact U
 obtain⟨q,hq⟩:=xq ((af ws).length);rw[hq] at HC;clear U hr hq;go_enter func141,ntmps141;go_wp2_with fail;refine HC.out.mono ?_;rintro e w1 ⟨⟨Y,c1,rfl,-⟩,o⟩;go_wp2;go_ret2;exact⟨bQ HZ.out.1 (uT HZ.out.1 HZ.out.2),o⟩
end Go.Proofs.YtpcajamacpbjcaaGreat
