/- Texts laid together: LyK MapB LyC LyD LySup LySur LyTw. -/
import Derived.Test.YtpcajamacpbjcaaGreatZKR19
import Derived.Test.YtpcajamacpbjcaaGreatZKWnt
import Derived.Test.YtpcajamacpbjcaaGreatZKPlain
import Derived.Test.YtpcajamacpbjcaaGreatZKEff
import Derived.Maps.Own
import Derived.Maps.Views
import Derived.Maps.OwnOps
import Derived.Maps.Keyed
import Derived.Test.YtpcajamacpbjcaaGreatZKSup
import Derived.Test.YtpcajamacpbjcaaGreatZKRch
import Derived.Test.YtpcajamacpbjcaaGreatZGH
set_option maxHeartbeats 16000000
set_option maxRecDepth 100000
set_option linter.all false
namespace Go.Proofs.YtpcajamacpbjcaaGreat
open Lib (hid)
open Go.RowKit
variable {O:List Bk}{F l ws:List Nat}{H a b g n r:Nat}{P:Program}{e k t:TypeId}{x0 x1 x2 x3 x4:Value}{w w':World}
open Go.Proofs.Tryz
def E3 (ws:List Nat) (t H:Nat) (e:Ending) (w':World):Prop:=∃(B:Option Addr) (m d:Nat) (L:List Ty),e=.returned (.tuple #[.slice B m d,.int .i64 (if jN ws t=true then 0 else 50)])/\(jN ws t=true->m=L.length/\DG w' H (.slice B m d) L/\L.map Ty.l=iV ws t 8)
theorem pP{t:Nat}{B:Option Addr}{m d:Nat}(h:jN ws t=false):E3 ws t H (.returned (.tuple #[.slice B m d,.int .i64 50])) w':=⟨B,m,d,[],by rw[h];rfl,λa=>by rw[h] at a;cases a⟩
theorem DT(A:Option Addr)(ws:List Nat)(c n t:Nat)(w:World)(hn:ws.length=n)(hs:ap (n:Int)=true)(ht:t<=8)(hr:RdW w w.heap.size A ws)(ho:∀x∈ws,x<18446744073709551616):
 Calls prog 69 #[.slice A n c,.int .i64 (t:Int)] w λe w'=>E3 ws t w.heap.size e w'/\Below w.heap.size w w':=by
 subst hn;have hb:=(ae _).1 hs;have HR:=hid hr;have U:=hid (λW=>aB A ws.length c W (by omega));rw[bG hs] at U;have Eq:Hid (∀k,wd ws k<18446744073709551616):=hid (gu ho);have d0:decide ((t:Int)<0)=false:=by rw[kqh];omega
 have d8:decide ((8:Int)<(t:Int))=false:=by rw[kqh];omega
 have d8n:decide (8<t)=false:=by rw[kqh];omega
 clear hr ho hs;obtain⟨i2,hi,P,R,O⟩:=kzw Ff;have HJ:=hid hi;have Jj:=hid P;have Jh:=hid R;have Ji:=hid O;clear hi P R O;go_enter func69,ntmps69;go_wp2_with fail;refine (U.out _).mono ?_;rintro e w1 ⟨rfl,rfl⟩;go_wp2_with fail;go_loopw [7,24] (λv i wr=>∃(k:Nat) (L:List Ty),k<=8/\i=.int .i64 k/\Hid (xQ ws t k)/\Hid (L.map Ty.l=iV ws t k)/\L.length<=k/\Hid (DG wr w.heap.size v L)/\Below w.heap.size w wr) (λ_ i _=>8-(intOf i).toNat)
 case atStart=>exact⟨0,[],kqy _,rfl,hid (λi h=>absurd h (by omega)),hid (by simp[iV]),kqa _,hid ⟨kza _ _ _ _,λx hx=>absurd hx (by simp)⟩,kqk _ _⟩
 obtain⟨k,L,hk,rfl,Z,J,hLk,r,V⟩:=hrel;have hz:=V.size;by_cases Jd:k<8
 .obtain ⟨b,f,rfl,hbb,h0⟩:=RdW.at_ (Rd.below HR.out V) (show 96+2*k<ws.length by omega);obtain⟨b',off',e',-,h1⟩:=RdW.at_ (Rd.below HR.out V) (show 96+2*k+1<ws.length by omega);cases e';rw[<-d7] at h0 h1;have a:=hid (λW=>tI (wd ws (96+2*k)) (wd ws (96+2*k+1)) W (Eq.out _) (Eq.out _));have s:=hid (λh=>vZ Z.out h);have m:=hid (λh=>zF (ws:=ws) (t:=t) Jd h);have d:Hid (Et ws t k=if k<t then cw (wd ws (96+2*k)) (wd ws (96+2*k+1)) else wd ws (96+2*k)==0&&wd ws (96+2*k+1)==0):=hid rfl;have j:=hid (λh=>GU (ws:=ws) (t:=t) (k:=k) h);have H:=hid (λh=>Fh (ws:=ws) (t:=t) (k:=k) h);have i1:IntKind.i64.wrap ((2:Int)*(k:Int))=2*(k:Int):=kqv _ (by omega);have i2':IntKind.i64.wrap ((96:Int)+2*(k:Int))=((96+2*k:Nat):Int):=by rw[kqv _ (by omega)];omega
  have i3:IntKind.i64.wrap (((96+2*k:Nat):Int)+1)=((96+2*k+1:Nat):Int):=by rw[kqv _ (by omega)];omega
  have j1:((96+2*k:Nat):Int)<(ws.length:Int):=by omega
  have j2:(0:Int)<=((96+2*k:Nat):Int):=by omega
  have j3:((96+2*k+1:Nat):Int)<(ws.length:Int):=by omega
  have j4:(0:Int)<=((96+2*k+1:Nat):Int):=by omega
  have hk1:(k:Int)<8:=by omega
  obtain⟨p,hp⟩:=xq (96+2*k);rw[hp] at h0 h1 a d j i2' i3 j1 j2 j3 j4;obtain⟨q,hq⟩:=xq (p+1);rw[hq] at h1 a d j i3 j3 j4;obtain⟨x,hx⟩:=xq (wd ws p);obtain⟨y,hy⟩:=xq (wd ws q);rw[hx] at h0 a d j;rw[hy] at h1 a d j;have Y:=hid V;clear hx hy hp hq;by_cases u:k<t
  .have d2:decide ((t:Int)<=(k:Int))=false:=by rw[kqh];omega
   have d2n:decide (t<=k)=false:=by rw[kqh];omega
   cases z:cw x y
   .have I:=hid (m.out (by rw[d.out,if_pos u,z]));have B:gI x y=50:=by unfold gI;rw[z];rfl
    have Q:bB x y=[]:=by unfold bB;rw[z];rfl
    unfold rl at a;rw[B,Q] at a;clear z B Q d m s j H u;go_wp2_with fail
    go_region_held3 (λX:World=>X.cell? ⟨b,f+p,none⟩=some (.int .u64 (x:Int))/\X.cell? ⟨b,f+q,none⟩=some (.int .u64 (y:Int))) (go_keep) (fail)
    go_wp2_with fail;refine (a.out _).mono ?_;rintro e w3 ⟨⟨A3,c3,rfl,-⟩,o⟩;have D:=Y.out.drew.trans (o.mono hz);clear o;go_wp2;go_ret2;exact⟨pP I.out,D⟩
   have I:=hid (s.out (by rw[d.out,if_pos u,z]));have G:=hid (j.out u);have B:gI x y=0:=by unfold gI;rw[z];rfl
   unfold rl at a;rw[B] at a;obtain⟨l,hl⟩:=xq (bB x y);rw[hl] at a G;clear z B hl d m s j H u;go_wp2_with fail
   go_region_held3 (λX:World=>X.cell? ⟨b,f+p,none⟩=some (.int .u64 (x:Int))/\X.cell? ⟨b,f+q,none⟩=some (.int .u64 (y:Int))) (go_keep) (fail)
   go_wp2_with fail;refine (a.out _).mono ?_;rintro e w3 ⟨⟨A3,c3,rfl,F⟩,o⟩;have D:=Y.out.drew.trans (o.mono hz);have S:=D.size;have E:=ak (show wr.drew.ownsRow _ _ _ _ _ _ from r.out.1) o (kqa _);have Jg:Hid (∀y∈L,w3.ownsRow w.heap.size 5 1 (.slice y.A y.l.length y.c) y.l.length (y.l.flatMap cc)):=hid λy hy=>ak (show wr.drew.ownsRow _ _ _ _ _ _ from r.out.2 y hy) o (kqa _);have Ja:=hid (am F (show w.heap.size<=wr.drew.heap.size from hz));have T:=hid E;have Jc:=hid D;clear o F D r;go_wp2_with (at_builtin;refine kzk _ rfl _ _ 69 rfl w.heap.size 113 i2 _ 1 24 underlying69 HJ.out Jj.out Jh.out Ji.out rfl (by decide) _ _ _ rfl (E.alloc _) ⟨_,0,none⟩ 1 1 [.slice A3 l.length c3] rfl rfl (dd _ _ _) (by simp[Value.oneCell']) (by unfold maxLen;omega) (by omega) (aY S) ?_;intro v1 w6 C N _;have Jb:=hid (aO Jc.out S E N);have Je:=hid (xW (x:=⟨A3,c3,l⟩) Jg.out Ja.out (T.out.alloc _) (λh=>h.alloc _) N C);clear C N);go_roundw
   case rel=>exact⟨k+1,L++[⟨A3,c3,l⟩],by omega,by go_num,I,hid (by rw[kjy,J.out,G.out];rfl),by simp;omega,Je,Jb.out⟩
   case measure=>simp[intOf];omega
  have d2:decide ((t:Int)<=(k:Int))=true:=by rw[kq0];omega
  have d2n:decide (t<=k)=true:=by rw[kq0];omega
  have G:=hid (H.out (by omega));have g:Hid (Et ws t k=(x==0&&y==0)):=hid (by rw[d.out,if_neg u]);clear a d j H u;by_cases M:x=0
  .subst M;by_cases K:y=0
   .subst K;have I:=hid (s.out (by rw[g.out];rfl));clear m s g;go_wp2_with fail
    go_region_held3 (λX:World=>X.cell? ⟨b,f+p,none⟩=some (.int .u64 ((0:Nat):Int))/\X.cell? ⟨b,f+q,none⟩=some (.int .u64 ((0:Nat):Int))) (go_keep) (fail)
    go_wp2_with fail;have Jf:Hid (DG wr.drew w.heap.size u7 L):=hid ⟨r.out.1,r.out.2⟩;go_roundw
    case rel=>exact⟨k+1,L,by omega,by go_num,I,hid (by rw[J.out,G.out]),by omega,Jf,Y.out.drew⟩
    case measure=>simp[intOf];omega
   have I:=hid (m.out (by rw[g.out,show (y==0)=false by rw[kqj];exact K];rfl));have d3:((y:Int) != 0)=true:=by rw[kqu];omega
   have d3n:(y != 0)=true:=by rw[kqu];omega
   clear m s g K;go_wp2_with fail
   go_region_held3 (λX:World=>X.cell? ⟨b,f+p,none⟩=some (.int .u64 ((0:Nat):Int))/\X.cell? ⟨b,f+q,none⟩=some (.int .u64 (y:Int))) (go_keep) (fail)
   go_wp2;go_ret2;exact⟨pP I.out,Y.out.drew⟩
  have I:=hid (m.out (by rw[g.out,show (x==0)=false by rw[kqj];exact M];rfl));have d3:((x:Int) != 0)=true:=by rw[kqu];omega
  have d3n:(x != 0)=true:=by rw[kqu];omega
  clear m s g M;go_wp2_with fail
  go_region_held3 (λX:World=>X.cell? ⟨b,f+p,none⟩=some (.int .u64 (x:Int))/\X.cell? ⟨b,f+q,none⟩=some (.int .u64 (y:Int))) (go_keep) (fail)
  go_wp2;go_ret2;exact⟨pP I.out,Y.out.drew⟩
 obtain rfl:k=8:=by omega
 have HT:Hid (jN ws t=true):=hid ((kv ws t).2 Z.out);obtain⟨BO,dO,rfl⟩:=aS r.out.1;go_wp2;go_ret2;exact⟨⟨BO,L.length,dO,L,by rw[HT.out];rfl,λ_=>⟨rfl,r.out,J.out⟩⟩,V⟩
def kW (ws:List Nat):Int:=if ap (ws.length:Int)=true then (if Fr ws=true then 0 else 50) else 8
def l9 (ws:List Nat):List Bk:=if kW ws=0 then (blocks ws 128).getD [] else []
def xT (H:Nat) (ws:List Nat) (e:Ending) (w':World):Prop:=∃A c,e=.returned (.tuple #[.slice A (l9 ws).length c,.int .i64 (kW ws)])/\w'.ownsRow H 55 6 (.slice A (l9 ws).length c) (l9 ws).length ((l9 ws).flatMap Bk.cells)
theorem ql{r:Int}(h:kW ws=r)(h0:r≠0):xT H ws (.returned (.tuple #[.slice none 0 0,.int .i64 r])) w':=by
 have e:l9 ws=[]:=by unfold l9;rw[if_neg (by rw[h];exact h0)]
 exact⟨none,0,by rw[e,h];rfl,by rw[e];exact kza _ _ _ _⟩
theorem GA(A:Option Addr)(ws:List Nat)(c n:Nat)(w:World)(hn:ws.length=n)(B:n<=9223372036854775807)(hr:RdW w w.heap.size A ws)(ho:∀x∈ws,x<18446744073709551616):
 Calls prog 26 #[.slice A n c] w λe w'=>xT w.heap.size ws e w'/\Below w.heap.size w w':=by
 subst hn;have C:=hid (yG A ws c ws.length 128 w rfl B hr ho);unfold tP at C;clear hr ho;by_cases f:bJ ws 128=0
 .have g:ap (ws.length:Int)=true:=by
   cases g:ap (ws.length:Int) with
   | true=>rfl
   | false=>rw[fp g] at f;cases f
  have P:=(ae _).1 g;have a:eY ws.length 128=false:=by
   cases hq:eY ws.length 128 with
   | false=>rfl
   | true=>rw[jo g hq] at f;cases f
  have Y:∃l,blocks ws 128=some l:=by
   cases q:blocks ws 128 with
   | none=>rw[eN g a (by simpa using q)] at f;cases f
   | some l=>exact⟨l,rfl⟩
  obtain⟨l,q⟩:=Y;have G:=(cd (by omega) _ _ q (by omega) (by omega) (by omega)).1;have o:aJ ws 128=l:=by unfold aJ;rw[if_pos f];simp[q]
  rw[f,o] at C;have M:Hid (kW ws=if lL l=true then 0 else 50):=hid (by unfold kW;rw[if_pos g,nh q]);have V:Hid (lL l=true->l9 ws=l/\kW ws=0):=hid λh=>by
   have e:kW ws=0:=by rw[M.out,h];rfl
   exact⟨by unfold l9;rw[if_pos e,q];rfl,e⟩
  have hl24:l.length<=1024:=by omega
  have X:=hid (λk N h=>zT (l:=l) (k:=k) N h);have W:=hid (rx l);clear f g P a q o G B;go_enter func26,ntmps26;go_wp2_with fail;refine C.out.mono ?_;rintro e w1 ⟨⟨A1,c1,rfl,p⟩,s⟩;have I:=hid (show RdB _ _ _ _ from Rd.of_own p);have J:=hid p;have H:=hid s;clear p s;go_wp2_with fail;go_loopw [17] (λi wr=>∃k:Nat,k<=l.length/\i=.int .i64 k/\wr=w1/\Hid (pc l k)) (λi _=>l.length-(intOf i).toNat)
  case atStart=>exact⟨0,kqy _,rfl,rfl,hid (vW l)⟩
  obtain⟨k,N,rfl,rfl,R⟩:=hrel;by_cases j:k<l.length
  .have u:=hid (λh=>wN R.out h);have O:=hid (X.out k j);by_cases L:k=0
   .subst L;have z:Hid (pc l (0+1)):=hid (u.out rfl);go_wp2;go_roundw
    case rel=>exact⟨0+1,by omega,by go_num,trivial,z⟩
    case measure=>simp[intOf];omega
   obtain⟨b,off,rfl,P,-,-,p2,-⟩:=RdB.at_ I.out j;obtain⟨b',off',e',-,-,-,r2,-⟩:=RdB.at_ I.out (show k-1<l.length by omega);cases e';have d:uW l k=((l[k-1].kind==2)&&(l[k].kind==2)):=by unfold uW;rw[bM l k j,bM l (k-1) (by omega),show (k==0)=false by rw[kqj];omega];rfl
   obtain⟨x,Z⟩:=xq (l[k].kind);obtain⟨y,hy⟩:=xq (l[k-1].kind);rw[Z] at p2 d;rw[hy] at r2 d;have i1:IntKind.i64.wrap ((k:Int)-1)=((k-1:Nat):Int):=by rw[kqv _ (by omega)];omega
   have hki:(k:Int)<(l.length:Int):=by omega
   have hk0':(0:Int)<=(k:Int):=by omega
   have D:((k-1:Nat):Int)<(l.length:Int):=by omega
   have E:(0:Int)<=((k-1:Nat):Int):=by omega
   have d0:decide ((0:Int)<(k:Int))=true:=by rw[kq0];omega
   have d0n:decide (0<k)=true:=by rw[kq0];omega
   obtain⟨m,B⟩:=xq (k-1);rw[B] at i1 D E r2;have T:=hid d;clear Z hy R B d L;by_cases t:x=2
   .subst t;by_cases v:y=2
    .subst v;have z:=hid (O.out (by rw[T.out];rfl));have HW:Hid (kW ws=50):=hid (by rw[M.out,z.out];rfl);go_wp2;go_ret2;exact⟨ql HW.out (by decide),H.out⟩
    have Q:(y==2)=false:=by rw[kqj];exact v
    have z:Hid (pc l (k+1)):=hid (u.out (by rw[T.out,Q];rfl));clear v;go_wp2;go_roundw
    case rel=>exact⟨k+1,by omega,by go_num,trivial,z⟩
    case measure=>simp[intOf];omega
   have Q:(x==2)=false:=by rw[kqj];exact t
   have z:Hid (pc l (k+1)):=hid (u.out (by rw[T.out,Q,kjv]));clear t;go_wp2;go_roundw
   case rel=>exact⟨k+1,by omega,by go_num,trivial,z⟩
   case measure=>simp[intOf];omega
  have K:k=l.length:=by omega
  have hend:decide ((k:Int)<(l.length:Int))=false:=by rw[kqh];omega
  have hendn:decide (k<l.length)=false:=by rw[kqh];exact j
  have U:=hid (V.out (W.out.2 (K ▸ R.out)));clear K j N;go_wp2;go_ret2;exact⟨⟨A1,c1,by rw[U.out.1,U.out.2];rfl,by rw[U.out.1];exact J.out⟩,H.out⟩
 have o:aJ ws 128=[]:=by unfold aJ;rw[if_neg f]
 have hw:kW ws=bJ ws 128:=by
  unfold kW;cases g:ap (ws.length:Int) with
  | false=>rw[fp g];rfl
  | true =>
   have P:=(ae _).1 g;have a:eY ws.length 128=false:=by unfold eY;simp;omega
   cases q:blocks ws 128 with
   | none=>rw[qT q,eN g a (by simpa using q)];rfl
   | some l =>exfalso;apply f;simp[bJ,g,a,q]
 have M:=hid hw;rw[o] at C;have S:(bJ ws 128 != 0)=true:=by rw[kqu];exact f
 have H0:=hid f;obtain⟨r,F⟩:=xq (bJ ws 128);rw[F] at C M S H0;clear f o hw F B;go_enter func26,ntmps26;go_wp2_with fail;refine C.out.mono ?_;rintro e w1 ⟨⟨A1,c1,rfl,-⟩,s⟩;go_wp2;go_ret2;exact⟨ql M.out H0.out,s⟩
theorem tR(A:Option Addr)(ws:List Nat)(c n a:Nat)(w:World)(hn:ws.length=n)(ha:a+8<=n)(hm:n<=2048)(hc:n<=c)(hr:RdW w w.heap.size A ws):
 Calls prog 157 #[.slice A n c,.int .i64 (a:Int)] w λe w'=>e=.returned (.bool (iZ ws a))/\w=w':=by
 subst hn;have z:=hid hr;have s:=hid (kI ws a);obtain⟨b,off,rfl,g,-⟩:=RdW.at_ hr (show 0<ws.length by omega);have k2:IntKind.i64.wrap ((a:Int)+8)=((a+8:Nat):Int):=by rw[kqv _ (by omega)];omega
 have k3:a+8<=c:=by omega
 have k4:a<=a+8:=by omega
 clear hr g;go_enter func157,ntmps157;go_wp2_with fail
 go_loop [13] (λi=>∃k:Nat,k<=8/\i=.int .i64 k/\Hid (tg ws a k)) (λi=>8-(intOf i).toNat)
 case atStart=>exact⟨0,kqy _,rfl,hid λi h=>absurd h (by omega)⟩
 obtain⟨k,hk,rfl,t⟩:=hrel;by_cases f:k<8
 .obtain ⟨b',off',y,g,j⟩:=RdW.at_ z.out (show a+k<ws.length by omega);cases y;rw[<-d7] at j;have o:Hid (wd ws (a+k)=0->tg ws a (k+1)):=hid λh i v=>by
   rcases kq6 i k with r|r
   .exact t.out i r
   have:i=k:=by omega
   subst this;exact h
  have q:Hid (wd ws (a+k)≠0->iZ ws a=false):=hid λh=>by
   cases u:iZ ws a with
   | false=>rfl
   | true=>exact absurd (s.out.1 u k f) h
  rw[<-kj2] at j;obtain⟨x,p⟩:=xq (wd ws (a+k));rw[p] at j o q;have hki:(k:Int)<8:=by omega
  have hk0:(0:Int)<=(k:Int):=by omega
  clear p g;by_cases d:x=0
  .have l:=hid (o.out d);subst d;go_wp2_with fail
   go_round
   case rel=>exact⟨k+1,by omega,by go_num,l⟩
   case measure=>simp[intOf];omega
  have m:=hid (q.out d);have e1:((x:Int) != 0)=true:=by rw[kqu];omega
  have e1n:(x != 0)=true:=by rw[kqu];exact d
  clear d;go_wp2;go_ret;exact⟨by rw[m.out];rfl,rfl⟩
 have m:Hid (iZ ws a=true):=hid (s.out.2 λi v=>t.out i (by omega));obtain rfl:k=8:=by omega
 go_wp2;go_ret;exact⟨by rw[m.out];rfl,rfl⟩
open Go.RowKit Go.Maps
def fd (ad:List Int):Nat->DataW Unit
 | 0=>.map []
 | k+1=>(fd ad k).put (.int .i64 (ad[k]?.getD 0)) (.lit (.bool true))
theorem wG(ad:List Int)(k:Nat):IsMap (fd ad k):=by
 induction k with
 | zero=>exact isMap_empty
 | succ k ih=>exact ih.put _ _
theorem mQ(ad:List Int)(x:Int)(k:Nat):(fd ad k).atKey (.int .i64 x) (.lit (.bool false))=.lit (.bool (bY ad x k)):=by
 induction k with
 | zero=>rfl
 | succ k ih =>
  simp only[fd,bY];by_cases e:ad[k]?.getD 0=x
  .rw[e,atKey_put_same (wG ad k) (by trivial)];simp
  rw[atKey_put_other (by intro h;injection h with _ h;exact e h.symm),ih];have:(ad[k]?.getD 0==x)=false:=by rw[kqj];exact e
  rw[this,kkn]
theorem kD{H:Type}(he:P.underlying e=some .bool){v:Value}{z:DataW H × List MemPlace}(h:plainElem P e v=some z):∃c,v=.bool c/\z=(.lit (.bool c),[]):=by
 unfold plainElem at h;rw[he] at h;cases v<;>simp at h
 exact⟨_,rfl,h.symm⟩
theorem iu{H:Type}{D:DataW H}(h:w.ownsMap P k (plainElem P e) b n D)(K:Keyed P k)(ht:P.underlying t=some (.map k e))(he:P.underlying e=some .bool)(hz:(zeroValue e).run P w=.ok (.bool false) w){key:Value}{kl:Lit}(hkey:keyOf P k key=some kl){c:Bool}(hc:D.atKey kl (.lit (.bool false))=.lit (.bool c)):(Instr.lookup t (.map (some b)) key false).run P w=.ok (.bool c) w:=by obtain⟨v,ps,f,g⟩:=h.lookup K ht hz (plainElem_bool he false) hkey;obtain⟨c',rfl,a⟩:=kD he g;simp only[Prod.mk.injEq] at a;rw[hc] at a;obtain⟨d,-⟩:=a;injection d with d;injection d with d;subst d;exact f
theorem nq:Keyed prog 3:=int_keyed underlying3
theorem mp(w:World):(zeroValue 4).run prog w=.ok (.bool false) w:=by kernel_rfl
theorem gi{h:Nat}{cs:Array Value}{R:Value->Option (DataW Unit × List MemPlace)}{D:DataW Unit}(hb:Bx w h t cs)(ho:w.ownsMap P k R b n D):some h≠some b:=by rintro e;injection e with e;subst e;obtain⟨es,clock,a,_⟩:=ho;rw[show w.heap[h]? = _ from hb] at a;cases a
theorem Bx.c5(h:Bx w g t #[x0,x1,x2,x3,x4]):w.cell? ⟨g,0,none⟩=some x0/\w.cell? ⟨g,1,none⟩=some x1/\w.cell? ⟨g,2,none⟩=some x2 /\
 w.cell? ⟨g,3,none⟩=some x3/\w.cell? ⟨g,4,none⟩=some x4/\(∀i,w.frozen? ⟨g,i,none⟩=false)/\g<w.heap.size:=
 ⟨h.cell 0,h.cell 1,h.cell 2,h.cell 3,h.cell 4,h.frozen,h.lt⟩
theorem Cp(A TA SA OA:Option Addr)(c n tc tn sc sn oc on mb a z ty nx:Nat)(xk:Int)(mk:Bool)(w:World):
 Calls prog 95 #[.agg #[.slice A n c,.slice TA tn tc,.slice SA sn sc,.slice OA on oc,.map (some mb)],.agg #[.int .i64 (a:Int),.int .i64 (z:Int),.int .i64 xk,.int .i64 (ty:Int),.bool mk,.int .u64 (nx:Int)]] w λe w'=>e=.returned (.bool (!(mk||decide (0<nx))))/\Below w.heap.size w w':=by
 have xs:=(Bx.new w 163 #[.slice A n c,.slice TA tn tc,.slice SA sn sc,.slice OA on oc,.map (some mb)]).alloc (.cells #[.int .i64 (a:Int),.int .i64 (z:Int),.int .i64 xk,.int .i64 (ty:Int),.bool mk,.int .u64 (nx:Int)] 55);have b:=Bx.new (w.alloc (.cells #[.slice A n c,.slice TA tn tc,.slice SA sn sc,.slice OA on oc,.map (some mb)] 163)) 55 #[.int .i64 (a:Int),.int .i64 (z:Int),.int .i64 xk,.int .i64 (ty:Int),.bool mk,.int .u64 (nx:Int)];rw[kqm] at b;have XS:=hid xs;have XB:=hid b;have g:=hid (((kqk w.heap.size w).alloc (kqa _) (.cells #[.slice A n c,.slice TA tn tc,.slice SA sn sc,.slice OA on oc,.map (some mb)] 163)).alloc (by simp) (.cells #[.int .i64 (a:Int),.int .i64 (z:Int),.int .i64 xk,.int .i64 (ty:Int),.bool mk,.int .u64 (nx:Int)] 55));clear xs b;have f:((nx:Int)==0) = !decide (0<nx):=by rw[kzq,kqw,kx6,kqh];omega
 obtain⟨q,d⟩:=xq (decide (0<nx));rw[d] at f |-;clear d;cases mk
 all_goals
  go_enter func95,ntmps95;go_wp2;go_ret;exact⟨rfl,g.out⟩
theorem zj(A TA SA OA:Option Addr)(L:List Ty)(c n tc tn sc sn oc on mb a z ty nx:Nat)(xk:Int)(mk:Bool)(w:World)(ht:L.length=tn)(hk:∀x∈L,cI x.l=0/\kSz x.l=bZ x.l.length/\x.l.length<=8)(hL:RdL w w.heap.size TA L):
 Calls prog 96 #[.agg #[.slice A n c,.slice TA tn tc,.slice SA sn sc,.slice OA on oc,.map (some mb)],.agg #[.int .i64 (a:Int),.int .i64 (z:Int),.int .i64 xk,.int .i64 (ty:Int),.bool mk,.int .u64 (nx:Int)]] w λe w'=>e=.returned (.bool (decide (ty<L.length)&&bZ (((L.map Ty.l)[ty]?).getD []).length==z))/\Below w.heap.size w w':=by
 have xs:=(Bx.new w 163 #[.slice A n c,.slice TA tn tc,.slice SA sn sc,.slice OA on oc,.map (some mb)]).alloc (.cells #[.int .i64 (a:Int),.int .i64 (z:Int),.int .i64 xk,.int .i64 (ty:Int),.bool mk,.int .u64 (nx:Int)] 55);have u:=Bx.new (w.alloc (.cells #[.slice A n c,.slice TA tn tc,.slice SA sn sc,.slice OA on oc,.map (some mb)] 163)) 55 #[.int .i64 (a:Int),.int .i64 (z:Int),.int .i64 xk,.int .i64 (ty:Int),.bool mk,.int .u64 (nx:Int)];rw[kqm] at u;have XS:=hid xs;have XB:=hid u;have p:=hid (((kqk w.heap.size w).alloc (kqa _) (.cells #[.slice A n c,.slice TA tn tc,.slice SA sn sc,.slice OA on oc,.map (some mb)] 163)).alloc (by simp) (.cells #[.int .i64 (a:Int),.int .i64 (z:Int),.int .i64 xk,.int .i64 (ty:Int),.bool mk,.int .u64 (nx:Int)] 55));clear xs u;subst ht;have C:=hid (hL.up p.out (kqa _));have hz1:=p.out.size;clear hL;by_cases d:ty<L.length
 .obtain ⟨b,off,rfl,I,D⟩:=ta C.out.1 d;have i:=C.out.2 _ (kqp d);obtain⟨f,g,j⟩:=hk _ (kqp d);have k:Hid ((decide (ty<L.length)&&bZ (((L.map Ty.l)[ty]?).getD []).length==z)=(bZ L[ty].l.length==z)):=hid (by
   rw[decide_eq_true d,kx8,kql d];rfl)
  obtain⟨x,v⟩:=xq (L[ty]);rw[v] at D f g j i k;obtain⟨F,J,m⟩:=x;dsimp only at D f g j i k;have t:=hid i;have s:=hid (λW B (h:RdY W B F m)=>sH F m J m.length B W rfl (by omega) h);rw[f,g] at s;have E:(((bZ m.length:Nat):Int)==(z:Int))=(bZ m.length==z):=by rw[kzq,kqw,kqw];omega
  obtain⟨o,G⟩:=xq (bZ m.length);rw[G] at k s E;obtain⟨q,y⟩:=xq ((o==z));rw[y] at k E;have H:decide ((L.length:Int)<=(ty:Int))=false:=by rw[kqh];omega
  have r:decide (L.length<=ty)=false:=by rw[kqh];omega
  have j1:(ty:Int)<(L.length:Int):=by omega
  have j0:(0:Int)<=(ty:Int):=by omega
  clear v G y hk f g j i d I;go_enter func96,ntmps96;go_wp2_with fail;refine (s.out _ _ t.out).mono ?_;rintro e w1 ⟨rfl,rfl⟩;go_wp2;go_ret;exact⟨by rw[k.out];rfl,p.out⟩
 have k:Hid ((decide (ty<L.length)&&bZ (((L.map Ty.l)[ty]?).getD []).length==z)=false):=hid (by rw[decide_eq_false d];rfl);have H:decide ((L.length:Int)<=(ty:Int))=true:=by rw[kq0];omega
 have r:decide (L.length<=ty)=true:=by rw[kq0];omega
 clear d hk;go_enter func96,ntmps96;go_wp2;go_ret;exact⟨by rw[k.out];rfl,p.out⟩
theorem Cx{q:Nat}(h:q<18446744073709551616):bits BinOp.and .u64 (q:Int) 2047=((q%2048:Nat):Int):=by
 have:=u64_and_nat q 2047 h (by omega);rw[show (((2047:Nat)):Int)=2047 from rfl] at this;rw[this];have e:q &&& 2047=q%2048:=by rw[show (2047:Nat)=2 ^ 11-1 by decide,kxo]
 rw[e]
theorem xJ(v:Nat)(w:World)(hv:v<18446744073709551616):Calls prog 159 #[.int .u64 (v:Int)] w λe w'=>e=.returned (.bool (EO v))/\w=w':=by
 have j:Hid (EO v=(v==9221120237041090561||decide (v%9223372036854775808<=9218868437227405312))):=hid rfl;have b:Hid (v/4503599627370496%2048≠2047->EO v=true):=hid λh=>by rw[j.out,decide_eq_true (by omega),kvh]
 have g:Hid (v*4096%18446744073709551616=0->EO v=true):=hid λh=>by rw[j.out,decide_eq_true (by omega),kvh]
 have a:Hid (v/4503599627370496%2048=2047->¬ v*4096%18446744073709551616=0->EO v=(v==9221120237041090561)):=hid λh c=>by rw[j.out,decide_eq_false (by omega),kkn]
 have l:=Cx (q:=v/4503599627370496) (by omega);have s:(v:Int)/4503599627370496=((v/4503599627370496:Nat):Int):=by omega
 have p:IntKind.u64.wrap ((v:Int)*4096)=((v*4096%18446744073709551616:Nat):Int):=by simp[IntKind.wrap,IntKind.bits,IntKind.signed]
 obtain⟨q,k⟩:=xq (v/4503599627370496);rw[k] at b a l s;obtain⟨r,n⟩:=xq (q%2048);rw[n] at b a l;obtain⟨m,d⟩:=xq (v*4096%18446744073709551616);rw[d] at g a p;have e3:((v:Int)==9221120237041090561)=(v==9221120237041090561):=by rw[kzq,kqw,kqw];omega
 clear k n d hv;by_cases f:r=2047
 .have o:((r:Int) != 2047)=false:=by rw[kqq];omega
  by_cases c:m=0
  .have i:=hid (g.out c);have t:((m:Int)==0)=true:=by rw[kqw];omega
   clear f c;go_enter func159,ntmps159;go_wp2;go_ret;exact⟨by rw[i.out];rfl,rfl⟩
  have i:=hid (a.out f c);have t:((m:Int)==0)=false:=by rw[kqj];omega
  clear f c;go_enter func159,ntmps159;go_wp2;go_ret;exact⟨by rw[i.out];rfl,rfl⟩
 have i:=hid (b.out f);have o:((r:Int) != 2047)=true:=by rw[kqu];omega
 clear f;go_enter func159,ntmps159;go_wp2;go_ret;exact⟨by rw[i.out];rfl,rfl⟩
theorem qH(O:List Bk)(v:Nat):∀k,k<=O.length->bY (O.map Bk.at_) (v:Int) k=(O.take k).any λb=>b.at_==(v:Int):=by
 intro k
 induction k with
 | zero=>intro _;rfl
 | succ k ih =>intro a;simp only[bY];rw[ih (by omega),kqn (show k<O.length from a),List.any_append,kx8,kql (show k<O.length from a)];simp
theorem tH(O:List Bk)(v:Nat):bY (O.map Bk.at_) (v:Int) O.length=th O v:=by rw[qH O v O.length (kqa _),kzf];rfl
structure SgW (W:World) (A TA:Option Addr) (ws:List Nat) (L:List Ty) (O:List Bk) (mb:Nat):Prop where
 w:RdW W W.heap.size A ws
 t:RdL W W.heap.size TA L
 m:W.ownsMap prog 3 (plainElem prog 4) mb O.length (fd (O.map Bk.at_) O.length)
theorem dL{R:Value->Option (DataW Unit × List MemPlace)}{D:DataW Unit}(h:w.ownsMap P k R b n D)(hb:w'.heap[b]? = w.heap[b]?):w'.ownsMap P k R b n D:=by obtain⟨d,a,c,r⟩:=h;exact⟨d,a,hb.trans c,r⟩
theorem vO(A TA SA OA:Option Addr)(ws:List Nat)(L:List Ty)(c n tc tn sc sn oc on mb a z ty nx:Nat)(xk:Int)(mk:Bool)(w:World)(hn:ws.length=n)(hm:n<=2048)(ht:L.length=tn)(hty:ty<L.length)(h8:L[ty].l.length<=8)(hz:z=bZ L[ty].l.length)(haz:a+z<=n)(hR:RdW w w.heap.size A ws)(hL:RdL w w.heap.size TA L):
 Calls prog 97 #[.agg #[.slice A n c,.slice TA tn tc,.slice SA sn sc,.slice OA on oc,.map (some mb)],.agg #[.int .i64 (a:Int),.int .i64 (z:Int),.int .i64 xk,.int .i64 (ty:Int),.bool mk,.int .u64 (nx:Int)]] w λe w'=>e=.returned (.bool (!(decide (L[ty].l.length+2<z)&&wd ws (a+2+L[ty].l.length) != 0)))/\Below w.heap.size w w':=by
 have xs:=(Bx.new w 163 #[.slice A n c,.slice TA tn tc,.slice SA sn sc,.slice OA on oc,.map (some mb)]).alloc (.cells #[.int .i64 (a:Int),.int .i64 (z:Int),.int .i64 xk,.int .i64 (ty:Int),.bool mk,.int .u64 (nx:Int)] 55);have u:=Bx.new (w.alloc (.cells #[.slice A n c,.slice TA tn tc,.slice SA sn sc,.slice OA on oc,.map (some mb)] 163)) 55 #[.int .i64 (a:Int),.int .i64 (z:Int),.int .i64 xk,.int .i64 (ty:Int),.bool mk,.int .u64 (nx:Int)];rw[kqm] at u;have XS:=hid xs;have XB:=hid u;have h:=hid (((kqk w.heap.size w).alloc (kqa _) (.cells #[.slice A n c,.slice TA tn tc,.slice SA sn sc,.slice OA on oc,.map (some mb)] 163)).alloc (by simp) (.cells #[.int .i64 (a:Int),.int .i64 (z:Int),.int .i64 xk,.int .i64 (ty:Int),.bool mk,.int .u64 (nx:Int)] 55));clear xs u;subst ht hn;have F:=hid (hL.up h.out (kqa _));have hz1:=h.out.size;obtain⟨b,off,rfl,B,k⟩:=ta F.out.1 hty;obtain⟨x,j⟩:=xq (L[ty]);rw[j] at k h8 hz |-;obtain⟨xA,xc,G⟩:=x;dsimp only at k h8 hz |-;have j1:(ty:Int)<(L.length:Int):=by omega
 have j0:(0:Int)<=(ty:Int):=by omega
 obtain⟨m,d⟩:=xq G.length;rw[d] at k h8 hz |-;by_cases i:m%2=0
 .have f:Hid ((!(decide (m+2<z)&&wd ws (a+2+m) != 0))=true):=hid (by rw[decide_eq_false (by rw[hz];unfold bZ;omega)];rfl);have E:((m:Int)%2==0)=true:=by rw[kqw];omega
  clear i hz haz h8 hm j d hL hR B;go_enter func97,ntmps97;go_wp2;go_ret;exact⟨by rw[f.out];rfl,h.out⟩
 obtain⟨b2,off2,rfl,o,t⟩:=RdW.at_ (hR.up h.out (kqa _)) (show a+2+m<ws.length by rw[hz] at haz;unfold bZ at haz;omega);rw[<-d7] at t;have J:IntKind.i64.wrap ((a:Int)+2)=((a+2:Nat):Int):=by rw[kqv _ (by omega)];omega
 have C:IntKind.i64.wrap (((a+2:Nat):Int)+(m:Int))=((a+2+m:Nat):Int):=by rw[kqv _ (by omega)];omega
 have K:((a+2+m:Nat):Int)<(ws.length:Int):=by rw[hz] at haz;unfold bZ at haz;omega
 have H:(0:Int)<=((a+2+m:Nat):Int):=by omega
 have f:Hid ((!(decide (m+2<z)&&wd ws (a+2+m) != 0))=(wd ws (a+2+m)==0)):=hid (by rw[decide_eq_true (by rw[hz];unfold bZ;omega),kzx];exact Bool.not_not _);have E:((m:Int)%2==0)=false:=by rw[kqj];omega
 obtain⟨p,r⟩:=xq (a+2+m);rw[r] at t C K H f;obtain⟨g,D⟩:=xq (a+2);rw[D] at J C;obtain⟨v,s⟩:=xq (wd ws p);rw[r,s];rw[s] at t f;have I:((v:Int)==0)=(v==0):=by rw[kzq,kqw,kqw];omega
 obtain⟨q,y⟩:=xq ((v==0));rw[y] at f I;clear i hz haz h8 hm j d hL hR B r D s y o;go_enter func97,ntmps97;go_wp2;go_ret;exact⟨by rw[f.out];rfl,h.out⟩
def Gj (ws F:List Nat) (O:List Bk) (a r k:Nat):Prop:=∀i,i<k->wrF ws F O a r i=false
theorem ra{k:Nat}(h:Gj ws F O a r k)(h1:wrF ws F O a r k=false):Gj ws F O a r (k+1):=λi hi=>by
 rcases kq6 i k with b|b
 .exact h i b
 .have:i=k:=by omega
  subst this;exact h1
theorem ED(h:Gj ws F O a r F.length):((List.range F.length).any λi=>wrF ws F O a r i)=false:=by rw[List.any_eq_false];intro i b;rw[h i (kzn.1 b)];simp
theorem Ey{k:Nat}(hk:k<F.length)(h:wrF ws F O a r k=true):((List.range F.length).any λi=>wrF ws F O a r i)=true:=kjq.2 ⟨k,kzn.2 hk,h⟩
theorem wD(A TA SA OA:Option Addr)(ws:List Nat)(L:List Ty)(O:List Bk)(c n tc tn sc sn oc on mb a z ty nx:Nat)(xk:Int)(mk:Bool)(w:World)(hn:ws.length=n)(hm:n<=2048)(ht:L.length=tn)(hty:ty<L.length)(h8:L[ty].l.length<=8)(hz:z=bZ L[ty].l.length)(haz:a+z<=n)(hR:RdW w w.heap.size A ws)(hL:RdL w w.heap.size TA L)(ho:∀x∈ws,x<18446744073709551616):
 Calls prog 98 #[.agg #[.slice A n c,.slice TA tn tc,.slice SA sn sc,.slice OA on oc,.map (some mb)],.agg #[.int .i64 (a:Int),.int .i64 (z:Int),.int .i64 xk,.int .i64 (ty:Int),.bool mk,.int .u64 (nx:Int)]] w λe w'=>e=.returned (.bool (!((List.range L[ty].l.length).any λi=>wrF ws L[ty].l O a 10 i)))/\Below w.heap.size w w':=by
 have xs:=(Bx.new w 163 #[.slice A n c,.slice TA tn tc,.slice SA sn sc,.slice OA on oc,.map (some mb)]).alloc (.cells #[.int .i64 (a:Int),.int .i64 (z:Int),.int .i64 xk,.int .i64 (ty:Int),.bool mk,.int .u64 (nx:Int)] 55);have V:=Bx.new (w.alloc (.cells #[.slice A n c,.slice TA tn tc,.slice SA sn sc,.slice OA on oc,.map (some mb)] 163)) 55 #[.int .i64 (a:Int),.int .i64 (z:Int),.int .i64 xk,.int .i64 (ty:Int),.bool mk,.int .u64 (nx:Int)];rw[kqm] at V;have XS:=hid xs;have XB:=hid V;have G:=hid (((kqk w.heap.size w).alloc (kqa _) (.cells #[.slice A n c,.slice TA tn tc,.slice SA sn sc,.slice OA on oc,.map (some mb)] 163)).alloc (by simp) (.cells #[.int .i64 (a:Int),.int .i64 (z:Int),.int .i64 xk,.int .i64 (ty:Int),.bool mk,.int .u64 (nx:Int)] 55));clear xs V;subst ht hn;have K:=hid (hL.up G.out (kqa _));have R:=G.out.size;obtain⟨b,Q,rfl,hb,M⟩:=ta K.out.1 hty;have J:=K.out.2 _ (kqp hty);obtain⟨x,hx⟩:=xq (L[ty]);rw[hx] at M h8 hz J |-;obtain⟨xA,xc,o⟩:=x;dsimp only at M h8 hz J |-;have HY:=hid J;have HR:=hid (hR.up G.out (kqa _));have j1:(ty:Int)<(L.length:Int):=by omega
 have j0:(0:Int)<=(ty:Int):=by omega
 have D:Hid (∀k,k<o.length->a+2+k<ws.length):=hid λk I=>by rw[hz] at haz;unfold bZ at haz;omega
 have Z:=hid (gu ho);have U:Hid (Gj ws o O a 10 0):=hid λi h=>absurd h (by omega);have T:=hid (λh=>ED (ws:=ws) (F:=o) (O:=O) (a:=a) (r:=10) h);have N:=hid (λk I h=>Ey (ws:=ws) (F:=o) (O:=O) (a:=a) (r:=10) (k:=k) I h);have ha:a<=2048:=by omega
 obtain⟨q0,q1,q2,q3,q4,-,-⟩:=XS.out.c5;obtain⟨r0,r1,r2,r3,r4,r5,-,-⟩:=XB.out.c6;obtain⟨P,u⟩:∃P,(w.alloc (.cells #[.slice A ws.length c,.slice (some ⟨b,Q,none⟩) L.length tc,.slice SA sn sc,.slice OA on oc,.map (some mb)] 163)).alloc (.cells #[.int .i64 (a:Int),.int .i64 (z:Int),.int .i64 xk,.int .i64 (ty:Int),.bool mk,.int .u64 (nx:Int)] 55)=P:=⟨_,rfl⟩;rw[u] at M HY HR q0 q1 q2 q3 q4 r0 r1 r2 r3 r4 r5;have B:=hid (show Below w.heap.size w P by rw[<-u];exact G.out);clear hz haz hm hx hL hR hb J ho XS XB G K R;go_enter func98,ntmps98;go_wp2_with fail;clear u
 go_loop [14] (λi=>∃k:Nat,k<=o.length/\i=.int .i64 k/\Hid (Gj ws o O a 10 k)) (λi=>o.length-(intOf i).toNat)
 case atStart=>exact⟨0,kqy _,rfl,U⟩
 obtain⟨k,I,rfl,HW⟩:=hrel;by_cases j:k<o.length
 .obtain ⟨g,go,rfl,hg,y0⟩:=HY.out.at_ j;obtain⟨d,dof,rfl,hd,S⟩:=RdW.at_ HR.out (D.out k j);rw[<-d7] at S;have hj:=D.out k j;have E:=hid (λW=>xJ (wd ws (a+2+k)) W (Z.out _));have m:wrF ws o O a 10 k=(o[k]? == some 2 && !EO (wd ws (a+2+k))):=rfl;rw[kql j] at m;have HS:=hid (λh=>ra HW.out h);have Eq:=hid (λh=>N.out k j h);have i1:IntKind.i64.wrap ((a:Int)+2)=((a+2:Nat):Int):=by rw[kqv _ (by omega)];omega
  have i2:IntKind.i64.wrap (((a+2:Nat):Int)+(k:Int))=((a+2+k:Nat):Int):=by rw[kqv _ (by omega)];omega
  have k1:((a+2+k:Nat):Int)<(ws.length:Int):=by omega
  have k0:(0:Int)<=((a+2+k:Nat):Int):=by omega
  have hki:(k:Int)<(o.length:Int):=by omega
  have hk0:(0:Int)<=(k:Int):=by omega
  obtain⟨y,H⟩:=xq (o[k]);rw[H] at y0 m;obtain⟨p,hp⟩:=xq (a+2+k);rw[hp] at S i2 k1 k0 E m;obtain⟨s,hs⟩:=xq (a+2);rw[hs] at i1 i2;obtain⟨v,hv⟩:=xq (wd ws p);rw[hv] at S E m;obtain⟨f,hf⟩:=xq (EO v);rw[hf] at E m;have t:=hid m;clear H hp hs hv hf m hj;by_cases q:y=2
  .subst q;cases f
   .have X:=hid (Eq.out (by rw[t.out];rfl));go_wp2_with fail;refine (E.out _).mono ?_;rintro e w5 ⟨rfl,rfl⟩;go_wp2;go_ret;exact⟨by rw[X.out];rfl,B.out⟩
   have Y:=hid (HS.out (by rw[t.out];rfl));go_wp2_with fail;refine (E.out _).mono ?_;rintro e w5 ⟨rfl,rfl⟩;go_wp2_with fail
   go_round
   case rel=>exact⟨k+1,by omega,by go_num,Y⟩
   case measure=>simp[intOf];omega
  have e1:((y:Int)==2)=false:=by rw[kqj];omega
  have Y:=hid (HS.out (by rw[t.out,show ((some y:Option Nat)==some 2)=false by simpa using q];rfl));clear q;go_wp2_with fail
  go_round
  case rel=>exact⟨k+1,by omega,by go_num,Y⟩
  case measure=>simp[intOf];omega
 have C:k=o.length:=by omega
 have X:=hid (T.out (C ▸ HW.out));have hend:decide ((k:Int)<(o.length:Int))=false:=by rw[kqh];omega
 have hendn:decide (k<o.length)=false:=by rw[kqh];exact j
 clear C j I;go_wp2;go_ret;exact⟨by rw[X.out];rfl,B.out⟩
theorem Dz(A TA SA OA:Option Addr)(ws:List Nat)(L:List Ty)(O:List Bk)(c n tc tn sc sn oc on mb a z ty nx:Nat)(xk:Int)(mk:Bool)(w:World)(hn:ws.length=n)(hm:n<=2048)(ht:L.length=tn)(hty:ty<L.length)(h8:L[ty].l.length<=8)(hz:z=bZ L[ty].l.length)(haz:a+z<=n)(hR:RdW w w.heap.size A ws)(hL:RdL w w.heap.size TA L)(ho:∀x∈ws,x<18446744073709551616)(hO:∀b∈O,b.at_<(n:Int))(hM:w.ownsMap prog 3 (plainElem prog 4) mb O.length (fd (O.map Bk.at_) O.length)):
 Calls prog 99 #[.agg #[.slice A n c,.slice TA tn tc,.slice SA sn sc,.slice OA on oc,.map (some mb)],.agg #[.int .i64 (a:Int),.int .i64 (z:Int),.int .i64 xk,.int .i64 (ty:Int),.bool mk,.int .u64 (nx:Int)]] w λe w'=>e=.returned (.bool (!((List.range L[ty].l.length).any λi=>wrF ws L[ty].l O a 11 i)))/\Below w.heap.size w w':=by
 have xs:=(Bx.new w 163 #[.slice A n c,.slice TA tn tc,.slice SA sn sc,.slice OA on oc,.map (some mb)]).alloc (.cells #[.int .i64 (a:Int),.int .i64 (z:Int),.int .i64 xk,.int .i64 (ty:Int),.bool mk,.int .u64 (nx:Int)] 55);have xb:=Bx.new (w.alloc (.cells #[.slice A n c,.slice TA tn tc,.slice SA sn sc,.slice OA on oc,.map (some mb)] 163)) 55 #[.int .i64 (a:Int),.int .i64 (z:Int),.int .i64 xk,.int .i64 (ty:Int),.bool mk,.int .u64 (nx:Int)];rw[kqm] at xb;have XS:=hid xs;have XB:=hid xb;have J:=hid (((kqk w.heap.size w).alloc (kqa _) (.cells #[.slice A n c,.slice TA tn tc,.slice SA sn sc,.slice OA on oc,.map (some mb)] 163)).alloc (by simp) (.cells #[.int .i64 (a:Int),.int .i64 (z:Int),.int .i64 xk,.int .i64 (ty:Int),.bool mk,.int .u64 (nx:Int)] 55));clear xs xb;subst ht hn;have HL:=hid (hL.up J.out (kqa _));have Ja:=J.out.size;obtain⟨b,off,rfl,Z,p0⟩:=ta HL.out.1 hty;have W:=HL.out.2 _ (kqp hty);obtain⟨x,hx⟩:=xq (L[ty]);rw[hx] at p0 h8 hz W |-;obtain⟨xA,xc,f⟩:=x;dsimp only at p0 h8 hz W |-;have HY:=hid W;have HR:=hid (hR.up J.out (kqa _));have j1:(ty:Int)<(L.length:Int):=by omega
 have j0:(0:Int)<=(ty:Int):=by omega
 have M:Hid (∀k,k<f.length->a+2+k<ws.length):=hid λk V=>by rw[hz] at haz;unfold bZ at haz;omega
 have Jf:=hid (gu ho);have C:=hid hm;have Q:=hid (dL hM (J.out.block mb hM.lt));have Jc:Hid (∀v:Nat,ws.length<=v->th O v=false):=hid λv hv=>by
  cases Y:th O v with
  | false=>rfl
  | true =>obtain⟨b,Z,e⟩:=kjq.1 Y;rw[kqw] at e;have:=hO b Z;omega
 have Jd:Hid (Gj ws f O a 11 0):=hid λi h=>absurd h (by omega);have Jb:=hid (λh=>ED (ws:=ws) (F:=f) (O:=O) (a:=a) (r:=11) h);have Eq:=hid (λk V h=>Ey (ws:=ws) (F:=f) (O:=O) (a:=a) (r:=11) (k:=k) V h);have ha:a<=2048:=by omega
 obtain⟨q0,q1,q2,q3,q4,-,-⟩:=XS.out.c5;obtain⟨r0,r1,r2,r3,r4,r5,-,-⟩:=XB.out.c6;obtain⟨X,H⟩:∃X,(w.alloc (.cells #[.slice A ws.length c,.slice (some ⟨b,off,none⟩) L.length tc,.slice SA sn sc,.slice OA on oc,.map (some mb)] 163)).alloc (.cells #[.int .i64 (a:Int),.int .i64 (z:Int),.int .i64 xk,.int .i64 (ty:Int),.bool mk,.int .u64 (nx:Int)] 55)=X:=⟨_,rfl⟩;rw[H] at p0 HY HR Q q0 q1 q2 q3 q4 r0 r1 r2 r3 r4 r5;have B:=hid (show Below w.heap.size w X by rw[<-H];exact J.out);clear hz haz hm hx hL hR Z W ho hO hM XS XB J HL Ja;go_enter func99,ntmps99;go_wp2_with fail;clear H
 go_loop [15] (λi=>∃k:Nat,k<=f.length/\i=.int .i64 k/\Hid (Gj ws f O a 11 k)) (λi=>f.length-(intOf i).toNat)
 case atStart=>exact⟨0,kqy _,rfl,Jd⟩
 obtain⟨k,V,rfl,HW⟩:=hrel;by_cases j:k<f.length
 .obtain ⟨g,go,rfl,hg,y0⟩:=HY.out.at_ j;obtain⟨d,dof,rfl,hd,w0⟩:=RdW.at_ HR.out (M.out k j);rw[<-d7] at w0;have hj:=M.out k j;have o:wrF ws f O a 11 k=(f[k]? == some 3&&(decide (0<wd ws (a+2+k)) && !th O (wd ws (a+2+k)))):=rfl;rw[kql j] at o;have m:=Jf.out (a+2+k);have HS:=hid (λh=>ra HW.out h);have U:=hid (λh=>Eq.out k j h);have i1:IntKind.i64.wrap ((a:Int)+2)=((a+2:Nat):Int):=by rw[kqv _ (by omega)];omega
  have i2:IntKind.i64.wrap (((a+2:Nat):Int)+(k:Int))=((a+2+k:Nat):Int):=by rw[kqv _ (by omega)];omega
  have k1:((a+2+k:Nat):Int)<(ws.length:Int):=by omega
  have k0:(0:Int)<=((a+2+k:Nat):Int):=by omega
  have hki:(k:Int)<(f.length:Int):=by omega
  have hk0:(0:Int)<=(k:Int):=by omega
  have w1:IntKind.u64.wrap (ws.length:Int)=(ws.length:Int):=kz0 _ (by have:=C.out;omega);obtain⟨y,T⟩:=xq (f[k]);rw[T] at y0 o;obtain⟨p,hp⟩:=xq (a+2+k);rw[hp] at w0 i2 k1 k0 o m;obtain⟨s,hs⟩:=xq (a+2);rw[hs] at i1 i2;obtain⟨v,hv⟩:=xq (wd ws p);rw[hv] at w0 o m;have t:=hid o;have u:=hid (Jc.out v);clear T hp hs hv o hj;by_cases G:y=3
  .subst G;by_cases E:v=0
   .subst E;have S:=hid (HS.out (by rw[t.out];rfl));clear m;go_wp2_with fail
    go_round
    case rel=>exact⟨k+1,by omega,by go_num,S⟩
    case measure=>simp[intOf];omega
   have e1:((v:Int) != 0)=true:=by rw[kqu];omega
   have e1n:(v != 0)=true:=by rw[kqu];omega
   by_cases I:ws.length<=v
   .have R:=hid (U.out (by rw[t.out,u.out I,decide_eq_true (by omega)];rfl));have d1:decide ((ws.length:Int)<=(v:Int))=true:=by rw[kq0];omega
    have d1n:decide (ws.length<=v)=true:=by rw[kq0];omega
    clear m I E;go_wp2;go_ret;exact⟨by rw[R.out];rfl,B.out⟩
   have d1:decide ((ws.length:Int)<=(v:Int))=false:=by rw[kqh];omega
   have d1n:decide (ws.length<=v)=false:=by rw[kqh];omega
   have w2:IntKind.i64.wrap (v:Int)=(v:Int):=kqv _ (by have:=C.out;omega);have N:(Lit.int .i64 (v:Int)).wf=true:=by have:=C.out;simp[Lit.wf,IntKind.min,IntKind.max,IntKind.signed,IntKind.bits];omega
   have Je:=iu Q.out nq underlying161 underlying4 (mp X) (keyOf_int_mk (P:=prog) underlying3 N) (c:=th O v) (by rw[mQ,tH]);have D:Hid (wrF ws f O a 11 k = !th O v):=hid (by rw[t.out,decide_eq_true (by omega)];simp);obtain⟨q,Y⟩:=xq (th O v);rw[Y] at Je D;clear m I E N Y u t;cases q
   .have R:=hid (U.out (by rw[D.out];rfl));go_wp2;go_ret;exact⟨by rw[R.out];rfl,B.out⟩
   have S:=hid (HS.out (by rw[D.out];rfl));go_wp2_with fail
   go_round
   case rel=>exact⟨k+1,by omega,by go_num,S⟩
   case measure=>simp[intOf];omega
  have e1:((y:Int)==3)=false:=by rw[kqj];omega
  have S:=hid (HS.out (by rw[t.out,show ((some y:Option Nat)==some 3)=false by simpa using G];rfl));clear G m;go_wp2_with fail
  go_round
  case rel=>exact⟨k+1,by omega,by go_num,S⟩
  case measure=>simp[intOf];omega
 have K:k=f.length:=by omega
 have R:=hid (Jb.out (K ▸ HW.out));have hend:decide ((k:Int)<(f.length:Int))=false:=by rw[kqh];omega
 have hendn:decide (k<f.length)=false:=by rw[kqh];exact j
 clear K j V;go_wp2;go_ret;exact⟨by rw[R.out];rfl,B.out⟩
def nS (l:List Nat):Array Value:=(l.flatMap aa).toArray
theorem zY(l:List Nat):(nS l).size=l.length:=by unfold nS;rw[kji,ci _ 1 aX,kxh]
theorem Da(l:List Nat):(nS l).all (·.oneCell')=true:=by
 rw[kkv];intro i hi;have:(nS l)[i]∈l.flatMap aa:=by unfold nS at *;simp
 obtain⟨x,-,a⟩:=kk4.1 this;rw[aa,kqx] at a;rw[a];rfl
theorem qi:(prog.info? 242).map (·.size)=some 8:=by kernel_rfl
theorem EN(w:World):(zeroValue 242).run prog w=.ok (.agg #[.int .u64 0,.int .u64 0,.int .u64 0,.int .u64 0,.int .u64 0,.int .u64 0,.int .u64 0,.int .u64 0]) w:=by kernel_rfl
theorem vw{fn:Func}{p:Tmp}(h:fn.results=#[.cell p 242])(tmps:Array Value){W:World}{cs:Array Value}(hb:Bx W g t cs)(hs:cs.size=8)(hp:tmps.getD p undef=.pointer (some ⟨g,0,none⟩)):
 (results fn tmps).run prog W=.ok (.agg cs) W:=by
 have a:tmps[p]?.getD undef=.pointer (some ⟨g,0,none⟩):=by simpa using hp
 have b:(prog.info? 242).map (·.size)=some cs.size:=by rw[hs];exact qi
 have c:=run_loadVar_row W g t 242 cs (0,0) _ hb underlying242 rfl b;simp[results,h,a,asAddr,c]
theorem wq(n t:Nat)(w:World)(hn:n<=1000000)(ht:t<=1000000):
 Calls prog 174 #[.agg #[.int .i64 (n:Int),.int .i64 (t:Int)]] w λe w'=>e=.returned (.agg (nS (spL n t)))/\Below w.heap.size w w':=by
 have G:=hid (λA W (L:RdW W W.heap.size A (sp7 n t))=>oU A (sp7 n t) 8 7 W rfl (by omega) L (λx H=>by
  simp only[sp7,kqt,kzb,or_false] at H;omega))
 obtain⟨q,o⟩:=xq (aR 14695981039346656037 (sp7 n t));have K:=hid (show nS (spL n t)=#[.int .u64 32777959566500194,.int .u64 1,.int .u64 (n:Int),.int .u64 (t:Int),.int .u64 0,.int .u64 0,.int .u64 0,.int .u64 (q:Int)] by
  unfold nS spL;rw[o];rfl)
 have u:Hid (∀W g,Bx W g 242 #[.int .u64 32777959566500194,.int .u64 1,.int .u64 (n:Int),.int .u64 (t:Int),.int .u64 0,.int .u64 0,.int .u64 0,.int .u64 0]->RdW W W.heap.size (some ⟨g,0,none⟩) (sp7 n t)):=hid λW g h=>(Rd.of_box h h.lt).take_ 7;rw[o] at G;have I:=hid (((kqk w.heap.size w).alloc (kqa _) (.cells #[.int .i64 (n:Int),.int .i64 (t:Int)] 126)).alloc (by simp) (.cells #[.int .u64 0,.int .u64 0,.int .u64 0,.int .u64 0,.int .u64 0,.int .u64 0,.int .u64 0,.int .u64 0] 242));have w1:IntKind.u64.wrap (n:Int)=(n:Int):=kz0 _ (by omega);have w2:IntKind.u64.wrap (t:Int)=(t:Int):=kz0 _ (by omega);have hzv:=EN;have bx:=Bx.new ((w.alloc (.cells #[.int .i64 (n:Int),.int .i64 (t:Int)] 126)).alloc (.cells #[.int .u64 0,.int .u64 0,.int .u64 0,.int .u64 0,.int .u64 0,.int .u64 0,.int .u64 0,.int .u64 0] 242)) 242 #[.int .u64 0,.int .u64 0,.int .u64 0,.int .u64 0,.int .u64 0,.int .u64 0,.int .u64 0,.int .u64 0];rw[kqm,kqm] at bx;have M:=hid bx;have D:=hid (((I.out.alloc (by simp;omega) (.cells #[.int .u64 0,.int .u64 0,.int .u64 0,.int .u64 0,.int .u64 0,.int .u64 0,.int .u64 0,.int .u64 0] 242))));have y:=Bx.new (w.alloc (.cells #[.int .i64 (n:Int),.int .i64 (t:Int)] 126)) 242 #[.int .u64 0,.int .u64 0,.int .u64 0,.int .u64 0,.int .u64 0,.int .u64 0,.int .u64 0,.int .u64 0]
 rw[kqm] at y;have F:=hid (y.alloc (.cells #[.int .u64 0,.int .u64 0,.int .u64 0,.int .u64 0,.int .u64 0,.int .u64 0,.int .u64 0,.int .u64 0] 242));have s:(prog.info? 242).map (·.size)=some (#[.int .u64 32777959566500194,.int .u64 1,.int .u64 (n:Int),.int .u64 (t:Int),.int .u64 0,.int .u64 0,.int .u64 0,.int .u64 0]:Array Value).size:=qi;clear o bx y;have hbd:∀W,(Instr.build 242 #[(0,.int .u64 32777959566500194),(1,.int .u64 1),(2,.int .u64 (n:Int)),(3,.int .u64 (t:Int))]).run prog W=.ok (.agg #[.int .u64 32777959566500194,.int .u64 1,.int .u64 (n:Int),.int .u64 (t:Int),.int .u64 0,.int .u64 0,.int .u64 0,.int .u64 0]) W:=λ_=>by kernel_rfl
 go_enter func174,ntmps174;go_wp2_with (first
  | ((with_reducible refine aq 242 (.tmp 3) _ ?_);refine ai rfl _ _ _ rfl (w.heap.size+1+1) 242 #[.int .u64 0,.int .u64 0,.int .u64 0,.int .u64 0,.int .u64 0,.int .u64 0,.int .u64 0,.int .u64 0] #[.int .u64 32777959566500194,.int .u64 1,.int .u64 (n:Int),.int .u64 (t:Int),.int .u64 0,.int .u64 0,.int .u64 0,.int .u64 0] (by rfl) (by rfl) M.out (by rfl) s (by simp[Value.oneCell']) ?_;intro w3 m j;have c:=hid m;have d:=hid j;clear m j))
 refine (G.out _ _ (u.out _ _ c.out)).mono ?_;rintro e w4 ⟨rfl,a⟩;have b:=hid (d.out.below D.out (by omega));have r:=hid (b.out.trans (a.mono b.out.size));have l:=c.out.up a c.out.lt;have N:=hid ((d.out.bx F.out (by omega)).up a (d.out.bx F.out (by omega)).lt);have hl3:=l.lt;have hc7:=l.cell 7;have hf7:=l.frozen 7;have J:=hid (l.set_ 7 (.int .u64 (q:Int)));have B:=hid (N.out.far (p:=⟨w.heap.size+1+1,7,none⟩) (by simp) (.int .u64 (q:Int)));have z:=hid (r.out.setCell (p:=⟨w.heap.size+1+1,7,none⟩) (by simp;omega) (.int .u64 (q:Int)));have i:(prog.info? 242).map (·.size)=some (#[.int .u64 32777959566500194,.int .u64 1,.int .u64 (n:Int),.int .u64 (t:Int),.int .u64 0,.int .u64 0,.int .u64 0,.int .u64 (q:Int)]:Array Value).size:=qi;clear l a;go_wp2_with (first
  | ((with_reducible refine aH 242 (.tmp 3) ?_);refine kxc rfl _ _ rfl (w.heap.size+1+1) (by rfl) 242 #[.int .u64 32777959566500194,.int .u64 1,.int .u64 (n:Int),.int .u64 (t:Int),.int .u64 0,.int .u64 0,.int .u64 0,.int .u64 (q:Int)] (0,0) _ J.out underlying242 (by rfl) i ?_)
  | ((with_reducible refine aq 242 (.tmp 2) _ ?_);refine ai rfl _ _ _ rfl (w.heap.size+1) 242 #[.int .u64 0,.int .u64 0,.int .u64 0,.int .u64 0,.int .u64 0,.int .u64 0,.int .u64 0,.int .u64 0] #[.int .u64 32777959566500194,.int .u64 1,.int .u64 (n:Int),.int .u64 (t:Int),.int .u64 0,.int .u64 0,.int .u64 0,.int .u64 (q:Int)] (by rfl) (by rfl) B.out (by rfl) i (by simp[Value.oneCell']) ?_;intro w6 f k;have C:=hid f;have E:=hid k;clear f k))
 exact kqr (v:=.agg #[.int .u64 32777959566500194,.int .u64 1,.int .u64 (n:Int),.int .u64 (t:Int),.int .u64 0,.int .u64 0,.int .u64 0,.int .u64 (q:Int)]) (vw results174 _ C.out (by rfl) rfl) rfl ⟨by rw[K.out],E.out.below z.out (by omega)⟩
theorem Fv(h:l.length=8):∃p0 p1 p2 p3 p4 p5 p6 p7,l=[p0,p1,p2,p3,p4,p5,p6,p7]:=by
 match l,h with
 | [p0,p1,p2,p3,p4,p5,p6,p7],_=>exact⟨p0,p1,p2,p3,p4,p5,p6,p7,rfl⟩
theorem C4{a b:List Nat}(ha:a.length=8)(hb:b.length=8)(W:World):(Op.equalIn 10000 242 (.agg (nS a)) (.agg (nS b))).run prog W=.ok (decide (a=b)) W:=by
 have H:=underlying242;have G:=underlying53;have F:List.range' 0 8=[0,1,2,3,4,5,6,7]:=rfl;have e1:=λ(x y:Int)=>run_equalIn_int W 9998 53 .u64 .u64 x y G;obtain⟨i,n,r,B,h,k,t,o,rfl⟩:=Fv ha;obtain⟨p,q,s,l,m,w,z,A,rfl⟩:=Fv hb;have E:decide ([i,n,r,B,h,k,t,o]=[p,q,s,l,m,w,z,A])=(i==p&&(n==q&&(r==s&&(B==l&&(h==m&&(k==w&&(t==z&&o==A))))))):=by rw[kzq,kq0];simp
 have I:∀u v,(Op.equalIn 10000 242 u v)=(Op.equalIn (9999+1) 242 u v):=λ_ _=>rfl;rw[I,E];unfold Op.equalIn nS;simp only[kzp,List.flatMap_nil,aa,kzg,kzv];simp[go_sem,run_underlying H,Sem.run_bind,F,List.forIn_cons];simp only[Int.ofNat_inj];by_cases c:i=p
 .by_cases d:n=q
  .by_cases e:r=s
   .by_cases f:B=l
    .by_cases g:h=m
     .by_cases j:k=w
      .by_cases C:t=z
       .by_cases D:o=A<;>simp[c,d,e,f,g,j,C,D,go_sem]
       simp[c,d,e,f,g,j,C,go_sem]
      simp[c,d,e,f,g,j,go_sem]
     simp[c,d,e,f,g,go_sem]
    simp[c,d,e,f,go_sem]
   simp[c,d,e,go_sem]
  simp[c,d,go_sem]
 simp[c,go_sem]
theorem EG(p q a b:Int)(W:World):(Op.equalIn 10000 126 (.agg #[.int .i64 p,.int .i64 q]) (.agg #[.int .i64 a,.int .i64 b])).run prog W=.ok (p==a&&q==b) W:=by have f:=underlying126;have c:=underlying3;have g:∀u v,(Op.equalIn 10000 126 u v)=(Op.equalIn (9999+1) 126 u v):=λ_ _=>rfl;have e1:=λ(x y:Int)=>run_equalIn_int W 9998 3 .i64 .i64 x y c;rw[g];unfold Op.equalIn;simp[go_sem,run_underlying f,Sem.run_bind,List.forIn_cons];by_cases e:p=a<;>by_cases d:q=b<;>simp[e,d,go_sem]
theorem Bx.c8{x5 x6 x7:Value}(h:Bx w g t #[x0,x1,x2,x3,x4,x5,x6,x7]):w.cell? ⟨g,0,none⟩=some x0/\w.cell? ⟨g,1,none⟩=some x1/\w.cell? ⟨g,2,none⟩=some x2 /\
 w.cell? ⟨g,3,none⟩=some x3/\w.cell? ⟨g,4,none⟩=some x4/\w.cell? ⟨g,5,none⟩=some x5/\w.cell? ⟨g,6,none⟩=some x6/\w.cell? ⟨g,7,none⟩=some x7:=
 ⟨h.cell 0,h.cell 1,h.cell 2,h.cell 3,h.cell 4,h.cell 5,h.cell 6,h.cell 7⟩
theorem at_s2a{ops:Array Oper}{rest:List Oper}{a:Act}{Q:Exit->Act->World->Prop}{dst:Option Tmp}{type:TypeId}{pos:String}{after:Array Edge}{guard:Option (Nat × Bool)}(ty:TypeId)(x:Operand)(h:wpList P ops Q ({ dst:=dst,op:=.sliceToArrayPointer ty x,type:=type,pos:=pos,after:=after,guard:=guard }::rest) a w):wpList P ops Q ({ dst:=dst,op:=.sliceToArrayPointer ty x,type:=type,pos:=pos,after:=after,guard:=guard }::rest) a w:=h
theorem tA{k:Nat}(hk:k<l.length):(nS l)[k]? = some (.int .u64 (wd l k:Int)):=by unfold nS;have:=jA aa 1 aX l k 0 hk (by omega);rw[kxh,kz8] at this;rw[List.getElem?_toArray,this,d7 hk];rfl
theorem C5{B off:Nat}{cs:List Value}(h:Rd w B (some ⟨b,off,none⟩) cs):w.rangeAt b off cs:=λj v c=>by have a:=(kq7.1 c).1;obtain⟨b',off',e,-,d⟩:=h (by intro e;rw[e] at a;simp at a);cases e;rw[d j a,<-c,kql a]
def spNo (x y i:Nat):Prop:=¬ (256<=x/\x<256+8*i/\x%8=0/\y<=8)
def spT (x n y t:Nat):Prop:=¬ (x=n/\y<t)
theorem yr{x y i:Nat}(h:spNo x y i)(h2:¬ (x=256+8*i/\y<=8)):spNo x y (i+1):=λ⟨d,h4,c,a⟩=>by
 by_cases b:x<256+8*i
 .exact h ⟨d,b,c,a⟩
 .exact h2 ⟨by omega,a⟩
theorem rn(A:Option Addr)(l:List Nat)(c:Nat)(w:World)(q:l.length=8)(hr:RdW w w.heap.size A l):
 Calls prog 116 #[.slice A 8 c] w λe w'=>e=.returned (.tuple #[spV l,.int .i64 (kU l)])/\Below w.heap.size w w':=by
 obtain⟨p0,p1,x,y,p4,p5,p6,p7,z⟩:=Fv q;obtain⟨b,P,rfl,hb,-⟩:=RdW.at_ hr (show 0<l.length by omega);have H:=hid (λh=>ae ((wd l 2:Nat):Int) |>.1 h);have r:=hid (λh=>BH (l:=l) h);have D:=hid (λh=>sm (l:=l) h);have Z:=hid (λh=>uk (l:=l) h);have G:Hid (ap ((wd l 2:Nat):Int)=true->wd l 3<=8->sX l=decide (spL (wd l 2) (wd l 3)=l)):=hid λh1 h2=>by
  unfold sX;rw[h1,decide_eq_true h2];rfl
 have Y:=hid (show ∀W,Below w.heap.size w W->W.rangeAt b P (l.flatMap aa) from λW h=>C5 (Rd.below hr h));have H8:=hid (show (nS l).size=8 by rw[zY,q]);have N:=hid (show (l.flatMap aa).length=8 by rw[ci _ 1 aX,q]);have H1:=hid (Da l);have g2:=tA (l:=l) (k:=2) (by omega);have g3:=tA (l:=l) (k:=3) (by omega);have x0:=Bx.new w 126 #[.int .i64 0,.int .i64 0];have X0:=hid x0;have hlt2:Hid (w.heap.size<=w.heap.size+1+1):=hid (by omega);have O:=hid ((((kqk w.heap.size w).alloc (kqa _) (.cells #[.int .i64 0,.int .i64 0] 126)).alloc (by simp) (.cells #[.int .i64 0,.int .i64 0] 126)));have x1:=Bx.new (w.alloc (.cells #[.int .i64 0,.int .i64 0] 126)) 126 #[.int .i64 0,.int .i64 0];rw[kqm] at x1;have X1:=hid x1;have x2:=Bx.new ((w.alloc (.cells #[.int .i64 0,.int .i64 0] 126)).alloc (.cells #[.int .i64 0,.int .i64 0] 126)) 242 #[.int .u64 0,.int .u64 0,.int .u64 0,.int .u64 0,.int .u64 0,.int .u64 0,.int .u64 0,.int .u64 0];rw[kqm,kqm] at x2;have X2:=hid x2;have HL:=hid q;have hzv:=EN;have hx:wd l 2=x:=by rw[z];rfl
 have hy:wd l 3=y:=by rw[z];rfl
 have HA:=hid (show nS l=#[.int .u64 (p0:Int),.int .u64 (p1:Int),.int .u64 (x:Int),.int .u64 (y:Int),.int .u64 (p4:Int),.int .u64 (p5:Int),.int .u64 (p6:Int),.int .u64 (p7:Int)] by rw[z];rfl);rw[hx] at H r Z G g2;rw[hy] at r Z G g3;have G2:=hid g2;have G3:=hid g3;have Ja:Hid ((l.flatMap aa).toArray=nS l):=hid rfl;have T:(prog.info? 242).map (·.size)=some (l.flatMap aa).length:=by rw[N.out];exact qi
 have Jp:(prog.info? 242).map (·.size)=some (nS l).size:=by rw[H8.out];exact qi
 have Jo:(nS l).size=(#[.int .u64 0,.int .u64 0,.int .u64 0,.int .u64 0,.int .u64 0,.int .u64 0,.int .u64 0,.int .u64 0]:Array Value).size:=H8.out;clear hx hy hr q x0 x1 x2 g2 g3 z;obtain⟨cs,Jg⟩:=xq (l.flatMap aa);rw[Jg] at Y N Ja T;clear Jg;go_enter func116,ntmps116;go_wp2_with fail
 go_step3
 go_wp2_with (first
  | ((with_reducible refine at_s2a 242 _ ?_);refine qq rfl (.pointer (some ⟨b,P,none⟩)) (by unfold execOp;simp only[Sem.run_bind,Act.eval,go_sem];rfl) ?_)
  | ((with_reducible refine aH 242 (.tmp 13) ?_);refine wpList_load_mid rfl _ _ rfl b P (by rfl) cs _ (Y.out _ O.out) underlying242 (by rfl) T ?_;rw[Ja.out])
  | ((with_reducible refine aq 242 (.tmp 5) _ ?_);refine ai rfl _ _ _ rfl (w.heap.size+1+1) 242 #[.int .u64 0,.int .u64 0,.int .u64 0,.int .u64 0,.int .u64 0,.int .u64 0,.int .u64 0,.int .u64 0] (nS l) (by rfl) (by rfl) X2.out Jo Jp H1.out ?_;intro a Jh Ji;have f:=hid Jh;have u:=hid Ji;clear Jh Ji))
 go_step3
 have B:=hid (u.out.bx ((X0.out.alloc _).alloc _) (by omega));have j:=hid (u.out.bx (X1.out.alloc _) (by omega));have I:=hid (u.out.below (O.out.alloc (by simp;omega) _) (by omega));have c2:=(f.out.cell 2).trans G2.out;have c3:=(f.out.cell 3).trans G3.out;have hl3:=f.out.lt;clear Y N Ja T X2 X0 X1 O u;go_wp2_with fail
 go_loop [6] (λv=>∃i:Nat,i<=225/\v=.int .i64 ((256+8*i:Nat):Int)/\Hid (spNo x y i)) (λv=>4000-(intOf v).toNat)
 case atStart=>exact⟨0,kqy _,rfl,hid λh=>by omega⟩
 obtain⟨i,hi,rfl,HN⟩:=hrel;obtain⟨n,q⟩:=xq (256+8*i);have o:=hid q;rw[q];by_cases Je:i<225
 .have d1:decide ((n:Int)<=2048)=true:=by rw[kq0];omega
  have d1n:decide (n<=2048)=true:=by rw[kq0];omega
  have w1:IntKind.u64.wrap (n:Int)=(n:Int):=kz0 _ (by omega);have w2x:IntKind.i64.wrap ((n:Int)+8)=((n+8:Nat):Int):=by rw[kqv _ (by omega)];omega
  have hn8:n<=2048:=by omega
  clear q;go_wp2_with fail
  go_loop [19] (λv=>∃t:Nat,t<=9/\v=.int .i64 (t:Int)/\Hid (spT x n y t)) (λv=>9-(intOf v).toNat)
  case atStart=>exact⟨0,kqy _,rfl,hid λh=>by omega⟩
  obtain⟨t,ht,rfl,HT⟩:=hrel;by_cases Jr:t<9
  .have w3x:IntKind.u64.wrap (t:Int)=(t:Int):=kz0 _ (by omega);have ht9:(t:Int)<9:=by omega
   by_cases V:x=n
   .subst V;by_cases Jd:y=t
    .subst Jd;obtain⟨r0,r1,f0,f1,Jq⟩:=j.out.c2;have Jm:ap (x:Int)=true:=(ae _).2 (by have:=o.out;omega);have U:=hid (G.out Jm (by omega));have HW:=hid (λW=>wq x y W (by omega) (by omega));have Jb:=λW=>EG x y 0 0 W;rw[show ((x:Int)==0&&(y:Int)==0)=false by rw[show ((x:Int)==0)=false by rw[kqj];have:=o.out;omega];rfl] at Jb;have s:=λW=>C4 (rJ x y) HL.out W;rw[HA.out] at s;obtain⟨AL,Jl⟩:=xq (nS (spL x y));rw[Jl] at s HW;have HM:=hid s;have Eq:=hid (show Bx a (w.heap.size+1+1) 242 #[.int .u64 (p0:Int),.int .u64 (p1:Int),.int .u64 (x:Int),.int .u64 (y:Int),.int .u64 (p4:Int),.int .u64 (p5:Int),.int .u64 (p6:Int),.int .u64 (p7:Int)] by rw[<-HA.out];exact f.out);clear Jm Jl s G r HT HN o ht Jr hi Je;go_wp2_with fail;have x4:=((j.out.set_ 0 (.int .i64 (x:Int))).set_ 1 (.int .i64 (y:Int)));have F:=(Eq.out.far (p:=⟨w.heap.size+1,0,none⟩) (by simp) (.int .i64 (x:Int))).far (p:=⟨w.heap.size+1,1,none⟩) (by simp) (.int .i64 (y:Int));have X04:=hid ((B.out.far (p:=⟨w.heap.size+1,0,none⟩) (by simp) (.int .i64 (x:Int))).far (p:=⟨w.heap.size+1,1,none⟩) (by simp) (.int .i64 (y:Int)))
     have m:=hid ((I.out.setCell (p:=⟨w.heap.size+1,0,none⟩) (by simp) (.int .i64 (x:Int))).setCell (p:=⟨w.heap.size+1,1,none⟩) (by simp) (.int .i64 (y:Int)));obtain⟨W4,Jc⟩:∃W4,(a.setCell ⟨w.heap.size+1,0,none⟩ (.int .i64 (x:Int))).setCell ⟨w.heap.size+1,1,none⟩ (.int .i64 (y:Int))=W4:=⟨_,rfl⟩;rw[Jc] at x4 F X04 m |-;obtain⟨q0,q1,-⟩:=x4.c2;obtain⟨e0,e1,e2,e3,e4,e5,e6,e7⟩:=F.c8;have XL4:=hid F;have X4:=hid x4;clear Jc B j f Eq I c2 c3 r0 r1 f0 f1 Jq x4 F;have hm:∀W,(Op.equalIn 10000 242 (.agg AL) (.agg #[.int .u64 (p0:Int),.int .u64 (p1:Int),.int .u64 (x:Int),.int .u64 (y:Int),.int .u64 (p4:Int),.int .u64 (p5:Int),.int .u64 (p6:Int),.int .u64 (p7:Int)])).run prog W=.ok (decide (spL x y=l)) W:=HM.out;obtain⟨dq,Jk⟩:=xq (decide (spL x y=l));rw[Jk] at hm U;clear Jk;cases dq
     all_goals
      go_region_held3 (λX:World=>X.cell? ⟨w.heap.size+1,0,none⟩=some (.int .i64 (x:Int))/\X.cell? ⟨w.heap.size+1,1,none⟩=some (.int .i64 (y:Int))/\X.cell? ⟨w.heap.size+1+1,0,none⟩=some (.int .u64 (p0:Int))/\X.cell? ⟨w.heap.size+1+1,1,none⟩=some (.int .u64 (p1:Int))/\X.cell? ⟨w.heap.size+1+1,2,none⟩=some (.int .u64 (x:Int))/\X.cell? ⟨w.heap.size+1+1,3,none⟩=some (.int .u64 (y:Int))/\X.cell? ⟨w.heap.size+1+1,4,none⟩=some (.int .u64 (p4:Int))/\X.cell? ⟨w.heap.size+1+1,5,none⟩=some (.int .u64 (p5:Int))/\X.cell? ⟨w.heap.size+1+1,6,none⟩=some (.int .u64 (p6:Int))/\X.cell? ⟨w.heap.size+1+1,7,none⟩=some (.int .u64 (p7:Int))) (go_keep)
       (first | (go_at_call 174;refine (HW.out _).mono ?_;rintro e w5 ⟨rfl,E⟩;have x45:=(show Bx W4.drew _ _ _ from X4.out).up E X4.out.lt;have L:=(show Bx W4.drew _ _ _ from XL4.out).up E XL4.out.lt;obtain⟨k0,k1,-⟩:=x45.c2;obtain⟨m0,m1,m2,m3,m4,m5,m6,m7⟩:=L.c8;have J:=hid ((show Bx W4.drew _ _ _ from X04.out).up E X04.out.lt);have Jf:=hid (m.out.drew.trans (E.mono m.out.size));clear x45 L))
      clear q0 q1 e0 e1 e2 e3 e4 e5 e6 e7 m0 m1 m2 m3 m4 m5 m6 m7;have hg5:=J.out.lt;obtain⟨v0,v1,f0,f1,-⟩:=J.out.c2;go_wp2_with fail;rw[Exit.noGoto_ret]
     .have M:=hid (D.out U.out);exact kqr (v:=.tuple #[.agg #[.int .i64 0,.int .i64 0],.int .i64 50]) (jU results116 _ ((J.out.set_ 0 _).set_ 1 _) rfl rfl) rfl ⟨by rw[M.out.1,M.out.2],(Jf.out.setCell (by simp) _).setCell (by simp) _⟩
     have M:=hid (Z.out U.out);exact kqr (v:=.tuple #[.agg #[.int .i64 (x:Int),.int .i64 (y:Int)],.int .i64 0]) (jU results116 _ ((J.out.set_ 0 _).set_ 1 _) rfl rfl) rfl ⟨by rw[M.out.1,M.out.2],(Jf.out.setCell (by simp) _).setCell (by simp) _⟩
    have e1:((t:Int)==(y:Int))=false:=by rw[kqj];omega
    have e1n:(t==y)=false:=by rw[kqj];omega
    have Q:Hid (spT x x y (t+1)):=hid λh=>HT.out ⟨rfl,by omega⟩;clear Jd;go_wp2_with fail
    go_round
    case rel=>exact⟨t+1,by omega,by go_num,Q⟩
    case measure=>simp[intOf];omega
   have e1:((n:Int)==(x:Int))=false:=by rw[kqj];omega
   have e1n:(n==x)=false:=by rw[kqj];omega
   have Q:Hid (spT x n y (t+1)):=hid λh=>V h.1;clear V;go_wp2_with fail
   go_round
   case rel=>exact⟨t+1,by omega,by go_num,Q⟩
   case measure=>simp[intOf];omega
  obtain rfl:t=9:=by omega
  have D:Hid (spNo x y (i+1)):=hid (yr HN.out λh=>HT.out ⟨by have:=o.out;omega,by omega⟩);go_wp2_with fail
  go_round
  case rel=>exact⟨i+1,by omega,by have:=o.out;go_num,D⟩
  case measure=>simp[intOf];omega
 obtain rfl:i=225:=by omega
 have d1:decide ((n:Int)<=2048)=false:=by rw[kqh];omega
 have d1n:decide (n<=2048)=false:=by rw[kqh];omega
 clear q Je;have M:=hid (D.out (r.out λh=>HN.out ⟨by have:=H.out h.1;omega,by have:=H.out h.1;omega,by have:=H.out h.1;omega,h.2⟩));have Eq:=hid (show Bx a (w.heap.size+1+1) 242 #[.int .u64 (p0:Int),.int .u64 (p1:Int),.int .u64 (x:Int),.int .u64 (y:Int),.int .u64 (p4:Int),.int .u64 (p5:Int),.int .u64 (p6:Int),.int .u64 (p7:Int)] by rw[<-HA.out];exact f.out);have Jb:=λW=>EG 0 0 0 0 W;obtain⟨q0,q1,-⟩:=j.out.c2;clear c2 c3;go_wp2_with fail;have ct0:∀g:SW (λX:World=>Below a.heap.size a X),g.w.cell? ⟨w.heap.size+1,0,none⟩=some (.int .i64 0):=λg=>(g.ok.cell (p:=⟨w.heap.size+1,0,none⟩) j.out.lt).trans q0;have ct1:∀g:SW (λX:World=>Below a.heap.size a X),g.w.cell? ⟨w.heap.size+1,1,none⟩=some (.int .i64 0):=λg=>(g.ok.cell (p:=⟨w.heap.size+1,1,none⟩) j.out.lt).trans q1
 refine qM (S:=λX:World=>Below a.heap.size a X) ((0,0,0)::(0,1,0)::(0,2,0)::(0,3,0)::(0,4,0)::(0,6,0)::(1,5,0)::(0,7,0)::(0,8,0)::[]) (.one _ true (none)::.one _ true (none)::.one _ true (none)::.one _ true (none)::.one _ true (some (some 41,false))::.one _ true (some (some 41,false))::.one _ false (some (some 41,false))::.one _ true (some (some 41,false))::.one _ true (none)::[]) (by kernel_rfl) (by kernel_rfl) (by decide) (by kernel_rfl) (by rfl) (λ_ _ d _ _ h=>by cases d<;>exact h) (kqk _ _).drew ?_;have C:=hid ((kqk a.heap.size a).drew);obtain⟨X0,Jj⟩:=xq a.drew;rw[Jj] at C |-;clear Jj;have hne:Nonempty (SW (λX:World=>Below a.heap.size a X)):=⟨⟨X0,C.out⟩⟩
 iterate 6 (first | (refine iJ (by rfl) ?_;(try simp only[Act.put,kqb,kqf,kqe])) | (refine lF (by rfl) ?_;intro K hK;go_big_quiet_op;go_big_quiet_on))
 (refine iJ (by rfl) ?_;(try simp only[Act.put,kqb,kqf,kqe]))
 iterate 2 (first | (refine iJ (by rfl) ?_;(try simp only[Act.put,kqb,kqf,kqe])) | (refine lF (by rfl) ?_;intro K hK;go_big_quiet_op;go_big_quiet_on))
 refine Er ?_;have R:=hid (B.out.up C.out B.out.lt);have m:=hid (I.out.trans (C.out.mono I.out.size));have hg6:=R.out.lt;obtain⟨v0,v1,f0,f1,-⟩:=R.out.c2;clear q0 q1;go_wp2_with fail;rw[Exit.noGoto_ret];exact kqr (v:=.tuple #[.agg #[.int .i64 0,.int .i64 0],.int .i64 50]) (jU results116 _ ((R.out.set_ 0 _).set_ 1 _) rfl rfl) rfl ⟨by rw[M.out.1,M.out.2],(m.out.setCell (by simp) _).setCell (by simp) _⟩
theorem Bx.c4(h:Bx w g t #[x0,x1,x2,x3]):w.cell? ⟨g,0,none⟩=some x0/\w.cell? ⟨g,1,none⟩=some x1/\w.cell? ⟨g,2,none⟩=some x2/\w.cell? ⟨g,3,none⟩=some x3 /\
 w.frozen? ⟨g,0,none⟩=false/\w.frozen? ⟨g,1,none⟩=false/\w.frozen? ⟨g,2,none⟩=false/\w.frozen? ⟨g,3,none⟩=false/\g<w.heap.size:=
 ⟨h.cell 0,h.cell 1,h.cell 2,h.cell 3,h.frozen 0,h.frozen 1,h.frozen 2,h.frozen 3,h.lt⟩
theorem wU(w:World):Calls prog 115 #[] w λe w'=>e=.returned (.agg #[.int .i64 0,.int .i64 8])/\Below w.heap.size w w':=by
 have hb:∀W,(Instr.build 179 #[(0,.int .i64 0),(1,.int .i64 8)]).run prog W=.ok (.agg #[.int .i64 0,.int .i64 8]) W:=λ_=>by kernel_rfl
 have b:=Bx.new w 179 #[.int .i64 0,.int .i64 0];obtain⟨q0,q1,f0,f1,hg⟩:=b.c2;go_enter func115,ntmps115;go_wp2_with fail;have a:=Bx.new w 179 #[.int .i64 0,.int .i64 8];obtain⟨p0,p1,-⟩:=a.c2;exact kqr (v:=.agg #[.int .i64 0,.int .i64 8]) (by simp[results,results115,go_sem]) rfl ⟨rfl,(kqk w.heap.size w).alloc (kqa _) _⟩
theorem Em(l:List Nat):∃a b:Int,spV l=.agg #[.int .i64 a,.int .i64 b]/\(kU l=0->a=((wd l 2:Nat):Int)/\b=((wd l 3:Nat):Int)):=by
 cases h:sX l with
 | true=>exact⟨_,_,(uk h).1,λ_=>⟨rfl,rfl⟩⟩
 | false=>exact⟨0,0,(sm h).1,λc=>by rw[(sm h).2] at c;cases c⟩
theorem yP :kU l=0↔sX l=true:=by unfold kU;split<;>simp_all
theorem cp_is(ws:List Nat)(a:Nat){x y:Int}(hv:kU (sp8 ws a)=0->x=((wd (sp8 ws a) 2:Nat):Int)/\y=((wd (sp8 ws a) 3:Nat):Int)):(r7 ws a=if kU (sp8 ws a)=0 then (x==(ws.length:Int)) else false)/\(r7 ws a=true->y=((wd ws (a+3):Nat):Int)):=by
 have d:wd (sp8 ws a) 2=wd ws (a+2):=rB (by omega);have e:wd (sp8 ws a) 3=wd ws (a+3):=rB (by omega);rw[d,e] at hv;have b:r7 ws a=if kU (sp8 ws a)=0 then (x==(ws.length:Int)) else false:=by
  unfold r7;by_cases h:kU (sp8 ws a)=0
  .rw[if_pos h,yP.1 h,kzx,(hv h).1,kzq,kqw,kqw];omega
  rw[if_neg h,show sX (sp8 ws a)=false by
   cases c:sX (sp8 ws a) with
   | false=>rfl
   | true=>exact absurd (yP.2 c) h]
  rfl
 refine⟨b,λh=>?_⟩;rw[b] at h;split at h
 .rename_i h2;exact (hv h2).2
 cases h
theorem Dm(A:Option Addr)(ws:List Nat)(c n:Nat)(w:World)(hn:ws.length=n)(hm:n<=9223372036854775807)(hc:n<=c)(hr:RdW w w.heap.size A ws):
 Calls prog 68 #[.slice A n c] w λe w'=>TwRes ws e/\Below w.heap.size w w':=by
 subst hn;have HR:=hid hr;have Jd:=hid (λW=>aB A ws.length c W hm);have L:=hid (((kqk w.heap.size w).alloc (kqa _) (.cells #[.int .i64 0,.int .i64 0] 126)).alloc (by simp) (.cells #[.bool false,.bool false] 127));have x0:=(Bx.new w 126 #[.int .i64 0,.int .i64 0]).alloc (.cells #[.bool false,.bool false] 127);have x1:=Bx.new (w.alloc (.cells #[.int .i64 0,.int .i64 0] 126)) 127 #[.bool false,.bool false];rw[kqm] at x1;have X0:=hid x0;have X1:=hid x1;clear x0 x1 hr;cases hs:ap (ws.length:Int)
 .have HV:=hid (xV hs);rw[cn hs] at Jd;clear hs hm hc;go_enter func68,ntmps68;go_wp2_with fail;refine (Jd.out _).mono ?_;rintro e w1 ⟨rfl,rfl⟩;obtain⟨a,Ja⟩:=xq ((w.alloc (.cells #[.int .i64 0,.int .i64 0] 126)).alloc (.cells #[.bool false,.bool false] 127));rw[Ja] at X0 X1 L |-;clear Ja;obtain⟨v0,v1,f0,f1,hg0⟩:=X0.out.c2;obtain⟨v2,v3,f2,f3,Jy⟩:=X1.out.c2;go_wp2_with fail;exact kqr (v:=.tuple #[.agg #[.int .i64 0,.int .i64 0],.agg #[.bool false,.bool false],.int .i64 8]) (gx results68 _ ((((X0.out.set_ 0 _).set_ 1 _).far (by simp) _).far (by simp) _) ((((X1.out.far (by simp) _).far (by simp) _).set_ 0 _).set_ 1 _) rfl rfl rfl) rfl ⟨⟨0,false,false,by rw[HV.out.1,HV.out.2];rfl⟩,(((L.out.setCell (by simp) _).setCell (by simp) _).setCell (by simp) _).setCell (by simp) _⟩
 have hb:=(ae _).1 hs;rw[bG hs] at Jd;obtain⟨b,off,rfl,Jv,-⟩:=RdW.at_ HR.out (show 0<ws.length by omega);obtain⟨l,m,Jr,Jm⟩:=Em (sp8 ws 0);obtain⟨o,q,Js,Jl⟩:=Em (sp8 ws 8);have Q:=hid (cp_is ws 0 Jm);have U:=hid (cp_is ws 8 Jl);have Eq:=hid (λW (hr:RdW W W.heap.size (some ⟨b,off,none⟩) ws)=>rn (some ⟨b,off,none⟩) (sp8 ws 0) c W (zg (by omega)) (by
  have:=Eb hr 0
  simpa [Addr.add] using this))
 have Z:=hid (λW (hr:RdW W W.heap.size (some ⟨b,off,none⟩) ws)=>rn (some ⟨b,off+8,none⟩) (sp8 ws 8) (c-8) W (zg (by omega)) (by
  have:=Eb hr 8
  simpa [Addr.add] using this))
 rw[Jr] at Eq;rw[Js] at Z;have HV:Hid (tyN ws=(if r7 ws 0=true then some (wd ws 3) else if r7 ws 8=true then some (wd ws 11) else none)/\nI ws=if (tyN ws).isSome=true then 0 else 50):=hid ⟨rfl,by unfold nI;rw[if_pos hs]⟩;have k3:8<=c:=by omega
 have k4:16<=c:=by omega
 obtain⟨e0,Jo⟩:=xq (kU (sp8 ws 0));obtain⟨e1,Jp⟩:=xq (kU (sp8 ws 8));rw[Jo] at Eq Q;rw[Jp] at Z U;clear hs hb Jr Js Jm Jl Jo Jp Jv hm hc;go_enter func68,ntmps68;go_wp2_with fail;refine (Jd.out _).mono ?_;rintro e w1 ⟨rfl,rfl⟩;obtain⟨a,Ja⟩:=xq ((w.alloc (.cells #[.int .i64 0,.int .i64 0] 126)).alloc (.cells #[.bool false,.bool false] 127));rw[Ja] at X0 X1 L |-;clear Ja;go_wp2_with fail;refine (wU _).mono ?_;rintro e wS ⟨rfl,O⟩;have x6:=(Bx.new a 178 #[.int .i64 0,.int .i64 0,.int .i64 0,.int .i64 0]).alloc (.cells #[.bool false,.bool false] 127);have x7:=Bx.new (a.alloc (.cells #[.int .i64 0,.int .i64 0,.int .i64 0,.int .i64 0] 178)) 127 #[.bool false,.bool false];rw[kqm] at x7;have B:=hid (x6.up O x6.lt);have z:=hid (x7.up O x7.lt);have X0S:=hid (((X0.out.alloc (.cells #[.int .i64 0,.int .i64 0,.int .i64 0,.int .i64 0] 178)).alloc (.cells #[.bool false,.bool false] 127)).up O ((X0.out.alloc (.cells #[.int .i64 0,.int .i64 0,.int .i64 0,.int .i64 0] 178)).alloc (.cells #[.bool false,.bool false] 127)).lt);have X1S:=hid (((X1.out.alloc (.cells #[.int .i64 0,.int .i64 0,.int .i64 0,.int .i64 0] 178)).alloc (.cells #[.bool false,.bool false] 127)).up O ((X1.out.alloc (.cells #[.int .i64 0,.int .i64 0,.int .i64 0,.int .i64 0] 178)).alloc (.cells #[.bool false,.bool false] 127)).lt)
 have r:=L.out.size;have Jy:=X1.out.lt;have Jw:=hid (((L.out.alloc r (.cells #[.int .i64 0,.int .i64 0,.int .i64 0,.int .i64 0] 178)).alloc (by simp;omega) (.cells #[.bool false,.bool false] 127)).trans (O.mono (by simp;omega)));obtain⟨P,Jq⟩:=xq (r7 ws 0);obtain⟨C,Jk⟩:=xq (r7 ws 8);rw[Jq] at Q HV;rw[Jk] at U HV;clear Jq Jk x6 x7 O X0 X1 L;go_wp2_with fail;have ix0:∀w,(Instr.index 179 (.agg #[.int .i64 0,.int .i64 8]) (.int .i64 0)).run prog w=.ok (.int .i64 0) w:=λ_=>by kernel_rfl
 have ix1:∀w,(Instr.index 179 (.agg #[.int .i64 0,.int .i64 8]) (.int .i64 1)).run prog w=.ok (.int .i64 8) w:=λ_=>by kernel_rfl
 go_loopw [20] (λi wr=>∃k:Nat,k<=2/\i=.int .i64 k/\Hid (Bx wr w.heap.size 126 #[.int .i64 0,.int .i64 0])/\Hid (Bx wr (w.heap.size+1) 127 #[.bool false,.bool false])/\Hid (k=0->Bx wr a.heap.size 178 #[.int .i64 0,.int .i64 0,.int .i64 0,.int .i64 0]/\Bx wr (a.heap.size+1) 127 #[.bool false,.bool false])/\Hid (k=1->Bx wr a.heap.size 178 #[.int .i64 l,.int .i64 m,.int .i64 0,.int .i64 0]/\Bx wr (a.heap.size+1) 127 #[.bool P,.bool false])/\Hid (k=2->Bx wr a.heap.size 178 #[.int .i64 l,.int .i64 m,.int .i64 o,.int .i64 q]/\Bx wr (a.heap.size+1) 127 #[.bool P,.bool C])/\Hid (Below w.heap.size w wr)) (λi _=>2-(intOf i).toNat)
 case atStart=>exact⟨0,kqy _,rfl,X0S,X1S,hid λ_=>⟨B.out,z.out⟩,hid λh=>by omega,hid λh=>by omega,Jw⟩
 obtain⟨k,hk,rfl,N,M,T0,T1,T2,V⟩:=hrel;by_cases h0:k=0
 .subst h0;have B:=hid (T0.out rfl).1;have z:=hid (T0.out rfl).2;clear T0 T1 T2;have T:=V.out.size;have Y:=hid (Eq.out wr (HR.out.up V.out T));by_cases he:e0=0
  .have hq:(l==(ws.length:Int))=P:=by have:=Q.out.1;rw[if_pos he] at this;exact this.symm
   have HQ:=hid hq;subst he;go_wp2_with fail;refine Y.out.mono ?_;rintro e s ⟨rfl,d⟩;have H:=d.size;have u:=hid ((N.out.up d N.out.lt).alloc (.cells #[.int .i64 l,.int .i64 m] 126));have t:=hid ((M.out.up d M.out.lt).alloc (.cells #[.int .i64 l,.int .i64 m] 126));have g:=((B.out.up d B.out.lt).alloc (.cells #[.int .i64 l,.int .i64 m] 126));have f:=((z.out.up d z.out.lt).alloc (.cells #[.int .i64 l,.int .i64 m] 126));have j:=Bx.new s 126 #[.int .i64 l,.int .i64 m];have y:=hid ((V.out.trans (d.mono T)).alloc (kz1 T H) (.cells #[.int .i64 l,.int .i64 m] 126));have Jg:=B.out.lt;have Ji:=z.out.lt;clear d;go_wp2_with fail;obtain⟨D,x⟩:=xq (s.alloc (.cells #[.int .i64 l,.int .i64 m] 126));rw[x] at u t g f j y |-;clear x;obtain⟨q0,q1,-,-,Jf⟩:=j.c2;obtain⟨p0,p1,p2,p3,p4,p5,p6,p7,Je⟩:=g.c4;obtain⟨s0,s1,s2,s3,Jj⟩:=f.c2;have I:=hid g;have J:=hid f;have XS5:=hid (show Bx D.drew _ _ _ from j);have F:s.heap.size≠a.heap.size:=by omega
   have G:s.heap.size≠a.heap.size+1:=by omega
   clear g f j;have Jb:=F.symm;have R:=G.symm
   first | (go_region_held3 (λX:World=>X.cell? ⟨s.heap.size,0,none⟩=some (.int .i64 l)/\X.cell? ⟨s.heap.size,1,none⟩=some (.int .i64 m)) (go_keep) (fail)) | fail
   clear q0 q1 p0 p1 p2 p3 p4 p5 p6 p7 s0 s1 s2 s3;go_wp2_with fail;have Z0:=hid (((u.out.far (p:=⟨a.heap.size,0,none⟩) (by simp;omega) (.int .i64 l)).far (p:=⟨a.heap.size,1,none⟩) (by simp;omega) (.int .i64 m)).far (p:=⟨a.heap.size+1,0,none⟩) (by simp;omega) (.bool P));have Z1:=hid (((t.out.far (p:=⟨a.heap.size,0,none⟩) (by simp;omega) (.int .i64 l)).far (p:=⟨a.heap.size,1,none⟩) (by simp;omega) (.int .i64 m)).far (p:=⟨a.heap.size+1,0,none⟩) (by simp;omega) (.bool P));have Z6:=hid (((I.out.set_ 0 (.int .i64 l)).set_ 1 (.int .i64 m)).far (p:=⟨a.heap.size+1,0,none⟩) (by simp) (.bool P));have Z7:=hid (((J.out.far (p:=⟨a.heap.size,0,none⟩) (by simp) (.int .i64 l)).far (p:=⟨a.heap.size,1,none⟩) (by simp) (.int .i64 m)).set_ 0 (.bool P));have ZB:=hid (((y.out.setCell (p:=⟨a.heap.size,0,none⟩) r (.int .i64 l)).setCell (p:=⟨a.heap.size,1,none⟩) r (.int .i64 m)).setCell (p:=⟨a.heap.size+1,0,none⟩) (kkz r) (.bool P));go_roundw
   case rel=>exact⟨1,by omega,by go_num,Z0,Z1,hid λh=>absurd h (by decide),hid λh=>⟨Z6.out,Z7.out⟩,hid λh=>absurd h (by decide),hid ZB.out.drew⟩
   case measure=>simp[intOf]
  have hq:P=false:=by have:=Q.out.1;rw[if_neg he] at this;exact this
  subst hq;have Ju:(e0==0)=false:=by rw[kqj];exact he
  clear he;go_wp2_with fail;refine Y.out.mono ?_;rintro e s ⟨rfl,d⟩;have H:=d.size;have u:=hid ((N.out.up d N.out.lt).alloc (.cells #[.int .i64 l,.int .i64 m] 126));have t:=hid ((M.out.up d M.out.lt).alloc (.cells #[.int .i64 l,.int .i64 m] 126));have g:=((B.out.up d B.out.lt).alloc (.cells #[.int .i64 l,.int .i64 m] 126));have f:=((z.out.up d z.out.lt).alloc (.cells #[.int .i64 l,.int .i64 m] 126));have j:=Bx.new s 126 #[.int .i64 l,.int .i64 m];have y:=hid ((V.out.trans (d.mono T)).alloc (kz1 T H) (.cells #[.int .i64 l,.int .i64 m] 126));have Jg:=B.out.lt;have Ji:=z.out.lt;clear d;go_wp2_with fail;obtain⟨D,x⟩:=xq (s.alloc (.cells #[.int .i64 l,.int .i64 m] 126));rw[x] at u t g f j y |-;clear x;obtain⟨q0,q1,-,-,Jf⟩:=j.c2;obtain⟨p0,p1,p2,p3,p4,p5,p6,p7,Je⟩:=g.c4;obtain⟨s0,s1,s2,s3,Jj⟩:=f.c2;have I:=hid g;have J:=hid f;have XS5:=hid (show Bx D.drew _ _ _ from j);have F:s.heap.size≠a.heap.size:=by omega
  have G:s.heap.size≠a.heap.size+1:=by omega
  clear g f j;have Jb:=F.symm;have R:=G.symm;refine kxm (S:=λX:World=>X.cell? ⟨s.heap.size,0,none⟩=some (.int .i64 l)/\X.cell? ⟨s.heap.size,1,none⟩=some (.int .i64 m)) (by kernel_rfl) ⟨q0,q1⟩ (λE=>?_);show wpAnyH _ _ _ _ _ 16 #[false,false,false,false,false,false,false,false,false,false,false,false,false,false,false,false] _ _;refine tj 0 (.int .i64 0) ?_;dsimp only[Act.put,kqg,kqd,kqc,kqb,kqf,kqe];refine tj 1 (.int .i64 0) ?_;dsimp only[Act.put,kqg,kqd,kqc,kqb,kqf,kqe];refine tj 2 (.agg #[.int .i64 l,.int .i64 m]) ?_;dsimp only[Act.put,kqg,kqd,kqc,kqb,kqf,kqe];refine tj 3 (.int .i64 e0) ?_;dsimp only[Act.put,kqg,kqd,kqc,kqb,kqf,kqe];refine tj 4 (.bool false) ?_;dsimp only[Act.put,kqg,kqd,kqc,kqb,kqf,kqe];refine tj 5 (.bool false) ?_;dsimp only[Act.put,kqg,kqd,kqc,kqb,kqf,kqe];refine sk 6 ?_;dsimp only[Act.put,kqg,kqd,kqc,kqb,kqf,kqe];refine sk 7 ?_;dsimp only[Act.put,kqg,kqd,kqc,kqb,kqf,kqe];refine sk 8 ?_;dsimp only[Act.put,kqg,kqd,kqc,kqb,kqf,kqe];refine sk 9 ?_;dsimp only[Act.put,kqg,kqd,kqc,kqb,kqf,kqe];refine sk 10 ?_;dsimp only[Act.put,kqg,kqd,kqc,kqb,kqf,kqe];refine tj 11 (.bool false) ?_;dsimp only[Act.put,kqg,kqd,kqc,kqb,kqf,kqe];refine tj 12 (.pointer (some ⟨a.heap.size,0,none⟩)) ?_
  dsimp only[Act.put,kqg,kqd,kqc,kqb,kqf,kqe];refine kz3 (rs:=[13]) (by kernel_rfl) (by simp) ?_;refine AllReadyH.cons rfl (λK hK=>?_) AllReadyH.nil;go_simp;refine hK.out _ _ ⟨by go_keep,by go_keep⟩ ?_;clear hK K;intro Jt;refine tj 14 (.pointer (some ⟨a.heap.size+1,0,none⟩)) ?_
  dsimp only[Act.put,kqg,kqd,kqc,kqb,kqf,kqe];refine kz3 (rs:=[15]) (by kernel_rfl) (by simp) ?_;refine AllReadyH.cons rfl (λK hK=>?_) AllReadyH.nil;go_simp;refine hK.out _ _ ⟨by go_keep,by go_keep⟩ ?_;clear hK K;intro Jz;refine kjw (by kernel_rfl) ?_ _;clear E;clear q0 q1 p0 p1 p2 p3 p4 p5 p6 p7 s0 s1 s2 s3;go_wp2_with fail;have Z0:=hid (((u.out.far (p:=⟨a.heap.size,0,none⟩) (by simp;omega) (.int .i64 l)).far (p:=⟨a.heap.size,1,none⟩) (by simp;omega) (.int .i64 m)).far (p:=⟨a.heap.size+1,0,none⟩) (by simp;omega) (.bool false));have Z1:=hid (((t.out.far (p:=⟨a.heap.size,0,none⟩) (by simp;omega) (.int .i64 l)).far (p:=⟨a.heap.size,1,none⟩) (by simp;omega) (.int .i64 m)).far (p:=⟨a.heap.size+1,0,none⟩) (by simp;omega) (.bool false));have Z6:=hid (((I.out.set_ 0 (.int .i64 l)).set_ 1 (.int .i64 m)).far (p:=⟨a.heap.size+1,0,none⟩) (by simp) (.bool false));have Z7:=hid (((J.out.far (p:=⟨a.heap.size,0,none⟩) (by simp) (.int .i64 l)).far (p:=⟨a.heap.size,1,none⟩) (by simp) (.int .i64 m)).set_ 0 (.bool false));have ZB:=hid (((y.out.setCell (p:=⟨a.heap.size,0,none⟩) r (.int .i64 l)).setCell (p:=⟨a.heap.size,1,none⟩) r (.int .i64 m)).setCell (p:=⟨a.heap.size+1,0,none⟩) (kkz r) (.bool false));go_roundw
  case rel=>exact⟨1,by omega,by go_num,Z0,Z1,hid λh=>absurd h (by decide),hid λh=>⟨Z6.out,Z7.out⟩,hid λh=>absurd h (by decide),hid ZB.out.drew⟩
  case measure=>simp[intOf]
 by_cases h1:k=1
 .subst h1;have B:=hid (T1.out rfl).1;have z:=hid (T1.out rfl).2;clear T0 T1 T2;have T:=V.out.size;have Y:=hid (Z.out wr (HR.out.up V.out T));by_cases he:e1=0
  .have hq:(o==(ws.length:Int))=C:=by have:=U.out.1;rw[if_pos he] at this;exact this.symm
   have HQ:=hid hq;subst he;go_wp2_with fail;refine Y.out.mono ?_;rintro e s ⟨rfl,d⟩;have H:=d.size;have u:=hid ((N.out.up d N.out.lt).alloc (.cells #[.int .i64 o,.int .i64 q] 126));have t:=hid ((M.out.up d M.out.lt).alloc (.cells #[.int .i64 o,.int .i64 q] 126));have g:=((B.out.up d B.out.lt).alloc (.cells #[.int .i64 o,.int .i64 q] 126));have f:=((z.out.up d z.out.lt).alloc (.cells #[.int .i64 o,.int .i64 q] 126));have j:=Bx.new s 126 #[.int .i64 o,.int .i64 q];have y:=hid ((V.out.trans (d.mono T)).alloc (kz1 T H) (.cells #[.int .i64 o,.int .i64 q] 126));have Jg:=B.out.lt;have Ji:=z.out.lt;clear d;go_wp2_with fail;obtain⟨D,x⟩:=xq (s.alloc (.cells #[.int .i64 o,.int .i64 q] 126));rw[x] at u t g f j y |-;clear x;obtain⟨q0,q1,-,-,Jf⟩:=j.c2;obtain⟨p0,p1,p2,p3,p4,p5,p6,p7,Je⟩:=g.c4;obtain⟨s0,s1,s2,s3,Jj⟩:=f.c2;have I:=hid g;have J:=hid f;have XS5:=hid (show Bx D.drew _ _ _ from j);have F:s.heap.size≠a.heap.size:=by omega
   have G:s.heap.size≠a.heap.size+1:=by omega
   clear g f j;have Jb:=F.symm;have R:=G.symm
   first | (go_region_held3 (λX:World=>X.cell? ⟨s.heap.size,0,none⟩=some (.int .i64 o)/\X.cell? ⟨s.heap.size,1,none⟩=some (.int .i64 q)) (go_keep) (fail)) | fail
   clear q0 q1 p0 p1 p2 p3 p4 p5 p6 p7 s0 s1 s2 s3;go_wp2_with fail;have Z0:=hid (((u.out.far (p:=⟨a.heap.size,2,none⟩) (by simp;omega) (.int .i64 o)).far (p:=⟨a.heap.size,3,none⟩) (by simp;omega) (.int .i64 q)).far (p:=⟨a.heap.size+1,1,none⟩) (by simp;omega) (.bool C));have Z1:=hid (((t.out.far (p:=⟨a.heap.size,2,none⟩) (by simp;omega) (.int .i64 o)).far (p:=⟨a.heap.size,3,none⟩) (by simp;omega) (.int .i64 q)).far (p:=⟨a.heap.size+1,1,none⟩) (by simp;omega) (.bool C));have Z6:=hid (((I.out.set_ 2 (.int .i64 o)).set_ 3 (.int .i64 q)).far (p:=⟨a.heap.size+1,1,none⟩) (by simp) (.bool C));have Z7:=hid (((J.out.far (p:=⟨a.heap.size,2,none⟩) (by simp) (.int .i64 o)).far (p:=⟨a.heap.size,3,none⟩) (by simp) (.int .i64 q)).set_ 1 (.bool C));have ZB:=hid (((y.out.setCell (p:=⟨a.heap.size,2,none⟩) r (.int .i64 o)).setCell (p:=⟨a.heap.size,3,none⟩) r (.int .i64 q)).setCell (p:=⟨a.heap.size+1,1,none⟩) (kkz r) (.bool C));go_roundw
   case rel=>exact⟨2,by omega,by go_num,Z0,Z1,hid λh=>absurd h (by decide),hid λh=>absurd h (by decide),hid λh=>⟨Z6.out,Z7.out⟩,hid ZB.out.drew⟩
   case measure=>simp[intOf]
  have hq:C=false:=by have:=U.out.1;rw[if_neg he] at this;exact this
  subst hq;have Ju:(e1==0)=false:=by rw[kqj];exact he
  clear he;go_wp2_with fail;refine Y.out.mono ?_;rintro e s ⟨rfl,d⟩;have H:=d.size;have u:=hid ((N.out.up d N.out.lt).alloc (.cells #[.int .i64 o,.int .i64 q] 126));have t:=hid ((M.out.up d M.out.lt).alloc (.cells #[.int .i64 o,.int .i64 q] 126));have g:=((B.out.up d B.out.lt).alloc (.cells #[.int .i64 o,.int .i64 q] 126));have f:=((z.out.up d z.out.lt).alloc (.cells #[.int .i64 o,.int .i64 q] 126));have j:=Bx.new s 126 #[.int .i64 o,.int .i64 q];have y:=hid ((V.out.trans (d.mono T)).alloc (kz1 T H) (.cells #[.int .i64 o,.int .i64 q] 126));have Jg:=B.out.lt;have Ji:=z.out.lt;clear d;go_wp2_with fail;obtain⟨D,x⟩:=xq (s.alloc (.cells #[.int .i64 o,.int .i64 q] 126));rw[x] at u t g f j y |-;clear x;obtain⟨q0,q1,-,-,Jf⟩:=j.c2;obtain⟨p0,p1,p2,p3,p4,p5,p6,p7,Je⟩:=g.c4;obtain⟨s0,s1,s2,s3,Jj⟩:=f.c2;have I:=hid g;have J:=hid f;have XS5:=hid (show Bx D.drew _ _ _ from j);have F:s.heap.size≠a.heap.size:=by omega
  have G:s.heap.size≠a.heap.size+1:=by omega
  clear g f j;have Jb:=F.symm;have R:=G.symm;refine kxm (S:=λX:World=>X.cell? ⟨s.heap.size,0,none⟩=some (.int .i64 o)/\X.cell? ⟨s.heap.size,1,none⟩=some (.int .i64 q)) (by kernel_rfl) ⟨q0,q1⟩ (λE=>?_);show wpAnyH _ _ _ _ _ 16 #[false,false,false,false,false,false,false,false,false,false,false,false,false,false,false,false] _ _;refine tj 0 (.int .i64 1) ?_;dsimp only[Act.put,kqg,kqd,kqc,kqb,kqf,kqe];refine tj 1 (.int .i64 1) ?_;dsimp only[Act.put,kqg,kqd,kqc,kqb,kqf,kqe];refine tj 2 (.agg #[.int .i64 o,.int .i64 q]) ?_;dsimp only[Act.put,kqg,kqd,kqc,kqb,kqf,kqe];refine tj 3 (.int .i64 e1) ?_;dsimp only[Act.put,kqg,kqd,kqc,kqb,kqf,kqe];refine tj 4 (.bool false) ?_;dsimp only[Act.put,kqg,kqd,kqc,kqb,kqf,kqe];refine tj 5 (.bool false) ?_;dsimp only[Act.put,kqg,kqd,kqc,kqb,kqf,kqe];refine sk 6 ?_;dsimp only[Act.put,kqg,kqd,kqc,kqb,kqf,kqe];refine sk 7 ?_;dsimp only[Act.put,kqg,kqd,kqc,kqb,kqf,kqe];refine sk 8 ?_;dsimp only[Act.put,kqg,kqd,kqc,kqb,kqf,kqe];refine sk 9 ?_;dsimp only[Act.put,kqg,kqd,kqc,kqb,kqf,kqe];refine sk 10 ?_;dsimp only[Act.put,kqg,kqd,kqc,kqb,kqf,kqe];refine tj 11 (.bool false) ?_;dsimp only[Act.put,kqg,kqd,kqc,kqb,kqf,kqe];refine tj 12 (.pointer (some ⟨a.heap.size,2,none⟩)) ?_
  dsimp only[Act.put,kqg,kqd,kqc,kqb,kqf,kqe];refine kz3 (rs:=[13]) (by kernel_rfl) (by simp) ?_;refine AllReadyH.cons rfl (λK hK=>?_) AllReadyH.nil;go_simp;refine hK.out _ _ ⟨by go_keep,by go_keep⟩ ?_;clear hK K;intro Jt;refine tj 14 (.pointer (some ⟨a.heap.size+1,1,none⟩)) ?_
  dsimp only[Act.put,kqg,kqd,kqc,kqb,kqf,kqe];refine kz3 (rs:=[15]) (by kernel_rfl) (by simp) ?_;refine AllReadyH.cons rfl (λK hK=>?_) AllReadyH.nil;go_simp;refine hK.out _ _ ⟨by go_keep,by go_keep⟩ ?_;clear hK K;intro Jz;refine kjw (by kernel_rfl) ?_ _;clear E;clear q0 q1 p0 p1 p2 p3 p4 p5 p6 p7 s0 s1 s2 s3;go_wp2_with fail;have Z0:=hid (((u.out.far (p:=⟨a.heap.size,2,none⟩) (by simp;omega) (.int .i64 o)).far (p:=⟨a.heap.size,3,none⟩) (by simp;omega) (.int .i64 q)).far (p:=⟨a.heap.size+1,1,none⟩) (by simp;omega) (.bool false));have Z1:=hid (((t.out.far (p:=⟨a.heap.size,2,none⟩) (by simp;omega) (.int .i64 o)).far (p:=⟨a.heap.size,3,none⟩) (by simp;omega) (.int .i64 q)).far (p:=⟨a.heap.size+1,1,none⟩) (by simp;omega) (.bool false));have Z6:=hid (((I.out.set_ 2 (.int .i64 o)).set_ 3 (.int .i64 q)).far (p:=⟨a.heap.size+1,1,none⟩) (by simp) (.bool false));have Z7:=hid (((J.out.far (p:=⟨a.heap.size,2,none⟩) (by simp) (.int .i64 o)).far (p:=⟨a.heap.size,3,none⟩) (by simp) (.int .i64 q)).set_ 1 (.bool false));have ZB:=hid (((y.out.setCell (p:=⟨a.heap.size,2,none⟩) r (.int .i64 o)).setCell (p:=⟨a.heap.size,3,none⟩) r (.int .i64 q)).setCell (p:=⟨a.heap.size+1,1,none⟩) (kkz r) (.bool false));go_roundw
  case rel=>exact⟨2,by omega,by go_num,Z0,Z1,hid λh=>absurd h (by decide),hid λh=>absurd h (by decide),hid λh=>⟨Z6.out,Z7.out⟩,hid ZB.out.drew⟩
  case measure=>simp[intOf]
 have h2:k=2:=by omega
 subst h2;have B:=hid (T2.out rfl).1;have z:=hid (T2.out rfl).2;obtain⟨p0,p1,p2,p3,-,-,-,-,-⟩:=B.out.c4;obtain⟨s0,s1,-⟩:=z.out.c2;have hgy0:=N.out.lt;have hgy1:=M.out.lt;obtain⟨v0,v1,f0,f1,-⟩:=N.out.c2;obtain⟨v2,v3,f2,f3,-⟩:=M.out.c2;clear T0 T1 T2;have n1:w.heap.size≠a.heap.size:=by omega
 have n2:w.heap.size≠a.heap.size+1:=by omega
 have n3:w.heap.size+1≠a.heap.size:=by omega
 cases P
 .cases C
  .have HN:Hid (tyN ws=none/\nI ws=50):=hid (by have:=HV.out;simp at this;exact⟨this.1,by rw[this.2,this.1];rfl⟩);go_wp2_with fail;exact kqr (v:=.tuple #[.agg #[.int .i64 0,.int .i64 0],.agg #[.bool false,.bool false],.int .i64 50]) (gx results68 _ (show Bx _ _ _ _ from (((N.out.set_ 0 (.int .i64 0)).set_ 1 (.int .i64 0)).far (p:=⟨w.heap.size+1,0,none⟩) (by simp) (.bool false)).far (p:=⟨w.heap.size+1,1,none⟩) (by simp) (.bool false)) (show Bx _ _ _ _ from (((M.out.far (p:=⟨w.heap.size,0,none⟩) (by simp) (.int .i64 0)).far (p:=⟨w.heap.size,1,none⟩) (by simp) (.int .i64 0)).set_ 0 (.bool false)).set_ 1 (.bool false)) rfl rfl rfl) rfl ⟨⟨0,false,false,by rw[HN.out.1,HN.out.2];rfl⟩,(((V.out.setCell (p:=⟨w.heap.size,0,none⟩) (kqa _) (.int .i64 0)).setCell (p:=⟨w.heap.size,1,none⟩) (kqa _) (.int .i64 0)).setCell (p:=⟨w.heap.size+1,0,none⟩) (kxi _) (.bool false)).setCell (p:=⟨w.heap.size+1,1,none⟩) (kxi _) (.bool false)⟩
  have Jc:q=((wd ws 11:Nat):Int):=U.out.2 rfl;have HN:Hid (tyN ws=some (wd ws 11)/\nI ws=0):=hid (by have:=HV.out;simp at this;exact⟨this.1,by rw[this.2,this.1];rfl⟩);have Jh:=hid Jc;clear Jc;go_wp2_with fail
  go_region_held3 (λX:World=>X.cell? ⟨a.heap.size,2,none⟩=some (.int .i64 o)/\X.cell? ⟨a.heap.size,3,none⟩=some (.int .i64 q)/\X.cell? ⟨a.heap.size+1,0,none⟩=some (.bool false)/\X.cell? ⟨a.heap.size+1,1,none⟩=some (.bool true)) (go_keep) (fail)
  go_wp2_with fail;exact kqr (v:=.tuple #[.agg #[.int .i64 o,.int .i64 q],.agg #[.bool false,.bool true],.int .i64 0]) (gx results68 _ (show Bx _ _ _ _ from (((N.out.set_ 0 (.int .i64 o)).set_ 1 (.int .i64 q)).far (p:=⟨w.heap.size+1,0,none⟩) (by simp) (.bool false)).far (p:=⟨w.heap.size+1,1,none⟩) (by simp) (.bool true)) (show Bx _ _ _ _ from (((M.out.far (p:=⟨w.heap.size,0,none⟩) (by simp) (.int .i64 o)).far (p:=⟨w.heap.size,1,none⟩) (by simp) (.int .i64 q)).set_ 0 (.bool false)).set_ 1 (.bool true)) rfl rfl rfl) rfl ⟨⟨o,false,true,by rw[HN.out.1,HN.out.2,Jh.out];rfl⟩,((((V.out.setCell (p:=⟨w.heap.size,0,none⟩) (kqa _) (.int .i64 o)).setCell (p:=⟨w.heap.size,1,none⟩) (kqa _) (.int .i64 q)).setCell (p:=⟨w.heap.size+1,0,none⟩) (kxi _) (.bool false)).setCell (p:=⟨w.heap.size+1,1,none⟩) (kxi _) (.bool true)).drew⟩
 have Jc:m=((wd ws 3:Nat):Int):=Q.out.2 rfl;have HN:Hid (tyN ws=some (wd ws 3)/\nI ws=0):=hid (by have:=HV.out;simp at this;exact⟨this.1,by rw[this.2,this.1];rfl⟩);have Jh:=hid Jc;clear Jc;go_wp2_with fail
 go_region_held3 (λX:World=>X.cell? ⟨a.heap.size,0,none⟩=some (.int .i64 l)/\X.cell? ⟨a.heap.size,1,none⟩=some (.int .i64 m)/\X.cell? ⟨a.heap.size+1,0,none⟩=some (.bool true)/\X.cell? ⟨a.heap.size+1,1,none⟩=some (.bool C)) (go_keep) (fail)
 go_wp2_with fail;exact kqr (v:=.tuple #[.agg #[.int .i64 l,.int .i64 m],.agg #[.bool true,.bool C],.int .i64 0]) (gx results68 _ (show Bx _ _ _ _ from (((N.out.set_ 0 (.int .i64 l)).set_ 1 (.int .i64 m)).far (p:=⟨w.heap.size+1,0,none⟩) (by simp) (.bool true)).far (p:=⟨w.heap.size+1,1,none⟩) (by simp) (.bool C)) (show Bx _ _ _ _ from (((M.out.far (p:=⟨w.heap.size,0,none⟩) (by simp) (.int .i64 l)).far (p:=⟨w.heap.size,1,none⟩) (by simp) (.int .i64 m)).set_ 0 (.bool true)).set_ 1 (.bool C)) rfl rfl rfl) rfl ⟨⟨l,true,C,by rw[HN.out.1,HN.out.2,Jh.out];rfl⟩,((((V.out.setCell (p:=⟨w.heap.size,0,none⟩) (kqa _) (.int .i64 l)).setCell (p:=⟨w.heap.size,1,none⟩) (kqa _) (.int .i64 m)).setCell (p:=⟨w.heap.size+1,0,none⟩) (kxi _) (.bool true)).setCell (p:=⟨w.heap.size+1,1,none⟩) (kxi _) (.bool C)).drew⟩
end Go.Proofs.YtpcajamacpbjcaaGreat
