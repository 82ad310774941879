/- Texts laid together: LyK MapB LyC LyD LySup LySur LyTw. -/
import Derived.Test.YtpcajamacpbjcaaGreatZKR19
import Derived.Test.YtpcajamacpbjcaaGreatZKWnt
import Derived.Test.YtpcajamacpbjcaaGreatZKPlain
import Derived.Test.YtpcajamacpbjcaaGreatZKEff
import Derived.Maps.Own
import Derived.Maps.Views
import Derived.Maps.OwnOps
import Derived.Maps.Keyed
import Derived.Test.YtpcajamacpbjcaaGreatZKSup
import Derived.Test.YtpcajamacpbjcaaGreatZKRch
import Derived.Test.YtpcajamacpbjcaaGreatZGH
set_option maxHeartbeats 16000000
set_option maxRecDepth 100000
set_option linter.all false
namespace Go.Proofs.YtpcajamacpbjcaaGreat
open Lib (hid)
open Go.RowKit
variable {O:List Bk}{F l ws:List Nat}{H a b g n r:Nat}{P:Program}{e k t:TypeId}{x0 x1 x2 x3 x4:Value}{w w':World}
open Go.Proofs.Tryz
def J1 (ws:List Nat) (t H:Nat) (e:Ending) (w':World):Prop:=∃(B:Option Addr) (m d:Nat) (L:List Ty),e=.returned (.tuple #[.slice B m d,.int .i64 (if ix ws t=true then 0 else 50)])/\(ix ws t=true->m=L.length/\vj w' H (.slice B m d) L/\L.map Ty.l=gc ws t 8)
theorem qH{t:Nat}{B:Option Addr}{m d:Nat}(h:ix ws t=false):J1 ws t H (.returned (.tuple #[.slice B m d,.int .i64 50])) w':=⟨B,m,d,[],by rw[h];rfl,λa=>by rw[h] at a;cases a⟩
theorem Gj(A:Option Addr)(ws:List Nat)(c n t:Nat)(w:World)(hn:ws.length=n)(hs:ak (n:Int)=true)(ht:t<=8)(hr:RdW w w.heap.size A ws)(ho:∀x∈ws,x<18446744073709551616):
 Calls prog 69 #[.slice A n c,.int .i64 (t:Int)] w λe w'=>J1 ws t w.heap.size e w'/\Below w.heap.size w w':=by
 subst hn;have hb:=(ab _).1 hs;have HR:=hid hr;have U:=hid (λW=>aB A ws.length c W (by omega));rw[aV hs] at U;have R:Hid (∀k,wd ws k<18446744073709551616):=hid (fT ho);have d0:decide ((t:Int)<0)=false:=by rw[kqh];omega
 have d8:decide ((8:Int)<(t:Int))=false:=by rw[kqh];omega
 have d8n:decide (8<t)=false:=by rw[kqh];omega
 clear hr ho hs;obtain⟨i2,hi,O,Eq,S⟩:=kzr Ao;have HJ:=hid hi;have Lc:=hid O;have Ld:=hid Eq;have La:=hid S;clear hi O Eq S;go_enter func69,ntmps69;go_wp2_with fail;refine (U.out _).mono ?_;rintro e w1 ⟨rfl,rfl⟩;go_wp2_with fail;go_loopw [7,24] (λv i wr=>∃(k:Nat) (L:List Ty),k<=8/\i=.int .i64 k/\Hid (yj ws t k)/\Hid (L.map Ty.l=gc ws t k)/\L.length<=k/\Hid (vj wr w.heap.size v L)/\Below w.heap.size w wr) (λ_ i _=>8-(intOf i).toNat)
 case atStart=>exact⟨0,[],kqz _,rfl,hid (λi h=>absurd h (by omega)),hid (by simp[gc]),kqa _,hid ⟨kq6 _ _ _ _,λx hx=>absurd hx (by simp)⟩,kqk _ _⟩
 obtain⟨k,L,hk,rfl,T,J,hLk,o,P⟩:=hrel;have hz:=P.size;by_cases Kz:k<8
 .obtain ⟨b,d,rfl,hbb,h0⟩:=RdW.at_ (Rd.below HR.out P) (show 96+2*k<ws.length by omega);obtain⟨b',off',e',-,h1⟩:=RdW.at_ (Rd.below HR.out P) (show 96+2*k+1<ws.length by omega);cases e';rw[<-cF] at h0 h1;have a:=hid (λW=>vN (wd ws (96+2*k)) (wd ws (96+2*k+1)) W (R.out _) (R.out _));have s:=hid (λh=>pv T.out h);have m:=hid (λh=>te (ws:=ws) (t:=t) Kz h);have f:Hid (Aa ws t k=if k<t then cD (wd ws (96+2*k)) (wd ws (96+2*k+1)) else wd ws (96+2*k)==0&&wd ws (96+2*k+1)==0):=hid rfl;have j:=hid (λh=>DC (ws:=ws) (t:=t) (k:=k) h);have I:=hid (λh=>Aj (ws:=ws) (t:=t) (k:=k) h);have i1:IntKind.i64.wrap ((2:Int)*(k:Int))=2*(k:Int):=kqt _ (by omega);have i2':IntKind.i64.wrap ((96:Int)+2*(k:Int))=((96+2*k:Nat):Int):=by rw[kqt _ (by omega)];omega
  have i3:IntKind.i64.wrap (((96+2*k:Nat):Int)+1)=((96+2*k+1:Nat):Int):=by rw[kqt _ (by omega)];omega
  have j1:((96+2*k:Nat):Int)<(ws.length:Int):=by omega
  have j2:(0:Int)<=((96+2*k:Nat):Int):=by omega
  have j3:((96+2*k+1:Nat):Int)<(ws.length:Int):=by omega
  have j4:(0:Int)<=((96+2*k+1:Nat):Int):=by omega
  have hk1:(k:Int)<8:=by omega
  obtain⟨p,hp⟩:=xq (96+2*k);rw[hp] at h0 h1 a f j i2' i3 j1 j2 j3 j4;obtain⟨q,hq⟩:=xq (p+1);rw[hq] at h1 a f j i3 j3 j4;obtain⟨x,hx⟩:=xq (wd ws p);obtain⟨y,hy⟩:=xq (wd ws q);rw[hx] at h0 a f j;rw[hy] at h1 a f j;have Y:=hid P;clear hx hy hp hq;by_cases u:k<t
  .have d2:decide ((t:Int)<=(k:Int))=false:=by rw[kqh];omega
   have d2n:decide (t<=k)=false:=by rw[kqh];omega
   cases z:cD x y
   .have G:=hid (m.out (by rw[f.out,if_pos u,z]));have D:eX x y=50:=by unfold eX;rw[z];rfl
    have V:bq x y=[]:=by unfold bq;rw[z];rfl
    unfold mO at a;rw[D,V] at a;clear z D V f m s j I u;go_wp2_with fail
    go_region_held3 (λX:World=>X.cell? ⟨b,d+p,none⟩=some (.int .u64 (x:Int))/\X.cell? ⟨b,d+q,none⟩=some (.int .u64 (y:Int))) (go_keep) (fail)
    go_wp2_with fail;refine (a.out _).mono ?_;rintro e w3 ⟨⟨A3,c3,rfl,-⟩,r⟩;have F:=Y.out.drew.trans (r.mono hz);clear r;go_wp2;go_ret2;exact⟨qH G.out,F⟩
   have G:=hid (s.out (by rw[f.out,if_pos u,z]));have H:=hid (j.out u);have D:eX x y=0:=by unfold eX;rw[z];rfl
   unfold mO at a;rw[D] at a;obtain⟨l,hl⟩:=xq (bq x y);rw[hl] at a H;clear z D hl f m s j I u;go_wp2_with fail
   go_region_held3 (λX:World=>X.cell? ⟨b,d+p,none⟩=some (.int .u64 (x:Int))/\X.cell? ⟨b,d+q,none⟩=some (.int .u64 (y:Int))) (go_keep) (fail)
   go_wp2_with fail;refine (a.out _).mono ?_;rintro e w3 ⟨⟨A3,c3,rfl,B⟩,r⟩;have F:=Y.out.drew.trans (r.mono hz);have Q:=F.size;have E:=aa (show wr.drew.ownsRow _ _ _ _ _ _ from o.out.1) r (kqa _);have Kw:Hid (∀y∈L,w3.ownsRow w.heap.size 5 1 (.slice y.A y.l.length y.c) y.l.length (y.l.flatMap bv)):=hid λy hy=>aa (show wr.drew.ownsRow _ _ _ _ _ _ from o.out.2 y hy) r (kqa _);have Ky:=hid (am B (show w.heap.size<=wr.drew.heap.size from hz));have Z:=hid E;have Lf:=hid F;clear r B F o;go_wp2_with (at_builtin;refine kzh _ rfl _ _ 69 rfl w.heap.size 113 i2 _ 1 24 underlying69 HJ.out Lc.out Ld.out La.out rfl (by decide) _ _ _ rfl (E.alloc _) ⟨_,0,none⟩ 1 1 [.slice A3 l.length c3] rfl rfl (cI _ _ _) (by simp[Value.oneCell']) (by unfold maxLen;omega) (by omega) (aS Q) ?_;intro v1 w6 C M _;have Le:=hid (aF Lf.out Q E M);have Lb:=hid (sX (x:=⟨A3,c3,l⟩) Kw.out Ky.out (Z.out.alloc _) (λh=>h.alloc _) M C);clear C M);go_roundw
   case rel=>exact⟨k+1,L++[⟨A3,c3,l⟩],by omega,by go_num,G,hid (by rw[kxu,J.out,H.out];rfl),by simp;omega,Lb,Le.out⟩
   case measure=>simp[intOf];omega
  have d2:decide ((t:Int)<=(k:Int))=true:=by rw[kqo];omega
  have d2n:decide (t<=k)=true:=by rw[kqo];omega
  have H:=hid (I.out (by omega));have g:Hid (Aa ws t k=(x==0&&y==0)):=hid (by rw[f.out,if_neg u]);clear a f j I u;by_cases N:x=0
  .subst N;by_cases K:y=0
   .subst K;have G:=hid (s.out (by rw[g.out];rfl));clear m s g;go_wp2_with fail
    go_region_held3 (λX:World=>X.cell? ⟨b,d+p,none⟩=some (.int .u64 ((0:Nat):Int))/\X.cell? ⟨b,d+q,none⟩=some (.int .u64 ((0:Nat):Int))) (go_keep) (fail)
    go_wp2_with fail;have Kx:Hid (vj wr.drew w.heap.size u7 L):=hid ⟨o.out.1,o.out.2⟩;go_roundw
    case rel=>exact⟨k+1,L,by omega,by go_num,G,hid (by rw[J.out,H.out]),by omega,Kx,Y.out.drew⟩
    case measure=>simp[intOf];omega
   have G:=hid (m.out (by rw[g.out,show (y==0)=false by rw[kqi];exact K];rfl));have d3:((y:Int) != 0)=true:=by rw[kqv];omega
   have d3n:(y != 0)=true:=by rw[kqv];omega
   clear m s g K;go_wp2_with fail
   go_region_held3 (λX:World=>X.cell? ⟨b,d+p,none⟩=some (.int .u64 ((0:Nat):Int))/\X.cell? ⟨b,d+q,none⟩=some (.int .u64 (y:Int))) (go_keep) (fail)
   go_wp2;go_ret2;exact⟨qH G.out,Y.out.drew⟩
  have G:=hid (m.out (by rw[g.out,show (x==0)=false by rw[kqi];exact N];rfl));have d3:((x:Int) != 0)=true:=by rw[kqv];omega
  have d3n:(x != 0)=true:=by rw[kqv];omega
  clear m s g N;go_wp2_with fail
  go_region_held3 (λX:World=>X.cell? ⟨b,d+p,none⟩=some (.int .u64 (x:Int))/\X.cell? ⟨b,d+q,none⟩=some (.int .u64 (y:Int))) (go_keep) (fail)
  go_wp2;go_ret2;exact⟨qH G.out,Y.out.drew⟩
 obtain rfl:k=8:=by omega
 have HT:Hid (ix ws t=true):=hid ((gQ ws t).2 T.out);obtain⟨BO,dO,rfl⟩:=aE o.out.1;go_wp2;go_ret2;exact⟨⟨BO,L.length,dO,L,by rw[HT.out];rfl,λ_=>⟨rfl,o.out,J.out⟩⟩,P⟩
def jl (ws:List Nat):Int:=if ak (ws.length:Int)=true then (if yd ws=true then 0 else 50) else 8
def iw (ws:List Nat):List Bk:=if jl ws=0 then (blocks ws 128).getD [] else []
def vY (H:Nat) (ws:List Nat) (e:Ending) (w':World):Prop:=∃A c,e=.returned (.tuple #[.slice A (iw ws).length c,.int .i64 (jl ws)])/\w'.ownsRow H 55 6 (.slice A (iw ws).length c) (iw ws).length ((iw ws).flatMap Bk.cells)
theorem r6{r:Int}(h:jl ws=r)(h0:r≠0):vY H ws (.returned (.tuple #[.slice none 0 0,.int .i64 r])) w':=by
 have e:iw ws=[]:=by unfold iw;rw[if_neg (by rw[h];exact h0)]
 exact⟨none,0,by rw[e,h];rfl,by rw[e];exact kq6 _ _ _ _⟩
theorem Dj(A:Option Addr)(ws:List Nat)(c n:Nat)(w:World)(hn:ws.length=n)(C:n<=9223372036854775807)(hr:RdW w w.heap.size A ws)(ho:∀x∈ws,x<18446744073709551616):
 Calls prog 26 #[.slice A n c] w λe w'=>vY w.heap.size ws e w'/\Below w.heap.size w w':=by
 subst hn;have B:=hid (Da A ws c ws.length 128 w rfl C hr ho);unfold vJ at B;clear hr ho;by_cases f:cj ws 128=0
 .have g:ak (ws.length:Int)=true:=by
   cases g:ak (ws.length:Int) with
   | true=>rfl
   | false=>rw[fP g] at f;cases f
  have O:=(ab _).1 g;have a:fm ws.length 128=false:=by
   cases hq:fm ws.length 128 with
   | false=>rfl
   | true=>rw[jP g hq] at f;cases f
  have Q:∃l,blocks ws 128=some l:=by
   cases j:blocks ws 128 with
   | none=>rw[eY g a (by simpa using j)] at f;cases f
   | some l=>exact⟨l,rfl⟩
  obtain⟨l,j⟩:=Q;have J:=(bK (by omega) _ _ j (by omega) (by omega) (by omega)).1;have o:aT ws 128=l:=by unfold aT;rw[if_pos f];simp[j]
  rw[f,o] at B;have G:Hid (jl ws=if ky l=true then 0 else 50):=hid (by unfold jl;rw[if_pos g,gK j]);have W:Hid (ky l=true->iw ws=l/\jl ws=0):=hid λh=>by
   have e:jl ws=0:=by rw[G.out,h];rfl
   exact⟨by unfold iw;rw[if_pos e,j];rfl,e⟩
  have hl24:l.length<=1024:=by omega
  have R:=hid (λk X h=>sr (l:=l) (k:=k) X h);have V:=hid (lL l);clear f g O a j o J C;go_enter func26,ntmps26;go_wp2_with fail;refine B.out.mono ?_;rintro e w1 ⟨⟨A1,c1,rfl,p⟩,s⟩;have H:=hid (show RdB _ _ _ _ from Rd.of_own p);have I:=hid p;have E:=hid s;clear p s;go_wp2_with fail;go_loopw [17] (λi wr=>∃k:Nat,k<=l.length/\i=.int .i64 k/\wr=w1/\Hid (pj l k)) (λi _=>l.length-(intOf i).toNat)
  case atStart=>exact⟨0,kqz _,rfl,rfl,hid (pK l)⟩
  obtain⟨k,X,rfl,rfl,P⟩:=hrel;by_cases q:k<l.length
  .have u:=hid (λh=>mi P.out h);have N:=hid (R.out k q);by_cases F:k=0
   .subst F;have t:Hid (pj l (0+1)):=hid (u.out rfl);go_wp2;go_roundw
    case rel=>exact⟨0+1,by omega,by go_num,trivial,t⟩
    case measure=>simp[intOf];omega
   obtain⟨b,off,rfl,O,-,-,p2,-⟩:=RdB.at_ H.out q;obtain⟨b',off',e',-,-,-,r2,-⟩:=RdB.at_ H.out (show k-1<l.length by omega);cases e';have d:nJ l k=((l[k-1].kind==2)&&(l[k].kind==2)):=by unfold nJ;rw[bU l k q,bU l (k-1) (by omega),show (k==0)=false by rw[kqi];omega];rfl
   obtain⟨x,Z⟩:=xq (l[k].kind);obtain⟨y,hy⟩:=xq (l[k-1].kind);rw[Z] at p2 d;rw[hy] at r2 d;have i1:IntKind.i64.wrap ((k:Int)-1)=((k-1:Nat):Int):=by rw[kqt _ (by omega)];omega
   have hki:(k:Int)<(l.length:Int):=by omega
   have hk0':(0:Int)<=(k:Int):=by omega
   have M:((k-1:Nat):Int)<(l.length:Int):=by omega
   have K:(0:Int)<=((k-1:Nat):Int):=by omega
   have d0:decide ((0:Int)<(k:Int))=true:=by rw[kqo];omega
   have d0n:decide (0<k)=true:=by rw[kqo];omega
   obtain⟨m,C⟩:=xq (k-1);rw[C] at i1 M K r2;have U:=hid d;clear Z hy P C d F;by_cases v:x=2
   .subst v;by_cases z:y=2
    .subst z;have t:=hid (N.out (by rw[U.out];rfl));have HW:Hid (jl ws=50):=hid (by rw[G.out,t.out];rfl);go_wp2;go_ret2;exact⟨r6 HW.out (by decide),E.out⟩
    have Y:(y==2)=false:=by rw[kqi];exact z
    have t:Hid (pj l (k+1)):=hid (u.out (by rw[U.out,Y];rfl));clear z;go_wp2;go_roundw
    case rel=>exact⟨k+1,by omega,by go_num,trivial,t⟩
    case measure=>simp[intOf];omega
   have Y:(x==2)=false:=by rw[kqi];exact v
   have t:Hid (pj l (k+1)):=hid (u.out (by rw[U.out,Y,kj9]));clear v;go_wp2;go_roundw
   case rel=>exact⟨k+1,by omega,by go_num,trivial,t⟩
   case measure=>simp[intOf];omega
  have L:k=l.length:=by omega
  have hend:decide ((k:Int)<(l.length:Int))=false:=by rw[kqh];omega
  have hendn:decide (k<l.length)=false:=by rw[kqh];exact q
  have T:=hid (W.out (V.out.2 (L ▸ P.out)));clear L q X;go_wp2;go_ret2;exact⟨⟨A1,c1,by rw[T.out.1,T.out.2];rfl,by rw[T.out.1];exact I.out⟩,E.out⟩
 have o:aT ws 128=[]:=by unfold aT;rw[if_neg f]
 have hw:jl ws=cj ws 128:=by
  unfold jl;cases g:ak (ws.length:Int) with
  | false=>rw[fP g];rfl
  | true =>
   have O:=(ab _).1 g;have a:fm ws.length 128=false:=by unfold fm;simp;omega
   cases j:blocks ws 128 with
   | none=>rw[oq j,eY g a (by simpa using j)];rfl
   | some l =>exfalso;apply f;simp[cj,g,a,j]
 have G:=hid hw;rw[o] at B;have S:(cj ws 128 != 0)=true:=by rw[kqv];exact f
 have H0:=hid f;obtain⟨r,D⟩:=xq (cj ws 128);rw[D] at B G S H0;clear f o hw D C;go_enter func26,ntmps26;go_wp2_with fail;refine B.out.mono ?_;rintro e w1 ⟨⟨A1,c1,rfl,-⟩,s⟩;go_wp2;go_ret2;exact⟨r6 G.out H0.out,s⟩
theorem wF(A:Option Addr)(ws:List Nat)(c n a:Nat)(w:World)(hn:ws.length=n)(ha:a+8<=n)(hm:n<=2048)(hc:n<=c)(hr:RdW w w.heap.size A ws):
 Calls prog 157 #[.slice A n c,.int .i64 (a:Int)] w λe w'=>e=.returned (.bool (fB ws a))/\w=w':=by
 subst hn;have v:=hid hr;have s:=hid (jZ ws a);obtain⟨b,off,rfl,f,-⟩:=RdW.at_ hr (show 0<ws.length by omega);have k2:IntKind.i64.wrap ((a:Int)+8)=((a+8:Nat):Int):=by rw[kqt _ (by omega)];omega
 have k3:a+8<=c:=by omega
 have k4:a<=a+8:=by omega
 clear hr f;go_enter func157,ntmps157;go_wp2_with fail
 go_loop [13] (λi=>∃k:Nat,k<=8/\i=.int .i64 k/\Hid (pF ws a k)) (λi=>8-(intOf i).toNat)
 case atStart=>exact⟨0,kqz _,rfl,hid λi h=>absurd h (by omega)⟩
 obtain⟨k,hk,rfl,q⟩:=hrel;by_cases l:k<8
 .obtain ⟨b',off',y,f,m⟩:=RdW.at_ v.out (show a+k<ws.length by omega);cases y;rw[<-cF] at m;have r:Hid (wd ws (a+k)=0->pF ws a (k+1)):=hid λh i u=>by
   rcases kq7 i k with t|t
   .exact q.out i t
   have:i=k:=by omega
   subst this;exact h
  have p:Hid (wd ws (a+k)≠0->fB ws a=false):=hid λh=>by
   cases z:fB ws a with
   | false=>rfl
   | true=>exact absurd (s.out.1 z k l) h
  rw[<-kj3] at m;obtain⟨x,o⟩:=xq (wd ws (a+k));rw[o] at m r p;have hki:(k:Int)<8:=by omega
  have hk0:(0:Int)<=(k:Int):=by omega
  clear o f;by_cases d:x=0
  .have j:=hid (r.out d);subst d;go_wp2_with fail
   go_round
   case rel=>exact⟨k+1,by omega,by go_num,j⟩
   case measure=>simp[intOf];omega
  have g:=hid (p.out d);have e1:((x:Int) != 0)=true:=by rw[kqv];omega
  have e1n:(x != 0)=true:=by rw[kqv];exact d
  clear d;go_wp2;go_ret;exact⟨by rw[g.out];rfl,rfl⟩
 have g:Hid (fB ws a=true):=hid (s.out.2 λi u=>q.out i (by omega));obtain rfl:k=8:=by omega
 go_wp2;go_ret;exact⟨by rw[g.out];rfl,rfl⟩
open Go.RowKit Go.Maps
def fD (ad:List Int):Nat->DataW Unit
 | 0=>.map []
 | k+1=>(fD ad k).put (.int .i64 (ad[k]?.getD 0)) (.lit (.bool true))
theorem yK(ad:List Int)(k:Nat):IsMap (fD ad k):=by
 induction k with
 | zero=>exact isMap_empty
 | succ k ih=>exact ih.put _ _
theorem nR(ad:List Int)(x:Int)(k:Nat):(fD ad k).atKey (.int .i64 x) (.lit (.bool false))=.lit (.bool (cc ad x k)):=by
 induction k with
 | zero=>rfl
 | succ k ih =>
  simp only[fD,cc];by_cases e:ad[k]?.getD 0=x
  .rw[e,atKey_put_same (yK ad k) (by trivial)];simp
  rw[atKey_put_other (by intro h;injection h with _ h;exact e h.symm),ih];have:(ad[k]?.getD 0==x)=false:=by rw[kqi];exact e
  rw[this,kkm]
theorem lW{H:Type}(he:P.underlying e=some .bool){v:Value}{z:DataW H × List MemPlace}(h:plainElem P e v=some z):∃c,v=.bool c/\z=(.lit (.bool c),[]):=by
 unfold plainElem at h;rw[he] at h;cases v<;>simp at h
 exact⟨_,rfl,h.symm⟩
theorem je{H:Type}{D:DataW H}(h:w.ownsMap P k (plainElem P e) b n D)(K:Keyed P k)(ht:P.underlying t=some (.map k e))(he:P.underlying e=some .bool)(hz:(zeroValue e).run P w=.ok (.bool false) w){key:Value}{kl:Lit}(hkey:keyOf P k key=some kl){c:Bool}(hc:D.atKey kl (.lit (.bool false))=.lit (.bool c)):(Instr.lookup t (.map (some b)) key false).run P w=.ok (.bool c) w:=by obtain⟨v,ps,d,g⟩:=h.lookup K ht hz (plainElem_bool he false) hkey;obtain⟨c',rfl,a⟩:=lW he g;simp only[Prod.mk.injEq] at a;rw[hc] at a;obtain⟨f,-⟩:=a;injection f with f;injection f with f;subst f;exact d
theorem oQ:Keyed prog 3:=int_keyed underlying3
theorem nf(w:World):(zeroValue 4).run prog w=.ok (.bool false) w:=by kernel_rfl
theorem gR{h:Nat}{cs:Array Value}{R:Value->Option (DataW Unit × List MemPlace)}{D:DataW Unit}(hb:Bx w h t cs)(ho:w.ownsMap P k R b n D):some h≠some b:=by rintro e;injection e with e;subst e;obtain⟨es,clock,a,_⟩:=ho;rw[show w.heap[h]? = _ from hb] at a;cases a
theorem Bx.c5(h:Bx w g t #[x0,x1,x2,x3,x4]):w.cell? ⟨g,0,none⟩=some x0/\w.cell? ⟨g,1,none⟩=some x1/\w.cell? ⟨g,2,none⟩=some x2 /\
 w.cell? ⟨g,3,none⟩=some x3/\w.cell? ⟨g,4,none⟩=some x4/\(∀i,w.frozen? ⟨g,i,none⟩=false)/\g<w.heap.size:=
 ⟨h.cell 0,h.cell 1,h.cell 2,h.cell 3,h.cell 4,h.frozen,h.lt⟩
theorem Ff(A TA SA OA:Option Addr)(c n tc tn sc sn oc on mb a z ty nx:Nat)(xk:Int)(mk:Bool)(w:World):
 Calls prog 95 #[.agg #[.slice A n c,.slice TA tn tc,.slice SA sn sc,.slice OA on oc,.map (some mb)],.agg #[.int .i64 (a:Int),.int .i64 (z:Int),.int .i64 xk,.int .i64 (ty:Int),.bool mk,.int .u64 (nx:Int)]] w λe w'=>e=.returned (.bool (!(mk||decide (0<nx))))/\Below w.heap.size w w':=by
 have xs:=(Bx.new w 163 #[.slice A n c,.slice TA tn tc,.slice SA sn sc,.slice OA on oc,.map (some mb)]).alloc (.cells #[.int .i64 (a:Int),.int .i64 (z:Int),.int .i64 xk,.int .i64 (ty:Int),.bool mk,.int .u64 (nx:Int)] 55);have b:=Bx.new (w.alloc (.cells #[.slice A n c,.slice TA tn tc,.slice SA sn sc,.slice OA on oc,.map (some mb)] 163)) 55 #[.int .i64 (a:Int),.int .i64 (z:Int),.int .i64 xk,.int .i64 (ty:Int),.bool mk,.int .u64 (nx:Int)];rw[kqm] at b;have XS:=hid xs;have XB:=hid b;have g:=hid (((kqk w.heap.size w).alloc (kqa _) (.cells #[.slice A n c,.slice TA tn tc,.slice SA sn sc,.slice OA on oc,.map (some mb)] 163)).alloc (by simp) (.cells #[.int .i64 (a:Int),.int .i64 (z:Int),.int .i64 xk,.int .i64 (ty:Int),.bool mk,.int .u64 (nx:Int)] 55));clear xs b;have f:((nx:Int)==0) = !decide (0<nx):=by rw[kzl,kqx,kx7,kqh];omega
 obtain⟨q,d⟩:=xq (decide (0<nx));rw[d] at f |-;clear d;cases mk
 all_goals
  go_enter func95,ntmps95;go_wp2;go_ret;exact⟨rfl,g.out⟩
theorem DY(A TA SA OA:Option Addr)(L:List Ty)(c n tc tn sc sn oc on mb a z ty nx:Nat)(xk:Int)(mk:Bool)(w:World)(ht:L.length=tn)(hk:∀x∈L,di x.l=0/\kSz x.l=bg x.l.length/\x.l.length<=8)(hL:RdL w w.heap.size TA L):
 Calls prog 96 #[.agg #[.slice A n c,.slice TA tn tc,.slice SA sn sc,.slice OA on oc,.map (some mb)],.agg #[.int .i64 (a:Int),.int .i64 (z:Int),.int .i64 xk,.int .i64 (ty:Int),.bool mk,.int .u64 (nx:Int)]] w λe w'=>e=.returned (.bool (decide (ty<L.length)&&bg (((L.map Ty.l)[ty]?).getD []).length==z))/\Below w.heap.size w w':=by
 have xs:=(Bx.new w 163 #[.slice A n c,.slice TA tn tc,.slice SA sn sc,.slice OA on oc,.map (some mb)]).alloc (.cells #[.int .i64 (a:Int),.int .i64 (z:Int),.int .i64 xk,.int .i64 (ty:Int),.bool mk,.int .u64 (nx:Int)] 55);have r:=Bx.new (w.alloc (.cells #[.slice A n c,.slice TA tn tc,.slice SA sn sc,.slice OA on oc,.map (some mb)] 163)) 55 #[.int .i64 (a:Int),.int .i64 (z:Int),.int .i64 xk,.int .i64 (ty:Int),.bool mk,.int .u64 (nx:Int)];rw[kqm] at r;have XS:=hid xs;have XB:=hid r;have p:=hid (((kqk w.heap.size w).alloc (kqa _) (.cells #[.slice A n c,.slice TA tn tc,.slice SA sn sc,.slice OA on oc,.map (some mb)] 163)).alloc (by simp) (.cells #[.int .i64 (a:Int),.int .i64 (z:Int),.int .i64 xk,.int .i64 (ty:Int),.bool mk,.int .u64 (nx:Int)] 55));clear xs r;subst ht;have C:=hid (hL.up p.out (kqa _));have hz1:=p.out.size;clear hL;by_cases d:ty<L.length
 .obtain ⟨b,off,rfl,H,G⟩:=qe C.out.1 d;have f:=C.out.2 _ (kqn d);obtain⟨i,g,k⟩:=hk _ (kqn d);have j:Hid ((decide (ty<L.length)&&bg (((L.map Ty.l)[ty]?).getD []).length==z)=(bg L[ty].l.length==z)):=hid (by
   rw[decide_eq_true d,kxh,kql d];rfl)
  obtain⟨x,y⟩:=xq (L[ty]);rw[y] at G i g k f j;obtain⟨D,I,m⟩:=x;dsimp only at G i g k f j;have t:=hid f;have s:=hid (λW B (h:RdY W B D m)=>uD D m I m.length B W rfl (by omega) h);rw[i,g] at s;have F:(((bg m.length:Nat):Int)==(z:Int))=(bg m.length==z):=by rw[kzl,kqx,kqx];omega
  obtain⟨o,v⟩:=xq (bg m.length);rw[v] at j s F;obtain⟨q,E⟩:=xq ((o==z));rw[E] at j F;have J:decide ((L.length:Int)<=(ty:Int))=false:=by rw[kqh];omega
  have u:decide (L.length<=ty)=false:=by rw[kqh];omega
  have j1:(ty:Int)<(L.length:Int):=by omega
  have j0:(0:Int)<=(ty:Int):=by omega
  clear y v E hk i g k f d H;go_enter func96,ntmps96;go_wp2_with fail;refine (s.out _ _ t.out).mono ?_;rintro e w1 ⟨rfl,rfl⟩;go_wp2;go_ret;exact⟨by rw[j.out];rfl,p.out⟩
 have j:Hid ((decide (ty<L.length)&&bg (((L.map Ty.l)[ty]?).getD []).length==z)=false):=hid (by rw[decide_eq_false d];rfl);have J:decide ((L.length:Int)<=(ty:Int))=true:=by rw[kqo];omega
 have u:decide (L.length<=ty)=true:=by rw[kqo];omega
 clear d hk;go_enter func96,ntmps96;go_wp2;go_ret;exact⟨by rw[j.out];rfl,p.out⟩
theorem F5{q:Nat}(h:q<18446744073709551616):bits BinOp.and .u64 (q:Int) 2047=((q%2048:Nat):Int):=by
 have:=u64_and_nat q 2047 h (by omega);rw[show (((2047:Nat)):Int)=2047 from rfl] at this;rw[this];have e:q &&& 2047=q%2048:=by rw[show (2047:Nat)=2 ^ 11-1 by decide,kxk]
 rw[e]
theorem Di(v:Nat)(w:World)(hv:v<18446744073709551616):Calls prog 159 #[.int .u64 (v:Int)] w λe w'=>e=.returned (.bool (uZ v))/\w=w':=by
 have j:Hid (uZ v=(v==9221120237041090561||decide (v%9223372036854775808<=9218868437227405312))):=hid rfl;have b:Hid (v/4503599627370496%2048≠2047->uZ v=true):=hid λh=>by rw[j.out,decide_eq_true (by omega),kvb]
 have c:Hid (v*4096%18446744073709551616=0->uZ v=true):=hid λh=>by rw[j.out,decide_eq_true (by omega),kvb]
 have a:Hid (v/4503599627370496%2048=2047->¬ v*4096%18446744073709551616=0->uZ v=(v==9221120237041090561)):=hid λh g=>by rw[j.out,decide_eq_false (by omega),kkm]
 have n:=F5 (q:=v/4503599627370496) (by omega);have o:(v:Int)/4503599627370496=((v/4503599627370496:Nat):Int):=by omega
 have t:IntKind.u64.wrap ((v:Int)*4096)=((v*4096%18446744073709551616:Nat):Int):=by simp[IntKind.wrap,IntKind.bits,IntKind.signed]
 obtain⟨q,l⟩:=xq (v/4503599627370496);rw[l] at b a n o;obtain⟨r,k⟩:=xq (q%2048);rw[k] at b a n;obtain⟨m,i⟩:=xq (v*4096%18446744073709551616);rw[i] at c a t;have e3:((v:Int)==9221120237041090561)=(v==9221120237041090561):=by rw[kzl,kqx,kqx];omega
 clear l k i hv;by_cases f:r=2047
 .have s:((r:Int) != 2047)=false:=by rw[kqr];omega
  by_cases g:m=0
  .have d:=hid (c.out g);have p:((m:Int)==0)=true:=by rw[kqx];omega
   clear f g;go_enter func159,ntmps159;go_wp2;go_ret;exact⟨by rw[d.out];rfl,rfl⟩
  have d:=hid (a.out f g);have p:((m:Int)==0)=false:=by rw[kqi];omega
  clear f g;go_enter func159,ntmps159;go_wp2;go_ret;exact⟨by rw[d.out];rfl,rfl⟩
 have d:=hid (b.out f);have s:((r:Int) != 2047)=true:=by rw[kqv];omega
 clear f;go_enter func159,ntmps159;go_wp2;go_ret;exact⟨by rw[d.out];rfl,rfl⟩
theorem rO(O:List Bk)(v:Nat):∀k,k<=O.length->cc (O.map Bk.at_) (v:Int) k=(O.take k).any λb=>b.at_==(v:Int):=by
 intro k
 induction k with
 | zero=>intro _;rfl
 | succ k ih =>intro a;simp only[cc];rw[ih (by omega),kqp (show k<O.length from a),List.any_append,kxh,kql (show k<O.length from a)];simp
theorem wT(O:List Bk)(v:Nat):cc (O.map Bk.at_) (v:Int) O.length=mZ O v:=by rw[rO O v O.length (kqa _),kzf];rfl
structure SgW (W:World) (A TA:Option Addr) (ws:List Nat) (L:List Ty) (O:List Bk) (mb:Nat):Prop where
 w:RdW W W.heap.size A ws
 t:RdL W W.heap.size TA L
 m:W.ownsMap prog 3 (plainElem prog 4) mb O.length (fD (O.map Bk.at_) O.length)
theorem eB{R:Value->Option (DataW Unit × List MemPlace)}{D:DataW Unit}(h:w.ownsMap P k R b n D)(hb:w'.heap[b]? = w.heap[b]?):w'.ownsMap P k R b n D:=by obtain⟨c,a,d,r⟩:=h;exact⟨c,a,hb.trans d,r⟩
theorem yD(A TA SA OA:Option Addr)(ws:List Nat)(L:List Ty)(c n tc tn sc sn oc on mb a z ty nx:Nat)(xk:Int)(mk:Bool)(w:World)(hn:ws.length=n)(hm:n<=2048)(ht:L.length=tn)(hty:ty<L.length)(h8:L[ty].l.length<=8)(hz:z=bg L[ty].l.length)(haz:a+z<=n)(hR:RdW w w.heap.size A ws)(hL:RdL w w.heap.size TA L):
 Calls prog 97 #[.agg #[.slice A n c,.slice TA tn tc,.slice SA sn sc,.slice OA on oc,.map (some mb)],.agg #[.int .i64 (a:Int),.int .i64 (z:Int),.int .i64 xk,.int .i64 (ty:Int),.bool mk,.int .u64 (nx:Int)]] w λe w'=>e=.returned (.bool (!(decide (L[ty].l.length+2<z)&&wd ws (a+2+L[ty].l.length) != 0)))/\Below w.heap.size w w':=by
 have xs:=(Bx.new w 163 #[.slice A n c,.slice TA tn tc,.slice SA sn sc,.slice OA on oc,.map (some mb)]).alloc (.cells #[.int .i64 (a:Int),.int .i64 (z:Int),.int .i64 xk,.int .i64 (ty:Int),.bool mk,.int .u64 (nx:Int)] 55);have o:=Bx.new (w.alloc (.cells #[.slice A n c,.slice TA tn tc,.slice SA sn sc,.slice OA on oc,.map (some mb)] 163)) 55 #[.int .i64 (a:Int),.int .i64 (z:Int),.int .i64 xk,.int .i64 (ty:Int),.bool mk,.int .u64 (nx:Int)];rw[kqm] at o;have XS:=hid xs;have XB:=hid o;have i:=hid (((kqk w.heap.size w).alloc (kqa _) (.cells #[.slice A n c,.slice TA tn tc,.slice SA sn sc,.slice OA on oc,.map (some mb)] 163)).alloc (by simp) (.cells #[.int .i64 (a:Int),.int .i64 (z:Int),.int .i64 xk,.int .i64 (ty:Int),.bool mk,.int .u64 (nx:Int)] 55));clear xs o;subst ht hn;have H:=hid (hL.up i.out (kqa _));have hz1:=i.out.size;obtain⟨b,off,rfl,C,u⟩:=qe H.out.1 hty;obtain⟨x,k⟩:=xq (L[ty]);rw[k] at u h8 hz |-;obtain⟨xA,xc,I⟩:=x;dsimp only at u h8 hz |-;have j1:(ty:Int)<(L.length:Int):=by omega
 have j0:(0:Int)<=(ty:Int):=by omega
 obtain⟨m,d⟩:=xq I.length;rw[d] at u h8 hz |-;by_cases h:m%2=0
 .have f:Hid ((!(decide (m+2<z)&&wd ws (a+2+m) != 0))=true):=hid (by rw[decide_eq_false (by rw[hz];unfold bg;omega)];rfl);have J:((m:Int)%2==0)=true:=by rw[kqx];omega
  clear h hz haz h8 hm k d hL hR C;go_enter func97,ntmps97;go_wp2;go_ret;exact⟨by rw[f.out];rfl,i.out⟩
 obtain⟨b2,off2,rfl,t,j⟩:=RdW.at_ (hR.up i.out (kqa _)) (show a+2+m<ws.length by rw[hz] at haz;unfold bg at haz;omega);rw[<-cF] at j;have K:IntKind.i64.wrap ((a:Int)+2)=((a+2:Nat):Int):=by rw[kqt _ (by omega)];omega
 have B:IntKind.i64.wrap (((a+2:Nat):Int)+(m:Int))=((a+2+m:Nat):Int):=by rw[kqt _ (by omega)];omega
 have F:((a+2+m:Nat):Int)<(ws.length:Int):=by rw[hz] at haz;unfold bg at haz;omega
 have E:(0:Int)<=((a+2+m:Nat):Int):=by omega
 have f:Hid ((!(decide (m+2<z)&&wd ws (a+2+m) != 0))=(wd ws (a+2+m)==0)):=hid (by rw[decide_eq_true (by rw[hz];unfold bg;omega),kzq];exact Bool.not_not _);have J:((m:Int)%2==0)=false:=by rw[kqi];omega
 obtain⟨p,r⟩:=xq (a+2+m);rw[r] at j B F E f;obtain⟨g,y⟩:=xq (a+2);rw[y] at K B;obtain⟨v,s⟩:=xq (wd ws p);rw[r,s];rw[s] at j f;have G:((v:Int)==0)=(v==0):=by rw[kzl,kqx,kqx];omega
 obtain⟨q,D⟩:=xq ((v==0));rw[D] at f G;clear h hz haz h8 hm k d hL hR C r y s D t;go_enter func97,ntmps97;go_wp2;go_ret;exact⟨by rw[f.out];rfl,i.out⟩
def Jp (ws F:List Nat) (O:List Bk) (a r k:Nat):Prop:=∀i,i<k->wrF ws F O a r i=false
theorem th{k:Nat}(h:Jp ws F O a r k)(h1:wrF ws F O a r k=false):Jp ws F O a r (k+1):=λi hi=>by
 rcases kq7 i k with b|b
 .exact h i b
 .have:i=k:=by omega
  subst this;exact h1
theorem Hp(h:Jp ws F O a r F.length):((List.range F.length).any λi=>wrF ws F O a r i)=false:=by rw[kjk];intro i b;rw[h i (kzi.1 b)];simp
theorem GK{k:Nat}(hk:k<F.length)(h:wrF ws F O a r k=true):((List.range F.length).any λi=>wrF ws F O a r i)=true:=kx5.2 ⟨k,kzi.2 hk,h⟩
theorem xw(A TA SA OA:Option Addr)(ws:List Nat)(L:List Ty)(O:List Bk)(c n tc tn sc sn oc on mb a z ty nx:Nat)(xk:Int)(mk:Bool)(w:World)(hn:ws.length=n)(hm:n<=2048)(ht:L.length=tn)(hty:ty<L.length)(h8:L[ty].l.length<=8)(hz:z=bg L[ty].l.length)(haz:a+z<=n)(hR:RdW w w.heap.size A ws)(hL:RdL w w.heap.size TA L)(ho:∀x∈ws,x<18446744073709551616):
 Calls prog 98 #[.agg #[.slice A n c,.slice TA tn tc,.slice SA sn sc,.slice OA on oc,.map (some mb)],.agg #[.int .i64 (a:Int),.int .i64 (z:Int),.int .i64 xk,.int .i64 (ty:Int),.bool mk,.int .u64 (nx:Int)]] w λe w'=>e=.returned (.bool (!((List.range L[ty].l.length).any λi=>wrF ws L[ty].l O a 10 i)))/\Below w.heap.size w w':=by
 have xs:=(Bx.new w 163 #[.slice A n c,.slice TA tn tc,.slice SA sn sc,.slice OA on oc,.map (some mb)]).alloc (.cells #[.int .i64 (a:Int),.int .i64 (z:Int),.int .i64 xk,.int .i64 (ty:Int),.bool mk,.int .u64 (nx:Int)] 55);have S:=Bx.new (w.alloc (.cells #[.slice A n c,.slice TA tn tc,.slice SA sn sc,.slice OA on oc,.map (some mb)] 163)) 55 #[.int .i64 (a:Int),.int .i64 (z:Int),.int .i64 xk,.int .i64 (ty:Int),.bool mk,.int .u64 (nx:Int)];rw[kqm] at S;have XS:=hid xs;have XB:=hid S;have E:=hid (((kqk w.heap.size w).alloc (kqa _) (.cells #[.slice A n c,.slice TA tn tc,.slice SA sn sc,.slice OA on oc,.map (some mb)] 163)).alloc (by simp) (.cells #[.int .i64 (a:Int),.int .i64 (z:Int),.int .i64 xk,.int .i64 (ty:Int),.bool mk,.int .u64 (nx:Int)] 55));clear xs S;subst ht hn;have K:=hid (hL.up E.out (kqa _));have Z:=E.out.size;obtain⟨b,Q,rfl,hb,V⟩:=qe K.out.1 hty;have J:=K.out.2 _ (kqn hty);obtain⟨x,hx⟩:=xq (L[ty]);rw[hx] at V h8 hz J |-;obtain⟨xA,xc,o⟩:=x;dsimp only at V h8 hz J |-;have HY:=hid J;have HR:=hid (hR.up E.out (kqa _));have j1:(ty:Int)<(L.length:Int):=by omega
 have j0:(0:Int)<=(ty:Int):=by omega
 have C:Hid (∀k,k<o.length->a+2+k<ws.length):=hid λk I=>by rw[hz] at haz;unfold bg at haz;omega
 have N:=hid (fT ho);have R:Hid (Jp ws o O a 10 0):=hid λi h=>absurd h (by omega);have Eq:=hid (λh=>Hp (ws:=ws) (F:=o) (O:=O) (a:=a) (r:=10) h);have U:=hid (λk I h=>GK (ws:=ws) (F:=o) (O:=O) (a:=a) (r:=10) (k:=k) I h);have ha:a<=2048:=by omega
 obtain⟨q0,q1,q2,q3,q4,-,-⟩:=XS.out.c5;obtain⟨r0,r1,r2,r3,r4,r5,-,-⟩:=XB.out.c6;obtain⟨M,u⟩:∃M,(w.alloc (.cells #[.slice A ws.length c,.slice (some ⟨b,Q,none⟩) L.length tc,.slice SA sn sc,.slice OA on oc,.map (some mb)] 163)).alloc (.cells #[.int .i64 (a:Int),.int .i64 (z:Int),.int .i64 xk,.int .i64 (ty:Int),.bool mk,.int .u64 (nx:Int)] 55)=M:=⟨_,rfl⟩;rw[u] at V HY HR q0 q1 q2 q3 q4 r0 r1 r2 r3 r4 r5;have B:=hid (show Below w.heap.size w M by rw[<-u];exact E.out);clear hz haz hm hx hL hR hb J ho XS XB E K Z;go_enter func98,ntmps98;go_wp2_with fail;clear u
 go_loop [14] (λi=>∃k:Nat,k<=o.length/\i=.int .i64 k/\Hid (Jp ws o O a 10 k)) (λi=>o.length-(intOf i).toNat)
 case atStart=>exact⟨0,kqz _,rfl,R⟩
 obtain⟨k,I,rfl,HW⟩:=hrel;by_cases j:k<o.length
 .obtain ⟨g,go,rfl,hg,y0⟩:=HY.out.at_ j;obtain⟨d,dof,rfl,hd,P⟩:=RdW.at_ HR.out (C.out k j);rw[<-cF] at P;have hj:=C.out k j;have D:=hid (λW=>Di (wd ws (a+2+k)) W (N.out _));have m:wrF ws o O a 10 k=(o[k]? == some 2 && !uZ (wd ws (a+2+k))):=rfl;rw[kql j] at m;have HS:=hid (λh=>th HW.out h);have X:=hid (λh=>U.out k j h);have i1:IntKind.i64.wrap ((a:Int)+2)=((a+2:Nat):Int):=by rw[kqt _ (by omega)];omega
  have i2:IntKind.i64.wrap (((a+2:Nat):Int)+(k:Int))=((a+2+k:Nat):Int):=by rw[kqt _ (by omega)];omega
  have k1:((a+2+k:Nat):Int)<(ws.length:Int):=by omega
  have k0:(0:Int)<=((a+2+k:Nat):Int):=by omega
  have hki:(k:Int)<(o.length:Int):=by omega
  have hk0:(0:Int)<=(k:Int):=by omega
  obtain⟨y,G⟩:=xq (o[k]);rw[G] at y0 m;obtain⟨p,hp⟩:=xq (a+2+k);rw[hp] at P i2 k1 k0 D m;obtain⟨s,hs⟩:=xq (a+2);rw[hs] at i1 i2;obtain⟨v,hv⟩:=xq (wd ws p);rw[hv] at P D m;obtain⟨f,hf⟩:=xq (uZ v);rw[hf] at D m;have t:=hid m;clear G hp hs hv hf m hj;by_cases q:y=2
  .subst q;cases f
   .have T:=hid (X.out (by rw[t.out];rfl));go_wp2_with fail;refine (D.out _).mono ?_;rintro e w5 ⟨rfl,rfl⟩;go_wp2;go_ret;exact⟨by rw[T.out];rfl,B.out⟩
   have Y:=hid (HS.out (by rw[t.out];rfl));go_wp2_with fail;refine (D.out _).mono ?_;rintro e w5 ⟨rfl,rfl⟩;go_wp2_with fail
   go_round
   case rel=>exact⟨k+1,by omega,by go_num,Y⟩
   case measure=>simp[intOf];omega
  have e1:((y:Int)==2)=false:=by rw[kqi];omega
  have Y:=hid (HS.out (by rw[t.out,show ((some y:Option Nat)==some 2)=false by simpa using q];rfl));clear q;go_wp2_with fail
  go_round
  case rel=>exact⟨k+1,by omega,by go_num,Y⟩
  case measure=>simp[intOf];omega
 have H:k=o.length:=by omega
 have T:=hid (Eq.out (H ▸ HW.out));have hend:decide ((k:Int)<(o.length:Int))=false:=by rw[kqh];omega
 have hendn:decide (k<o.length)=false:=by rw[kqh];exact j
 clear H j I;go_wp2;go_ret;exact⟨by rw[T.out];rfl,B.out⟩
theorem EA(A TA SA OA:Option Addr)(ws:List Nat)(L:List Ty)(O:List Bk)(c n tc tn sc sn oc on mb a z ty nx:Nat)(xk:Int)(mk:Bool)(w:World)(hn:ws.length=n)(hm:n<=2048)(ht:L.length=tn)(hty:ty<L.length)(h8:L[ty].l.length<=8)(hz:z=bg L[ty].l.length)(haz:a+z<=n)(hR:RdW w w.heap.size A ws)(hL:RdL w w.heap.size TA L)(ho:∀x∈ws,x<18446744073709551616)(hO:∀b∈O,b.at_<(n:Int))(hM:w.ownsMap prog 3 (plainElem prog 4) mb O.length (fD (O.map Bk.at_) O.length)):
 Calls prog 99 #[.agg #[.slice A n c,.slice TA tn tc,.slice SA sn sc,.slice OA on oc,.map (some mb)],.agg #[.int .i64 (a:Int),.int .i64 (z:Int),.int .i64 xk,.int .i64 (ty:Int),.bool mk,.int .u64 (nx:Int)]] w λe w'=>e=.returned (.bool (!((List.range L[ty].l.length).any λi=>wrF ws L[ty].l O a 11 i)))/\Below w.heap.size w w':=by
 have xs:=(Bx.new w 163 #[.slice A n c,.slice TA tn tc,.slice SA sn sc,.slice OA on oc,.map (some mb)]).alloc (.cells #[.int .i64 (a:Int),.int .i64 (z:Int),.int .i64 xk,.int .i64 (ty:Int),.bool mk,.int .u64 (nx:Int)] 55);have xb:=Bx.new (w.alloc (.cells #[.slice A n c,.slice TA tn tc,.slice SA sn sc,.slice OA on oc,.map (some mb)] 163)) 55 #[.int .i64 (a:Int),.int .i64 (z:Int),.int .i64 xk,.int .i64 (ty:Int),.bool mk,.int .u64 (nx:Int)];rw[kqm] at xb;have XS:=hid xs;have XB:=hid xb;have J:=hid (((kqk w.heap.size w).alloc (kqa _) (.cells #[.slice A n c,.slice TA tn tc,.slice SA sn sc,.slice OA on oc,.map (some mb)] 163)).alloc (by simp) (.cells #[.int .i64 (a:Int),.int .i64 (z:Int),.int .i64 xk,.int .i64 (ty:Int),.bool mk,.int .u64 (nx:Int)] 55));clear xs xb;subst ht hn;have Z:=hid (hL.up J.out (kqa _));have La:=J.out.size;obtain⟨b,off,rfl,hb,p0⟩:=qe Z.out.1 hty;have Y:=Z.out.2 _ (kqn hty);obtain⟨x,hx⟩:=xq (L[ty]);rw[hx] at p0 h8 hz Y |-;obtain⟨xA,xc,f⟩:=x;dsimp only at p0 h8 hz Y |-;have HY:=hid Y;have HR:=hid (hR.up J.out (kqa _));have j1:(ty:Int)<(L.length:Int):=by omega
 have j0:(0:Int)<=(ty:Int):=by omega
 have M:Hid (∀k,k<f.length->a+2+k<ws.length):=hid λk W=>by rw[hz] at haz;unfold bg at haz;omega
 have Eq:=hid (fT ho);have E:=hid hm;have U:=hid (eB hM (J.out.block mb hM.lt));have Kw:Hid (∀v:Nat,ws.length<=v->mZ O v=false):=hid λv hv=>by
  cases X:mZ O v with
  | false=>rfl
  | true =>obtain⟨b,hb,e⟩:=kx5.1 X;rw[kqx] at e;have:=hO b hb;omega
 have Kx:Hid (Jp ws f O a 11 0):=hid λi h=>absurd h (by omega);have Lb:=hid (λh=>Hp (ws:=ws) (F:=f) (O:=O) (a:=a) (r:=11) h);have Ky:=hid (λk W h=>GK (ws:=ws) (F:=f) (O:=O) (a:=a) (r:=11) (k:=k) W h);have ha:a<=2048:=by omega
 obtain⟨q0,q1,q2,q3,q4,-,-⟩:=XS.out.c5;obtain⟨r0,r1,r2,r3,r4,r5,-,-⟩:=XB.out.c6;obtain⟨V,I⟩:∃V,(w.alloc (.cells #[.slice A ws.length c,.slice (some ⟨b,off,none⟩) L.length tc,.slice SA sn sc,.slice OA on oc,.map (some mb)] 163)).alloc (.cells #[.int .i64 (a:Int),.int .i64 (z:Int),.int .i64 xk,.int .i64 (ty:Int),.bool mk,.int .u64 (nx:Int)] 55)=V:=⟨_,rfl⟩;rw[I] at p0 HY HR U q0 q1 q2 q3 q4 r0 r1 r2 r3 r4 r5;have G:=hid (show Below w.heap.size w V by rw[<-I];exact J.out);clear hz haz hm hx hL hR hb Y ho hO hM XS XB J Z La;go_enter func99,ntmps99;go_wp2_with fail;clear I
 go_loop [15] (λi=>∃k:Nat,k<=f.length/\i=.int .i64 k/\Hid (Jp ws f O a 11 k)) (λi=>f.length-(intOf i).toNat)
 case atStart=>exact⟨0,kqz _,rfl,Kx⟩
 obtain⟨k,W,rfl,HW⟩:=hrel;by_cases j:k<f.length
 .obtain ⟨g,go,rfl,hg,y0⟩:=HY.out.at_ j;obtain⟨d,dof,rfl,hd,w0⟩:=RdW.at_ HR.out (M.out k j);rw[<-cF] at w0;have hj:=M.out k j;have o:wrF ws f O a 11 k=(f[k]? == some 3&&(decide (0<wd ws (a+2+k)) && !mZ O (wd ws (a+2+k)))):=rfl;rw[kql j] at o;have m:=Eq.out (a+2+k);have HS:=hid (λh=>th HW.out h);have R:=hid (λh=>Ky.out k j h);have i1:IntKind.i64.wrap ((a:Int)+2)=((a+2:Nat):Int):=by rw[kqt _ (by omega)];omega
  have i2:IntKind.i64.wrap (((a+2:Nat):Int)+(k:Int))=((a+2+k:Nat):Int):=by rw[kqt _ (by omega)];omega
  have k1:((a+2+k:Nat):Int)<(ws.length:Int):=by omega
  have k0:(0:Int)<=((a+2+k:Nat):Int):=by omega
  have hki:(k:Int)<(f.length:Int):=by omega
  have hk0:(0:Int)<=(k:Int):=by omega
  have w1:IntKind.u64.wrap (ws.length:Int)=(ws.length:Int):=kzw _ (by have:=E.out;omega);obtain⟨y,N⟩:=xq (f[k]);rw[N] at y0 o;obtain⟨p,hp⟩:=xq (a+2+k);rw[hp] at w0 i2 k1 k0 o m;obtain⟨s,hs⟩:=xq (a+2);rw[hs] at i1 i2;obtain⟨v,hv⟩:=xq (wd ws p);rw[hv] at w0 o m;have t:=hid o;have u:=hid (Kw.out v);clear N hp hs hv o hj;by_cases D:y=3
  .subst D;by_cases C:v=0
   .subst C;have S:=hid (HS.out (by rw[t.out];rfl));clear m;go_wp2_with fail
    go_round
    case rel=>exact⟨k+1,by omega,by go_num,S⟩
    case measure=>simp[intOf];omega
   have e1:((v:Int) != 0)=true:=by rw[kqv];omega
   have e1n:(v != 0)=true:=by rw[kqv];omega
   by_cases H:ws.length<=v
   .have Q:=hid (R.out (by rw[t.out,u.out H,decide_eq_true (by omega)];rfl));have d1:decide ((ws.length:Int)<=(v:Int))=true:=by rw[kqo];omega
    have d1n:decide (ws.length<=v)=true:=by rw[kqo];omega
    clear m H C;go_wp2;go_ret;exact⟨by rw[Q.out];rfl,G.out⟩
   have d1:decide ((ws.length:Int)<=(v:Int))=false:=by rw[kqh];omega
   have d1n:decide (ws.length<=v)=false:=by rw[kqh];omega
   have w2:IntKind.i64.wrap (v:Int)=(v:Int):=kqt _ (by have:=E.out;omega);have K:(Lit.int .i64 (v:Int)).wf=true:=by have:=E.out;simp[Lit.wf,IntKind.min,IntKind.max,IntKind.signed,IntKind.bits];omega
   have Kz:=je U.out oQ underlying161 underlying4 (nf V) (keyOf_int_mk (P:=prog) underlying3 K) (c:=mZ O v) (by rw[nR,wT]);have B:Hid (wrF ws f O a 11 k = !mZ O v):=hid (by rw[t.out,decide_eq_true (by omega)];simp);obtain⟨q,X⟩:=xq (mZ O v);rw[X] at Kz B;clear m H C K X u t;cases q
   .have Q:=hid (R.out (by rw[B.out];rfl));go_wp2;go_ret;exact⟨by rw[Q.out];rfl,G.out⟩
   have S:=hid (HS.out (by rw[B.out];rfl));go_wp2_with fail
   go_round
   case rel=>exact⟨k+1,by omega,by go_num,S⟩
   case measure=>simp[intOf];omega
  have e1:((y:Int)==3)=false:=by rw[kqi];omega
  have S:=hid (HS.out (by rw[t.out,show ((some y:Option Nat)==some 3)=false by simpa using D];rfl));clear D m;go_wp2_with fail
  go_round
  case rel=>exact⟨k+1,by omega,by go_num,S⟩
  case measure=>simp[intOf];omega
 have T:k=f.length:=by omega
 have Q:=hid (Lb.out (T ▸ HW.out));have hend:decide ((k:Int)<(f.length:Int))=false:=by rw[kqh];omega
 have hendn:decide (k<f.length)=false:=by rw[kqh];exact j
 clear T j W;go_wp2;go_ret;exact⟨by rw[Q.out];rfl,G.out⟩
def pU (l:List Nat):Array Value:=(l.flatMap ae).toArray
theorem Ah(l:List Nat):(pU l).size=l.length:=by unfold pU;rw[kjx,cm _ 1 bY,kxq]
theorem Gt(l:List Nat):(pU l).all (·.oneCell')=true:=by
 rw[kk8];intro i hi;have:(pU l)[i]∈l.flatMap ae:=by unfold pU at *;simp
 obtain⟨x,-,a⟩:=kvf.1 this;rw[ae,kqy] at a;rw[a];rfl
theorem s9:(prog.info? 242).map (·.size)=some 8:=by kernel_rfl
theorem Hb(w:World):(zeroValue 242).run prog w=.ok (.agg #[.int .u64 0,.int .u64 0,.int .u64 0,.int .u64 0,.int .u64 0,.int .u64 0,.int .u64 0,.int .u64 0]) w:=by kernel_rfl
theorem yh{fn:Func}{p:Tmp}(h:fn.results=#[.cell p 242])(tmps:Array Value){W:World}{cs:Array Value}(hb:Bx W g t cs)(hs:cs.size=8)(hp:tmps.getD p undef=.pointer (some ⟨g,0,none⟩)):
 (results fn tmps).run prog W=.ok (.agg cs) W:=by
 have a:tmps[p]?.getD undef=.pointer (some ⟨g,0,none⟩):=by simpa using hp
 have c:(prog.info? 242).map (·.size)=some cs.size:=by rw[hs];exact s9
 have b:=run_loadVar_row W g t 242 cs (0,0) _ hb underlying242 rfl c;simp[results,h,a,asAddr,b]
theorem yq(n t:Nat)(w:World)(hn:n<=1000000)(ht:t<=1000000):
 Calls prog 174 #[.agg #[.int .i64 (n:Int),.int .i64 (t:Int)]] w λe w'=>e=.returned (.agg (pU (spL n t)))/\Below w.heap.size w w':=by
 have G:=hid (λA W (J:RdW W W.heap.size A (sp7 n t))=>qo A (sp7 n t) 8 7 W rfl (by omega) J (λx H=>by
  simp only[sp7,kqw,kzk,or_false] at H;omega))
 obtain⟨q,B⟩:=xq (a8 14695981039346656037 (sp7 n t));have K:=hid (show pU (spL n t)=#[.int .u64 32777959566500194,.int .u64 1,.int .u64 (n:Int),.int .u64 (t:Int),.int .u64 0,.int .u64 0,.int .u64 0,.int .u64 (q:Int)] by
  unfold pU spL;rw[B];rfl)
 have z:Hid (∀W g,Bx W g 242 #[.int .u64 32777959566500194,.int .u64 1,.int .u64 (n:Int),.int .u64 (t:Int),.int .u64 0,.int .u64 0,.int .u64 0,.int .u64 0]->RdW W W.heap.size (some ⟨g,0,none⟩) (sp7 n t)):=hid λW g h=>(Rd.of_box h h.lt).take_ 7;rw[B] at G;have I:=hid (((kqk w.heap.size w).alloc (kqa _) (.cells #[.int .i64 (n:Int),.int .i64 (t:Int)] 126)).alloc (by simp) (.cells #[.int .u64 0,.int .u64 0,.int .u64 0,.int .u64 0,.int .u64 0,.int .u64 0,.int .u64 0,.int .u64 0] 242));have w1:IntKind.u64.wrap (n:Int)=(n:Int):=kzw _ (by omega);have w2:IntKind.u64.wrap (t:Int)=(t:Int):=kzw _ (by omega);have hzv:=Hb;have bx:=Bx.new ((w.alloc (.cells #[.int .i64 (n:Int),.int .i64 (t:Int)] 126)).alloc (.cells #[.int .u64 0,.int .u64 0,.int .u64 0,.int .u64 0,.int .u64 0,.int .u64 0,.int .u64 0,.int .u64 0] 242)) 242 #[.int .u64 0,.int .u64 0,.int .u64 0,.int .u64 0,.int .u64 0,.int .u64 0,.int .u64 0,.int .u64 0];rw[kqm,kqm] at bx;have N:=hid bx;have C:=hid (((I.out.alloc (by simp;omega) (.cells #[.int .u64 0,.int .u64 0,.int .u64 0,.int .u64 0,.int .u64 0,.int .u64 0,.int .u64 0,.int .u64 0] 242))));have r:=Bx.new (w.alloc (.cells #[.int .i64 (n:Int),.int .i64 (t:Int)] 126)) 242 #[.int .u64 0,.int .u64 0,.int .u64 0,.int .u64 0,.int .u64 0,.int .u64 0,.int .u64 0,.int .u64 0]
 rw[kqm] at r;have F:=hid (r.alloc (.cells #[.int .u64 0,.int .u64 0,.int .u64 0,.int .u64 0,.int .u64 0,.int .u64 0,.int .u64 0,.int .u64 0] 242));have E:(prog.info? 242).map (·.size)=some (#[.int .u64 32777959566500194,.int .u64 1,.int .u64 (n:Int),.int .u64 (t:Int),.int .u64 0,.int .u64 0,.int .u64 0,.int .u64 0]:Array Value).size:=s9;clear B bx r;have hbd:∀W,(Instr.build 242 #[(0,.int .u64 32777959566500194),(1,.int .u64 1),(2,.int .u64 (n:Int)),(3,.int .u64 (t:Int))]).run prog W=.ok (.agg #[.int .u64 32777959566500194,.int .u64 1,.int .u64 (n:Int),.int .u64 (t:Int),.int .u64 0,.int .u64 0,.int .u64 0,.int .u64 0]) W:=λ_=>by kernel_rfl
 go_enter func174,ntmps174;go_wp2_with (first
  | ((with_reducible refine ar 242 (.tmp 3) _ ?_);refine ao rfl _ _ _ rfl (w.heap.size+1+1) 242 #[.int .u64 0,.int .u64 0,.int .u64 0,.int .u64 0,.int .u64 0,.int .u64 0,.int .u64 0,.int .u64 0] #[.int .u64 32777959566500194,.int .u64 1,.int .u64 (n:Int),.int .u64 (t:Int),.int .u64 0,.int .u64 0,.int .u64 0,.int .u64 0] (by rfl) (by rfl) N.out (by rfl) E (by simp[Value.oneCell']) ?_;intro w3 i j;have d:=hid i;have c:=hid j;clear i j))
 refine (G.out _ _ (z.out _ _ d.out)).mono ?_;rintro e w4 ⟨rfl,a⟩;have b:=hid (c.out.below C.out (by omega));have o:=hid (b.out.trans (a.mono b.out.size));have f:=d.out.up a d.out.lt;have M:=hid ((c.out.bx F.out (by omega)).up a (c.out.bx F.out (by omega)).lt);have hl3:=f.lt;have hc7:=f.cell 7;have hf7:=f.frozen 7;have L:=hid (f.set_ 7 (.int .u64 (q:Int)));have u:=hid (M.out.far (p:=⟨w.heap.size+1+1,7,none⟩) (by simp) (.int .u64 (q:Int)));have s:=hid (o.out.setCell (p:=⟨w.heap.size+1+1,7,none⟩) (by simp;omega) (.int .u64 (q:Int)));have l:(prog.info? 242).map (·.size)=some (#[.int .u64 32777959566500194,.int .u64 1,.int .u64 (n:Int),.int .u64 (t:Int),.int .u64 0,.int .u64 0,.int .u64 0,.int .u64 (q:Int)]:Array Value).size:=s9;clear f a;go_wp2_with (first
  | ((with_reducible refine aQ 242 (.tmp 3) ?_);refine kxj rfl _ _ rfl (w.heap.size+1+1) (by rfl) 242 #[.int .u64 32777959566500194,.int .u64 1,.int .u64 (n:Int),.int .u64 (t:Int),.int .u64 0,.int .u64 0,.int .u64 0,.int .u64 (q:Int)] (0,0) _ L.out underlying242 (by rfl) l ?_)
  | ((with_reducible refine ar 242 (.tmp 2) _ ?_);refine ao rfl _ _ _ rfl (w.heap.size+1) 242 #[.int .u64 0,.int .u64 0,.int .u64 0,.int .u64 0,.int .u64 0,.int .u64 0,.int .u64 0,.int .u64 0] #[.int .u64 32777959566500194,.int .u64 1,.int .u64 (n:Int),.int .u64 (t:Int),.int .u64 0,.int .u64 0,.int .u64 0,.int .u64 (q:Int)] (by rfl) (by rfl) u.out (by rfl) l (by simp[Value.oneCell']) ?_;intro w6 k m;have y:=hid k;have D:=hid m;clear k m))
 exact kqq (v:=.agg #[.int .u64 32777959566500194,.int .u64 1,.int .u64 (n:Int),.int .u64 (t:Int),.int .u64 0,.int .u64 0,.int .u64 0,.int .u64 (q:Int)]) (yh results174 _ y.out (by rfl) rfl) rfl ⟨by rw[K.out],D.out.below s.out (by omega)⟩
theorem JE(h:l.length=8):∃p0 p1 p2 p3 p4 p5 p6 p7,l=[p0,p1,p2,p3,p4,p5,p6,p7]:=by
 match l,h with
 | [p0,p1,p2,p3,p4,p5,p6,p7],_=>exact⟨p0,p1,p2,p3,p4,p5,p6,p7,rfl⟩
theorem FT{a b:List Nat}(ha:a.length=8)(hb:b.length=8)(W:World):(Op.equalIn 10000 242 (.agg (pU a)) (.agg (pU b))).run prog W=.ok (decide (a=b)) W:=by
 have G:=underlying242;have E:=underlying53;have H:List.range' 0 8=[0,1,2,3,4,5,6,7]:=rfl;have e1:=λ(x y:Int)=>run_equalIn_int W 9998 53 .u64 .u64 x y E;obtain⟨B,s,w,A,z,n,l,o,rfl⟩:=JE ha;obtain⟨h,p,k,m,r,j,i,t,rfl⟩:=JE hb;have F:decide ([B,s,w,A,z,n,l,o]=[h,p,k,m,r,j,i,t])=(B==h&&(s==p&&(w==k&&(A==m&&(z==r&&(n==j&&(l==i&&o==t))))))):=by rw[kzl,kqo];simp
 have I:∀u v,(Op.equalIn 10000 242 u v)=(Op.equalIn (9999+1) 242 u v):=λ_ _=>rfl;rw[I,F];unfold Op.equalIn pU;simp only[kzy,List.flatMap_nil,ae,kzn,kz2];simp[go_sem,run_underlying G,Sem.run_bind,H,List.forIn_cons];simp only[Int.ofNat_inj];by_cases c:B=h
 .by_cases d:s=p
  .by_cases e:w=k
   .by_cases f:A=m
    .by_cases g:z=r
     .by_cases q:n=j
      .by_cases C:l=i
       .by_cases D:o=t<;>simp[c,d,e,f,g,q,C,D,go_sem]
       simp[c,d,e,f,g,q,C,go_sem]
      simp[c,d,e,f,g,q,go_sem]
     simp[c,d,e,f,g,go_sem]
    simp[c,d,e,f,go_sem]
   simp[c,d,e,go_sem]
  simp[c,d,go_sem]
 simp[c,go_sem]
theorem Hq(p q a b:Int)(W:World):(Op.equalIn 10000 126 (.agg #[.int .i64 p,.int .i64 q]) (.agg #[.int .i64 a,.int .i64 b])).run prog W=.ok (p==a&&q==b) W:=by have g:=underlying126;have e:=underlying3;have d:∀u v,(Op.equalIn 10000 126 u v)=(Op.equalIn (9999+1) 126 u v):=λ_ _=>rfl;have e1:=λ(x y:Int)=>run_equalIn_int W 9998 3 .i64 .i64 x y e;rw[d];unfold Op.equalIn;simp[go_sem,run_underlying g,Sem.run_bind,List.forIn_cons];by_cases f:p=a<;>by_cases c:q=b<;>simp[f,c,go_sem]
theorem Bx.c8{x5 x6 x7:Value}(h:Bx w g t #[x0,x1,x2,x3,x4,x5,x6,x7]):w.cell? ⟨g,0,none⟩=some x0/\w.cell? ⟨g,1,none⟩=some x1/\w.cell? ⟨g,2,none⟩=some x2 /\
 w.cell? ⟨g,3,none⟩=some x3/\w.cell? ⟨g,4,none⟩=some x4/\w.cell? ⟨g,5,none⟩=some x5/\w.cell? ⟨g,6,none⟩=some x6/\w.cell? ⟨g,7,none⟩=some x7:=
 ⟨h.cell 0,h.cell 1,h.cell 2,h.cell 3,h.cell 4,h.cell 5,h.cell 6,h.cell 7⟩
theorem at_s2a{ops:Array Oper}{rest:List Oper}{a:Act}{Q:Exit->Act->World->Prop}{dst:Option Tmp}{type:TypeId}{pos:String}{after:Array Edge}{guard:Option (Nat × Bool)}(ty:TypeId)(x:Operand)(h:wpList P ops Q ({ dst:=dst,op:=.sliceToArrayPointer ty x,type:=type,pos:=pos,after:=after,guard:=guard }::rest) a w):wpList P ops Q ({ dst:=dst,op:=.sliceToArrayPointer ty x,type:=type,pos:=pos,after:=after,guard:=guard }::rest) a w:=h
theorem wC{k:Nat}(hk:k<l.length):(pU l)[k]? = some (.int .u64 (wd l k:Int)):=by unfold pU;have:=ja ae 1 bY l k 0 hk (by omega);rw[kxq,kxa] at this;rw[List.getElem?_toArray,this,cF hk];rfl
theorem FQ{B off:Nat}{cs:List Value}(h:Rd w B (some ⟨b,off,none⟩) cs):w.rangeAt b off cs:=λj v c=>by have a:=(kza.1 c).1;obtain⟨b',off',e,-,d⟩:=h (by intro e;rw[e] at a;simp at a);cases e;rw[d j a,<-c,kql a]
def spNo (x y i:Nat):Prop:=¬ (256<=x/\x<256+8*i/\x%8=0/\y<=8)
def spT (x n y t:Nat):Prop:=¬ (x=n/\y<t)
theorem Dq{x y i:Nat}(h:spNo x y i)(h2:¬ (x=256+8*i/\y<=8)):spNo x y (i+1):=λ⟨c,h4,d,a⟩=>by
 by_cases b:x<256+8*i
 .exact h ⟨c,b,d,a⟩
 .exact h2 ⟨by omega,a⟩
theorem so(A:Option Addr)(l:List Nat)(c:Nat)(w:World)(q:l.length=8)(hr:RdW w w.heap.size A l):
 Calls prog 116 #[.slice A 8 c] w λe w'=>e=.returned (.tuple #[spV l,.int .i64 (kM l)])/\Below w.heap.size w w':=by
 obtain⟨p0,p1,x,y,p4,p5,p6,p7,u⟩:=JE q;obtain⟨b,T,rfl,hb,-⟩:=RdW.at_ hr (show 0<l.length by omega);have H:=hid (λh=>ab ((wd l 2:Nat):Int) |>.1 h);have C:=hid (λh=>wJ (l:=l) h);have G:=hid (λh=>nF (l:=l) h);have Z:=hid (λh=>np (l:=l) h);have z:Hid (ak ((wd l 2:Nat):Int)=true->wd l 3<=8->qC l=decide (spL (wd l 2) (wd l 3)=l)):=hid λh1 h2=>by
  unfold qC;rw[h1,decide_eq_true h2];rfl
 have V:=hid (show ∀W,Below w.heap.size w W->W.rangeAt b T (l.flatMap ae) from λW h=>FQ (Rd.below hr h));have H8:=hid (show (pU l).size=8 by rw[Ah,q]);have N:=hid (show (l.flatMap ae).length=8 by rw[cm _ 1 bY,q]);have H1:=hid (Gt l);have g2:=wC (l:=l) (k:=2) (by omega);have g3:=wC (l:=l) (k:=3) (by omega);have x0:=Bx.new w 126 #[.int .i64 0,.int .i64 0];have X0:=hid x0;have hlt2:Hid (w.heap.size<=w.heap.size+1+1):=hid (by omega);have Q:=hid ((((kqk w.heap.size w).alloc (kqa _) (.cells #[.int .i64 0,.int .i64 0] 126)).alloc (by simp) (.cells #[.int .i64 0,.int .i64 0] 126)));have x1:=Bx.new (w.alloc (.cells #[.int .i64 0,.int .i64 0] 126)) 126 #[.int .i64 0,.int .i64 0];rw[kqm] at x1;have X1:=hid x1;have x2:=Bx.new ((w.alloc (.cells #[.int .i64 0,.int .i64 0] 126)).alloc (.cells #[.int .i64 0,.int .i64 0] 126)) 242 #[.int .u64 0,.int .u64 0,.int .u64 0,.int .u64 0,.int .u64 0,.int .u64 0,.int .u64 0,.int .u64 0];rw[kqm,kqm] at x2;have X2:=hid x2;have HL:=hid q;have hzv:=Hb;have hx:wd l 2=x:=by rw[u];rfl
 have hy:wd l 3=y:=by rw[u];rfl
 have HA:=hid (show pU l=#[.int .u64 (p0:Int),.int .u64 (p1:Int),.int .u64 (x:Int),.int .u64 (y:Int),.int .u64 (p4:Int),.int .u64 (p5:Int),.int .u64 (p6:Int),.int .u64 (p7:Int)] by rw[u];rfl);rw[hx] at H C Z z g2;rw[hy] at C Z z g3;have G2:=hid g2;have G3:=hid g3;have Y:Hid ((l.flatMap ae).toArray=pU l):=hid rfl;have R:(prog.info? 242).map (·.size)=some (l.flatMap ae).length:=by rw[N.out];exact s9
 have Li:(prog.info? 242).map (·.size)=some (pU l).size:=by rw[H8.out];exact s9
 have Ll:(pU l).size=(#[.int .u64 0,.int .u64 0,.int .u64 0,.int .u64 0,.int .u64 0,.int .u64 0,.int .u64 0,.int .u64 0]:Array Value).size:=H8.out;clear hx hy hr q x0 x1 x2 g2 g3 u;obtain⟨cs,Lc⟩:=xq (l.flatMap ae);rw[Lc] at V N Y R;clear Lc;go_enter func116,ntmps116;go_wp2_with fail
 go_step3
 go_wp2_with (first
  | ((with_reducible refine at_s2a 242 _ ?_);refine rM rfl (.pointer (some ⟨b,T,none⟩)) (by unfold execOp;simp only[Sem.run_bind,Act.eval,go_sem];rfl) ?_)
  | ((with_reducible refine aQ 242 (.tmp 13) ?_);refine wpList_load_mid rfl _ _ rfl b T (by rfl) cs _ (V.out _ Q.out) underlying242 (by rfl) R ?_;rw[Y.out])
  | ((with_reducible refine ar 242 (.tmp 5) _ ?_);refine ao rfl _ _ _ rfl (w.heap.size+1+1) 242 #[.int .u64 0,.int .u64 0,.int .u64 0,.int .u64 0,.int .u64 0,.int .u64 0,.int .u64 0,.int .u64 0] (pU l) (by rfl) (by rfl) X2.out Ll Li H1.out ?_;intro a Lf Lg;have j:=hid Lf;have E:=hid Lg;clear Lf Lg))
 go_step3
 have s:=hid (E.out.bx ((X0.out.alloc _).alloc _) (by omega));have f:=hid (E.out.bx (X1.out.alloc _) (by omega));have r:=hid (E.out.below (Q.out.alloc (by simp;omega) _) (by omega));have c2:=(j.out.cell 2).trans G2.out;have c3:=(j.out.cell 3).trans G3.out;have hl3:=j.out.lt;clear V N Y R X2 X0 X1 Q E;go_wp2_with fail
 go_loop [6] (λv=>∃i:Nat,i<=225/\v=.int .i64 ((256+8*i:Nat):Int)/\Hid (spNo x y i)) (λv=>4000-(intOf v).toNat)
 case atStart=>exact⟨0,kqz _,rfl,hid λh=>by omega⟩
 obtain⟨i,hi,rfl,HN⟩:=hrel;obtain⟨n,q⟩:=xq (256+8*i);have m:=hid q;rw[q];by_cases Kw:i<225
 .have d1:decide ((n:Int)<=2048)=true:=by rw[kqo];omega
  have d1n:decide (n<=2048)=true:=by rw[kqo];omega
  have w1:IntKind.u64.wrap (n:Int)=(n:Int):=kzw _ (by omega);have w2x:IntKind.i64.wrap ((n:Int)+8)=((n+8:Nat):Int):=by rw[kqt _ (by omega)];omega
  have hn8:n<=2048:=by omega
  clear q;go_wp2_with fail
  go_loop [19] (λv=>∃t:Nat,t<=9/\v=.int .i64 (t:Int)/\Hid (spT x n y t)) (λv=>9-(intOf v).toNat)
  case atStart=>exact⟨0,kqz _,rfl,hid λh=>by omega⟩
  obtain⟨t,ht,rfl,HT⟩:=hrel;by_cases Lk:t<9
  .have w3x:IntKind.u64.wrap (t:Int)=(t:Int):=kzw _ (by omega);have ht9:(t:Int)<9:=by omega
   by_cases P:x=n
   .subst P;by_cases Lb:y=t
    .subst Lb;obtain⟨r0,r1,f0,f1,Lj⟩:=f.out.c2;have Kx:ak (x:Int)=true:=(ab _).2 (by have:=m.out;omega);have O:=hid (z.out Kx (by omega));have HW:=hid (λW=>yq x y W (by omega) (by omega));have La:=λW=>Hq x y 0 0 W;rw[show ((x:Int)==0&&(y:Int)==0)=false by rw[show ((x:Int)==0)=false by rw[kqi];have:=m.out;omega];rfl] at La;have I:=λW=>FT (Ab x y) HL.out W;rw[HA.out] at I;obtain⟨AL,Ld⟩:=xq (pU (spL x y));rw[Ld] at I HW;have HM:=hid I;have U:=hid (show Bx a (w.heap.size+1+1) 242 #[.int .u64 (p0:Int),.int .u64 (p1:Int),.int .u64 (x:Int),.int .u64 (y:Int),.int .u64 (p4:Int),.int .u64 (p5:Int),.int .u64 (p6:Int),.int .u64 (p7:Int)] by rw[<-HA.out];exact j.out);clear Kx Ld I z C HT HN m ht Lk hi Kw;go_wp2_with fail;have x4:=((f.out.set_ 0 (.int .i64 (x:Int))).set_ 1 (.int .i64 (y:Int)));have J:=(U.out.far (p:=⟨w.heap.size+1,0,none⟩) (by simp) (.int .i64 (x:Int))).far (p:=⟨w.heap.size+1,1,none⟩) (by simp) (.int .i64 (y:Int));have X04:=hid ((s.out.far (p:=⟨w.heap.size+1,0,none⟩) (by simp) (.int .i64 (x:Int))).far (p:=⟨w.heap.size+1,1,none⟩) (by simp) (.int .i64 (y:Int)))
     have o:=hid ((r.out.setCell (p:=⟨w.heap.size+1,0,none⟩) (by simp) (.int .i64 (x:Int))).setCell (p:=⟨w.heap.size+1,1,none⟩) (by simp) (.int .i64 (y:Int)));obtain⟨W4,Kz⟩:∃W4,(a.setCell ⟨w.heap.size+1,0,none⟩ (.int .i64 (x:Int))).setCell ⟨w.heap.size+1,1,none⟩ (.int .i64 (y:Int))=W4:=⟨_,rfl⟩;rw[Kz] at x4 J X04 o |-;obtain⟨q0,q1,-⟩:=x4.c2;obtain⟨e0,e1,e2,e3,e4,e5,e6,e7⟩:=J.c8;have XL4:=hid J;have X4:=hid x4;clear Kz s f j U r c2 c3 r0 r1 f0 f1 Lj x4 J;have hm:∀W,(Op.equalIn 10000 242 (.agg AL) (.agg #[.int .u64 (p0:Int),.int .u64 (p1:Int),.int .u64 (x:Int),.int .u64 (y:Int),.int .u64 (p4:Int),.int .u64 (p5:Int),.int .u64 (p6:Int),.int .u64 (p7:Int)])).run prog W=.ok (decide (spL x y=l)) W:=HM.out;obtain⟨dq,Ky⟩:=xq (decide (spL x y=l));rw[Ky] at hm O;clear Ky;cases dq
     all_goals
      go_region_held3 (λX:World=>X.cell? ⟨w.heap.size+1,0,none⟩=some (.int .i64 (x:Int))/\X.cell? ⟨w.heap.size+1,1,none⟩=some (.int .i64 (y:Int))/\X.cell? ⟨w.heap.size+1+1,0,none⟩=some (.int .u64 (p0:Int))/\X.cell? ⟨w.heap.size+1+1,1,none⟩=some (.int .u64 (p1:Int))/\X.cell? ⟨w.heap.size+1+1,2,none⟩=some (.int .u64 (x:Int))/\X.cell? ⟨w.heap.size+1+1,3,none⟩=some (.int .u64 (y:Int))/\X.cell? ⟨w.heap.size+1+1,4,none⟩=some (.int .u64 (p4:Int))/\X.cell? ⟨w.heap.size+1+1,5,none⟩=some (.int .u64 (p5:Int))/\X.cell? ⟨w.heap.size+1+1,6,none⟩=some (.int .u64 (p6:Int))/\X.cell? ⟨w.heap.size+1+1,7,none⟩=some (.int .u64 (p7:Int))) (go_keep)
       (first | (go_at_call 174;refine (HW.out _).mono ?_;rintro e w5 ⟨rfl,D⟩;have x45:=(show Bx W4.drew _ _ _ from X4.out).up D X4.out.lt;have L:=(show Bx W4.drew _ _ _ from XL4.out).up D XL4.out.lt;obtain⟨k0,k1,-⟩:=x45.c2;obtain⟨m0,m1,m2,m3,m4,m5,m6,m7⟩:=L.c8;have B:=hid ((show Bx W4.drew _ _ _ from X04.out).up D X04.out.lt);have Lh:=hid (o.out.drew.trans (D.mono o.out.size));clear x45 L))
      clear q0 q1 e0 e1 e2 e3 e4 e5 e6 e7 m0 m1 m2 m3 m4 m5 m6 m7;have hg5:=B.out.lt;obtain⟨v0,v1,f0,f1,-⟩:=B.out.c2;go_wp2_with fail;rw[Exit.noGoto_ret]
     .have M:=hid (G.out O.out);exact kqq (v:=.tuple #[.agg #[.int .i64 0,.int .i64 0],.int .i64 50]) (cO results116 _ ((B.out.set_ 0 _).set_ 1 _) rfl rfl) rfl ⟨by rw[M.out.1,M.out.2],(Lh.out.setCell (by simp) _).setCell (by simp) _⟩
     have M:=hid (Z.out O.out);exact kqq (v:=.tuple #[.agg #[.int .i64 (x:Int),.int .i64 (y:Int)],.int .i64 0]) (cO results116 _ ((B.out.set_ 0 _).set_ 1 _) rfl rfl) rfl ⟨by rw[M.out.1,M.out.2],(Lh.out.setCell (by simp) _).setCell (by simp) _⟩
    have e1:((t:Int)==(y:Int))=false:=by rw[kqi];omega
    have e1n:(t==y)=false:=by rw[kqi];omega
    have Eq:Hid (spT x x y (t+1)):=hid λh=>HT.out ⟨rfl,by omega⟩;clear Lb;go_wp2_with fail
    go_round
    case rel=>exact⟨t+1,by omega,by go_num,Eq⟩
    case measure=>simp[intOf];omega
   have e1:((n:Int)==(x:Int))=false:=by rw[kqi];omega
   have e1n:(n==x)=false:=by rw[kqi];omega
   have Eq:Hid (spT x n y (t+1)):=hid λh=>P h.1;clear P;go_wp2_with fail
   go_round
   case rel=>exact⟨t+1,by omega,by go_num,Eq⟩
   case measure=>simp[intOf];omega
  obtain rfl:t=9:=by omega
  have G:Hid (spNo x y (i+1)):=hid (Dq HN.out λh=>HT.out ⟨by have:=m.out;omega,by omega⟩);go_wp2_with fail
  go_round
  case rel=>exact⟨i+1,by omega,by have:=m.out;go_num,G⟩
  case measure=>simp[intOf];omega
 obtain rfl:i=225:=by omega
 have d1:decide ((n:Int)<=2048)=false:=by rw[kqh];omega
 have d1n:decide (n<=2048)=false:=by rw[kqh];omega
 clear q Kw;have M:=hid (G.out (C.out λh=>HN.out ⟨by have:=H.out h.1;omega,by have:=H.out h.1;omega,by have:=H.out h.1;omega,h.2⟩));have U:=hid (show Bx a (w.heap.size+1+1) 242 #[.int .u64 (p0:Int),.int .u64 (p1:Int),.int .u64 (x:Int),.int .u64 (y:Int),.int .u64 (p4:Int),.int .u64 (p5:Int),.int .u64 (p6:Int),.int .u64 (p7:Int)] by rw[<-HA.out];exact j.out);have La:=λW=>Hq 0 0 0 0 W;obtain⟨q0,q1,-⟩:=f.out.c2;clear c2 c3;go_wp2_with fail;have ct0:∀g:SW (λX:World=>Below a.heap.size a X),g.w.cell? ⟨w.heap.size+1,0,none⟩=some (.int .i64 0):=λg=>(g.ok.cell (p:=⟨w.heap.size+1,0,none⟩) f.out.lt).trans q0;have ct1:∀g:SW (λX:World=>Below a.heap.size a X),g.w.cell? ⟨w.heap.size+1,1,none⟩=some (.int .i64 0):=λg=>(g.ok.cell (p:=⟨w.heap.size+1,1,none⟩) f.out.lt).trans q1
 refine rU (S:=λX:World=>Below a.heap.size a X) ((0,0,0)::(0,1,0)::(0,2,0)::(0,3,0)::(0,4,0)::(0,6,0)::(1,5,0)::(0,7,0)::(0,8,0)::[]) (.one _ true (none)::.one _ true (none)::.one _ true (none)::.one _ true (none)::.one _ true (some (some 41,false))::.one _ true (some (some 41,false))::.one _ false (some (some 41,false))::.one _ true (some (some 41,false))::.one _ true (none)::[]) (by kernel_rfl) (by kernel_rfl) (by decide) (by kernel_rfl) (by rfl) (λ_ _ d _ _ h=>by cases d<;>exact h) (kqk _ _).drew ?_;have F:=hid ((kqk a.heap.size a).drew);obtain⟨X0,Le⟩:=xq a.drew;rw[Le] at F |-;clear Le;have hne:Nonempty (SW (λX:World=>Below a.heap.size a X)):=⟨⟨X0,F.out⟩⟩
 iterate 6 (first | (refine jk (by rfl) ?_;(try simp only[Act.put,kqb,kqg,kqf])) | (refine oH (by rfl) ?_;intro K hK;go_big_quiet_op;go_big_quiet_on))
 (refine jk (by rfl) ?_;(try simp only[Act.put,kqb,kqg,kqf]))
 iterate 2 (first | (refine jk (by rfl) ?_;(try simp only[Act.put,kqb,kqg,kqf])) | (refine oH (by rfl) ?_;intro K hK;go_big_quiet_op;go_big_quiet_on))
 refine GY ?_;have X06:=hid (s.out.up F.out s.out.lt);have o:=hid (r.out.trans (F.out.mono r.out.size));have hg6:=X06.out.lt;obtain⟨v0,v1,f0,f1,-⟩:=X06.out.c2;clear q0 q1;go_wp2_with fail;rw[Exit.noGoto_ret];exact kqq (v:=.tuple #[.agg #[.int .i64 0,.int .i64 0],.int .i64 50]) (cO results116 _ ((X06.out.set_ 0 _).set_ 1 _) rfl rfl) rfl ⟨by rw[M.out.1,M.out.2],(o.out.setCell (by simp) _).setCell (by simp) _⟩
theorem Bx.c4(h:Bx w g t #[x0,x1,x2,x3]):w.cell? ⟨g,0,none⟩=some x0/\w.cell? ⟨g,1,none⟩=some x1/\w.cell? ⟨g,2,none⟩=some x2/\w.cell? ⟨g,3,none⟩=some x3 /\
 w.frozen? ⟨g,0,none⟩=false/\w.frozen? ⟨g,1,none⟩=false/\w.frozen? ⟨g,2,none⟩=false/\w.frozen? ⟨g,3,none⟩=false/\g<w.heap.size:=
 ⟨h.cell 0,h.cell 1,h.cell 2,h.cell 3,h.frozen 0,h.frozen 1,h.frozen 2,h.frozen 3,h.lt⟩
theorem zz(w:World):Calls prog 115 #[] w λe w'=>e=.returned (.agg #[.int .i64 0,.int .i64 8])/\Below w.heap.size w w':=by
 have hb:∀W,(Instr.build 179 #[(0,.int .i64 0),(1,.int .i64 8)]).run prog W=.ok (.agg #[.int .i64 0,.int .i64 8]) W:=λ_=>by kernel_rfl
 have b:=Bx.new w 179 #[.int .i64 0,.int .i64 0];obtain⟨q0,q1,f0,f1,hg⟩:=b.c2;go_enter func115,ntmps115;go_wp2_with fail;have a:=Bx.new w 179 #[.int .i64 0,.int .i64 8];obtain⟨p0,p1,-⟩:=a.c2;exact kqq (v:=.agg #[.int .i64 0,.int .i64 8]) (by simp[results,results115,go_sem]) rfl ⟨rfl,(kqk w.heap.size w).alloc (kqa _) _⟩
theorem Hn(l:List Nat):∃a b:Int,spV l=.agg #[.int .i64 a,.int .i64 b]/\(kM l=0->a=((wd l 2:Nat):Int)/\b=((wd l 3:Nat):Int)):=by
 cases h:qC l with
 | true=>exact⟨_,_,(np h).1,λ_=>⟨rfl,rfl⟩⟩
 | false=>exact⟨0,0,(nF h).1,λc=>by rw[(nF h).2] at c;cases c⟩
theorem zQ :kM l=0↔qC l=true:=by unfold kM;split<;>simp_all
theorem cp_is(ws:List Nat)(a:Nat){x y:Int}(hv:kM (sp8 ws a)=0->x=((wd (sp8 ws a) 2:Nat):Int)/\y=((wd (sp8 ws a) 3:Nat):Int)):(kU ws a=if kM (sp8 ws a)=0 then (x==(ws.length:Int)) else false)/\(kU ws a=true->y=((wd ws (a+3):Nat):Int)):=by
 have c:wd (sp8 ws a) 2=wd ws (a+2):=lh (by omega);have e:wd (sp8 ws a) 3=wd ws (a+3):=lh (by omega);rw[c,e] at hv;have b:kU ws a=if kM (sp8 ws a)=0 then (x==(ws.length:Int)) else false:=by
  unfold kU;by_cases h:kM (sp8 ws a)=0
  .rw[if_pos h,zQ.1 h,kzq,(hv h).1,kzl,kqx,kqx];omega
  rw[if_neg h,show qC (sp8 ws a)=false by
   cases d:qC (sp8 ws a) with
   | false=>rfl
   | true=>exact absurd (zQ.2 d) h]
  rfl
 refine⟨b,λh=>?_⟩;rw[b] at h;split at h
 .rename_i h2;exact (hv h2).2
 cases h
theorem FO(A:Option Addr)(ws:List Nat)(c n:Nat)(w:World)(hn:ws.length=n)(hm:n<=9223372036854775807)(hc:n<=c)(hr:RdW w w.heap.size A ws):
 Calls prog 68 #[.slice A n c] w λe w'=>Cu ws e/\Below w.heap.size w w':=by
 subst hn;have HR:=hid hr;have Kz:=hid (λW=>aB A ws.length c W hm);have M:=hid (((kqk w.heap.size w).alloc (kqa _) (.cells #[.int .i64 0,.int .i64 0] 126)).alloc (by simp) (.cells #[.bool false,.bool false] 127));have x0:=(Bx.new w 126 #[.int .i64 0,.int .i64 0]).alloc (.cells #[.bool false,.bool false] 127);have x1:=Bx.new (w.alloc (.cells #[.int .i64 0,.int .i64 0] 126)) 127 #[.bool false,.bool false];rw[kqm] at x1;have X0:=hid x0;have X1:=hid x1;clear x0 x1 hr;cases hs:ak (ws.length:Int)
 .have HV:=hid (ug hs);rw[bL hs] at Kz;clear hs hm hc;go_enter func68,ntmps68;go_wp2_with fail;refine (Kz.out _).mono ?_;rintro e w1 ⟨rfl,rfl⟩;obtain⟨a,T⟩:=xq ((w.alloc (.cells #[.int .i64 0,.int .i64 0] 126)).alloc (.cells #[.bool false,.bool false] 127));rw[T] at X0 X1 M |-;clear T;obtain⟨v0,v1,f0,f1,hg0⟩:=X0.out.c2;obtain⟨v2,v3,f2,f3,Ls⟩:=X1.out.c2;go_wp2_with fail;exact kqq (v:=.tuple #[.agg #[.int .i64 0,.int .i64 0],.agg #[.bool false,.bool false],.int .i64 8]) (db results68 _ ((((X0.out.set_ 0 _).set_ 1 _).far (by simp) _).far (by simp) _) ((((X1.out.far (by simp) _).far (by simp) _).set_ 0 _).set_ 1 _) rfl rfl rfl) rfl ⟨⟨0,false,false,by rw[HV.out.1,HV.out.2];rfl⟩,(((M.out.setCell (by simp) _).setCell (by simp) _).setCell (by simp) _).setCell (by simp) _⟩
 have hb:=(ab _).1 hs;rw[aV hs] at Kz;obtain⟨b,off,rfl,Lo,-⟩:=RdW.at_ HR.out (show 0<ws.length by omega);obtain⟨l,o,Lj,Lk⟩:=Hn (sp8 ws 0);obtain⟨m,q,Ll,Lh⟩:=Hn (sp8 ws 8);have Q:=hid (cp_is ws 0 Lk);have V:=hid (cp_is ws 8 Lh);have Ky:=hid (λW (hr:RdW W W.heap.size (some ⟨b,off,none⟩) ws)=>so (some ⟨b,off,none⟩) (sp8 ws 0) c W (mr (by omega)) (by
  have:=DV hr 0
  simpa [Addr.add] using this))
 have R:=hid (λW (hr:RdW W W.heap.size (some ⟨b,off,none⟩) ws)=>so (some ⟨b,off+8,none⟩) (sp8 ws 8) (c-8) W (mr (by omega)) (by
  have:=DV hr 8
  simpa [Addr.add] using this))
 rw[Lj] at Ky;rw[Ll] at R;have HV:Hid (tyN ws=(if kU ws 0=true then some (wd ws 3) else if kU ws 8=true then some (wd ws 11) else none)/\jF ws=if (tyN ws).isSome=true then 0 else 50):=hid ⟨rfl,by unfold jF;rw[if_pos hs]⟩;have k3:8<=c:=by omega
 have k4:16<=c:=by omega
 obtain⟨e0,Ln⟩:=xq (kM (sp8 ws 0));obtain⟨e1,Lm⟩:=xq (kM (sp8 ws 8));rw[Ln] at Ky Q;rw[Lm] at R V;clear hs hb Lj Ll Lk Lh Ln Lm Lo hm hc;go_enter func68,ntmps68;go_wp2_with fail;refine (Kz.out _).mono ?_;rintro e w1 ⟨rfl,rfl⟩;obtain⟨a,T⟩:=xq ((w.alloc (.cells #[.int .i64 0,.int .i64 0] 126)).alloc (.cells #[.bool false,.bool false] 127));rw[T] at X0 X1 M |-;clear T;go_wp2_with fail;refine (zz _).mono ?_;rintro e wS ⟨rfl,O⟩;have x6:=(Bx.new a 178 #[.int .i64 0,.int .i64 0,.int .i64 0,.int .i64 0]).alloc (.cells #[.bool false,.bool false] 127);have x7:=Bx.new (a.alloc (.cells #[.int .i64 0,.int .i64 0,.int .i64 0,.int .i64 0] 178)) 127 #[.bool false,.bool false];rw[kqm] at x7;have z:=hid (x6.up O x6.lt);have B:=hid (x7.up O x7.lt);have X0S:=hid (((X0.out.alloc (.cells #[.int .i64 0,.int .i64 0,.int .i64 0,.int .i64 0] 178)).alloc (.cells #[.bool false,.bool false] 127)).up O ((X0.out.alloc (.cells #[.int .i64 0,.int .i64 0,.int .i64 0,.int .i64 0] 178)).alloc (.cells #[.bool false,.bool false] 127)).lt);have X1S:=hid (((X1.out.alloc (.cells #[.int .i64 0,.int .i64 0,.int .i64 0,.int .i64 0] 178)).alloc (.cells #[.bool false,.bool false] 127)).up O ((X1.out.alloc (.cells #[.int .i64 0,.int .i64 0,.int .i64 0,.int .i64 0] 178)).alloc (.cells #[.bool false,.bool false] 127)).lt)
 have s:=M.out.size;have Ls:=X1.out.lt;have Lp:=hid (((M.out.alloc s (.cells #[.int .i64 0,.int .i64 0,.int .i64 0,.int .i64 0] 178)).alloc (by simp;omega) (.cells #[.bool false,.bool false] 127)).trans (O.mono (by simp;omega)));obtain⟨P,Lg⟩:=xq (kU ws 0);obtain⟨C,Li⟩:=xq (kU ws 8);rw[Lg] at Q HV;rw[Li] at V HV;clear Lg Li x6 x7 O X0 X1 M;go_wp2_with fail;have ix0:∀w,(Instr.index 179 (.agg #[.int .i64 0,.int .i64 8]) (.int .i64 0)).run prog w=.ok (.int .i64 0) w:=λ_=>by kernel_rfl
 have ix1:∀w,(Instr.index 179 (.agg #[.int .i64 0,.int .i64 8]) (.int .i64 1)).run prog w=.ok (.int .i64 8) w:=λ_=>by kernel_rfl
 go_loopw [20] (λi wr=>∃k:Nat,k<=2/\i=.int .i64 k/\Hid (Bx wr w.heap.size 126 #[.int .i64 0,.int .i64 0])/\Hid (Bx wr (w.heap.size+1) 127 #[.bool false,.bool false])/\Hid (k=0->Bx wr a.heap.size 178 #[.int .i64 0,.int .i64 0,.int .i64 0,.int .i64 0]/\Bx wr (a.heap.size+1) 127 #[.bool false,.bool false])/\Hid (k=1->Bx wr a.heap.size 178 #[.int .i64 l,.int .i64 o,.int .i64 0,.int .i64 0]/\Bx wr (a.heap.size+1) 127 #[.bool P,.bool false])/\Hid (k=2->Bx wr a.heap.size 178 #[.int .i64 l,.int .i64 o,.int .i64 m,.int .i64 q]/\Bx wr (a.heap.size+1) 127 #[.bool P,.bool C])/\Hid (Below w.heap.size w wr)) (λi _=>2-(intOf i).toNat)
 case atStart=>exact⟨0,kqz _,rfl,X0S,X1S,hid λ_=>⟨z.out,B.out⟩,hid λh=>by omega,hid λh=>by omega,Lp⟩
 obtain⟨k,hk,rfl,L,N,T0,T1,T2,Z⟩:=hrel;by_cases h0:k=0
 .subst h0;have z:=hid (T0.out rfl).1;have B:=hid (T0.out rfl).2;clear T0 T1 T2;have hz:=Z.out.size;have Kw:=hid (Ky.out wr (HR.out.up Z.out hz));by_cases he:e0=0
  .have hq:(l==(ws.length:Int))=P:=by have:=Q.out.1;rw[if_pos he] at this;exact this.symm
   have HQ:=hid hq;subst he;go_wp2_with fail;refine Kw.out.mono ?_;rintro e r ⟨rfl,d⟩;have E:=d.size;have x:=hid ((L.out.up d L.out.lt).alloc (.cells #[.int .i64 l,.int .i64 o] 126));have y:=hid ((N.out.up d N.out.lt).alloc (.cells #[.int .i64 l,.int .i64 o] 126));have f:=((z.out.up d z.out.lt).alloc (.cells #[.int .i64 l,.int .i64 o] 126));have j:=((B.out.up d B.out.lt).alloc (.cells #[.int .i64 l,.int .i64 o] 126));have g:=Bx.new r 126 #[.int .i64 l,.int .i64 o];have t:=hid ((Z.out.trans (d.mono hz)).alloc (kz7 hz E) (.cells #[.int .i64 l,.int .i64 o] 126));have Le:=z.out.lt;have La:=B.out.lt;clear d;go_wp2_with fail;obtain⟨J,u⟩:=xq (r.alloc (.cells #[.int .i64 l,.int .i64 o] 126));rw[u] at x y f j g t |-;clear u;obtain⟨q0,q1,-,-,Lb⟩:=g.c2;obtain⟨p0,p1,p2,p3,p4,p5,p6,p7,Lf⟩:=f.c4;obtain⟨s0,s1,s2,s3,Ld⟩:=j.c2;have G:=hid f;have F:=hid j;have XS5:=hid (show Bx J.drew _ _ _ from g);have D:r.heap.size≠a.heap.size:=by omega
   have I:r.heap.size≠a.heap.size+1:=by omega
   clear f j g;have Eq:=D.symm;have Y:=I.symm
   first | (go_region_held3 (λX:World=>X.cell? ⟨r.heap.size,0,none⟩=some (.int .i64 l)/\X.cell? ⟨r.heap.size,1,none⟩=some (.int .i64 o)) (go_keep) (fail)) | fail
   clear q0 q1 p0 p1 p2 p3 p4 p5 p6 p7 s0 s1 s2 s3;go_wp2_with fail;have Z0:=hid (((x.out.far (p:=⟨a.heap.size,0,none⟩) (by simp;omega) (.int .i64 l)).far (p:=⟨a.heap.size,1,none⟩) (by simp;omega) (.int .i64 o)).far (p:=⟨a.heap.size+1,0,none⟩) (by simp;omega) (.bool P));have Z1:=hid (((y.out.far (p:=⟨a.heap.size,0,none⟩) (by simp;omega) (.int .i64 l)).far (p:=⟨a.heap.size,1,none⟩) (by simp;omega) (.int .i64 o)).far (p:=⟨a.heap.size+1,0,none⟩) (by simp;omega) (.bool P));have Z6:=hid (((G.out.set_ 0 (.int .i64 l)).set_ 1 (.int .i64 o)).far (p:=⟨a.heap.size+1,0,none⟩) (by simp) (.bool P));have Z7:=hid (((F.out.far (p:=⟨a.heap.size,0,none⟩) (by simp) (.int .i64 l)).far (p:=⟨a.heap.size,1,none⟩) (by simp) (.int .i64 o)).set_ 0 (.bool P));have ZB:=hid (((t.out.setCell (p:=⟨a.heap.size,0,none⟩) s (.int .i64 l)).setCell (p:=⟨a.heap.size,1,none⟩) s (.int .i64 o)).setCell (p:=⟨a.heap.size+1,0,none⟩) (kva s) (.bool P));go_roundw
   case rel=>exact⟨1,by omega,by go_num,Z0,Z1,hid λh=>absurd h (by decide),hid λh=>⟨Z6.out,Z7.out⟩,hid λh=>absurd h (by decide),hid ZB.out.drew⟩
   case measure=>simp[intOf]
  have hq:P=false:=by have:=Q.out.1;rw[if_neg he] at this;exact this
  subst hq;have Lr:(e0==0)=false:=by rw[kqi];exact he
  clear he;go_wp2_with fail;refine Kw.out.mono ?_;rintro e r ⟨rfl,d⟩;have E:=d.size;have x:=hid ((L.out.up d L.out.lt).alloc (.cells #[.int .i64 l,.int .i64 o] 126));have y:=hid ((N.out.up d N.out.lt).alloc (.cells #[.int .i64 l,.int .i64 o] 126));have f:=((z.out.up d z.out.lt).alloc (.cells #[.int .i64 l,.int .i64 o] 126));have j:=((B.out.up d B.out.lt).alloc (.cells #[.int .i64 l,.int .i64 o] 126));have g:=Bx.new r 126 #[.int .i64 l,.int .i64 o];have t:=hid ((Z.out.trans (d.mono hz)).alloc (kz7 hz E) (.cells #[.int .i64 l,.int .i64 o] 126));have Le:=z.out.lt;have La:=B.out.lt;clear d;go_wp2_with fail;obtain⟨J,u⟩:=xq (r.alloc (.cells #[.int .i64 l,.int .i64 o] 126));rw[u] at x y f j g t |-;clear u;obtain⟨q0,q1,-,-,Lb⟩:=g.c2;obtain⟨p0,p1,p2,p3,p4,p5,p6,p7,Lf⟩:=f.c4;obtain⟨s0,s1,s2,s3,Ld⟩:=j.c2;have G:=hid f;have F:=hid j;have XS5:=hid (show Bx J.drew _ _ _ from g);have D:r.heap.size≠a.heap.size:=by omega
  have I:r.heap.size≠a.heap.size+1:=by omega
  clear f j g;have Eq:=D.symm;have Y:=I.symm;refine kz9 (S:=λX:World=>X.cell? ⟨r.heap.size,0,none⟩=some (.int .i64 l)/\X.cell? ⟨r.heap.size,1,none⟩=some (.int .i64 o)) (by kernel_rfl) ⟨q0,q1⟩ (λH=>?_);show wpAnyH _ _ _ _ _ 16 #[false,false,false,false,false,false,false,false,false,false,false,false,false,false,false,false] _ _;refine tj 0 (.int .i64 0) ?_;dsimp only[Act.put,kqe,kqd,kqc,kqb,kqg,kqf];refine tj 1 (.int .i64 0) ?_;dsimp only[Act.put,kqe,kqd,kqc,kqb,kqg,kqf];refine tj 2 (.agg #[.int .i64 l,.int .i64 o]) ?_;dsimp only[Act.put,kqe,kqd,kqc,kqb,kqg,kqf];refine tj 3 (.int .i64 e0) ?_;dsimp only[Act.put,kqe,kqd,kqc,kqb,kqg,kqf];refine tj 4 (.bool false) ?_;dsimp only[Act.put,kqe,kqd,kqc,kqb,kqg,kqf];refine tj 5 (.bool false) ?_;dsimp only[Act.put,kqe,kqd,kqc,kqb,kqg,kqf];refine sk 6 ?_;dsimp only[Act.put,kqe,kqd,kqc,kqb,kqg,kqf];refine sk 7 ?_;dsimp only[Act.put,kqe,kqd,kqc,kqb,kqg,kqf];refine sk 8 ?_;dsimp only[Act.put,kqe,kqd,kqc,kqb,kqg,kqf];refine sk 9 ?_;dsimp only[Act.put,kqe,kqd,kqc,kqb,kqg,kqf];refine sk 10 ?_;dsimp only[Act.put,kqe,kqd,kqc,kqb,kqg,kqf];refine tj 11 (.bool false) ?_;dsimp only[Act.put,kqe,kqd,kqc,kqb,kqg,kqf];refine tj 12 (.pointer (some ⟨a.heap.size,0,none⟩)) ?_
  dsimp only[Act.put,kqe,kqd,kqc,kqb,kqg,kqf];refine kz3 (rs:=[13]) (by kernel_rfl) (by simp) ?_;refine AllReadyH.cons rfl (λK U=>?_) AllReadyH.nil;go_simp;refine U.out _ _ ⟨by go_keep,by go_keep⟩ ?_;clear U K;intro Lt;refine tj 14 (.pointer (some ⟨a.heap.size+1,0,none⟩)) ?_
  dsimp only[Act.put,kqe,kqd,kqc,kqb,kqg,kqf];refine kz3 (rs:=[15]) (by kernel_rfl) (by simp) ?_;refine AllReadyH.cons rfl (λK U=>?_) AllReadyH.nil;go_simp;refine U.out _ _ ⟨by go_keep,by go_keep⟩ ?_;clear U K;intro Lq;refine kxw (by kernel_rfl) ?_ _;clear H;clear q0 q1 p0 p1 p2 p3 p4 p5 p6 p7 s0 s1 s2 s3;go_wp2_with fail;have Z0:=hid (((x.out.far (p:=⟨a.heap.size,0,none⟩) (by simp;omega) (.int .i64 l)).far (p:=⟨a.heap.size,1,none⟩) (by simp;omega) (.int .i64 o)).far (p:=⟨a.heap.size+1,0,none⟩) (by simp;omega) (.bool false));have Z1:=hid (((y.out.far (p:=⟨a.heap.size,0,none⟩) (by simp;omega) (.int .i64 l)).far (p:=⟨a.heap.size,1,none⟩) (by simp;omega) (.int .i64 o)).far (p:=⟨a.heap.size+1,0,none⟩) (by simp;omega) (.bool false));have Z6:=hid (((G.out.set_ 0 (.int .i64 l)).set_ 1 (.int .i64 o)).far (p:=⟨a.heap.size+1,0,none⟩) (by simp) (.bool false));have Z7:=hid (((F.out.far (p:=⟨a.heap.size,0,none⟩) (by simp) (.int .i64 l)).far (p:=⟨a.heap.size,1,none⟩) (by simp) (.int .i64 o)).set_ 0 (.bool false));have ZB:=hid (((t.out.setCell (p:=⟨a.heap.size,0,none⟩) s (.int .i64 l)).setCell (p:=⟨a.heap.size,1,none⟩) s (.int .i64 o)).setCell (p:=⟨a.heap.size+1,0,none⟩) (kva s) (.bool false));go_roundw
  case rel=>exact⟨1,by omega,by go_num,Z0,Z1,hid λh=>absurd h (by decide),hid λh=>⟨Z6.out,Z7.out⟩,hid λh=>absurd h (by decide),hid ZB.out.drew⟩
  case measure=>simp[intOf]
 by_cases h1:k=1
 .subst h1;have z:=hid (T1.out rfl).1;have B:=hid (T1.out rfl).2;clear T0 T1 T2;have hz:=Z.out.size;have Kw:=hid (R.out wr (HR.out.up Z.out hz));by_cases he:e1=0
  .have hq:(m==(ws.length:Int))=C:=by have:=V.out.1;rw[if_pos he] at this;exact this.symm
   have HQ:=hid hq;subst he;go_wp2_with fail;refine Kw.out.mono ?_;rintro e r ⟨rfl,d⟩;have E:=d.size;have x:=hid ((L.out.up d L.out.lt).alloc (.cells #[.int .i64 m,.int .i64 q] 126));have y:=hid ((N.out.up d N.out.lt).alloc (.cells #[.int .i64 m,.int .i64 q] 126));have f:=((z.out.up d z.out.lt).alloc (.cells #[.int .i64 m,.int .i64 q] 126));have j:=((B.out.up d B.out.lt).alloc (.cells #[.int .i64 m,.int .i64 q] 126));have g:=Bx.new r 126 #[.int .i64 m,.int .i64 q];have t:=hid ((Z.out.trans (d.mono hz)).alloc (kz7 hz E) (.cells #[.int .i64 m,.int .i64 q] 126));have Le:=z.out.lt;have La:=B.out.lt;clear d;go_wp2_with fail;obtain⟨J,u⟩:=xq (r.alloc (.cells #[.int .i64 m,.int .i64 q] 126));rw[u] at x y f j g t |-;clear u;obtain⟨q0,q1,-,-,Lb⟩:=g.c2;obtain⟨p0,p1,p2,p3,p4,p5,p6,p7,Lf⟩:=f.c4;obtain⟨s0,s1,s2,s3,Ld⟩:=j.c2;have G:=hid f;have F:=hid j;have XS5:=hid (show Bx J.drew _ _ _ from g);have D:r.heap.size≠a.heap.size:=by omega
   have I:r.heap.size≠a.heap.size+1:=by omega
   clear f j g;have Eq:=D.symm;have Y:=I.symm
   first | (go_region_held3 (λX:World=>X.cell? ⟨r.heap.size,0,none⟩=some (.int .i64 m)/\X.cell? ⟨r.heap.size,1,none⟩=some (.int .i64 q)) (go_keep) (fail)) | fail
   clear q0 q1 p0 p1 p2 p3 p4 p5 p6 p7 s0 s1 s2 s3;go_wp2_with fail;have Z0:=hid (((x.out.far (p:=⟨a.heap.size,2,none⟩) (by simp;omega) (.int .i64 m)).far (p:=⟨a.heap.size,3,none⟩) (by simp;omega) (.int .i64 q)).far (p:=⟨a.heap.size+1,1,none⟩) (by simp;omega) (.bool C));have Z1:=hid (((y.out.far (p:=⟨a.heap.size,2,none⟩) (by simp;omega) (.int .i64 m)).far (p:=⟨a.heap.size,3,none⟩) (by simp;omega) (.int .i64 q)).far (p:=⟨a.heap.size+1,1,none⟩) (by simp;omega) (.bool C));have Z6:=hid (((G.out.set_ 2 (.int .i64 m)).set_ 3 (.int .i64 q)).far (p:=⟨a.heap.size+1,1,none⟩) (by simp) (.bool C));have Z7:=hid (((F.out.far (p:=⟨a.heap.size,2,none⟩) (by simp) (.int .i64 m)).far (p:=⟨a.heap.size,3,none⟩) (by simp) (.int .i64 q)).set_ 1 (.bool C));have ZB:=hid (((t.out.setCell (p:=⟨a.heap.size,2,none⟩) s (.int .i64 m)).setCell (p:=⟨a.heap.size,3,none⟩) s (.int .i64 q)).setCell (p:=⟨a.heap.size+1,1,none⟩) (kva s) (.bool C));go_roundw
   case rel=>exact⟨2,by omega,by go_num,Z0,Z1,hid λh=>absurd h (by decide),hid λh=>absurd h (by decide),hid λh=>⟨Z6.out,Z7.out⟩,hid ZB.out.drew⟩
   case measure=>simp[intOf]
  have hq:C=false:=by have:=V.out.1;rw[if_neg he] at this;exact this
  subst hq;have Lr:(e1==0)=false:=by rw[kqi];exact he
  clear he;go_wp2_with fail;refine Kw.out.mono ?_;rintro e r ⟨rfl,d⟩;have E:=d.size;have x:=hid ((L.out.up d L.out.lt).alloc (.cells #[.int .i64 m,.int .i64 q] 126));have y:=hid ((N.out.up d N.out.lt).alloc (.cells #[.int .i64 m,.int .i64 q] 126));have f:=((z.out.up d z.out.lt).alloc (.cells #[.int .i64 m,.int .i64 q] 126));have j:=((B.out.up d B.out.lt).alloc (.cells #[.int .i64 m,.int .i64 q] 126));have g:=Bx.new r 126 #[.int .i64 m,.int .i64 q];have t:=hid ((Z.out.trans (d.mono hz)).alloc (kz7 hz E) (.cells #[.int .i64 m,.int .i64 q] 126));have Le:=z.out.lt;have La:=B.out.lt;clear d;go_wp2_with fail;obtain⟨J,u⟩:=xq (r.alloc (.cells #[.int .i64 m,.int .i64 q] 126));rw[u] at x y f j g t |-;clear u;obtain⟨q0,q1,-,-,Lb⟩:=g.c2;obtain⟨p0,p1,p2,p3,p4,p5,p6,p7,Lf⟩:=f.c4;obtain⟨s0,s1,s2,s3,Ld⟩:=j.c2;have G:=hid f;have F:=hid j;have XS5:=hid (show Bx J.drew _ _ _ from g);have D:r.heap.size≠a.heap.size:=by omega
  have I:r.heap.size≠a.heap.size+1:=by omega
  clear f j g;have Eq:=D.symm;have Y:=I.symm;refine kz9 (S:=λX:World=>X.cell? ⟨r.heap.size,0,none⟩=some (.int .i64 m)/\X.cell? ⟨r.heap.size,1,none⟩=some (.int .i64 q)) (by kernel_rfl) ⟨q0,q1⟩ (λH=>?_);show wpAnyH _ _ _ _ _ 16 #[false,false,false,false,false,false,false,false,false,false,false,false,false,false,false,false] _ _;refine tj 0 (.int .i64 1) ?_;dsimp only[Act.put,kqe,kqd,kqc,kqb,kqg,kqf];refine tj 1 (.int .i64 1) ?_;dsimp only[Act.put,kqe,kqd,kqc,kqb,kqg,kqf];refine tj 2 (.agg #[.int .i64 m,.int .i64 q]) ?_;dsimp only[Act.put,kqe,kqd,kqc,kqb,kqg,kqf];refine tj 3 (.int .i64 e1) ?_;dsimp only[Act.put,kqe,kqd,kqc,kqb,kqg,kqf];refine tj 4 (.bool false) ?_;dsimp only[Act.put,kqe,kqd,kqc,kqb,kqg,kqf];refine tj 5 (.bool false) ?_;dsimp only[Act.put,kqe,kqd,kqc,kqb,kqg,kqf];refine sk 6 ?_;dsimp only[Act.put,kqe,kqd,kqc,kqb,kqg,kqf];refine sk 7 ?_;dsimp only[Act.put,kqe,kqd,kqc,kqb,kqg,kqf];refine sk 8 ?_;dsimp only[Act.put,kqe,kqd,kqc,kqb,kqg,kqf];refine sk 9 ?_;dsimp only[Act.put,kqe,kqd,kqc,kqb,kqg,kqf];refine sk 10 ?_;dsimp only[Act.put,kqe,kqd,kqc,kqb,kqg,kqf];refine tj 11 (.bool false) ?_;dsimp only[Act.put,kqe,kqd,kqc,kqb,kqg,kqf];refine tj 12 (.pointer (some ⟨a.heap.size,2,none⟩)) ?_
  dsimp only[Act.put,kqe,kqd,kqc,kqb,kqg,kqf];refine kz3 (rs:=[13]) (by kernel_rfl) (by simp) ?_;refine AllReadyH.cons rfl (λK U=>?_) AllReadyH.nil;go_simp;refine U.out _ _ ⟨by go_keep,by go_keep⟩ ?_;clear U K;intro Lt;refine tj 14 (.pointer (some ⟨a.heap.size+1,1,none⟩)) ?_
  dsimp only[Act.put,kqe,kqd,kqc,kqb,kqg,kqf];refine kz3 (rs:=[15]) (by kernel_rfl) (by simp) ?_;refine AllReadyH.cons rfl (λK U=>?_) AllReadyH.nil;go_simp;refine U.out _ _ ⟨by go_keep,by go_keep⟩ ?_;clear U K;intro Lq;refine kxw (by kernel_rfl) ?_ _;clear H;clear q0 q1 p0 p1 p2 p3 p4 p5 p6 p7 s0 s1 s2 s3;go_wp2_with fail;have Z0:=hid (((x.out.far (p:=⟨a.heap.size,2,none⟩) (by simp;omega) (.int .i64 m)).far (p:=⟨a.heap.size,3,none⟩) (by simp;omega) (.int .i64 q)).far (p:=⟨a.heap.size+1,1,none⟩) (by simp;omega) (.bool false));have Z1:=hid (((y.out.far (p:=⟨a.heap.size,2,none⟩) (by simp;omega) (.int .i64 m)).far (p:=⟨a.heap.size,3,none⟩) (by simp;omega) (.int .i64 q)).far (p:=⟨a.heap.size+1,1,none⟩) (by simp;omega) (.bool false));have Z6:=hid (((G.out.set_ 2 (.int .i64 m)).set_ 3 (.int .i64 q)).far (p:=⟨a.heap.size+1,1,none⟩) (by simp) (.bool false));have Z7:=hid (((F.out.far (p:=⟨a.heap.size,2,none⟩) (by simp) (.int .i64 m)).far (p:=⟨a.heap.size,3,none⟩) (by simp) (.int .i64 q)).set_ 1 (.bool false));have ZB:=hid (((t.out.setCell (p:=⟨a.heap.size,2,none⟩) s (.int .i64 m)).setCell (p:=⟨a.heap.size,3,none⟩) s (.int .i64 q)).setCell (p:=⟨a.heap.size+1,1,none⟩) (kva s) (.bool false));go_roundw
  case rel=>exact⟨2,by omega,by go_num,Z0,Z1,hid λh=>absurd h (by decide),hid λh=>absurd h (by decide),hid λh=>⟨Z6.out,Z7.out⟩,hid ZB.out.drew⟩
  case measure=>simp[intOf]
 have h2:k=2:=by omega
 subst h2;have z:=hid (T2.out rfl).1;have B:=hid (T2.out rfl).2;obtain⟨p0,p1,p2,p3,-,-,-,-,-⟩:=z.out.c4;obtain⟨s0,s1,-⟩:=B.out.c2;have hgy0:=L.out.lt;have hgy1:=N.out.lt;obtain⟨v0,v1,f0,f1,-⟩:=L.out.c2;obtain⟨v2,v3,f2,f3,-⟩:=N.out.c2;clear T0 T1 T2;have n1:w.heap.size≠a.heap.size:=by omega
 have n2:w.heap.size≠a.heap.size+1:=by omega
 have n3:w.heap.size+1≠a.heap.size:=by omega
 cases P
 .cases C
  .have HN:Hid (tyN ws=none/\jF ws=50):=hid (by have:=HV.out;simp at this;exact⟨this.1,by rw[this.2,this.1];rfl⟩);go_wp2_with fail;exact kqq (v:=.tuple #[.agg #[.int .i64 0,.int .i64 0],.agg #[.bool false,.bool false],.int .i64 50]) (db results68 _ (show Bx _ _ _ _ from (((L.out.set_ 0 (.int .i64 0)).set_ 1 (.int .i64 0)).far (p:=⟨w.heap.size+1,0,none⟩) (by simp) (.bool false)).far (p:=⟨w.heap.size+1,1,none⟩) (by simp) (.bool false)) (show Bx _ _ _ _ from (((N.out.far (p:=⟨w.heap.size,0,none⟩) (by simp) (.int .i64 0)).far (p:=⟨w.heap.size,1,none⟩) (by simp) (.int .i64 0)).set_ 0 (.bool false)).set_ 1 (.bool false)) rfl rfl rfl) rfl ⟨⟨0,false,false,by rw[HN.out.1,HN.out.2];rfl⟩,(((Z.out.setCell (p:=⟨w.heap.size,0,none⟩) (kqa _) (.int .i64 0)).setCell (p:=⟨w.heap.size,1,none⟩) (kqa _) (.int .i64 0)).setCell (p:=⟨w.heap.size+1,0,none⟩) (kz8 _) (.bool false)).setCell (p:=⟨w.heap.size+1,1,none⟩) (kz8 _) (.bool false)⟩
  have Kx:q=((wd ws 11:Nat):Int):=V.out.2 rfl;have HN:Hid (tyN ws=some (wd ws 11)/\jF ws=0):=hid (by have:=HV.out;simp at this;exact⟨this.1,by rw[this.2,this.1];rfl⟩);have Lc:=hid Kx;clear Kx;go_wp2_with fail
  go_region_held3 (λX:World=>X.cell? ⟨a.heap.size,2,none⟩=some (.int .i64 m)/\X.cell? ⟨a.heap.size,3,none⟩=some (.int .i64 q)/\X.cell? ⟨a.heap.size+1,0,none⟩=some (.bool false)/\X.cell? ⟨a.heap.size+1,1,none⟩=some (.bool true)) (go_keep) (fail)
  go_wp2_with fail;exact kqq (v:=.tuple #[.agg #[.int .i64 m,.int .i64 q],.agg #[.bool false,.bool true],.int .i64 0]) (db results68 _ (show Bx _ _ _ _ from (((L.out.set_ 0 (.int .i64 m)).set_ 1 (.int .i64 q)).far (p:=⟨w.heap.size+1,0,none⟩) (by simp) (.bool false)).far (p:=⟨w.heap.size+1,1,none⟩) (by simp) (.bool true)) (show Bx _ _ _ _ from (((N.out.far (p:=⟨w.heap.size,0,none⟩) (by simp) (.int .i64 m)).far (p:=⟨w.heap.size,1,none⟩) (by simp) (.int .i64 q)).set_ 0 (.bool false)).set_ 1 (.bool true)) rfl rfl rfl) rfl ⟨⟨m,false,true,by rw[HN.out.1,HN.out.2,Lc.out];rfl⟩,((((Z.out.setCell (p:=⟨w.heap.size,0,none⟩) (kqa _) (.int .i64 m)).setCell (p:=⟨w.heap.size,1,none⟩) (kqa _) (.int .i64 q)).setCell (p:=⟨w.heap.size+1,0,none⟩) (kz8 _) (.bool false)).setCell (p:=⟨w.heap.size+1,1,none⟩) (kz8 _) (.bool true)).drew⟩
 have Kx:o=((wd ws 3:Nat):Int):=Q.out.2 rfl;have HN:Hid (tyN ws=some (wd ws 3)/\jF ws=0):=hid (by have:=HV.out;simp at this;exact⟨this.1,by rw[this.2,this.1];rfl⟩);have Lc:=hid Kx;clear Kx;go_wp2_with fail
 go_region_held3 (λX:World=>X.cell? ⟨a.heap.size,0,none⟩=some (.int .i64 l)/\X.cell? ⟨a.heap.size,1,none⟩=some (.int .i64 o)/\X.cell? ⟨a.heap.size+1,0,none⟩=some (.bool true)/\X.cell? ⟨a.heap.size+1,1,none⟩=some (.bool C)) (go_keep) (fail)
 go_wp2_with fail;exact kqq (v:=.tuple #[.agg #[.int .i64 l,.int .i64 o],.agg #[.bool true,.bool C],.int .i64 0]) (db results68 _ (show Bx _ _ _ _ from (((L.out.set_ 0 (.int .i64 l)).set_ 1 (.int .i64 o)).far (p:=⟨w.heap.size+1,0,none⟩) (by simp) (.bool true)).far (p:=⟨w.heap.size+1,1,none⟩) (by simp) (.bool C)) (show Bx _ _ _ _ from (((N.out.far (p:=⟨w.heap.size,0,none⟩) (by simp) (.int .i64 l)).far (p:=⟨w.heap.size,1,none⟩) (by simp) (.int .i64 o)).set_ 0 (.bool true)).set_ 1 (.bool C)) rfl rfl rfl) rfl ⟨⟨l,true,C,by rw[HN.out.1,HN.out.2,Lc.out];rfl⟩,((((Z.out.setCell (p:=⟨w.heap.size,0,none⟩) (kqa _) (.int .i64 l)).setCell (p:=⟨w.heap.size,1,none⟩) (kqa _) (.int .i64 o)).setCell (p:=⟨w.heap.size+1,0,none⟩) (kz8 _) (.bool true)).setCell (p:=⟨w.heap.size+1,1,none⟩) (kz8 _) (.bool C)).drew⟩
end Go.Proofs.YtpcajamacpbjcaaGreat
