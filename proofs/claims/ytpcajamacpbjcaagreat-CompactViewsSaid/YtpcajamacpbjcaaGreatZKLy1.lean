/- Texts laid together: LyK MapB LyC LyD LySup LySur LyTw. -/
import Derived.Test.YtpcajamacpbjcaaGreatZKR19
import Derived.Test.YtpcajamacpbjcaaGreatZKWnt
import Derived.Test.YtpcajamacpbjcaaGreatZKPlain
import Derived.Test.YtpcajamacpbjcaaGreatZKEff
import Derived.Maps.Own
import Derived.Maps.Views
import Derived.Maps.OwnOps
import Derived.Maps.Keyed
import Derived.Test.YtpcajamacpbjcaaGreatZKSup
import Derived.Test.YtpcajamacpbjcaaGreatZKRch
import Derived.Test.YtpcajamacpbjcaaGreatZGH
set_option maxHeartbeats 16000000
set_option maxRecDepth 100000
set_option linter.all false
namespace Go.Proofs.YtpcajamacpbjcaaGreat
open Lib (hid)
open Go.RowKit
variable {O:List Bk}{F l ws:List Nat}{H a b g n r:Nat}{P:Program}{e k t:TypeId}{x0 x1 x2 x3 x4:Value}{w w':World}
open Go.Proofs.Tryz
def Ei (ws:List Nat) (t H:Nat) (e:Ending) (w':World):Prop:=∃(B:Option Addr) (m d:Nat) (L:List Ty),e=.returned (.tuple #[.slice B m d,.int .i64 (if gH ws t=true then 0 else 50)])/\(gH ws t=true->m=L.length/\te w' H (.slice B m d) L/\L.map Ty.l=gx ws t 8)
theorem pb{t:Nat}{B:Option Addr}{m d:Nat}(h:gH ws t=false):Ei ws t H (.returned (.tuple #[.slice B m d,.int .i64 50])) w':=⟨B,m,d,[],by rw[h];rfl,λa=>by rw[h] at a;cases a⟩
theorem Cj(A:Option Addr)(ws:List Nat)(c n t:Nat)(w:World)(hn:ws.length=n)(hs:ak (n:Int)=true)(ht:t<=8)(hr:RdW w w.heap.size A ws)(ho:∀x∈ws,x<18446744073709551616):
 Calls prog 69 #[.slice A n c,.int .i64 (t:Int)] w λe w'=>Ei ws t w.heap.size e w'/\Below w.heap.size w w':=by
 subst hn;have hb:=(af _).1 hs;have HR:=hid hr;have R:=hid (λW=>aJ A ws.length c W (by omega));rw[aW hs] at R;have Eq:Hid (∀k,wd ws k<18446744073709551616):=hid (eX ho);have d0:decide ((t:Int)<0)=false:=by rw[kqc];omega
 have d8:decide ((8:Int)<(t:Int))=false:=by rw[kqc];omega
 have d8n:decide (8<t)=false:=by rw[kqc];omega
 clear hr ho hs;obtain⟨i2,hi,P,Y,O⟩:=kze zD;have HJ:=hid hi;have Fp:=hid P;have Fx:=hid Y;have Fq:=hid O;clear hi P Y O;go_enter func69,ntmps69;go_wp2_with fail;refine (R.out _).mono ?_;rintro e w1 ⟨rfl,rfl⟩;go_wp2_with fail;go_loopw [7,24] (λv i wr=>∃(k:Nat) (L:List Ty),k<=8/\i=.int .i64 k/\Hid (vz ws t k)/\Hid (L.map Ty.l=gx ws t k)/\L.length<=k/\Hid (te wr w.heap.size v L)/\Below w.heap.size w wr) (λ_ i _=>8-(intOf i).toNat)
 case atStart=>exact⟨0,[],kqx _,rfl,hid (λi h=>absurd h (by omega)),hid (by simp[gx]),kqb _,hid ⟨kq1 _ _ _ _,λx hx=>absurd hx (by simp)⟩,kqk _ _⟩
 obtain⟨k,L,hk,rfl,S,M,hLk,u,Z⟩:=hrel;have hz:=Z.size;by_cases Ft:k<8
 .obtain ⟨b,f,rfl,hbb,h0⟩:=RdW.at_ (Rd.below HR.out Z) (show 96+2*k<ws.length by omega);obtain⟨b',off',e',-,h1⟩:=RdW.at_ (Rd.below HR.out Z) (show 96+2*k+1<ws.length by omega);cases e';rw[<-bI] at h0 h1;have a:=hid (λW=>sM (wd ws (96+2*k)) (wd ws (96+2*k+1)) W (Eq.out _) (Eq.out _));have o:=hid (λh=>oi S.out h);have m:=hid (λh=>qV (ws:=ws) (t:=t) Ft h);have d:Hid (Ai ws t k=if k<t then bE (wd ws (96+2*k)) (wd ws (96+2*k+1)) else wd ws (96+2*k)==0&&wd ws (96+2*k+1)==0):=hid rfl;have j:=hid (λh=>wU (ws:=ws) (t:=t) (k:=k) h);have G:=hid (λh=>xM (ws:=ws) (t:=t) (k:=k) h);have i1:IntKind.i64.wrap ((2:Int)*(k:Int))=2*(k:Int):=kqo _ (by omega);have i2':IntKind.i64.wrap ((96:Int)+2*(k:Int))=((96+2*k:Nat):Int):=by rw[kqo _ (by omega)];omega
  have i3:IntKind.i64.wrap (((96+2*k:Nat):Int)+1)=((96+2*k+1:Nat):Int):=by rw[kqo _ (by omega)];omega
  have j1:((96+2*k:Nat):Int)<(ws.length:Int):=by omega
  have j2:(0:Int)<=((96+2*k:Nat):Int):=by omega
  have j3:((96+2*k+1:Nat):Int)<(ws.length:Int):=by omega
  have j4:(0:Int)<=((96+2*k+1:Nat):Int):=by omega
  have hk1:(k:Int)<8:=by omega
  obtain⟨p,hp⟩:=xq (96+2*k);rw[hp] at h0 h1 a d j i2' i3 j1 j2 j3 j4;obtain⟨q,hq⟩:=xq (p+1);rw[hq] at h1 a d j i3 j3 j4;obtain⟨x,hx⟩:=xq (wd ws p);obtain⟨y,hy⟩:=xq (wd ws q);rw[hx] at h0 a d j;rw[hy] at h1 a d j;have Q:=hid Z;clear hx hy hp hq;by_cases r:k<t
  .have d2:decide ((t:Int)<=(k:Int))=false:=by rw[kqc];omega
   have d2n:decide (t<=k)=false:=by rw[kqc];omega
   cases z:bE x y
   .have I:=hid (m.out (by rw[d.out,if_pos r,z]));have E:ei x y=50:=by unfold ei;rw[z];rfl
    have V:bc x y=[]:=by unfold bc;rw[z];rfl
    unfold lu at a;rw[E,V] at a;clear z E V d m o j G r;go_wp2_with fail
    go_region_held3 (λX:World=>X.cell? ⟨b,f+p,none⟩=some (.int .u64 (x:Int))/\X.cell? ⟨b,f+q,none⟩=some (.int .u64 (y:Int))) (go_keep) (fail)
    go_wp2_with fail;refine (a.out _).mono ?_;rintro e w3 ⟨⟨A3,c3,rfl,-⟩,s⟩;have F:=Q.out.drew.trans (s.mono hz);clear s;go_wp2;go_ret2;exact⟨pb I.out,F⟩
   have I:=hid (o.out (by rw[d.out,if_pos r,z]));have H:=hid (j.out r);have E:ei x y=0:=by unfold ei;rw[z];rfl
   unfold lu at a;rw[E] at a;obtain⟨l,hl⟩:=xq (bc x y);rw[hl] at a H;clear z E hl d m o j G r;go_wp2_with fail
   go_region_held3 (λX:World=>X.cell? ⟨b,f+p,none⟩=some (.int .u64 (x:Int))/\X.cell? ⟨b,f+q,none⟩=some (.int .u64 (y:Int))) (go_keep) (fail)
   go_wp2_with fail;refine (a.out _).mono ?_;rintro e w3 ⟨⟨A3,c3,rfl,C⟩,s⟩;have F:=Q.out.drew.trans (s.mono hz);have U:=F.size;have D:=ae (show wr.drew.ownsRow _ _ _ _ _ _ from u.out.1) s (kqb _);have Fr:Hid (∀y∈L,w3.ownsRow w.heap.size 5 1 (.slice y.A y.l.length y.c) y.l.length (y.l.flatMap aZ)):=hid λy hy=>ae (show wr.drew.ownsRow _ _ _ _ _ _ from u.out.2 y hy) s (kqb _);have Fs:=hid (ar C (show w.heap.size<=wr.drew.heap.size from hz));have T:=hid D;have Fu:=hid F;clear s C F u;go_wp2_with (at_builtin;refine kq9 _ rfl _ _ 69 rfl w.heap.size 113 i2 _ 1 24 underlying69 HJ.out Fp.out Fx.out Fq.out rfl (by decide) _ _ _ rfl (D.alloc _) ⟨_,0,none⟩ 1 1 [.slice A3 l.length c3] rfl rfl (bn _ _ _) (by simp[Value.oneCell']) (by unfold maxLen;omega) (by omega) (aH U) ?_;intro v1 w6 B J _;have Fv:=hid (am Fu.out U D J);have Fw:=hid (rv (x:=⟨A3,c3,l⟩) Fr.out Fs.out (T.out.alloc _) (λh=>h.alloc _) J B);clear B J);go_roundw
   case rel=>exact⟨k+1,L++[⟨A3,c3,l⟩],by omega,by go_num,I,hid (by rw[kxu,M.out,H.out];rfl),by simp;omega,Fw,Fv.out⟩
   case measure=>simp[intOf];omega
  have d2:decide ((t:Int)<=(k:Int))=true:=by rw[kql];omega
  have d2n:decide (t<=k)=true:=by rw[kql];omega
  have H:=hid (G.out (by omega));have g:Hid (Ai ws t k=(x==0&&y==0)):=hid (by rw[d.out,if_neg r]);clear a d j G r;by_cases K:x=0
  .subst K;by_cases N:y=0
   .subst N;have I:=hid (o.out (by rw[g.out];rfl));clear m o g;go_wp2_with fail
    go_region_held3 (λX:World=>X.cell? ⟨b,f+p,none⟩=some (.int .u64 ((0:Nat):Int))/\X.cell? ⟨b,f+q,none⟩=some (.int .u64 ((0:Nat):Int))) (go_keep) (fail)
    go_wp2_with fail;have Fo:Hid (te wr.drew w.heap.size u7 L):=hid ⟨u.out.1,u.out.2⟩;go_roundw
    case rel=>exact⟨k+1,L,by omega,by go_num,I,hid (by rw[M.out,H.out]),by omega,Fo,Q.out.drew⟩
    case measure=>simp[intOf];omega
   have I:=hid (m.out (by rw[g.out,show (y==0)=false by rw[kqi];exact N];rfl));have d3:((y:Int) != 0)=true:=by rw[kqt];omega
   have d3n:(y != 0)=true:=by rw[kqt];omega
   clear m o g N;go_wp2_with fail
   go_region_held3 (λX:World=>X.cell? ⟨b,f+p,none⟩=some (.int .u64 ((0:Nat):Int))/\X.cell? ⟨b,f+q,none⟩=some (.int .u64 (y:Int))) (go_keep) (fail)
   go_wp2;go_ret2;exact⟨pb I.out,Q.out.drew⟩
  have I:=hid (m.out (by rw[g.out,show (x==0)=false by rw[kqi];exact K];rfl));have d3:((x:Int) != 0)=true:=by rw[kqt];omega
  have d3n:(x != 0)=true:=by rw[kqt];omega
  clear m o g K;go_wp2_with fail
  go_region_held3 (λX:World=>X.cell? ⟨b,f+p,none⟩=some (.int .u64 (x:Int))/\X.cell? ⟨b,f+q,none⟩=some (.int .u64 (y:Int))) (go_keep) (fail)
  go_wp2;go_ret2;exact⟨pb I.out,Q.out.drew⟩
 obtain rfl:k=8:=by omega
 have HT:Hid (gH ws t=true):=hid ((i9 ws t).2 S.out);obtain⟨BO,dO,rfl⟩:=ap u.out.1;go_wp2;go_ret2;exact⟨⟨BO,L.length,dO,L,by rw[HT.out];rfl,λ_=>⟨rfl,u.out,M.out⟩⟩,Z⟩
def kM (ws:List Nat):Int:=if ak (ws.length:Int)=true then (if uz ws=true then 0 else 50) else 8
def lH (ws:List Nat):List Bk:=if kM ws=0 then (blocks ws 128).getD [] else []
def zF (H:Nat) (ws:List Nat) (e:Ending) (w':World):Prop:=∃A c,e=.returned (.tuple #[.slice A (lH ws).length c,.int .i64 (kM ws)])/\w'.ownsRow H 55 6 (.slice A (lH ws).length c) (lH ws).length ((lH ws).flatMap Bk.cells)
theorem rf{r:Int}(h:kM ws=r)(h0:r≠0):zF H ws (.returned (.tuple #[.slice none 0 0,.int .i64 r])) w':=by
 have e:lH ws=[]:=by unfold lH;rw[if_neg (by rw[h];exact h0)]
 exact⟨none,0,by rw[e,h];rfl,by rw[e];exact kq1 _ _ _ _⟩
theorem Fb(A:Option Addr)(ws:List Nat)(c n:Nat)(w:World)(hn:ws.length=n)(C:n<=9223372036854775807)(hr:RdW w w.heap.size A ws)(ho:∀x∈ws,x<18446744073709551616):
 Calls prog 26 #[.slice A n c] w λe w'=>zF w.heap.size ws e w'/\Below w.heap.size w w':=by
 subst hn;have B:=hid (xi A ws c ws.length 128 w rfl C hr ho);unfold tr at B;clear hr ho;by_cases f:co ws 128=0
 .have g:ak (ws.length:Int)=true:=by
   cases g:ak (ws.length:Int) with
   | true=>rfl
   | false=>rw[fp g] at f;cases f
  have P:=(af _).1 g;have a:eB ws.length 128=false:=by
   cases hq:eB ws.length 128 with
   | false=>rfl
   | true=>rw[iL g hq] at f;cases f
  have W:∃l,blocks ws 128=some l:=by
   cases q:blocks ws 128 with
   | none=>rw[eN g a (by simpa using q)] at f;cases f
   | some l=>exact⟨l,rfl⟩
  obtain⟨l,q⟩:=W;have E:=(a9 (by omega) _ _ q (by omega) (by omega) (by omega)).1;have j:aU ws 128=l:=by unfold aU;rw[if_pos f];simp[q]
  rw[f,j] at B;have M:Hid (kM ws=if jY l=true then 0 else 50):=hid (by unfold kM;rw[if_pos g,gU q]);have U:Hid (jY l=true->lH ws=l/\kM ws=0):=hid λh=>by
   have e:kM ws=0:=by rw[M.out,h];rfl
   exact⟨by unfold lH;rw[if_pos e,q];rfl,e⟩
  have hl24:l.length<=1024:=by omega
  have T:=hid (λk S h=>ql (l:=l) (k:=k) S h);have V:=hid (mV l);clear f g P a q j E C;go_enter func26,ntmps26;go_wp2_with fail;refine B.out.mono ?_;rintro e w1 ⟨⟨A1,Z,rfl,o⟩,s⟩;have D:=hid (show RdB _ _ _ _ from Rd.of_own o);have F:=hid o;have L:=hid s;clear o s;go_wp2_with fail;go_loopw [17] (λi wr=>∃k:Nat,k<=l.length/\i=.int .i64 k/\wr=w1/\Hid (nH l k)) (λi _=>l.length-(intOf i).toNat)
  case atStart=>exact⟨0,kqx _,rfl,rfl,hid (oe l)⟩
  obtain⟨k,S,rfl,rfl,O⟩:=hrel;by_cases p:k<l.length
  .have z:=hid (λh=>kV O.out h);have X:=hid (T.out k p);by_cases G:k=0
   .subst G;have t:Hid (nH l (0+1)):=hid (z.out rfl);go_wp2;go_roundw
    case rel=>exact⟨0+1,by omega,by go_num,trivial,t⟩
    case measure=>simp[intOf];omega
   obtain⟨b,off,rfl,P,-,-,p2,-⟩:=RdB.at_ D.out p;obtain⟨b',off',e',-,-,-,r2,-⟩:=RdB.at_ D.out (show k-1<l.length by omega);cases e';have d:nI l k=((l[k-1].kind==2)&&(l[k].kind==2)):=by unfold nI;rw[bo l k p,bo l (k-1) (by omega),show (k==0)=false by rw[kqi];omega];rfl
   obtain⟨x,hx⟩:=xq (l[k].kind);obtain⟨y,hy⟩:=xq (l[k-1].kind);rw[hx] at p2 d;rw[hy] at r2 d;have i1:IntKind.i64.wrap ((k:Int)-1)=((k-1:Nat):Int):=by rw[kqo _ (by omega)];omega
   have hki:(k:Int)<(l.length:Int):=by omega
   have hk0':(0:Int)<=(k:Int):=by omega
   have I:((k-1:Nat):Int)<(l.length:Int):=by omega
   have J:(0:Int)<=((k-1:Nat):Int):=by omega
   have d0:decide ((0:Int)<(k:Int))=true:=by rw[kql];omega
   have d0n:decide (0<k)=true:=by rw[kql];omega
   obtain⟨m,C⟩:=xq (k-1);rw[C] at i1 I J r2;have Q:=hid d;clear hx hy O C d G;by_cases u:x=2
   .subst u;by_cases v:y=2
    .subst v;have t:=hid (X.out (by rw[Q.out];rfl));have HW:Hid (kM ws=50):=hid (by rw[M.out,t.out];rfl);go_wp2;go_ret2;exact⟨rf HW.out (by decide),L.out⟩
    have N:(y==2)=false:=by rw[kqi];exact v
    have t:Hid (nH l (k+1)):=hid (z.out (by rw[Q.out,N];rfl));clear v;go_wp2;go_roundw
    case rel=>exact⟨k+1,by omega,by go_num,trivial,t⟩
    case measure=>simp[intOf];omega
   have N:(x==2)=false:=by rw[kqi];exact u
   have t:Hid (nH l (k+1)):=hid (z.out (by rw[Q.out,N,kjl]));clear u;go_wp2;go_roundw
   case rel=>exact⟨k+1,by omega,by go_num,trivial,t⟩
   case measure=>simp[intOf];omega
  have H:k=l.length:=by omega
  have hend:decide ((k:Int)<(l.length:Int))=false:=by rw[kqc];omega
  have hendn:decide (k<l.length)=false:=by rw[kqc];exact p
  have R:=hid (U.out (V.out.2 (H ▸ O.out)));clear H p S;go_wp2;go_ret2;exact⟨⟨A1,Z,by rw[R.out.1,R.out.2];rfl,by rw[R.out.1];exact F.out⟩,L.out⟩
 have j:aU ws 128=[]:=by unfold aU;rw[if_neg f]
 have hw:kM ws=co ws 128:=by
  unfold kM;cases g:ak (ws.length:Int) with
  | false=>rw[fp g];rfl
  | true =>
   have P:=(af _).1 g;have a:eB ws.length 128=false:=by unfold eB;simp;omega
   cases q:blocks ws 128 with
   | none=>rw[mq q,eN g a (by simpa using q)];rfl
   | some l =>exfalso;apply f;simp[co,g,a,q]
 have M:=hid hw;rw[j] at B;have Y:(co ws 128 != 0)=true:=by rw[kqt];exact f
 have H0:=hid f;obtain⟨r,K⟩:=xq (co ws 128);rw[K] at B M Y H0;clear f j hw K C;go_enter func26,ntmps26;go_wp2_with fail;refine B.out.mono ?_;rintro e w1 ⟨⟨A1,Z,rfl,-⟩,s⟩;go_wp2;go_ret2;exact⟨rf M.out H0.out,s⟩
theorem uh(A:Option Addr)(ws:List Nat)(c n a:Nat)(w:World)(hn:ws.length=n)(ha:a+8<=n)(hm:n<=2048)(hc:n<=c)(hr:RdW w w.heap.size A ws):
 Calls prog 157 #[.slice A n c,.int .i64 (a:Int)] w λe w'=>e=.returned (.bool (eY ws a))/\w=w':=by
 subst hn;have v:=hid hr;have s:=hid (mX ws a);obtain⟨b,off,rfl,f,-⟩:=RdW.at_ hr (show 0<ws.length by omega);have k2:IntKind.i64.wrap ((a:Int)+8)=((a+8:Nat):Int):=by rw[kqo _ (by omega)];omega
 have k3:a+8<=c:=by omega
 have k4:a<=a+8:=by omega
 clear hr f;go_enter func157,ntmps157;go_wp2_with fail
 go_loop [13] (λi=>∃k:Nat,k<=8/\i=.int .i64 k/\Hid (oq ws a k)) (λi=>8-(intOf i).toNat)
 case atStart=>exact⟨0,kqx _,rfl,hid λi h=>absurd h (by omega)⟩
 obtain⟨k,hk,rfl,p⟩:=hrel;by_cases g:k<8
 .obtain ⟨b',off',u,f,j⟩:=RdW.at_ v.out (show a+k<ws.length by omega);cases u;rw[<-bI] at j;have q:Hid (wd ws (a+k)=0->oq ws a (k+1)):=hid λh i y=>by
   rcases kq6 i k with t|t
   .exact p.out i t
   have:i=k:=by omega
   subst this;exact h
  have r:Hid (wd ws (a+k)≠0->eY ws a=false):=hid λh=>by
   cases z:eY ws a with
   | false=>rfl
   | true=>exact absurd (s.out.1 z k g) h
  rw[<-kj3] at j;obtain⟨x,o⟩:=xq (wd ws (a+k));rw[o] at j q r;have hki:(k:Int)<8:=by omega
  have hk0:(0:Int)<=(k:Int):=by omega
  clear o f;by_cases d:x=0
  .have m:=hid (q.out d);subst d;go_wp2_with fail
   go_round
   case rel=>exact⟨k+1,by omega,by go_num,m⟩
   case measure=>simp[intOf];omega
  have l:=hid (r.out d);have e1:((x:Int) != 0)=true:=by rw[kqt];omega
  have e1n:(x != 0)=true:=by rw[kqt];exact d
  clear d;go_wp2;go_ret;exact⟨by rw[l.out];rfl,rfl⟩
 have l:Hid (eY ws a=true):=hid (s.out.2 λi y=>p.out i (by omega));obtain rfl:k=8:=by omega
 go_wp2;go_ret;exact⟨by rw[l.out];rfl,rfl⟩
open Go.RowKit Go.Maps
def gY (ad:List Int):Nat->DataW Unit
 | 0=>.map []
 | k+1=>(gY ad k).put (.int .i64 (ad[k]?.getD 0)) (.lit (.bool true))
theorem uT(ad:List Int)(k:Nat):IsMap (gY ad k):=by
 induction k with
 | zero=>exact isMap_empty
 | succ k ih=>exact ih.put _ _
theorem qh(ad:List Int)(x:Int)(k:Nat):(gY ad k).atKey (.int .i64 x) (.lit (.bool false))=.lit (.bool (cd ad x k)):=by
 induction k with
 | zero=>rfl
 | succ k ih =>
  simp only[gY,cd];by_cases e:ad[k]?.getD 0=x
  .rw[e,atKey_put_same (uT ad k) (by trivial)];simp
  rw[atKey_put_other (by intro h;injection h with _ h;exact e h.symm),ih];have:(ad[k]?.getD 0==x)=false:=by rw[kqi];exact e
  rw[this,kk6]
theorem kq{H:Type}(he:P.underlying e=some .bool){v:Value}{z:DataW H × List MemPlace}(h:plainElem P e v=some z):∃c,v=.bool c/\z=(.lit (.bool c),[]):=by
 unfold plainElem at h;rw[he] at h;cases v<;>simp at h
 exact⟨_,rfl,h.symm⟩
theorem mx{H:Type}{D:DataW H}(h:w.ownsMap P k (plainElem P e) b n D)(K:Keyed P k)(ht:P.underlying t=some (.map k e))(he:P.underlying e=some .bool)(hz:(zeroValue e).run P w=.ok (.bool false) w){key:Value}{kl:Lit}(hkey:keyOf P k key=some kl){c:Bool}(hc:D.atKey kl (.lit (.bool false))=.lit (.bool c)):(Instr.lookup t (.map (some b)) key false).run P w=.ok (.bool c) w:=by obtain⟨v,ps,d,g⟩:=h.lookup K ht hz (plainElem_bool he false) hkey;obtain⟨c',rfl,a⟩:=kq he g;simp only[Prod.mk.injEq] at a;rw[hc] at a;obtain⟨f,-⟩:=a;injection f with f;injection f with f;subst f;exact d
theorem yf:Keyed prog 3:=int_keyed underlying3
theorem tC(w:World):(zeroValue 4).run prog w=.ok (.bool false) w:=by kernel_rfl
theorem nd{h:Nat}{cs:Array Value}{R:Value->Option (DataW Unit × List MemPlace)}{D:DataW Unit}(hb:Bx w h t cs)(ho:w.ownsMap P k R b n D):some h≠some b:=by rintro e;injection e with e;subst e;obtain⟨es,clock,a,_⟩:=ho;rw[show w.heap[h]? = _ from hb] at a;cases a
theorem Bx.c5(h:Bx w g t #[x0,x1,x2,x3,x4]):w.cell? ⟨g,0,none⟩=some x0/\w.cell? ⟨g,1,none⟩=some x1/\w.cell? ⟨g,2,none⟩=some x2 /\
 w.cell? ⟨g,3,none⟩=some x3/\w.cell? ⟨g,4,none⟩=some x4/\(∀i,w.frozen? ⟨g,i,none⟩=false)/\g<w.heap.size:=
 ⟨h.cell 0,h.cell 1,h.cell 2,h.cell 3,h.cell 4,h.frozen,h.lt⟩
theorem Bh(A TA SA OA:Option Addr)(c n tc tn sc sn oc on mb a z ty nx:Nat)(xk:Int)(mk:Bool)(w:World):
 Calls prog 95 #[.agg #[.slice A n c,.slice TA tn tc,.slice SA sn sc,.slice OA on oc,.map (some mb)],.agg #[.int .i64 (a:Int),.int .i64 (z:Int),.int .i64 xk,.int .i64 (ty:Int),.bool mk,.int .u64 (nx:Int)]] w λe w'=>e=.returned (.bool (!(mk||decide (0<nx))))/\Below w.heap.size w w':=by
 have xs:=(Bx.new w 163 #[.slice A n c,.slice TA tn tc,.slice SA sn sc,.slice OA on oc,.map (some mb)]).alloc (.cells #[.int .i64 (a:Int),.int .i64 (z:Int),.int .i64 xk,.int .i64 (ty:Int),.bool mk,.int .u64 (nx:Int)] 55);have b:=Bx.new (w.alloc (.cells #[.slice A n c,.slice TA tn tc,.slice SA sn sc,.slice OA on oc,.map (some mb)] 163)) 55 #[.int .i64 (a:Int),.int .i64 (z:Int),.int .i64 xk,.int .i64 (ty:Int),.bool mk,.int .u64 (nx:Int)];rw[kqn] at b;have XS:=hid xs;have XB:=hid b;have f:=hid (((kqk w.heap.size w).alloc (kqb _) (.cells #[.slice A n c,.slice TA tn tc,.slice SA sn sc,.slice OA on oc,.map (some mb)] 163)).alloc (by simp) (.cells #[.int .i64 (a:Int),.int .i64 (z:Int),.int .i64 xk,.int .i64 (ty:Int),.bool mk,.int .u64 (nx:Int)] 55));clear xs b;have g:((nx:Int)==0) = !decide (0<nx):=by rw[kzk,kqu,kxo,kqc];omega
 obtain⟨q,d⟩:=xq (decide (0<nx));rw[d] at g |-;clear d;cases mk
 all_goals
  go_enter func95,ntmps95;go_wp2;go_ret;exact⟨rfl,f.out⟩
theorem yC(A TA SA OA:Option Addr)(L:List Ty)(c n tc tn sc sn oc on mb a z ty nx:Nat)(xk:Int)(mk:Bool)(w:World)(ht:L.length=tn)(hk:∀x∈L,cR x.l=0/\kSz x.l=aX x.l.length/\x.l.length<=8)(hL:RdL w w.heap.size TA L):
 Calls prog 96 #[.agg #[.slice A n c,.slice TA tn tc,.slice SA sn sc,.slice OA on oc,.map (some mb)],.agg #[.int .i64 (a:Int),.int .i64 (z:Int),.int .i64 xk,.int .i64 (ty:Int),.bool mk,.int .u64 (nx:Int)]] w λe w'=>e=.returned (.bool (decide (ty<L.length)&&aX (((L.map Ty.l)[ty]?).getD []).length==z))/\Below w.heap.size w w':=by
 have xs:=(Bx.new w 163 #[.slice A n c,.slice TA tn tc,.slice SA sn sc,.slice OA on oc,.map (some mb)]).alloc (.cells #[.int .i64 (a:Int),.int .i64 (z:Int),.int .i64 xk,.int .i64 (ty:Int),.bool mk,.int .u64 (nx:Int)] 55);have u:=Bx.new (w.alloc (.cells #[.slice A n c,.slice TA tn tc,.slice SA sn sc,.slice OA on oc,.map (some mb)] 163)) 55 #[.int .i64 (a:Int),.int .i64 (z:Int),.int .i64 xk,.int .i64 (ty:Int),.bool mk,.int .u64 (nx:Int)];rw[kqn] at u;have XS:=hid xs;have XB:=hid u;have p:=hid (((kqk w.heap.size w).alloc (kqb _) (.cells #[.slice A n c,.slice TA tn tc,.slice SA sn sc,.slice OA on oc,.map (some mb)] 163)).alloc (by simp) (.cells #[.int .i64 (a:Int),.int .i64 (z:Int),.int .i64 xk,.int .i64 (ty:Int),.bool mk,.int .u64 (nx:Int)] 55));clear xs u;subst ht;have E:=hid (hL.up p.out (kqb _));have hz1:=p.out.size;clear hL;by_cases d:ty<L.length
 .obtain ⟨b,off,rfl,H,F⟩:=oj E.out.1 d;have g:=E.out.2 _ (kqs d);obtain⟨i,f,j⟩:=hk _ (kqs d);have k:Hid ((decide (ty<L.length)&&aX (((L.map Ty.l)[ty]?).getD []).length==z)=(aX L[ty].l.length==z)):=hid (by
   rw[decide_eq_true d,kxd,kqm d];rfl)
  obtain⟨x,v⟩:=xq (L[ty]);rw[v] at F i f j g k;obtain⟨y,J,m⟩:=x;dsimp only at F i f j g k;have s:=hid g;have r:=hid (λW B (h:RdY W B y m)=>r6 y m J m.length B W rfl (by omega) h);rw[i,f] at r;have C:(((aX m.length:Nat):Int)==(z:Int))=(aX m.length==z):=by rw[kzk,kqu,kqu];omega
  obtain⟨o,D⟩:=xq (aX m.length);rw[D] at k r C;obtain⟨q,G⟩:=xq ((o==z));rw[G] at k C;have I:decide ((L.length:Int)<=(ty:Int))=false:=by rw[kqc];omega
  have t:decide (L.length<=ty)=false:=by rw[kqc];omega
  have j1:(ty:Int)<(L.length:Int):=by omega
  have j0:(0:Int)<=(ty:Int):=by omega
  clear v D G hk i f j g d H;go_enter func96,ntmps96;go_wp2_with fail;refine (r.out _ _ s.out).mono ?_;rintro e w1 ⟨rfl,rfl⟩;go_wp2;go_ret;exact⟨by rw[k.out];rfl,p.out⟩
 have k:Hid ((decide (ty<L.length)&&aX (((L.map Ty.l)[ty]?).getD []).length==z)=false):=hid (by rw[decide_eq_false d];rfl);have I:decide ((L.length:Int)<=(ty:Int))=true:=by rw[kql];omega
 have t:decide (L.length<=ty)=true:=by rw[kql];omega
 clear d hk;go_enter func96,ntmps96;go_wp2;go_ret;exact⟨by rw[k.out];rfl,p.out⟩
theorem AQ{q:Nat}(h:q<18446744073709551616):bits BinOp.and .u64 (q:Int) 2047=((q%2048:Nat):Int):=by
 have:=u64_and_nat q 2047 h (by omega);rw[show (((2047:Nat)):Int)=2047 from rfl] at this;rw[this];have e:q &&& 2047=q%2048:=by rw[show (2047:Nat)=2 ^ 11-1 by decide,kjh]
 rw[e]
theorem wM(v:Nat)(w:World)(hv:v<18446744073709551616):Calls prog 159 #[.int .u64 (v:Int)] w λe w'=>e=.returned (.bool (sU v))/\w=w':=by
 have j:Hid (sU v=(v==9221120237041090561||decide (v%9223372036854775808<=9218868437227405312))):=hid rfl;have b:Hid (v/4503599627370496%2048≠2047->sU v=true):=hid λh=>by rw[j.out,decide_eq_true (by omega),Bool.or_true]
 have c:Hid (v*4096%18446744073709551616=0->sU v=true):=hid λh=>by rw[j.out,decide_eq_true (by omega),Bool.or_true]
 have a:Hid (v/4503599627370496%2048=2047->¬ v*4096%18446744073709551616=0->sU v=(v==9221120237041090561)):=hid λh g=>by rw[j.out,decide_eq_false (by omega),kk6]
 have l:=AQ (q:=v/4503599627370496) (by omega);have s:(v:Int)/4503599627370496=((v/4503599627370496:Nat):Int):=by omega
 have t:IntKind.u64.wrap ((v:Int)*4096)=((v*4096%18446744073709551616:Nat):Int):=by simp[IntKind.wrap,IntKind.bits,IntKind.signed]
 obtain⟨q,n⟩:=xq (v/4503599627370496);rw[n] at b a l s;obtain⟨r,k⟩:=xq (q%2048);rw[k] at b a l;obtain⟨m,d⟩:=xq (v*4096%18446744073709551616);rw[d] at c a t;have e3:((v:Int)==9221120237041090561)=(v==9221120237041090561):=by rw[kzk,kqu,kqu];omega
 clear n k d hv;by_cases i:r=2047
 .have o:((r:Int) != 2047)=false:=by rw[kqp];omega
  by_cases g:m=0
  .have f:=hid (c.out g);have p:((m:Int)==0)=true:=by rw[kqu];omega
   clear i g;go_enter func159,ntmps159;go_wp2;go_ret;exact⟨by rw[f.out];rfl,rfl⟩
  have f:=hid (a.out i g);have p:((m:Int)==0)=false:=by rw[kqi];omega
  clear i g;go_enter func159,ntmps159;go_wp2;go_ret;exact⟨by rw[f.out];rfl,rfl⟩
 have f:=hid (b.out i);have o:((r:Int) != 2047)=true:=by rw[kqt];omega
 clear i;go_enter func159,ntmps159;go_wp2;go_ret;exact⟨by rw[f.out];rfl,rfl⟩
theorem qe(O:List Bk)(v:Nat):∀k,k<=O.length->cd (O.map Bk.at_) (v:Int) k=(O.take k).any λb=>b.at_==(v:Int):=by
 intro k
 induction k with
 | zero=>intro _;rfl
 | succ k ih =>intro a;simp only[cd];rw[ih (by omega),kqq (show k<O.length from a),List.any_append,kxd,kqm (show k<O.length from a)];simp
theorem tv(O:List Bk)(v:Nat):cd (O.map Bk.at_) (v:Int) O.length=lK O v:=by rw[qe O v O.length (kqb _),kzj];rfl
structure SgW (W:World) (A TA:Option Addr) (ws:List Nat) (L:List Ty) (O:List Bk) (mb:Nat):Prop where
 w:RdW W W.heap.size A ws
 t:RdL W W.heap.size TA L
 m:W.ownsMap prog 3 (plainElem prog 4) mb O.length (gY (O.map Bk.at_) O.length)
theorem dT{R:Value->Option (DataW Unit × List MemPlace)}{D:DataW Unit}(h:w.ownsMap P k R b n D)(hb:w'.heap[b]? = w.heap[b]?):w'.ownsMap P k R b n D:=by obtain⟨d,a,c,r⟩:=h;exact⟨d,a,hb.trans c,r⟩
theorem uO(A TA SA OA:Option Addr)(ws:List Nat)(L:List Ty)(c n tc tn sc sn oc on mb a z ty nx:Nat)(xk:Int)(mk:Bool)(w:World)(hn:ws.length=n)(hm:n<=2048)(ht:L.length=tn)(hty:ty<L.length)(h8:L[ty].l.length<=8)(hz:z=aX L[ty].l.length)(haz:a+z<=n)(hR:RdW w w.heap.size A ws)(hL:RdL w w.heap.size TA L):
 Calls prog 97 #[.agg #[.slice A n c,.slice TA tn tc,.slice SA sn sc,.slice OA on oc,.map (some mb)],.agg #[.int .i64 (a:Int),.int .i64 (z:Int),.int .i64 xk,.int .i64 (ty:Int),.bool mk,.int .u64 (nx:Int)]] w λe w'=>e=.returned (.bool (!(decide (L[ty].l.length+2<z)&&wd ws (a+2+L[ty].l.length) != 0)))/\Below w.heap.size w w':=by
 have xs:=(Bx.new w 163 #[.slice A n c,.slice TA tn tc,.slice SA sn sc,.slice OA on oc,.map (some mb)]).alloc (.cells #[.int .i64 (a:Int),.int .i64 (z:Int),.int .i64 xk,.int .i64 (ty:Int),.bool mk,.int .u64 (nx:Int)] 55);have u:=Bx.new (w.alloc (.cells #[.slice A n c,.slice TA tn tc,.slice SA sn sc,.slice OA on oc,.map (some mb)] 163)) 55 #[.int .i64 (a:Int),.int .i64 (z:Int),.int .i64 xk,.int .i64 (ty:Int),.bool mk,.int .u64 (nx:Int)];rw[kqn] at u;have XS:=hid xs;have XB:=hid u;have h:=hid (((kqk w.heap.size w).alloc (kqb _) (.cells #[.slice A n c,.slice TA tn tc,.slice SA sn sc,.slice OA on oc,.map (some mb)] 163)).alloc (by simp) (.cells #[.int .i64 (a:Int),.int .i64 (z:Int),.int .i64 xk,.int .i64 (ty:Int),.bool mk,.int .u64 (nx:Int)] 55));clear xs u;subst ht hn;have K:=hid (hL.up h.out (kqb _));have hz1:=h.out.size;obtain⟨b,off,rfl,B,t⟩:=oj K.out.1 hty;obtain⟨x,k⟩:=xq (L[ty]);rw[k] at t h8 hz |-;obtain⟨xA,xc,I⟩:=x;dsimp only at t h8 hz |-;have j1:(ty:Int)<(L.length:Int):=by omega
 have j0:(0:Int)<=(ty:Int):=by omega
 obtain⟨m,d⟩:=xq I.length;rw[d] at t h8 hz |-;by_cases i:m%2=0
 .have f:Hid ((!(decide (m+2<z)&&wd ws (a+2+m) != 0))=true):=hid (by rw[decide_eq_false (by rw[hz];unfold aX;omega)];rfl);have E:((m:Int)%2==0)=true:=by rw[kqu];omega
  clear i hz haz h8 hm k d hL hR B;go_enter func97,ntmps97;go_wp2;go_ret;exact⟨by rw[f.out];rfl,h.out⟩
 obtain⟨b2,off2,rfl,s,r⟩:=RdW.at_ (hR.up h.out (kqb _)) (show a+2+m<ws.length by rw[hz] at haz;unfold aX at haz;omega);rw[<-bI] at r;have F:IntKind.i64.wrap ((a:Int)+2)=((a+2:Nat):Int):=by rw[kqo _ (by omega)];omega
 have y:IntKind.i64.wrap (((a+2:Nat):Int)+(m:Int))=((a+2+m:Nat):Int):=by rw[kqo _ (by omega)];omega
 have G:((a+2+m:Nat):Int)<(ws.length:Int):=by rw[hz] at haz;unfold aX at haz;omega
 have J:(0:Int)<=((a+2+m:Nat):Int):=by omega
 have f:Hid ((!(decide (m+2<z)&&wd ws (a+2+m) != 0))=(wd ws (a+2+m)==0)):=hid (by rw[decide_eq_true (by rw[hz];unfold aX;omega),kzz];exact Bool.not_not _);have E:((m:Int)%2==0)=false:=by rw[kqi];omega
 obtain⟨p,j⟩:=xq (a+2+m);rw[j] at r y G J f;obtain⟨g,C⟩:=xq (a+2);rw[C] at F y;obtain⟨v,o⟩:=xq (wd ws p);rw[j,o];rw[o] at r f;have H:((v:Int)==0)=(v==0):=by rw[kzk,kqu,kqu];omega
 obtain⟨q,D⟩:=xq ((v==0));rw[D] at f H;clear i hz haz h8 hm k d hL hR B j C o D s;go_enter func97,ntmps97;go_wp2;go_ret;exact⟨by rw[f.out];rfl,h.out⟩
def Ef (ws F:List Nat) (O:List Bk) (a r k:Nat):Prop:=∀i,i<k->wrF ws F O a r i=false
theorem qg{k:Nat}(h:Ef ws F O a r k)(h1:wrF ws F O a r k=false):Ef ws F O a r (k+1):=λi hi=>by
 rcases kq6 i k with b|b
 .exact h i b
 .have:i=k:=by omega
  subst this;exact h1
theorem C7(h:Ef ws F O a r F.length):((List.range F.length).any λi=>wrF ws F O a r i)=false:=by rw[kj0];intro i b;rw[h i (kzh.1 b)];simp
theorem CX{k:Nat}(hk:k<F.length)(h:wrF ws F O a r k=true):((List.range F.length).any λi=>wrF ws F O a r i)=true:=kxn.2 ⟨k,kzh.2 hk,h⟩
theorem vG(A TA SA OA:Option Addr)(ws:List Nat)(L:List Ty)(O:List Bk)(c n tc tn sc sn oc on mb a z ty nx:Nat)(xk:Int)(mk:Bool)(w:World)(hn:ws.length=n)(hm:n<=2048)(ht:L.length=tn)(hty:ty<L.length)(h8:L[ty].l.length<=8)(hz:z=aX L[ty].l.length)(haz:a+z<=n)(hR:RdW w w.heap.size A ws)(hL:RdL w w.heap.size TA L)(ho:∀x∈ws,x<18446744073709551616):
 Calls prog 98 #[.agg #[.slice A n c,.slice TA tn tc,.slice SA sn sc,.slice OA on oc,.map (some mb)],.agg #[.int .i64 (a:Int),.int .i64 (z:Int),.int .i64 xk,.int .i64 (ty:Int),.bool mk,.int .u64 (nx:Int)]] w λe w'=>e=.returned (.bool (!((List.range L[ty].l.length).any λi=>wrF ws L[ty].l O a 10 i)))/\Below w.heap.size w w':=by
 have xs:=(Bx.new w 163 #[.slice A n c,.slice TA tn tc,.slice SA sn sc,.slice OA on oc,.map (some mb)]).alloc (.cells #[.int .i64 (a:Int),.int .i64 (z:Int),.int .i64 xk,.int .i64 (ty:Int),.bool mk,.int .u64 (nx:Int)] 55);have Z:=Bx.new (w.alloc (.cells #[.slice A n c,.slice TA tn tc,.slice SA sn sc,.slice OA on oc,.map (some mb)] 163)) 55 #[.int .i64 (a:Int),.int .i64 (z:Int),.int .i64 xk,.int .i64 (ty:Int),.bool mk,.int .u64 (nx:Int)];rw[kqn] at Z;have XS:=hid xs;have XB:=hid Z;have D:=hid (((kqk w.heap.size w).alloc (kqb _) (.cells #[.slice A n c,.slice TA tn tc,.slice SA sn sc,.slice OA on oc,.map (some mb)] 163)).alloc (by simp) (.cells #[.int .i64 (a:Int),.int .i64 (z:Int),.int .i64 xk,.int .i64 (ty:Int),.bool mk,.int .u64 (nx:Int)] 55));clear xs Z;subst ht hn;have M:=hid (hL.up D.out (kqb _));have R:=D.out.size;obtain⟨b,Y,rfl,hb,N⟩:=oj M.out.1 hty;have J:=M.out.2 _ (kqs hty);obtain⟨x,hx⟩:=xq (L[ty]);rw[hx] at N h8 hz J |-;obtain⟨xA,xc,o⟩:=x;dsimp only at N h8 hz J |-;have HY:=hid J;have HR:=hid (hR.up D.out (kqb _));have j1:(ty:Int)<(L.length:Int):=by omega
 have j0:(0:Int)<=(ty:Int):=by omega
 have G:Hid (∀k,k<o.length->a+2+k<ws.length):=hid λk I=>by rw[hz] at haz;unfold aX at haz;omega
 have V:=hid (eX ho);have K:Hid (Ef ws o O a 10 0):=hid λi h=>absurd h (by omega);have T:=hid (λh=>C7 (ws:=ws) (F:=o) (O:=O) (a:=a) (r:=10) h);have X:=hid (λk I h=>CX (ws:=ws) (F:=o) (O:=O) (a:=a) (r:=10) (k:=k) I h);have ha:a<=2048:=by omega
 obtain⟨q0,q1,q2,q3,q4,-,-⟩:=XS.out.c5;obtain⟨r0,r1,r2,r3,r4,r5,-,-⟩:=XB.out.c6;obtain⟨P,t⟩:∃P,(w.alloc (.cells #[.slice A ws.length c,.slice (some ⟨b,Y,none⟩) L.length tc,.slice SA sn sc,.slice OA on oc,.map (some mb)] 163)).alloc (.cells #[.int .i64 (a:Int),.int .i64 (z:Int),.int .i64 xk,.int .i64 (ty:Int),.bool mk,.int .u64 (nx:Int)] 55)=P:=⟨_,rfl⟩;rw[t] at N HY HR q0 q1 q2 q3 q4 r0 r1 r2 r3 r4 r5;have B:=hid (show Below w.heap.size w P by rw[<-t];exact D.out);clear hz haz hm hx hL hR hb J ho XS XB D M R;go_enter func98,ntmps98;go_wp2_with fail;clear t
 go_loop [14] (λi=>∃k:Nat,k<=o.length/\i=.int .i64 k/\Hid (Ef ws o O a 10 k)) (λi=>o.length-(intOf i).toNat)
 case atStart=>exact⟨0,kqx _,rfl,K⟩
 obtain⟨k,I,rfl,HW⟩:=hrel;by_cases m:k<o.length
 .obtain ⟨g,go,rfl,hg,y0⟩:=HY.out.at_ m;obtain⟨d,dof,rfl,hd,S⟩:=RdW.at_ HR.out (G.out k m);rw[<-bI] at S;have hj:=G.out k m;have H:=hid (λW=>wM (wd ws (a+2+k)) W (V.out _));have j:wrF ws o O a 10 k=(o[k]? == some 2 && !sU (wd ws (a+2+k))):=rfl;rw[kqm m] at j;have HS:=hid (λh=>qg HW.out h);have U:=hid (λh=>X.out k m h);have i1:IntKind.i64.wrap ((a:Int)+2)=((a+2:Nat):Int):=by rw[kqo _ (by omega)];omega
  have i2:IntKind.i64.wrap (((a+2:Nat):Int)+(k:Int))=((a+2+k:Nat):Int):=by rw[kqo _ (by omega)];omega
  have k1:((a+2+k:Nat):Int)<(ws.length:Int):=by omega
  have k0:(0:Int)<=((a+2+k:Nat):Int):=by omega
  have hki:(k:Int)<(o.length:Int):=by omega
  have hk0:(0:Int)<=(k:Int):=by omega
  obtain⟨y,C⟩:=xq (o[k]);rw[C] at y0 j;obtain⟨p,hp⟩:=xq (a+2+k);rw[hp] at S i2 k1 k0 H j;obtain⟨s,hs⟩:=xq (a+2);rw[hs] at i1 i2;obtain⟨v,hv⟩:=xq (wd ws p);rw[hv] at S H j;obtain⟨f,hf⟩:=xq (sU v);rw[hf] at H j;have u:=hid j;clear C hp hs hv hf j hj;by_cases q:y=2
  .subst q;cases f
   .have HV:=hid (U.out (by rw[u.out];rfl));go_wp2_with fail;refine (H.out _).mono ?_;rintro e w5 ⟨rfl,rfl⟩;go_wp2;go_ret;exact⟨by rw[HV.out];rfl,B.out⟩
   have Q:=hid (HS.out (by rw[u.out];rfl));go_wp2_with fail;refine (H.out _).mono ?_;rintro e w5 ⟨rfl,rfl⟩;go_wp2_with fail
   go_round
   case rel=>exact⟨k+1,by omega,by go_num,Q⟩
   case measure=>simp[intOf];omega
  have e1:((y:Int)==2)=false:=by rw[kqi];omega
  have Q:=hid (HS.out (by rw[u.out,show ((some y:Option Nat)==some 2)=false by simpa using q];rfl));clear q;go_wp2_with fail
  go_round
  case rel=>exact⟨k+1,by omega,by go_num,Q⟩
  case measure=>simp[intOf];omega
 have E:k=o.length:=by omega
 have HV:=hid (T.out (E ▸ HW.out));have hend:decide ((k:Int)<(o.length:Int))=false:=by rw[kqc];omega
 have hendn:decide (k<o.length)=false:=by rw[kqc];exact m
 clear E m I;go_wp2;go_ret;exact⟨by rw[HV.out];rfl,B.out⟩
theorem Am(A TA SA OA:Option Addr)(ws:List Nat)(L:List Ty)(O:List Bk)(c n tc tn sc sn oc on mb a z ty nx:Nat)(xk:Int)(mk:Bool)(w:World)(hn:ws.length=n)(hm:n<=2048)(ht:L.length=tn)(hty:ty<L.length)(h8:L[ty].l.length<=8)(hz:z=aX L[ty].l.length)(haz:a+z<=n)(hR:RdW w w.heap.size A ws)(hL:RdL w w.heap.size TA L)(ho:∀x∈ws,x<18446744073709551616)(hO:∀b∈O,b.at_<(n:Int))(hM:w.ownsMap prog 3 (plainElem prog 4) mb O.length (gY (O.map Bk.at_) O.length)):
 Calls prog 99 #[.agg #[.slice A n c,.slice TA tn tc,.slice SA sn sc,.slice OA on oc,.map (some mb)],.agg #[.int .i64 (a:Int),.int .i64 (z:Int),.int .i64 xk,.int .i64 (ty:Int),.bool mk,.int .u64 (nx:Int)]] w λe w'=>e=.returned (.bool (!((List.range L[ty].l.length).any λi=>wrF ws L[ty].l O a 11 i)))/\Below w.heap.size w w':=by
 have xs:=(Bx.new w 163 #[.slice A n c,.slice TA tn tc,.slice SA sn sc,.slice OA on oc,.map (some mb)]).alloc (.cells #[.int .i64 (a:Int),.int .i64 (z:Int),.int .i64 xk,.int .i64 (ty:Int),.bool mk,.int .u64 (nx:Int)] 55);have xb:=Bx.new (w.alloc (.cells #[.slice A n c,.slice TA tn tc,.slice SA sn sc,.slice OA on oc,.map (some mb)] 163)) 55 #[.int .i64 (a:Int),.int .i64 (z:Int),.int .i64 xk,.int .i64 (ty:Int),.bool mk,.int .u64 (nx:Int)];rw[kqn] at xb;have XS:=hid xs;have XB:=hid xb;have J:=hid (((kqk w.heap.size w).alloc (kqb _) (.cells #[.slice A n c,.slice TA tn tc,.slice SA sn sc,.slice OA on oc,.map (some mb)] 163)).alloc (by simp) (.cells #[.int .i64 (a:Int),.int .i64 (z:Int),.int .i64 xk,.int .i64 (ty:Int),.bool mk,.int .u64 (nx:Int)] 55));clear xs xb;subst ht hn;have HL:=hid (hL.up J.out (kqb _));have Fp:=J.out.size;obtain⟨b,off,rfl,hb,p0⟩:=oj HL.out.1 hty;have W:=HL.out.2 _ (kqs hty);obtain⟨x,hx⟩:=xq (L[ty]);rw[hx] at p0 h8 hz W |-;obtain⟨xA,xc,f⟩:=x;dsimp only at p0 h8 hz W |-;have HY:=hid W;have HR:=hid (hR.up J.out (kqb _));have j1:(ty:Int)<(L.length:Int):=by omega
 have j0:(0:Int)<=(ty:Int):=by omega
 have R:Hid (∀k,k<f.length->a+2+k<ws.length):=hid λk V=>by rw[hz] at haz;unfold aX at haz;omega
 have Fs:=hid (eX ho);have I:=hid hm;have N:=hid (dT hM (J.out.block mb hM.lt));have Fo:Hid (∀v:Nat,ws.length<=v->lK O v=false):=hid λv Z=>by
  cases Y:lK O v with
  | false=>rfl
  | true =>obtain⟨b,hb,e⟩:=kxn.1 Y;rw[kqu] at e;have:=hO b hb;omega
 have Eq:Hid (Ef ws f O a 11 0):=hid λi h=>absurd h (by omega);have Fq:=hid (λh=>C7 (ws:=ws) (F:=f) (O:=O) (a:=a) (r:=11) h);have Ft:=hid (λk V h=>CX (ws:=ws) (F:=f) (O:=O) (a:=a) (r:=11) (k:=k) V h);have ha:a<=2048:=by omega
 obtain⟨q0,q1,q2,q3,q4,-,-⟩:=XS.out.c5;obtain⟨r0,r1,r2,r3,r4,r5,-,-⟩:=XB.out.c6;obtain⟨X,E⟩:∃X,(w.alloc (.cells #[.slice A ws.length c,.slice (some ⟨b,off,none⟩) L.length tc,.slice SA sn sc,.slice OA on oc,.map (some mb)] 163)).alloc (.cells #[.int .i64 (a:Int),.int .i64 (z:Int),.int .i64 xk,.int .i64 (ty:Int),.bool mk,.int .u64 (nx:Int)] 55)=X:=⟨_,rfl⟩;rw[E] at p0 HY HR N q0 q1 q2 q3 q4 r0 r1 r2 r3 r4 r5;have B:=hid (show Below w.heap.size w X by rw[<-E];exact J.out);clear hz haz hm hx hL hR hb W ho hO hM XS XB J HL Fp;go_enter func99,ntmps99;go_wp2_with fail;clear E
 go_loop [15] (λi=>∃k:Nat,k<=f.length/\i=.int .i64 k/\Hid (Ef ws f O a 11 k)) (λi=>f.length-(intOf i).toNat)
 case atStart=>exact⟨0,kqx _,rfl,Eq⟩
 obtain⟨k,V,rfl,HW⟩:=hrel;by_cases j:k<f.length
 .obtain ⟨g,go,rfl,hg,y0⟩:=HY.out.at_ j;obtain⟨d,dof,rfl,hd,w0⟩:=RdW.at_ HR.out (R.out k j);rw[<-bI] at w0;have hj:=R.out k j;have m:wrF ws f O a 11 k=(f[k]? == some 3&&(decide (0<wd ws (a+2+k)) && !lK O (wd ws (a+2+k)))):=rfl;rw[kqm j] at m;have o:=Fs.out (a+2+k);have HS:=hid (λh=>qg HW.out h);have T:=hid (λh=>Ft.out k j h);have i1:IntKind.i64.wrap ((a:Int)+2)=((a+2:Nat):Int):=by rw[kqo _ (by omega)];omega
  have i2:IntKind.i64.wrap (((a+2:Nat):Int)+(k:Int))=((a+2+k:Nat):Int):=by rw[kqo _ (by omega)];omega
  have k1:((a+2+k:Nat):Int)<(ws.length:Int):=by omega
  have k0:(0:Int)<=((a+2+k:Nat):Int):=by omega
  have hki:(k:Int)<(f.length:Int):=by omega
  have hk0:(0:Int)<=(k:Int):=by omega
  have w1:IntKind.u64.wrap (ws.length:Int)=(ws.length:Int):=kzi _ (by have:=I.out;omega);obtain⟨y,M⟩:=xq (f[k]);rw[M] at y0 m;obtain⟨p,hp⟩:=xq (a+2+k);rw[hp] at w0 i2 k1 k0 m o;obtain⟨s,hs⟩:=xq (a+2);rw[hs] at i1 i2;obtain⟨v,Z⟩:=xq (wd ws p);rw[Z] at w0 m o;have t:=hid m;have u:=hid (Fo.out v);clear M hp hs Z m hj;by_cases D:y=3
  .subst D;by_cases G:v=0
   .subst G;have S:=hid (HS.out (by rw[t.out];rfl));clear o;go_wp2_with fail
    go_round
    case rel=>exact⟨k+1,by omega,by go_num,S⟩
    case measure=>simp[intOf];omega
   have e1:((v:Int) != 0)=true:=by rw[kqt];omega
   have e1n:(v != 0)=true:=by rw[kqt];omega
   by_cases H:ws.length<=v
   .have U:=hid (T.out (by rw[t.out,u.out H,decide_eq_true (by omega)];rfl));have d1:decide ((ws.length:Int)<=(v:Int))=true:=by rw[kql];omega
    have d1n:decide (ws.length<=v)=true:=by rw[kql];omega
    clear o H G;go_wp2;go_ret;exact⟨by rw[U.out];rfl,B.out⟩
   have d1:decide ((ws.length:Int)<=(v:Int))=false:=by rw[kqc];omega
   have d1n:decide (ws.length<=v)=false:=by rw[kqc];omega
   have w2:IntKind.i64.wrap (v:Int)=(v:Int):=kqo _ (by have:=I.out;omega);have K:(Lit.int .i64 (v:Int)).wf=true:=by have:=I.out;simp[Lit.wf,IntKind.min,IntKind.max,IntKind.signed,IntKind.bits];omega
   have Fr:=mx N.out yf underlying161 underlying4 (tC X) (keyOf_int_mk (P:=prog) underlying3 K) (c:=lK O v) (by rw[qh,tv]);have C:Hid (wrF ws f O a 11 k = !lK O v):=hid (by rw[t.out,decide_eq_true (by omega)];simp);obtain⟨q,Y⟩:=xq (lK O v);rw[Y] at Fr C;clear o H G K Y u t;cases q
   .have U:=hid (T.out (by rw[C.out];rfl));go_wp2;go_ret;exact⟨by rw[U.out];rfl,B.out⟩
   have S:=hid (HS.out (by rw[C.out];rfl));go_wp2_with fail
   go_round
   case rel=>exact⟨k+1,by omega,by go_num,S⟩
   case measure=>simp[intOf];omega
  have e1:((y:Int)==3)=false:=by rw[kqi];omega
  have S:=hid (HS.out (by rw[t.out,show ((some y:Option Nat)==some 3)=false by simpa using D];rfl));clear D o;go_wp2_with fail
  go_round
  case rel=>exact⟨k+1,by omega,by go_num,S⟩
  case measure=>simp[intOf];omega
 have Q:k=f.length:=by omega
 have U:=hid (Fq.out (Q ▸ HW.out));have hend:decide ((k:Int)<(f.length:Int))=false:=by rw[kqc];omega
 have hendn:decide (k<f.length)=false:=by rw[kqc];exact j
 clear Q j V;go_wp2;go_ret;exact⟨by rw[U.out];rfl,B.out⟩
def oE (l:List Nat):Array Value:=(l.flatMap au).toArray
theorem zp(l:List Nat):(oE l).size=l.length:=by unfold oE;rw[kjy,bY _ 1 bZ,kx7]
theorem Cn(l:List Nat):(oE l).all (·.oneCell')=true:=by
 rw[Array.all_eq_true];intro i hi;have:(oE l)[i]∈l.flatMap au:=by unfold oE at *;simp
 obtain⟨x,-,a⟩:=List.mem_flatMap.1 this;rw[au,kq7] at a;rw[a];rfl
theorem rq:(prog.info? 242).map (·.size)=some 8:=by kernel_rfl
theorem CR(w:World):(zeroValue 242).run prog w=.ok (.agg #[.int .u64 0,.int .u64 0,.int .u64 0,.int .u64 0,.int .u64 0,.int .u64 0,.int .u64 0,.int .u64 0]) w:=by kernel_rfl
theorem vb{fn:Func}{p:Tmp}(h:fn.results=#[.cell p 242])(tmps:Array Value){W:World}{cs:Array Value}(hb:Bx W g t cs)(hs:cs.size=8)(hp:tmps.getD p undef=.pointer (some ⟨g,0,none⟩)):
 (results fn tmps).run prog W=.ok (.agg cs) W:=by
 have a:tmps[p]?.getD undef=.pointer (some ⟨g,0,none⟩):=by simpa using hp
 have c:(prog.info? 242).map (·.size)=some cs.size:=by rw[hs];exact rq
 have b:=run_loadVar_row W g t 242 cs (0,0) _ hb underlying242 rfl c;simp[results,h,a,asAddr,b]
theorem uN(n t:Nat)(w:World)(hn:n<=1000000)(ht:t<=1000000):
 Calls prog 174 #[.agg #[.int .i64 (n:Int),.int .i64 (t:Int)]] w λe w'=>e=.returned (.agg (oE (spL n t)))/\Below w.heap.size w w':=by
 have F:=hid (λA W (I:RdW W W.heap.size A (sp7 n t))=>rQ A (sp7 n t) 8 7 W rfl (by omega) I (λx H=>by
  simp only[sp7,kq0,kzs,or_false] at H;omega))
 obtain⟨q,C⟩:=xq (bt 14695981039346656037 (sp7 n t));have L:=hid (show oE (spL n t)=#[.int .u64 32777959566500194,.int .u64 1,.int .u64 (n:Int),.int .u64 (t:Int),.int .u64 0,.int .u64 0,.int .u64 0,.int .u64 (q:Int)] by
  unfold oE spL;rw[C];rfl)
 have o:Hid (∀W g,Bx W g 242 #[.int .u64 32777959566500194,.int .u64 1,.int .u64 (n:Int),.int .u64 (t:Int),.int .u64 0,.int .u64 0,.int .u64 0,.int .u64 0]->RdW W W.heap.size (some ⟨g,0,none⟩) (sp7 n t)):=hid λW g h=>(Rd.of_box h h.lt).take_ 7;rw[C] at F;have J:=hid (((kqk w.heap.size w).alloc (kqb _) (.cells #[.int .i64 (n:Int),.int .i64 (t:Int)] 126)).alloc (by simp) (.cells #[.int .u64 0,.int .u64 0,.int .u64 0,.int .u64 0,.int .u64 0,.int .u64 0,.int .u64 0,.int .u64 0] 242));have w1:IntKind.u64.wrap (n:Int)=(n:Int):=kzi _ (by omega);have w2:IntKind.u64.wrap (t:Int)=(t:Int):=kzi _ (by omega);have hzv:=CR;have bx:=Bx.new ((w.alloc (.cells #[.int .i64 (n:Int),.int .i64 (t:Int)] 126)).alloc (.cells #[.int .u64 0,.int .u64 0,.int .u64 0,.int .u64 0,.int .u64 0,.int .u64 0,.int .u64 0,.int .u64 0] 242)) 242 #[.int .u64 0,.int .u64 0,.int .u64 0,.int .u64 0,.int .u64 0,.int .u64 0,.int .u64 0,.int .u64 0];rw[kqn,kqn] at bx;have N:=hid bx;have u:=hid (((J.out.alloc (by simp;omega) (.cells #[.int .u64 0,.int .u64 0,.int .u64 0,.int .u64 0,.int .u64 0,.int .u64 0,.int .u64 0,.int .u64 0] 242))));have z:=Bx.new (w.alloc (.cells #[.int .i64 (n:Int),.int .i64 (t:Int)] 126)) 242 #[.int .u64 0,.int .u64 0,.int .u64 0,.int .u64 0,.int .u64 0,.int .u64 0,.int .u64 0,.int .u64 0]
 rw[kqn] at z;have G:=hid (z.alloc (.cells #[.int .u64 0,.int .u64 0,.int .u64 0,.int .u64 0,.int .u64 0,.int .u64 0,.int .u64 0,.int .u64 0] 242));have y:(prog.info? 242).map (·.size)=some (#[.int .u64 32777959566500194,.int .u64 1,.int .u64 (n:Int),.int .u64 (t:Int),.int .u64 0,.int .u64 0,.int .u64 0,.int .u64 0]:Array Value).size:=rq;clear C bx z;have hbd:∀W,(Instr.build 242 #[(0,.int .u64 32777959566500194),(1,.int .u64 1),(2,.int .u64 (n:Int)),(3,.int .u64 (t:Int))]).run prog W=.ok (.agg #[.int .u64 32777959566500194,.int .u64 1,.int .u64 (n:Int),.int .u64 (t:Int),.int .u64 0,.int .u64 0,.int .u64 0,.int .u64 0]) W:=λ_=>by kernel_rfl
 go_enter func174,ntmps174;go_wp2_with (first
  | ((with_reducible refine bq 242 (.tmp 3) _ ?_);refine ai rfl _ _ _ rfl (w.heap.size+1+1) 242 #[.int .u64 0,.int .u64 0,.int .u64 0,.int .u64 0,.int .u64 0,.int .u64 0,.int .u64 0,.int .u64 0] #[.int .u64 32777959566500194,.int .u64 1,.int .u64 (n:Int),.int .u64 (t:Int),.int .u64 0,.int .u64 0,.int .u64 0,.int .u64 0] (by rfl) (by rfl) N.out (by rfl) y (by simp[Value.oneCell']) ?_;intro w3 i k;have c:=hid i;have d:=hid k;clear i k))
 refine (F.out _ _ (o.out _ _ c.out)).mono ?_;rintro e w4 ⟨rfl,a⟩;have b:=hid (d.out.below u.out (by omega));have s:=hid (b.out.trans (a.mono b.out.size));have f:=c.out.up a c.out.lt;have K:=hid ((d.out.bx G.out (by omega)).up a (d.out.bx G.out (by omega)).lt);have hl3:=f.lt;have hc7:=f.cell 7;have hf7:=f.frozen 7;have M:=hid (f.set_ 7 (.int .u64 (q:Int)));have E:=hid (K.out.far (p:=⟨w.heap.size+1+1,7,none⟩) (by simp) (.int .u64 (q:Int)));have D:=hid (s.out.setCell (p:=⟨w.heap.size+1+1,7,none⟩) (by simp;omega) (.int .u64 (q:Int)));have m:(prog.info? 242).map (·.size)=some (#[.int .u64 32777959566500194,.int .u64 1,.int .u64 (n:Int),.int .u64 (t:Int),.int .u64 0,.int .u64 0,.int .u64 0,.int .u64 (q:Int)]:Array Value).size:=rq;clear f a;go_wp2_with (first
  | ((with_reducible refine fF 242 (.tmp 3) ?_);refine kxg rfl _ _ rfl (w.heap.size+1+1) (by rfl) 242 #[.int .u64 32777959566500194,.int .u64 1,.int .u64 (n:Int),.int .u64 (t:Int),.int .u64 0,.int .u64 0,.int .u64 0,.int .u64 (q:Int)] (0,0) _ M.out underlying242 (by rfl) m ?_)
  | ((with_reducible refine bq 242 (.tmp 2) _ ?_);refine ai rfl _ _ _ rfl (w.heap.size+1) 242 #[.int .u64 0,.int .u64 0,.int .u64 0,.int .u64 0,.int .u64 0,.int .u64 0,.int .u64 0,.int .u64 0] #[.int .u64 32777959566500194,.int .u64 1,.int .u64 (n:Int),.int .u64 (t:Int),.int .u64 0,.int .u64 0,.int .u64 0,.int .u64 (q:Int)] (by rfl) (by rfl) E.out (by rfl) m (by simp[Value.oneCell']) ?_;intro w6 j l;have B:=hid j;have r:=hid l;clear j l))
 exact kqr (v:=.agg #[.int .u64 32777959566500194,.int .u64 1,.int .u64 (n:Int),.int .u64 (t:Int),.int .u64 0,.int .u64 0,.int .u64 0,.int .u64 (q:Int)]) (vb results174 _ B.out (by rfl) rfl) rfl ⟨by rw[L.out],r.out.below D.out (by omega)⟩
theorem ER(h:l.length=8):∃p0 p1 p2 p3 p4 p5 p6 p7,l=[p0,p1,p2,p3,p4,p5,p6,p7]:=by
 match l,h with
 | [p0,p1,p2,p3,p4,p5,p6,p7],_=>exact⟨p0,p1,p2,p3,p4,p5,p6,p7,rfl⟩
theorem B9{a b:List Nat}(ha:a.length=8)(hb:b.length=8)(W:World):(Op.equalIn 10000 242 (.agg (oE a)) (.agg (oE b))).run prog W=.ok (decide (a=b)) W:=by
 have I:=underlying242;have F:=underlying53;have G:List.range' 0 8=[0,1,2,3,4,5,6,7]:=rfl;have e1:=λ(x y:Int)=>run_equalIn_int W 9998 53 .u64 .u64 x y F;obtain⟨A,w,m,j,s,p,z,o,rfl⟩:=ER ha;obtain⟨k,B,l,i,q,r,h,n,rfl⟩:=ER hb;have H:decide ([A,w,m,j,s,p,z,o]=[k,B,l,i,q,r,h,n])=(A==k&&(w==B&&(m==l&&(j==i&&(s==q&&(p==r&&(z==h&&o==n))))))):=by rw[kzk,kql];simp
 have D:∀u v,(Op.equalIn 10000 242 u v)=(Op.equalIn (9999+1) 242 u v):=λ_ _=>rfl;rw[D,H];unfold Op.equalIn oE;simp only[kz7,List.flatMap_nil,au,kzr,kz5];simp[go_sem,run_underlying I,Sem.run_bind,G,List.forIn_cons];simp only[Int.ofNat_inj];by_cases c:A=k
 .by_cases d:w=B
  .by_cases e:m=l
   .by_cases f:j=i
    .by_cases g:s=q
     .by_cases t:p=r
      .by_cases C:z=h
       .by_cases E:o=n<;>simp[c,d,e,f,g,t,C,E,go_sem]
       simp[c,d,e,f,g,t,C,go_sem]
      simp[c,d,e,f,g,t,go_sem]
     simp[c,d,e,f,g,go_sem]
    simp[c,d,e,f,go_sem]
   simp[c,d,e,go_sem]
  simp[c,d,go_sem]
 simp[c,go_sem]
theorem C6(p q a b:Int)(W:World):(Op.equalIn 10000 126 (.agg #[.int .i64 p,.int .i64 q]) (.agg #[.int .i64 a,.int .i64 b])).run prog W=.ok (p==a&&q==b) W:=by have g:=underlying126;have e:=underlying3;have c:∀u v,(Op.equalIn 10000 126 u v)=(Op.equalIn (9999+1) 126 u v):=λ_ _=>rfl;have e1:=λ(x y:Int)=>run_equalIn_int W 9998 3 .i64 .i64 x y e;rw[c];unfold Op.equalIn;simp[go_sem,run_underlying g,Sem.run_bind,List.forIn_cons];by_cases f:p=a<;>by_cases d:q=b<;>simp[f,d,go_sem]
theorem Bx.c8{x5 x6 x7:Value}(h:Bx w g t #[x0,x1,x2,x3,x4,x5,x6,x7]):w.cell? ⟨g,0,none⟩=some x0/\w.cell? ⟨g,1,none⟩=some x1/\w.cell? ⟨g,2,none⟩=some x2 /\
 w.cell? ⟨g,3,none⟩=some x3/\w.cell? ⟨g,4,none⟩=some x4/\w.cell? ⟨g,5,none⟩=some x5/\w.cell? ⟨g,6,none⟩=some x6/\w.cell? ⟨g,7,none⟩=some x7:=
 ⟨h.cell 0,h.cell 1,h.cell 2,h.cell 3,h.cell 4,h.cell 5,h.cell 6,h.cell 7⟩
theorem at_s2a{ops:Array Oper}{rest:List Oper}{a:Act}{Q:Exit->Act->World->Prop}{dst:Option Tmp}{type:TypeId}{pos:String}{after:Array Edge}{guard:Option (Nat × Bool)}(ty:TypeId)(x:Operand)(h:wpList P ops Q ({ dst:=dst,op:=.sliceToArrayPointer ty x,type:=type,pos:=pos,after:=after,guard:=guard }::rest) a w):wpList P ops Q ({ dst:=dst,op:=.sliceToArrayPointer ty x,type:=type,pos:=pos,after:=after,guard:=guard }::rest) a w:=h
theorem s9{k:Nat}(hk:k<l.length):(oE l)[k]? = some (.int .u64 (wd l k:Int)):=by unfold oE;have:=iq au 1 bZ l k 0 hk (by omega);rw[kx7,kz6] at this;rw[List.getElem?_toArray,this,bI hk];rfl
theorem AN{B off:Nat}{cs:List Value}(h:Rd w B (some ⟨b,off,none⟩) cs):w.rangeAt b off cs:=λj v c=>by have a:=(kzc.1 c).1;obtain⟨b',off',e,-,d⟩:=h (by intro e;rw[e] at a;simp at a);cases e;rw[d j a,<-c,kqm a]
def spNo (x y i:Nat):Prop:=¬ (256<=x/\x<256+8*i/\x%8=0/\y<=8)
def spT (x n y t:Nat):Prop:=¬ (x=n/\y<t)
theorem yH{x y i:Nat}(h:spNo x y i)(h2:¬ (x=256+8*i/\y<=8)):spNo x y (i+1):=λ⟨d,h4,c,a⟩=>by
 by_cases b:x<256+8*i
 .exact h ⟨d,b,c,a⟩
 .exact h2 ⟨by omega,a⟩
theorem qR(A:Option Addr)(l:List Nat)(c:Nat)(w:World)(q:l.length=8)(hr:RdW w w.heap.size A l):
 Calls prog 116 #[.slice A 8 c] w λe w'=>e=.returned (.tuple #[spV l,.int .i64 (j8 l)])/\Below w.heap.size w w':=by
 obtain⟨p0,p1,x,y,p4,p5,p6,p7,G⟩:=ER q;obtain⟨b,off,rfl,hb,-⟩:=RdW.at_ hr (show 0<l.length by omega);have I:=hid (λh=>af ((wd l 2:Nat):Int) |>.1 h);have J:=hid (λh=>sN (l:=l) h);have B:=hid (λh=>nc (l:=l) h);have P:=hid (λh=>ml (l:=l) h);have C:Hid (ak ((wd l 2:Nat):Int)=true->wd l 3<=8->oY l=decide (spL (wd l 2) (wd l 3)=l)):=hid λh1 h2=>by
  unfold oY;rw[h1,decide_eq_true h2];rfl
 have Eq:=hid (show ∀W,Below w.heap.size w W->W.rangeAt b off (l.flatMap au) from λW h=>AN (Rd.below hr h));have H8:=hid (show (oE l).size=8 by rw[zp,q]);have R:=hid (show (l.flatMap au).length=8 by rw[bY _ 1 bZ,q]);have H1:=hid (Cn l);have g2:=s9 (l:=l) (k:=2) (by omega);have g3:=s9 (l:=l) (k:=3) (by omega);have x0:=Bx.new w 126 #[.int .i64 0,.int .i64 0];have X0:=hid x0;have hlt2:Hid (w.heap.size<=w.heap.size+1+1):=hid (by omega);have Y:=hid ((((kqk w.heap.size w).alloc (kqb _) (.cells #[.int .i64 0,.int .i64 0] 126)).alloc (by simp) (.cells #[.int .i64 0,.int .i64 0] 126)));have x1:=Bx.new (w.alloc (.cells #[.int .i64 0,.int .i64 0] 126)) 126 #[.int .i64 0,.int .i64 0];rw[kqn] at x1;have X1:=hid x1;have x2:=Bx.new ((w.alloc (.cells #[.int .i64 0,.int .i64 0] 126)).alloc (.cells #[.int .i64 0,.int .i64 0] 126)) 242 #[.int .u64 0,.int .u64 0,.int .u64 0,.int .u64 0,.int .u64 0,.int .u64 0,.int .u64 0,.int .u64 0];rw[kqn,kqn] at x2;have X2:=hid x2;have HL:=hid q;have hzv:=CR;have hx:wd l 2=x:=by rw[G];rfl
 have hy:wd l 3=y:=by rw[G];rfl
 have HA:=hid (show oE l=#[.int .u64 (p0:Int),.int .u64 (p1:Int),.int .u64 (x:Int),.int .u64 (y:Int),.int .u64 (p4:Int),.int .u64 (p5:Int),.int .u64 (p6:Int),.int .u64 (p7:Int)] by rw[G];rfl);rw[hx] at I J P C g2;rw[hy] at J P C g3;have G2:=hid g2;have G3:=hid g3;have Fo:Hid ((l.flatMap au).toArray=oE l):=hid rfl;have O:(prog.info? 242).map (·.size)=some (l.flatMap au).length:=by rw[R.out];exact rq
 have Gd:(prog.info? 242).map (·.size)=some (oE l).size:=by rw[H8.out];exact rq
 have Ge:(oE l).size=(#[.int .u64 0,.int .u64 0,.int .u64 0,.int .u64 0,.int .u64 0,.int .u64 0,.int .u64 0,.int .u64 0]:Array Value).size:=H8.out;clear hx hy hr q x0 x1 x2 g2 g3 G;obtain⟨cs,Fp⟩:=xq (l.flatMap au);rw[Fp] at Eq R Fo O;clear Fp;go_enter func116,ntmps116;go_wp2_with fail
 go_step3
 go_wp2_with (first
  | ((with_reducible refine at_s2a 242 _ ?_);refine p9 rfl (.pointer (some ⟨b,off,none⟩)) (by unfold execOp;simp only[Sem.run_bind,Act.eval,go_sem];rfl) ?_)
  | ((with_reducible refine fF 242 (.tmp 13) ?_);refine wpList_load_mid rfl _ _ rfl b off (by rfl) cs _ (Eq.out _ Y.out) underlying242 (by rfl) O ?_;rw[Fo.out])
  | ((with_reducible refine bq 242 (.tmp 5) _ ?_);refine ai rfl _ _ _ rfl (w.heap.size+1+1) 242 #[.int .u64 0,.int .u64 0,.int .u64 0,.int .u64 0,.int .u64 0,.int .u64 0,.int .u64 0,.int .u64 0] (oE l) (by rfl) (by rfl) X2.out Ge Gd H1.out ?_;intro a Fx Fy;have f:=hid Fx;have s:=hid Fy;clear Fx Fy))
 go_step3
 have u:=hid (s.out.bx ((X0.out.alloc _).alloc _) (by omega));have j:=hid (s.out.bx (X1.out.alloc _) (by omega));have E:=hid (s.out.below (Y.out.alloc (by simp;omega) _) (by omega));have c2:=(f.out.cell 2).trans G2.out;have c3:=(f.out.cell 3).trans G3.out;have hl3:=f.out.lt;clear Eq R Fo O X2 X0 X1 Y s;go_wp2_with fail
 go_loop [6] (λv=>∃i:Nat,i<=225/\v=.int .i64 ((256+8*i:Nat):Int)/\Hid (spNo x y i)) (λv=>4000-(intOf v).toNat)
 case atStart=>exact⟨0,kqx _,rfl,hid λh=>by omega⟩
 obtain⟨i,hi,rfl,HN⟩:=hrel;obtain⟨n,q⟩:=xq (256+8*i);have m:=hid q;rw[q];by_cases Fs:i<225
 .have d1:decide ((n:Int)<=2048)=true:=by rw[kql];omega
  have d1n:decide (n<=2048)=true:=by rw[kql];omega
  have w1:IntKind.u64.wrap (n:Int)=(n:Int):=kzi _ (by omega);have w2x:IntKind.i64.wrap ((n:Int)+8)=((n+8:Nat):Int):=by rw[kqo _ (by omega)];omega
  have hn8:n<=2048:=by omega
  clear q;go_wp2_with fail
  go_loop [19] (λv=>∃t:Nat,t<=9/\v=.int .i64 (t:Int)/\Hid (spT x n y t)) (λv=>9-(intOf v).toNat)
  case atStart=>exact⟨0,kqx _,rfl,hid λh=>by omega⟩
  obtain⟨t,ht,rfl,HT⟩:=hrel;by_cases Gc:t<9
  .have w3x:IntKind.u64.wrap (t:Int)=(t:Int):=kzi _ (by omega);have ht9:(t:Int)<9:=by omega
   by_cases T:x=n
   .subst T;by_cases Fv:y=t
    .subst Fv;obtain⟨r0,r1,f0,f1,Gb⟩:=j.out.c2;have Fq:ak (x:Int)=true:=(af _).2 (by have:=m.out;omega);have U:=hid (C.out Fq (by omega));have HW:=hid (λW=>uN x y W (by omega) (by omega));have Ga:=λW=>C6 x y 0 0 W;rw[show ((x:Int)==0&&(y:Int)==0)=false by rw[show ((x:Int)==0)=false by rw[kqi];have:=m.out;omega];rfl] at Ga;have D:=λW=>B9 (zL x y) HL.out W;rw[HA.out] at D;obtain⟨AL,Fr⟩:=xq (oE (spL x y));rw[Fr] at D HW;have HM:=hid D;have N:=hid (show Bx a (w.heap.size+1+1) 242 #[.int .u64 (p0:Int),.int .u64 (p1:Int),.int .u64 (x:Int),.int .u64 (y:Int),.int .u64 (p4:Int),.int .u64 (p5:Int),.int .u64 (p6:Int),.int .u64 (p7:Int)] by rw[<-HA.out];exact f.out);clear Fq Fr D C J HT HN m ht Gc hi Fs;go_wp2_with fail;have x4:=((j.out.set_ 0 (.int .i64 (x:Int))).set_ 1 (.int .i64 (y:Int)));have r:=(N.out.far (p:=⟨w.heap.size+1,0,none⟩) (by simp) (.int .i64 (x:Int))).far (p:=⟨w.heap.size+1,1,none⟩) (by simp) (.int .i64 (y:Int));have Q:=hid ((u.out.far (p:=⟨w.heap.size+1,0,none⟩) (by simp) (.int .i64 (x:Int))).far (p:=⟨w.heap.size+1,1,none⟩) (by simp) (.int .i64 (y:Int)))
     have o:=hid ((E.out.setCell (p:=⟨w.heap.size+1,0,none⟩) (by simp) (.int .i64 (x:Int))).setCell (p:=⟨w.heap.size+1,1,none⟩) (by simp) (.int .i64 (y:Int)));obtain⟨W4,Fz⟩:∃W4,(a.setCell ⟨w.heap.size+1,0,none⟩ (.int .i64 (x:Int))).setCell ⟨w.heap.size+1,1,none⟩ (.int .i64 (y:Int))=W4:=⟨_,rfl⟩;rw[Fz] at x4 r Q o |-;obtain⟨q0,q1,-⟩:=x4.c2;obtain⟨e0,e1,e2,e3,e4,e5,e6,e7⟩:=r.c8;have XL4:=hid r;have X4:=hid x4;clear Fz u j f N E c2 c3 r0 r1 f0 f1 Gb x4 r;have hm:∀W,(Op.equalIn 10000 242 (.agg AL) (.agg #[.int .u64 (p0:Int),.int .u64 (p1:Int),.int .u64 (x:Int),.int .u64 (y:Int),.int .u64 (p4:Int),.int .u64 (p5:Int),.int .u64 (p6:Int),.int .u64 (p7:Int)])).run prog W=.ok (decide (spL x y=l)) W:=HM.out;obtain⟨dq,Fw⟩:=xq (decide (spL x y=l));rw[Fw] at hm U;clear Fw;cases dq
     all_goals
      go_region_held3 (λX:World=>X.cell? ⟨w.heap.size+1,0,none⟩=some (.int .i64 (x:Int))/\X.cell? ⟨w.heap.size+1,1,none⟩=some (.int .i64 (y:Int))/\X.cell? ⟨w.heap.size+1+1,0,none⟩=some (.int .u64 (p0:Int))/\X.cell? ⟨w.heap.size+1+1,1,none⟩=some (.int .u64 (p1:Int))/\X.cell? ⟨w.heap.size+1+1,2,none⟩=some (.int .u64 (x:Int))/\X.cell? ⟨w.heap.size+1+1,3,none⟩=some (.int .u64 (y:Int))/\X.cell? ⟨w.heap.size+1+1,4,none⟩=some (.int .u64 (p4:Int))/\X.cell? ⟨w.heap.size+1+1,5,none⟩=some (.int .u64 (p5:Int))/\X.cell? ⟨w.heap.size+1+1,6,none⟩=some (.int .u64 (p6:Int))/\X.cell? ⟨w.heap.size+1+1,7,none⟩=some (.int .u64 (p7:Int))) (go_keep)
       (first | (go_at_call 174;refine (HW.out _).mono ?_;rintro e w5 ⟨rfl,z⟩;have x45:=(show Bx W4.drew _ _ _ from X4.out).up z X4.out.lt;have L:=(show Bx W4.drew _ _ _ from XL4.out).up z XL4.out.lt;obtain⟨k0,k1,-⟩:=x45.c2;obtain⟨m0,m1,m2,m3,m4,m5,m6,m7⟩:=L.c8;have H:=hid ((show Bx W4.drew _ _ _ from Q.out).up z Q.out.lt);have Fu:=hid (o.out.drew.trans (z.mono o.out.size));clear x45 L))
      clear q0 q1 e0 e1 e2 e3 e4 e5 e6 e7 m0 m1 m2 m3 m4 m5 m6 m7;have hg5:=H.out.lt;obtain⟨v0,v1,f0,f1,-⟩:=H.out.c2;go_wp2_with fail;rw[Exit.noGoto_ret]
     .have M:=hid (B.out U.out);exact kqr (v:=.tuple #[.agg #[.int .i64 0,.int .i64 0],.int .i64 50]) (cA results116 _ ((H.out.set_ 0 _).set_ 1 _) rfl rfl) rfl ⟨by rw[M.out.1,M.out.2],(Fu.out.setCell (by simp) _).setCell (by simp) _⟩
     have M:=hid (P.out U.out);exact kqr (v:=.tuple #[.agg #[.int .i64 (x:Int),.int .i64 (y:Int)],.int .i64 0]) (cA results116 _ ((H.out.set_ 0 _).set_ 1 _) rfl rfl) rfl ⟨by rw[M.out.1,M.out.2],(Fu.out.setCell (by simp) _).setCell (by simp) _⟩
    have e1:((t:Int)==(y:Int))=false:=by rw[kqi];omega
    have e1n:(t==y)=false:=by rw[kqi];omega
    have V:Hid (spT x x y (t+1)):=hid λh=>HT.out ⟨rfl,by omega⟩;clear Fv;go_wp2_with fail
    go_round
    case rel=>exact⟨t+1,by omega,by go_num,V⟩
    case measure=>simp[intOf];omega
   have e1:((n:Int)==(x:Int))=false:=by rw[kqi];omega
   have e1n:(n==x)=false:=by rw[kqi];omega
   have V:Hid (spT x n y (t+1)):=hid λh=>T h.1;clear T;go_wp2_with fail
   go_round
   case rel=>exact⟨t+1,by omega,by go_num,V⟩
   case measure=>simp[intOf];omega
  obtain rfl:t=9:=by omega
  have B:Hid (spNo x y (i+1)):=hid (yH HN.out λh=>HT.out ⟨by have:=m.out;omega,by omega⟩);go_wp2_with fail
  go_round
  case rel=>exact⟨i+1,by omega,by have:=m.out;go_num,B⟩
  case measure=>simp[intOf];omega
 obtain rfl:i=225:=by omega
 have d1:decide ((n:Int)<=2048)=false:=by rw[kqc];omega
 have d1n:decide (n<=2048)=false:=by rw[kqc];omega
 clear q Fs;have M:=hid (B.out (J.out λh=>HN.out ⟨by have:=I.out h.1;omega,by have:=I.out h.1;omega,by have:=I.out h.1;omega,h.2⟩));have N:=hid (show Bx a (w.heap.size+1+1) 242 #[.int .u64 (p0:Int),.int .u64 (p1:Int),.int .u64 (x:Int),.int .u64 (y:Int),.int .u64 (p4:Int),.int .u64 (p5:Int),.int .u64 (p6:Int),.int .u64 (p7:Int)] by rw[<-HA.out];exact f.out);have Ga:=λW=>C6 0 0 0 0 W;obtain⟨q0,q1,-⟩:=j.out.c2;clear c2 c3;go_wp2_with fail;have ct0:∀g:SW (λX:World=>Below a.heap.size a X),g.w.cell? ⟨w.heap.size+1,0,none⟩=some (.int .i64 0):=λg=>(g.ok.cell (p:=⟨w.heap.size+1,0,none⟩) j.out.lt).trans q0;have ct1:∀g:SW (λX:World=>Below a.heap.size a X),g.w.cell? ⟨w.heap.size+1,1,none⟩=some (.int .i64 0):=λg=>(g.ok.cell (p:=⟨w.heap.size+1,1,none⟩) j.out.lt).trans q1
 refine ro (S:=λX:World=>Below a.heap.size a X) ((0,0,0)::(0,1,0)::(0,2,0)::(0,3,0)::(0,4,0)::(0,6,0)::(1,5,0)::(0,7,0)::(0,8,0)::[]) (.one _ true (none)::.one _ true (none)::.one _ true (none)::.one _ true (none)::.one _ true (some (some 41,false))::.one _ true (some (some 41,false))::.one _ false (some (some 41,false))::.one _ true (some (some 41,false))::.one _ true (none)::[]) (by kernel_rfl) (by kernel_rfl) (by decide) (by kernel_rfl) (by rfl) (λ_ _ d _ _ h=>by cases d<;>exact h) (kqk _ _).drew ?_;have F:=hid ((kqk a.heap.size a).drew);obtain⟨X0,Ft⟩:=xq a.drew;rw[Ft] at F |-;clear Ft;have hne:Nonempty (SW (λX:World=>Below a.heap.size a X)):=⟨⟨X0,F.out⟩⟩
 iterate 6 (first | (refine iy (by rfl) ?_;(try simp only[Act.put,kqa,kqg,kqf])) | (refine mJ (by rfl) ?_;intro K hK;go_big_quiet_op;go_big_quiet_on))
 (refine iy (by rfl) ?_;(try simp only[Act.put,kqa,kqg,kqf]))
 iterate 2 (first | (refine iy (by rfl) ?_;(try simp only[Act.put,kqa,kqg,kqf])) | (refine mJ (by rfl) ?_;intro K hK;go_big_quiet_op;go_big_quiet_on))
 refine CU ?_;have Z:=hid (u.out.up F.out u.out.lt);have o:=hid (E.out.trans (F.out.mono E.out.size));have hg6:=Z.out.lt;obtain⟨v0,v1,f0,f1,-⟩:=Z.out.c2;clear q0 q1;go_wp2_with fail;rw[Exit.noGoto_ret];exact kqr (v:=.tuple #[.agg #[.int .i64 0,.int .i64 0],.int .i64 50]) (cA results116 _ ((Z.out.set_ 0 _).set_ 1 _) rfl rfl) rfl ⟨by rw[M.out.1,M.out.2],(o.out.setCell (by simp) _).setCell (by simp) _⟩
theorem Bx.c4(h:Bx w g t #[x0,x1,x2,x3]):w.cell? ⟨g,0,none⟩=some x0/\w.cell? ⟨g,1,none⟩=some x1/\w.cell? ⟨g,2,none⟩=some x2/\w.cell? ⟨g,3,none⟩=some x3 /\
 w.frozen? ⟨g,0,none⟩=false/\w.frozen? ⟨g,1,none⟩=false/\w.frozen? ⟨g,2,none⟩=false/\w.frozen? ⟨g,3,none⟩=false/\g<w.heap.size:=
 ⟨h.cell 0,h.cell 1,h.cell 2,h.cell 3,h.frozen 0,h.frozen 1,h.frozen 2,h.frozen 3,h.lt⟩
theorem vR(w:World):Calls prog 115 #[] w λe w'=>e=.returned (.agg #[.int .i64 0,.int .i64 8])/\Below w.heap.size w w':=by
 have hb:∀W,(Instr.build 179 #[(0,.int .i64 0),(1,.int .i64 8)]).run prog W=.ok (.agg #[.int .i64 0,.int .i64 8]) W:=λ_=>by kernel_rfl
 have a:=Bx.new w 179 #[.int .i64 0,.int .i64 0];obtain⟨q0,q1,f0,f1,hg⟩:=a.c2;go_enter func115,ntmps115;go_wp2_with fail;have b:=Bx.new w 179 #[.int .i64 0,.int .i64 8];obtain⟨p0,p1,-⟩:=b.c2;exact kqr (v:=.agg #[.int .i64 0,.int .i64 8]) (by simp[results,results115,go_sem]) rfl ⟨rfl,(kqk w.heap.size w).alloc (kqb _) _⟩
theorem CQ(l:List Nat):∃a b:Int,spV l=.agg #[.int .i64 a,.int .i64 b]/\(j8 l=0->a=((wd l 2:Nat):Int)/\b=((wd l 3:Nat):Int)):=by
 cases h:oY l with
 | true=>exact⟨_,_,(ml h).1,λ_=>⟨rfl,rfl⟩⟩
 | false=>exact⟨0,0,(nc h).1,λc=>by rw[(nc h).2] at c;cases c⟩
theorem zQ :j8 l=0↔oY l=true:=by unfold j8;split<;>simp_all
theorem cp_is(ws:List Nat)(a:Nat){x y:Int}(hv:j8 (sp8 ws a)=0->x=((wd (sp8 ws a) 2:Nat):Int)/\y=((wd (sp8 ws a) 3:Nat):Int)):(kT ws a=if j8 (sp8 ws a)=0 then (x==(ws.length:Int)) else false)/\(kT ws a=true->y=((wd ws (a+3):Nat):Int)):=by
 have e:wd (sp8 ws a) 2=wd ws (a+2):=mM (by omega);have c:wd (sp8 ws a) 3=wd ws (a+3):=mM (by omega);rw[e,c] at hv;have b:kT ws a=if j8 (sp8 ws a)=0 then (x==(ws.length:Int)) else false:=by
  unfold kT;by_cases h:j8 (sp8 ws a)=0
  .rw[if_pos h,zQ.1 h,kzz,(hv h).1,kzk,kqu,kqu];omega
  rw[if_neg h,show oY (sp8 ws a)=false by
   cases d:oY (sp8 ws a) with
   | false=>rfl
   | true=>exact absurd (zQ.2 d) h]
  rfl
 refine⟨b,λh=>?_⟩;rw[b] at h;split at h
 .rename_i h2;exact (hv h2).2
 cases h
theorem AJ(A:Option Addr)(ws:List Nat)(c n:Nat)(w:World)(hn:ws.length=n)(hm:n<=9223372036854775807)(hc:n<=c)(hr:RdW w w.heap.size A ws):
 Calls prog 68 #[.slice A n c] w λe w'=>yj ws e/\Below w.heap.size w w':=by
 subst hn;have HR:=hid hr;have Fs:=hid (λW=>aJ A ws.length c W hm);have M:=hid (((kqk w.heap.size w).alloc (kqb _) (.cells #[.int .i64 0,.int .i64 0] 126)).alloc (by simp) (.cells #[.bool false,.bool false] 127));have x0:=(Bx.new w 126 #[.int .i64 0,.int .i64 0]).alloc (.cells #[.bool false,.bool false] 127);have x1:=Bx.new (w.alloc (.cells #[.int .i64 0,.int .i64 0] 126)) 127 #[.bool false,.bool false];rw[kqn] at x1;have X0:=hid x0;have X1:=hid x1;clear x0 x1 hr;cases hs:ak (ws.length:Int)
 .have HV:=hid (rF hs);rw[bJ hs] at Fs;clear hs hm hc;go_enter func68,ntmps68;go_wp2_with fail;refine (Fs.out _).mono ?_;rintro e w1 ⟨rfl,rfl⟩;obtain⟨a,Q⟩:=xq ((w.alloc (.cells #[.int .i64 0,.int .i64 0] 126)).alloc (.cells #[.bool false,.bool false] 127));rw[Q] at X0 X1 M |-;clear Q;obtain⟨v0,v1,f0,f1,hg0⟩:=X0.out.c2;obtain⟨v2,v3,f2,f3,Gh⟩:=X1.out.c2;go_wp2_with fail;exact kqr (v:=.tuple #[.agg #[.int .i64 0,.int .i64 0],.agg #[.bool false,.bool false],.int .i64 8]) (cO results68 _ ((((X0.out.set_ 0 _).set_ 1 _).far (by simp) _).far (by simp) _) ((((X1.out.far (by simp) _).far (by simp) _).set_ 0 _).set_ 1 _) rfl rfl rfl) rfl ⟨⟨0,false,false,by rw[HV.out.1,HV.out.2];rfl⟩,(((M.out.setCell (by simp) _).setCell (by simp) _).setCell (by simp) _).setCell (by simp) _⟩
 have hb:=(af _).1 hs;rw[aW hs] at Fs;obtain⟨b,off,rfl,Gk,-⟩:=RdW.at_ HR.out (show 0<ws.length by omega);obtain⟨l,o,Gd,Ge⟩:=CQ (sp8 ws 0);obtain⟨m,q,Gc,Gb⟩:=CQ (sp8 ws 8);have Fo:=hid (cp_is ws 0 Ge);have R:=hid (cp_is ws 8 Gb);have Fp:=hid (λW (hr:RdW W W.heap.size (some ⟨b,off,none⟩) ws)=>qR (some ⟨b,off,none⟩) (sp8 ws 0) c W (sA (by omega)) (by
  have:=yF hr 0
  simpa [Addr.add] using this))
 have Y:=hid (λW (hr:RdW W W.heap.size (some ⟨b,off,none⟩) ws)=>qR (some ⟨b,off+8,none⟩) (sp8 ws 8) (c-8) W (sA (by omega)) (by
  have:=yF hr 8
  simpa [Addr.add] using this))
 rw[Gd] at Fp;rw[Gc] at Y;have HV:Hid (tyN ws=(if kT ws 0=true then some (wd ws 3) else if kT ws 8=true then some (wd ws 11) else none)/\jk ws=if (tyN ws).isSome=true then 0 else 50):=hid ⟨rfl,by unfold jk;rw[if_pos hs]⟩;have k3:8<=c:=by omega
 have k4:16<=c:=by omega
 obtain⟨e0,Gg⟩:=xq (j8 (sp8 ws 0));obtain⟨e1,Fz⟩:=xq (j8 (sp8 ws 8));rw[Gg] at Fp Fo;rw[Fz] at Y R;clear hs hb Gd Gc Ge Gb Gg Fz Gk hm hc;go_enter func68,ntmps68;go_wp2_with fail;refine (Fs.out _).mono ?_;rintro e w1 ⟨rfl,rfl⟩;obtain⟨a,Q⟩:=xq ((w.alloc (.cells #[.int .i64 0,.int .i64 0] 126)).alloc (.cells #[.bool false,.bool false] 127));rw[Q] at X0 X1 M |-;clear Q;go_wp2_with fail;refine (vR _).mono ?_;rintro e wS ⟨rfl,N⟩;have x6:=(Bx.new a 178 #[.int .i64 0,.int .i64 0,.int .i64 0,.int .i64 0]).alloc (.cells #[.bool false,.bool false] 127);have x7:=Bx.new (a.alloc (.cells #[.int .i64 0,.int .i64 0,.int .i64 0,.int .i64 0] 178)) 127 #[.bool false,.bool false];rw[kqn] at x7;have B:=hid (x6.up N x6.lt);have z:=hid (x7.up N x7.lt);have X0S:=hid (((X0.out.alloc (.cells #[.int .i64 0,.int .i64 0,.int .i64 0,.int .i64 0] 178)).alloc (.cells #[.bool false,.bool false] 127)).up N ((X0.out.alloc (.cells #[.int .i64 0,.int .i64 0,.int .i64 0,.int .i64 0] 178)).alloc (.cells #[.bool false,.bool false] 127)).lt);have X1S:=hid (((X1.out.alloc (.cells #[.int .i64 0,.int .i64 0,.int .i64 0,.int .i64 0] 178)).alloc (.cells #[.bool false,.bool false] 127)).up N ((X1.out.alloc (.cells #[.int .i64 0,.int .i64 0,.int .i64 0,.int .i64 0] 178)).alloc (.cells #[.bool false,.bool false] 127)).lt)
 have s:=M.out.size;have Gh:=X1.out.lt;have Gj:=hid (((M.out.alloc s (.cells #[.int .i64 0,.int .i64 0,.int .i64 0,.int .i64 0] 178)).alloc (by simp;omega) (.cells #[.bool false,.bool false] 127)).trans (N.mono (by simp;omega)));obtain⟨P,Gf⟩:=xq (kT ws 0);obtain⟨C,Ga⟩:=xq (kT ws 8);rw[Gf] at Fo HV;rw[Ga] at R HV;clear Gf Ga x6 x7 N X0 X1 M;go_wp2_with fail;have ix0:∀w,(Instr.index 179 (.agg #[.int .i64 0,.int .i64 8]) (.int .i64 0)).run prog w=.ok (.int .i64 0) w:=λ_=>by kernel_rfl
 have ix1:∀w,(Instr.index 179 (.agg #[.int .i64 0,.int .i64 8]) (.int .i64 1)).run prog w=.ok (.int .i64 8) w:=λ_=>by kernel_rfl
 go_loopw [20] (λi wr=>∃k:Nat,k<=2/\i=.int .i64 k/\Hid (Bx wr w.heap.size 126 #[.int .i64 0,.int .i64 0])/\Hid (Bx wr (w.heap.size+1) 127 #[.bool false,.bool false])/\Hid (k=0->Bx wr a.heap.size 178 #[.int .i64 0,.int .i64 0,.int .i64 0,.int .i64 0]/\Bx wr (a.heap.size+1) 127 #[.bool false,.bool false])/\Hid (k=1->Bx wr a.heap.size 178 #[.int .i64 l,.int .i64 o,.int .i64 0,.int .i64 0]/\Bx wr (a.heap.size+1) 127 #[.bool P,.bool false])/\Hid (k=2->Bx wr a.heap.size 178 #[.int .i64 l,.int .i64 o,.int .i64 m,.int .i64 q]/\Bx wr (a.heap.size+1) 127 #[.bool P,.bool C])/\Hid (Below w.heap.size w wr)) (λi _=>2-(intOf i).toNat)
 case atStart=>exact⟨0,kqx _,rfl,X0S,X1S,hid λ_=>⟨B.out,z.out⟩,hid λh=>by omega,hid λh=>by omega,Gj⟩
 obtain⟨k,hk,rfl,L,O,T0,T1,T2,T⟩:=hrel;by_cases h0:k=0
 .subst h0;have B:=hid (T0.out rfl).1;have z:=hid (T0.out rfl).2;clear T0 T1 T2;have V:=T.out.size;have U:=hid (Fp.out wr (HR.out.up T.out V));by_cases Z:e0=0
  .have hq:(l==(ws.length:Int))=P:=by have:=Fo.out.1;rw[if_pos Z] at this;exact this.symm
   have HQ:=hid hq;subst Z;go_wp2_with fail;refine U.out.mono ?_;rintro e r ⟨rfl,d⟩;have G:=d.size;have x:=hid ((L.out.up d L.out.lt).alloc (.cells #[.int .i64 l,.int .i64 o] 126));have u:=hid ((O.out.up d O.out.lt).alloc (.cells #[.int .i64 l,.int .i64 o] 126));have j:=((B.out.up d B.out.lt).alloc (.cells #[.int .i64 l,.int .i64 o] 126));have f:=((z.out.up d z.out.lt).alloc (.cells #[.int .i64 l,.int .i64 o] 126));have g:=Bx.new r 126 #[.int .i64 l,.int .i64 o];have y:=hid ((T.out.trans (d.mono V)).alloc (kzv V G) (.cells #[.int .i64 l,.int .i64 o] 126));have Fx:=B.out.lt;have Fw:=z.out.lt;clear d;go_wp2_with fail;obtain⟨J,t⟩:=xq (r.alloc (.cells #[.int .i64 l,.int .i64 o] 126));rw[t] at x u j f g y |-;clear t;obtain⟨q0,q1,-,-,Fy⟩:=g.c2;obtain⟨p0,p1,p2,p3,p4,p5,p6,p7,Fu⟩:=j.c4;obtain⟨s0,s1,s2,s3,Ft⟩:=f.c2;have H:=hid j;have D:=hid f;have XS5:=hid (show Bx J.drew _ _ _ from g);have E:r.heap.size≠a.heap.size:=by omega
   have F:r.heap.size≠a.heap.size+1:=by omega
   clear j f g;have Eq:=E.symm;have Fq:=F.symm
   first | (go_region_held3 (λX:World=>X.cell? ⟨r.heap.size,0,none⟩=some (.int .i64 l)/\X.cell? ⟨r.heap.size,1,none⟩=some (.int .i64 o)) (go_keep) (fail)) | fail
   clear q0 q1 p0 p1 p2 p3 p4 p5 p6 p7 s0 s1 s2 s3;go_wp2_with fail;have Z0:=hid (((x.out.far (p:=⟨a.heap.size,0,none⟩) (by simp;omega) (.int .i64 l)).far (p:=⟨a.heap.size,1,none⟩) (by simp;omega) (.int .i64 o)).far (p:=⟨a.heap.size+1,0,none⟩) (by simp;omega) (.bool P));have Z1:=hid (((u.out.far (p:=⟨a.heap.size,0,none⟩) (by simp;omega) (.int .i64 l)).far (p:=⟨a.heap.size,1,none⟩) (by simp;omega) (.int .i64 o)).far (p:=⟨a.heap.size+1,0,none⟩) (by simp;omega) (.bool P));have Z6:=hid (((H.out.set_ 0 (.int .i64 l)).set_ 1 (.int .i64 o)).far (p:=⟨a.heap.size+1,0,none⟩) (by simp) (.bool P));have Z7:=hid (((D.out.far (p:=⟨a.heap.size,0,none⟩) (by simp) (.int .i64 l)).far (p:=⟨a.heap.size,1,none⟩) (by simp) (.int .i64 o)).set_ 0 (.bool P));have ZB:=hid (((y.out.setCell (p:=⟨a.heap.size,0,none⟩) s (.int .i64 l)).setCell (p:=⟨a.heap.size,1,none⟩) s (.int .i64 o)).setCell (p:=⟨a.heap.size+1,0,none⟩) (kkx s) (.bool P));go_roundw
   case rel=>exact⟨1,by omega,by go_num,Z0,Z1,hid λh=>absurd h (by decide),hid λh=>⟨Z6.out,Z7.out⟩,hid λh=>absurd h (by decide),hid ZB.out.drew⟩
   case measure=>simp[intOf]
  have hq:P=false:=by have:=Fo.out.1;rw[if_neg Z] at this;exact this
  subst hq;have Gi:(e0==0)=false:=by rw[kqi];exact Z
  clear Z;go_wp2_with fail;refine U.out.mono ?_;rintro e r ⟨rfl,d⟩;have G:=d.size;have x:=hid ((L.out.up d L.out.lt).alloc (.cells #[.int .i64 l,.int .i64 o] 126));have u:=hid ((O.out.up d O.out.lt).alloc (.cells #[.int .i64 l,.int .i64 o] 126));have j:=((B.out.up d B.out.lt).alloc (.cells #[.int .i64 l,.int .i64 o] 126));have f:=((z.out.up d z.out.lt).alloc (.cells #[.int .i64 l,.int .i64 o] 126));have g:=Bx.new r 126 #[.int .i64 l,.int .i64 o];have y:=hid ((T.out.trans (d.mono V)).alloc (kzv V G) (.cells #[.int .i64 l,.int .i64 o] 126));have Fx:=B.out.lt;have Fw:=z.out.lt;clear d;go_wp2_with fail;obtain⟨J,t⟩:=xq (r.alloc (.cells #[.int .i64 l,.int .i64 o] 126));rw[t] at x u j f g y |-;clear t;obtain⟨q0,q1,-,-,Fy⟩:=g.c2;obtain⟨p0,p1,p2,p3,p4,p5,p6,p7,Fu⟩:=j.c4;obtain⟨s0,s1,s2,s3,Ft⟩:=f.c2;have H:=hid j;have D:=hid f;have XS5:=hid (show Bx J.drew _ _ _ from g);have E:r.heap.size≠a.heap.size:=by omega
  have F:r.heap.size≠a.heap.size+1:=by omega
  clear j f g;have Eq:=E.symm;have Fq:=F.symm;refine kz9 (S:=λX:World=>X.cell? ⟨r.heap.size,0,none⟩=some (.int .i64 l)/\X.cell? ⟨r.heap.size,1,none⟩=some (.int .i64 o)) (by kernel_rfl) ⟨q0,q1⟩ (λI=>?_);show wpAnyH _ _ _ _ _ 16 #[false,false,false,false,false,false,false,false,false,false,false,false,false,false,false,false] _ _;refine tj 0 (.int .i64 0) ?_;dsimp only[Act.put,kqh,kqe,kqd,kqa,kqg,kqf];refine tj 1 (.int .i64 0) ?_;dsimp only[Act.put,kqh,kqe,kqd,kqa,kqg,kqf];refine tj 2 (.agg #[.int .i64 l,.int .i64 o]) ?_;dsimp only[Act.put,kqh,kqe,kqd,kqa,kqg,kqf];refine tj 3 (.int .i64 e0) ?_;dsimp only[Act.put,kqh,kqe,kqd,kqa,kqg,kqf];refine tj 4 (.bool false) ?_;dsimp only[Act.put,kqh,kqe,kqd,kqa,kqg,kqf];refine tj 5 (.bool false) ?_;dsimp only[Act.put,kqh,kqe,kqd,kqa,kqg,kqf];refine sk 6 ?_;dsimp only[Act.put,kqh,kqe,kqd,kqa,kqg,kqf];refine sk 7 ?_;dsimp only[Act.put,kqh,kqe,kqd,kqa,kqg,kqf];refine sk 8 ?_;dsimp only[Act.put,kqh,kqe,kqd,kqa,kqg,kqf];refine sk 9 ?_;dsimp only[Act.put,kqh,kqe,kqd,kqa,kqg,kqf];refine sk 10 ?_;dsimp only[Act.put,kqh,kqe,kqd,kqa,kqg,kqf];refine tj 11 (.bool false) ?_;dsimp only[Act.put,kqh,kqe,kqd,kqa,kqg,kqf];refine tj 12 (.pointer (some ⟨a.heap.size,0,none⟩)) ?_
  dsimp only[Act.put,kqh,kqe,kqd,kqa,kqg,kqf];refine kz4 (rs:=[13]) (by kernel_rfl) (by simp) ?_;refine AllReadyH.cons rfl (λK hK=>?_) AllReadyH.nil;go_simp;refine hK.out _ _ ⟨by go_keep,by go_keep⟩ ?_;clear hK K;intro Gm;refine tj 14 (.pointer (some ⟨a.heap.size+1,0,none⟩)) ?_
  dsimp only[Act.put,kqh,kqe,kqd,kqa,kqg,kqf];refine kz4 (rs:=[15]) (by kernel_rfl) (by simp) ?_;refine AllReadyH.cons rfl (λK hK=>?_) AllReadyH.nil;go_simp;refine hK.out _ _ ⟨by go_keep,by go_keep⟩ ?_;clear hK K;intro Gl;refine kjd (by kernel_rfl) ?_ _;clear I;clear q0 q1 p0 p1 p2 p3 p4 p5 p6 p7 s0 s1 s2 s3;go_wp2_with fail;have Z0:=hid (((x.out.far (p:=⟨a.heap.size,0,none⟩) (by simp;omega) (.int .i64 l)).far (p:=⟨a.heap.size,1,none⟩) (by simp;omega) (.int .i64 o)).far (p:=⟨a.heap.size+1,0,none⟩) (by simp;omega) (.bool false));have Z1:=hid (((u.out.far (p:=⟨a.heap.size,0,none⟩) (by simp;omega) (.int .i64 l)).far (p:=⟨a.heap.size,1,none⟩) (by simp;omega) (.int .i64 o)).far (p:=⟨a.heap.size+1,0,none⟩) (by simp;omega) (.bool false));have Z6:=hid (((H.out.set_ 0 (.int .i64 l)).set_ 1 (.int .i64 o)).far (p:=⟨a.heap.size+1,0,none⟩) (by simp) (.bool false));have Z7:=hid (((D.out.far (p:=⟨a.heap.size,0,none⟩) (by simp) (.int .i64 l)).far (p:=⟨a.heap.size,1,none⟩) (by simp) (.int .i64 o)).set_ 0 (.bool false));have ZB:=hid (((y.out.setCell (p:=⟨a.heap.size,0,none⟩) s (.int .i64 l)).setCell (p:=⟨a.heap.size,1,none⟩) s (.int .i64 o)).setCell (p:=⟨a.heap.size+1,0,none⟩) (kkx s) (.bool false));go_roundw
  case rel=>exact⟨1,by omega,by go_num,Z0,Z1,hid λh=>absurd h (by decide),hid λh=>⟨Z6.out,Z7.out⟩,hid λh=>absurd h (by decide),hid ZB.out.drew⟩
  case measure=>simp[intOf]
 by_cases h1:k=1
 .subst h1;have B:=hid (T1.out rfl).1;have z:=hid (T1.out rfl).2;clear T0 T1 T2;have V:=T.out.size;have U:=hid (Y.out wr (HR.out.up T.out V));by_cases Z:e1=0
  .have hq:(m==(ws.length:Int))=C:=by have:=R.out.1;rw[if_pos Z] at this;exact this.symm
   have HQ:=hid hq;subst Z;go_wp2_with fail;refine U.out.mono ?_;rintro e r ⟨rfl,d⟩;have G:=d.size;have x:=hid ((L.out.up d L.out.lt).alloc (.cells #[.int .i64 m,.int .i64 q] 126));have u:=hid ((O.out.up d O.out.lt).alloc (.cells #[.int .i64 m,.int .i64 q] 126));have j:=((B.out.up d B.out.lt).alloc (.cells #[.int .i64 m,.int .i64 q] 126));have f:=((z.out.up d z.out.lt).alloc (.cells #[.int .i64 m,.int .i64 q] 126));have g:=Bx.new r 126 #[.int .i64 m,.int .i64 q];have y:=hid ((T.out.trans (d.mono V)).alloc (kzv V G) (.cells #[.int .i64 m,.int .i64 q] 126));have Fx:=B.out.lt;have Fw:=z.out.lt;clear d;go_wp2_with fail;obtain⟨J,t⟩:=xq (r.alloc (.cells #[.int .i64 m,.int .i64 q] 126));rw[t] at x u j f g y |-;clear t;obtain⟨q0,q1,-,-,Fy⟩:=g.c2;obtain⟨p0,p1,p2,p3,p4,p5,p6,p7,Fu⟩:=j.c4;obtain⟨s0,s1,s2,s3,Ft⟩:=f.c2;have H:=hid j;have D:=hid f;have XS5:=hid (show Bx J.drew _ _ _ from g);have E:r.heap.size≠a.heap.size:=by omega
   have F:r.heap.size≠a.heap.size+1:=by omega
   clear j f g;have Eq:=E.symm;have Fq:=F.symm
   first | (go_region_held3 (λX:World=>X.cell? ⟨r.heap.size,0,none⟩=some (.int .i64 m)/\X.cell? ⟨r.heap.size,1,none⟩=some (.int .i64 q)) (go_keep) (fail)) | fail
   clear q0 q1 p0 p1 p2 p3 p4 p5 p6 p7 s0 s1 s2 s3;go_wp2_with fail;have Z0:=hid (((x.out.far (p:=⟨a.heap.size,2,none⟩) (by simp;omega) (.int .i64 m)).far (p:=⟨a.heap.size,3,none⟩) (by simp;omega) (.int .i64 q)).far (p:=⟨a.heap.size+1,1,none⟩) (by simp;omega) (.bool C));have Z1:=hid (((u.out.far (p:=⟨a.heap.size,2,none⟩) (by simp;omega) (.int .i64 m)).far (p:=⟨a.heap.size,3,none⟩) (by simp;omega) (.int .i64 q)).far (p:=⟨a.heap.size+1,1,none⟩) (by simp;omega) (.bool C));have Z6:=hid (((H.out.set_ 2 (.int .i64 m)).set_ 3 (.int .i64 q)).far (p:=⟨a.heap.size+1,1,none⟩) (by simp) (.bool C));have Z7:=hid (((D.out.far (p:=⟨a.heap.size,2,none⟩) (by simp) (.int .i64 m)).far (p:=⟨a.heap.size,3,none⟩) (by simp) (.int .i64 q)).set_ 1 (.bool C));have ZB:=hid (((y.out.setCell (p:=⟨a.heap.size,2,none⟩) s (.int .i64 m)).setCell (p:=⟨a.heap.size,3,none⟩) s (.int .i64 q)).setCell (p:=⟨a.heap.size+1,1,none⟩) (kkx s) (.bool C));go_roundw
   case rel=>exact⟨2,by omega,by go_num,Z0,Z1,hid λh=>absurd h (by decide),hid λh=>absurd h (by decide),hid λh=>⟨Z6.out,Z7.out⟩,hid ZB.out.drew⟩
   case measure=>simp[intOf]
  have hq:C=false:=by have:=R.out.1;rw[if_neg Z] at this;exact this
  subst hq;have Gi:(e1==0)=false:=by rw[kqi];exact Z
  clear Z;go_wp2_with fail;refine U.out.mono ?_;rintro e r ⟨rfl,d⟩;have G:=d.size;have x:=hid ((L.out.up d L.out.lt).alloc (.cells #[.int .i64 m,.int .i64 q] 126));have u:=hid ((O.out.up d O.out.lt).alloc (.cells #[.int .i64 m,.int .i64 q] 126));have j:=((B.out.up d B.out.lt).alloc (.cells #[.int .i64 m,.int .i64 q] 126));have f:=((z.out.up d z.out.lt).alloc (.cells #[.int .i64 m,.int .i64 q] 126));have g:=Bx.new r 126 #[.int .i64 m,.int .i64 q];have y:=hid ((T.out.trans (d.mono V)).alloc (kzv V G) (.cells #[.int .i64 m,.int .i64 q] 126));have Fx:=B.out.lt;have Fw:=z.out.lt;clear d;go_wp2_with fail;obtain⟨J,t⟩:=xq (r.alloc (.cells #[.int .i64 m,.int .i64 q] 126));rw[t] at x u j f g y |-;clear t;obtain⟨q0,q1,-,-,Fy⟩:=g.c2;obtain⟨p0,p1,p2,p3,p4,p5,p6,p7,Fu⟩:=j.c4;obtain⟨s0,s1,s2,s3,Ft⟩:=f.c2;have H:=hid j;have D:=hid f;have XS5:=hid (show Bx J.drew _ _ _ from g);have E:r.heap.size≠a.heap.size:=by omega
  have F:r.heap.size≠a.heap.size+1:=by omega
  clear j f g;have Eq:=E.symm;have Fq:=F.symm;refine kz9 (S:=λX:World=>X.cell? ⟨r.heap.size,0,none⟩=some (.int .i64 m)/\X.cell? ⟨r.heap.size,1,none⟩=some (.int .i64 q)) (by kernel_rfl) ⟨q0,q1⟩ (λI=>?_);show wpAnyH _ _ _ _ _ 16 #[false,false,false,false,false,false,false,false,false,false,false,false,false,false,false,false] _ _;refine tj 0 (.int .i64 1) ?_;dsimp only[Act.put,kqh,kqe,kqd,kqa,kqg,kqf];refine tj 1 (.int .i64 1) ?_;dsimp only[Act.put,kqh,kqe,kqd,kqa,kqg,kqf];refine tj 2 (.agg #[.int .i64 m,.int .i64 q]) ?_;dsimp only[Act.put,kqh,kqe,kqd,kqa,kqg,kqf];refine tj 3 (.int .i64 e1) ?_;dsimp only[Act.put,kqh,kqe,kqd,kqa,kqg,kqf];refine tj 4 (.bool false) ?_;dsimp only[Act.put,kqh,kqe,kqd,kqa,kqg,kqf];refine tj 5 (.bool false) ?_;dsimp only[Act.put,kqh,kqe,kqd,kqa,kqg,kqf];refine sk 6 ?_;dsimp only[Act.put,kqh,kqe,kqd,kqa,kqg,kqf];refine sk 7 ?_;dsimp only[Act.put,kqh,kqe,kqd,kqa,kqg,kqf];refine sk 8 ?_;dsimp only[Act.put,kqh,kqe,kqd,kqa,kqg,kqf];refine sk 9 ?_;dsimp only[Act.put,kqh,kqe,kqd,kqa,kqg,kqf];refine sk 10 ?_;dsimp only[Act.put,kqh,kqe,kqd,kqa,kqg,kqf];refine tj 11 (.bool false) ?_;dsimp only[Act.put,kqh,kqe,kqd,kqa,kqg,kqf];refine tj 12 (.pointer (some ⟨a.heap.size,2,none⟩)) ?_
  dsimp only[Act.put,kqh,kqe,kqd,kqa,kqg,kqf];refine kz4 (rs:=[13]) (by kernel_rfl) (by simp) ?_;refine AllReadyH.cons rfl (λK hK=>?_) AllReadyH.nil;go_simp;refine hK.out _ _ ⟨by go_keep,by go_keep⟩ ?_;clear hK K;intro Gm;refine tj 14 (.pointer (some ⟨a.heap.size+1,1,none⟩)) ?_
  dsimp only[Act.put,kqh,kqe,kqd,kqa,kqg,kqf];refine kz4 (rs:=[15]) (by kernel_rfl) (by simp) ?_;refine AllReadyH.cons rfl (λK hK=>?_) AllReadyH.nil;go_simp;refine hK.out _ _ ⟨by go_keep,by go_keep⟩ ?_;clear hK K;intro Gl;refine kjd (by kernel_rfl) ?_ _;clear I;clear q0 q1 p0 p1 p2 p3 p4 p5 p6 p7 s0 s1 s2 s3;go_wp2_with fail;have Z0:=hid (((x.out.far (p:=⟨a.heap.size,2,none⟩) (by simp;omega) (.int .i64 m)).far (p:=⟨a.heap.size,3,none⟩) (by simp;omega) (.int .i64 q)).far (p:=⟨a.heap.size+1,1,none⟩) (by simp;omega) (.bool false));have Z1:=hid (((u.out.far (p:=⟨a.heap.size,2,none⟩) (by simp;omega) (.int .i64 m)).far (p:=⟨a.heap.size,3,none⟩) (by simp;omega) (.int .i64 q)).far (p:=⟨a.heap.size+1,1,none⟩) (by simp;omega) (.bool false));have Z6:=hid (((H.out.set_ 2 (.int .i64 m)).set_ 3 (.int .i64 q)).far (p:=⟨a.heap.size+1,1,none⟩) (by simp) (.bool false));have Z7:=hid (((D.out.far (p:=⟨a.heap.size,2,none⟩) (by simp) (.int .i64 m)).far (p:=⟨a.heap.size,3,none⟩) (by simp) (.int .i64 q)).set_ 1 (.bool false));have ZB:=hid (((y.out.setCell (p:=⟨a.heap.size,2,none⟩) s (.int .i64 m)).setCell (p:=⟨a.heap.size,3,none⟩) s (.int .i64 q)).setCell (p:=⟨a.heap.size+1,1,none⟩) (kkx s) (.bool false));go_roundw
  case rel=>exact⟨2,by omega,by go_num,Z0,Z1,hid λh=>absurd h (by decide),hid λh=>absurd h (by decide),hid λh=>⟨Z6.out,Z7.out⟩,hid ZB.out.drew⟩
  case measure=>simp[intOf]
 have h2:k=2:=by omega
 subst h2;have B:=hid (T2.out rfl).1;have z:=hid (T2.out rfl).2;obtain⟨p0,p1,p2,p3,-,-,-,-,-⟩:=B.out.c4;obtain⟨s0,s1,-⟩:=z.out.c2;have hgy0:=L.out.lt;have hgy1:=O.out.lt;obtain⟨v0,v1,f0,f1,-⟩:=L.out.c2;obtain⟨v2,v3,f2,f3,-⟩:=O.out.c2;clear T0 T1 T2;have n1:w.heap.size≠a.heap.size:=by omega
 have n2:w.heap.size≠a.heap.size+1:=by omega
 have n3:w.heap.size+1≠a.heap.size:=by omega
 cases P
 .cases C
  .have HN:Hid (tyN ws=none/\jk ws=50):=hid (by have:=HV.out;simp at this;exact⟨this.1,by rw[this.2,this.1];rfl⟩);go_wp2_with fail;exact kqr (v:=.tuple #[.agg #[.int .i64 0,.int .i64 0],.agg #[.bool false,.bool false],.int .i64 50]) (cO results68 _ (show Bx _ _ _ _ from (((L.out.set_ 0 (.int .i64 0)).set_ 1 (.int .i64 0)).far (p:=⟨w.heap.size+1,0,none⟩) (by simp) (.bool false)).far (p:=⟨w.heap.size+1,1,none⟩) (by simp) (.bool false)) (show Bx _ _ _ _ from (((O.out.far (p:=⟨w.heap.size,0,none⟩) (by simp) (.int .i64 0)).far (p:=⟨w.heap.size,1,none⟩) (by simp) (.int .i64 0)).set_ 0 (.bool false)).set_ 1 (.bool false)) rfl rfl rfl) rfl ⟨⟨0,false,false,by rw[HN.out.1,HN.out.2];rfl⟩,(((T.out.setCell (p:=⟨w.heap.size,0,none⟩) (kqb _) (.int .i64 0)).setCell (p:=⟨w.heap.size,1,none⟩) (kqb _) (.int .i64 0)).setCell (p:=⟨w.heap.size+1,0,none⟩) (kzx _) (.bool false)).setCell (p:=⟨w.heap.size+1,1,none⟩) (kzx _) (.bool false)⟩
  have Fr:q=((wd ws 11:Nat):Int):=R.out.2 rfl;have HN:Hid (tyN ws=some (wd ws 11)/\jk ws=0):=hid (by have:=HV.out;simp at this;exact⟨this.1,by rw[this.2,this.1];rfl⟩);have Fv:=hid Fr;clear Fr;go_wp2_with fail
  go_region_held3 (λX:World=>X.cell? ⟨a.heap.size,2,none⟩=some (.int .i64 m)/\X.cell? ⟨a.heap.size,3,none⟩=some (.int .i64 q)/\X.cell? ⟨a.heap.size+1,0,none⟩=some (.bool false)/\X.cell? ⟨a.heap.size+1,1,none⟩=some (.bool true)) (go_keep) (fail)
  go_wp2_with fail;exact kqr (v:=.tuple #[.agg #[.int .i64 m,.int .i64 q],.agg #[.bool false,.bool true],.int .i64 0]) (cO results68 _ (show Bx _ _ _ _ from (((L.out.set_ 0 (.int .i64 m)).set_ 1 (.int .i64 q)).far (p:=⟨w.heap.size+1,0,none⟩) (by simp) (.bool false)).far (p:=⟨w.heap.size+1,1,none⟩) (by simp) (.bool true)) (show Bx _ _ _ _ from (((O.out.far (p:=⟨w.heap.size,0,none⟩) (by simp) (.int .i64 m)).far (p:=⟨w.heap.size,1,none⟩) (by simp) (.int .i64 q)).set_ 0 (.bool false)).set_ 1 (.bool true)) rfl rfl rfl) rfl ⟨⟨m,false,true,by rw[HN.out.1,HN.out.2,Fv.out];rfl⟩,((((T.out.setCell (p:=⟨w.heap.size,0,none⟩) (kqb _) (.int .i64 m)).setCell (p:=⟨w.heap.size,1,none⟩) (kqb _) (.int .i64 q)).setCell (p:=⟨w.heap.size+1,0,none⟩) (kzx _) (.bool false)).setCell (p:=⟨w.heap.size+1,1,none⟩) (kzx _) (.bool true)).drew⟩
 have Fr:o=((wd ws 3:Nat):Int):=Fo.out.2 rfl;have HN:Hid (tyN ws=some (wd ws 3)/\jk ws=0):=hid (by have:=HV.out;simp at this;exact⟨this.1,by rw[this.2,this.1];rfl⟩);have Fv:=hid Fr;clear Fr;go_wp2_with fail
 go_region_held3 (λX:World=>X.cell? ⟨a.heap.size,0,none⟩=some (.int .i64 l)/\X.cell? ⟨a.heap.size,1,none⟩=some (.int .i64 o)/\X.cell? ⟨a.heap.size+1,0,none⟩=some (.bool true)/\X.cell? ⟨a.heap.size+1,1,none⟩=some (.bool C)) (go_keep) (fail)
 go_wp2_with fail;exact kqr (v:=.tuple #[.agg #[.int .i64 l,.int .i64 o],.agg #[.bool true,.bool C],.int .i64 0]) (cO results68 _ (show Bx _ _ _ _ from (((L.out.set_ 0 (.int .i64 l)).set_ 1 (.int .i64 o)).far (p:=⟨w.heap.size+1,0,none⟩) (by simp) (.bool true)).far (p:=⟨w.heap.size+1,1,none⟩) (by simp) (.bool C)) (show Bx _ _ _ _ from (((O.out.far (p:=⟨w.heap.size,0,none⟩) (by simp) (.int .i64 l)).far (p:=⟨w.heap.size,1,none⟩) (by simp) (.int .i64 o)).set_ 0 (.bool true)).set_ 1 (.bool C)) rfl rfl rfl) rfl ⟨⟨l,true,C,by rw[HN.out.1,HN.out.2,Fv.out];rfl⟩,((((T.out.setCell (p:=⟨w.heap.size,0,none⟩) (kqb _) (.int .i64 l)).setCell (p:=⟨w.heap.size,1,none⟩) (kqb _) (.int .i64 o)).setCell (p:=⟨w.heap.size+1,0,none⟩) (kzx _) (.bool true)).setCell (p:=⟨w.heap.size+1,1,none⟩) (kzx _) (.bool C)).drew⟩
end Go.Proofs.YtpcajamacpbjcaaGreat
