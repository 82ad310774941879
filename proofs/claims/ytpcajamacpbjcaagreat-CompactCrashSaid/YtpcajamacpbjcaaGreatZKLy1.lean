/- Texts laid together: LyK MapB LyC LyD LySup LySur LyTw. -/
import Derived.Test.YtpcajamacpbjcaaGreatZKR19
import Derived.Test.YtpcajamacpbjcaaGreatZKWnt
import Derived.Test.YtpcajamacpbjcaaGreatZKPlain
import Derived.Test.YtpcajamacpbjcaaGreatZKEff
import Derived.Maps.Own
import Derived.Maps.Views
import Derived.Maps.OwnOps
import Derived.Maps.Keyed
import Derived.Test.YtpcajamacpbjcaaGreatZKSup
import Derived.Test.YtpcajamacpbjcaaGreatZKRch
import Derived.Test.YtpcajamacpbjcaaGreatZGH
set_option maxHeartbeats 16000000
set_option maxRecDepth 100000
set_option linter.all false
namespace Go.Proofs.YtpcajamacpbjcaaGreat
open Lib (hid)
open Go.RowKit
variable {O:List Bk}{F l ws:List Nat}{H a b g n r:Nat}{P:Program}{e k t:TypeId}{x0 x1 x2 x3 x4:Value}{w w':World}
open Go.Proofs.Tryz
def Hu (ws:List Nat) (t H:Nat) (e:Ending) (w':World):Prop:=∃(B:Option Addr) (m d:Nat) (L:List Ty),e=.returned (.tuple #[.slice B m d,.int .i64 (if gK ws t=true then 0 else 50)])/\(gK ws t=true->m=L.length/\ub w' H (.slice B m d) L/\L.map Ty.l=gn ws t 8)
theorem qd{t:Nat}{B:Option Addr}{m d:Nat}(h:gK ws t=false):Hu ws t H (.returned (.tuple #[.slice B m d,.int .i64 50])) w':=⟨B,m,d,[],by rw[h];rfl,λa=>by rw[h] at a;cases a⟩
theorem Dz(A:Option Addr)(ws:List Nat)(c n t:Nat)(w:World)(hn:ws.length=n)(hs:aj (n:Int)=true)(ht:t<=8)(hr:RdW w w.heap.size A ws)(ho:∀x∈ws,x<18446744073709551616):
 Calls prog 69 #[.slice A n c,.int .i64 (t:Int)] w λe w'=>Hu ws t w.heap.size e w'/\Below w.heap.size w w':=by
 subst hn;have hb:=(aa _).1 hs;have HR:=hid hr;have Q:=hid (λW=>aE A ws.length c W (by omega));rw[aX hs] at Q;have S:Hid (∀k,wd ws k<18446744073709551616):=hid (fF ho);have d0:decide ((t:Int)<0)=false:=by rw[kqh];omega
 have d8:decide ((8:Int)<(t:Int))=false:=by rw[kqh];omega
 have d8n:decide (8<t)=false:=by rw[kqh];omega
 clear hr ho hs;obtain⟨i2,hi,R,P,U⟩:=kzv Bn;have HJ:=hid hi;have Jg:=hid R;have Je:=hid P;have Jd:=hid U;clear hi R P U;go_enter func69,ntmps69;go_wp2_with fail;refine (Q.out _).mono ?_;rintro e w1 ⟨rfl,rfl⟩;go_wp2_with fail;go_loopw [7,24] (λv i wr=>∃(k:Nat) (L:List Ty),k<=8/\i=.int .i64 k/\Hid (vL ws t k)/\Hid (L.map Ty.l=gn ws t k)/\L.length<=k/\Hid (ub wr w.heap.size v L)/\Below w.heap.size w wr) (λ_ i _=>8-(intOf i).toNat)
 case atStart=>exact⟨0,[],kqy _,rfl,hid (λi h=>absurd h (by omega)),hid (by simp[gn]),kqd _,hid ⟨kq8 _ _ _ _,λx hx=>absurd hx (by simp)⟩,kql _ _⟩
 obtain⟨k,L,hk,rfl,Y,J,hLk,z,V⟩:=hrel;have hz:=V.size;by_cases Jc:k<8
 .obtain ⟨b,f,rfl,hbb,h0⟩:=RdW.at_ (Rd.below HR.out V) (show 96+2*k<ws.length by omega);obtain⟨b',off',e',-,h1⟩:=RdW.at_ (Rd.below HR.out V) (show 96+2*k+1<ws.length by omega);cases e';rw[<-cq] at h0 h1;have a:=hid (λW=>tL (wd ws (96+2*k)) (wd ws (96+2*k+1)) W (S.out _) (S.out _));have o:=hid (λh=>oA Y.out h);have j:=hid (λh=>rx (ws:=ws) (t:=t) Jc h);have d:Hid (Ct ws t k=if k<t then ch (wd ws (96+2*k)) (wd ws (96+2*k+1)) else wd ws (96+2*k)==0&&wd ws (96+2*k+1)==0):=hid rfl;have m:=hid (λh=>Cp (ws:=ws) (t:=t) (k:=k) h);have H:=hid (λh=>zu (ws:=ws) (t:=t) (k:=k) h);have i1:IntKind.i64.wrap ((2:Int)*(k:Int))=2*(k:Int):=kqs _ (by omega);have i2':IntKind.i64.wrap ((96:Int)+2*(k:Int))=((96+2*k:Nat):Int):=by rw[kqs _ (by omega)];omega
  have i3:IntKind.i64.wrap (((96+2*k:Nat):Int)+1)=((96+2*k+1:Nat):Int):=by rw[kqs _ (by omega)];omega
  have j1:((96+2*k:Nat):Int)<(ws.length:Int):=by omega
  have j2:(0:Int)<=((96+2*k:Nat):Int):=by omega
  have j3:((96+2*k+1:Nat):Int)<(ws.length:Int):=by omega
  have j4:(0:Int)<=((96+2*k+1:Nat):Int):=by omega
  have hk1:(k:Int)<8:=by omega
  obtain⟨p,hp⟩:=xq (96+2*k);rw[hp] at h0 h1 a d m i2' i3 j1 j2 j3 j4;obtain⟨q,hq⟩:=xq (p+1);rw[hq] at h1 a d m i3 j3 j4;obtain⟨x,hx⟩:=xq (wd ws p);obtain⟨y,hy⟩:=xq (wd ws q);rw[hx] at h0 a d m;rw[hy] at h1 a d m;have T:=hid V;clear hx hy hp hq;by_cases u:k<t
  .have d2:decide ((t:Int)<=(k:Int))=false:=by rw[kqh];omega
   have d2n:decide (t<=k)=false:=by rw[kqh];omega
   cases s:ch x y
   .have G:=hid (j.out (by rw[d.out,if_pos u,s]));have D:eJ x y=50:=by unfold eJ;rw[s];rfl
    have O:a8 x y=[]:=by unfold a8;rw[s];rfl
    unfold lV at a;rw[D,O] at a;clear s D O d j o m H u;go_wp2_with fail
    go_region_held3 (λX:World=>X.cell? ⟨b,f+p,none⟩=some (.int .u64 (x:Int))/\X.cell? ⟨b,f+q,none⟩=some (.int .u64 (y:Int))) (go_keep) (fail)
    go_wp2_with fail;refine (a.out _).mono ?_;rintro e w3 ⟨⟨A3,c3,rfl,-⟩,r⟩;have C:=T.out.drew.trans (r.mono hz);clear r;go_wp2;go_ret2;exact⟨qd G.out,C⟩
   have G:=hid (o.out (by rw[d.out,if_pos u,s]));have I:=hid (m.out u);have D:eJ x y=0:=by unfold eJ;rw[s];rfl
   unfold lV at a;rw[D] at a;obtain⟨l,hl⟩:=xq (a8 x y);rw[hl] at a I;clear s D hl d j o m H u;go_wp2_with fail
   go_region_held3 (λX:World=>X.cell? ⟨b,f+p,none⟩=some (.int .u64 (x:Int))/\X.cell? ⟨b,f+q,none⟩=some (.int .u64 (y:Int))) (go_keep) (fail)
   go_wp2_with fail;refine (a.out _).mono ?_;rintro e w3 ⟨⟨A3,c3,rfl,F⟩,r⟩;have C:=T.out.drew.trans (r.mono hz);have Eq:=C.size;have E:=ai (show wr.drew.ownsRow _ _ _ _ _ _ from z.out.1) r (kqd _);have Jb:Hid (∀y∈L,w3.ownsRow w.heap.size 5 1 (.slice y.A y.l.length y.c) y.l.length (y.l.flatMap bi)):=hid λy hy=>ai (show wr.drew.ownsRow _ _ _ _ _ _ from z.out.2 y hy) r (kqd _);have Ji:=hid (ao F (show w.heap.size<=wr.drew.heap.size from hz));have Z:=hid E;have Jh:=hid C;clear r F C z;go_wp2_with (at_builtin;refine kzd _ rfl _ _ 69 rfl w.heap.size 113 i2 _ 1 24 underlying69 HJ.out Jg.out Je.out Jd.out rfl (by decide) _ _ _ rfl (E.alloc _) ⟨_,0,none⟩ 1 1 [.slice A3 l.length c3] rfl rfl (cC _ _ _) (by simp[Value.oneCell']) (by unfold maxLen;omega) (by omega) (cB Eq) ?_;intro v1 w6 B N _;have Jf:=hid (aC Jh.out Eq E N);have Jj:=hid (qO (x:=⟨A3,c3,l⟩) Jb.out Ji.out (Z.out.alloc _) (λh=>h.alloc _) N B);clear B N);go_roundw
   case rel=>exact⟨k+1,L++[⟨A3,c3,l⟩],by omega,by go_num,G,hid (by rw[kjj,J.out,I.out];rfl),by simp;omega,Jj,Jf.out⟩
   case measure=>simp[intOf];omega
  have d2:decide ((t:Int)<=(k:Int))=true:=by rw[kqn];omega
  have d2n:decide (t<=k)=true:=by rw[kqn];omega
  have I:=hid (H.out (by omega));have g:Hid (Ct ws t k=(x==0&&y==0)):=hid (by rw[d.out,if_neg u]);clear a d m H u;by_cases M:x=0
  .subst M;by_cases K:y=0
   .subst K;have G:=hid (o.out (by rw[g.out];rfl));clear j o g;go_wp2_with fail
    go_region_held3 (λX:World=>X.cell? ⟨b,f+p,none⟩=some (.int .u64 ((0:Nat):Int))/\X.cell? ⟨b,f+q,none⟩=some (.int .u64 ((0:Nat):Int))) (go_keep) (fail)
    go_wp2_with fail;have Ja:Hid (ub wr.drew w.heap.size u7 L):=hid ⟨z.out.1,z.out.2⟩;go_roundw
    case rel=>exact⟨k+1,L,by omega,by go_num,G,hid (by rw[J.out,I.out]),by omega,Ja,T.out.drew⟩
    case measure=>simp[intOf];omega
   have G:=hid (j.out (by rw[g.out,show (y==0)=false by rw[kqi];exact K];rfl));have d3:((y:Int) != 0)=true:=by rw[kqv];omega
   have d3n:(y != 0)=true:=by rw[kqv];omega
   clear j o g K;go_wp2_with fail
   go_region_held3 (λX:World=>X.cell? ⟨b,f+p,none⟩=some (.int .u64 ((0:Nat):Int))/\X.cell? ⟨b,f+q,none⟩=some (.int .u64 (y:Int))) (go_keep) (fail)
   go_wp2;go_ret2;exact⟨qd G.out,T.out.drew⟩
  have G:=hid (j.out (by rw[g.out,show (x==0)=false by rw[kqi];exact M];rfl));have d3:((x:Int) != 0)=true:=by rw[kqv];omega
  have d3n:(x != 0)=true:=by rw[kqv];omega
  clear j o g M;go_wp2_with fail
  go_region_held3 (λX:World=>X.cell? ⟨b,f+p,none⟩=some (.int .u64 (x:Int))/\X.cell? ⟨b,f+q,none⟩=some (.int .u64 (y:Int))) (go_keep) (fail)
  go_wp2;go_ret2;exact⟨qd G.out,T.out.drew⟩
 obtain rfl:k=8:=by omega
 have HT:Hid (gK ws t=true):=hid ((js ws t).2 Y.out);obtain⟨BO,dO,rfl⟩:=aJ z.out.1;go_wp2;go_ret2;exact⟨⟨BO,L.length,dO,L,by rw[HT.out];rfl,λ_=>⟨rfl,z.out,J.out⟩⟩,V⟩
def kB (ws:List Nat):Int:=if aj (ws.length:Int)=true then (if xe ws=true then 0 else 50) else 8
def l8 (ws:List Nat):List Bk:=if kB ws=0 then (blocks ws 128).getD [] else []
def yU (H:Nat) (ws:List Nat) (e:Ending) (w':World):Prop:=∃A c,e=.returned (.tuple #[.slice A (l8 ws).length c,.int .i64 (kB ws)])/\w'.ownsRow H 55 6 (.slice A (l8 ws).length c) (l8 ws).length ((l8 ws).flatMap Bk.cells)
theorem rf{r:Int}(h:kB ws=r)(h0:r≠0):yU H ws (.returned (.tuple #[.slice none 0 0,.int .i64 r])) w':=by
 have e:l8 ws=[]:=by unfold l8;rw[if_neg (by rw[h];exact h0)]
 exact⟨none,0,by rw[e,h];rfl,by rw[e];exact kq8 _ _ _ _⟩
theorem Hr(A:Option Addr)(ws:List Nat)(c n:Nat)(w:World)(hn:ws.length=n)(B:n<=9223372036854775807)(hr:RdW w w.heap.size A ws)(ho:∀x∈ws,x<18446744073709551616):
 Calls prog 26 #[.slice A n c] w λe w'=>yU w.heap.size ws e w'/\Below w.heap.size w w':=by
 subst hn;have C:=hid (zY A ws c ws.length 128 w rfl B hr ho);unfold uP at C;clear hr ho;by_cases d:bQ ws 128=0
 .have g:aj (ws.length:Int)=true:=by
   cases g:aj (ws.length:Int) with
   | true=>rfl
   | false=>rw[fv g] at d;cases d
  have U:=(aa _).1 g;have a:fc ws.length 128=false:=by
   cases hq:fc ws.length 128 with
   | false=>rfl
   | true=>rw[jj g hq] at d;cases d
  have X:∃l,blocks ws 128=some l:=by
   cases j:blocks ws 128 with
   | none=>rw[eQ g a (by simpa using j)] at d;cases d
   | some l=>exact⟨l,rfl⟩
  obtain⟨l,j⟩:=X;have M:=(bG (by omega) _ _ j (by omega) (by omega) (by omega)).1;have p:aN ws 128=l:=by unfold aN;rw[if_pos d];simp[j]
  rw[d,p] at C;have D:Hid (kB ws=if jX l=true then 0 else 50):=hid (by unfold kB;rw[if_pos g,iw j]);have V:Hid (jX l=true->l8 ws=l/\kB ws=0):=hid λh=>by
   have e:kB ws=0:=by rw[D.out,h];rfl
   exact⟨by unfold l8;rw[if_pos e,j];rfl,e⟩
  have hl24:l.length<=1024:=by omega
  have R:=hid (λk W h=>qK (l:=l) (k:=k) W h);have N:=hid (nG l);clear d g U a j p M B;go_enter func26,ntmps26;go_wp2_with fail;refine C.out.mono ?_;rintro e w1 ⟨⟨A1,c1,rfl,q⟩,s⟩;have K:=hid (show RdB _ _ _ _ from Rd.of_own q);have E:=hid q;have J:=hid s;clear q s;go_wp2_with fail;go_loopw [17] (λi wr=>∃k:Nat,k<=l.length/\i=.int .i64 k/\wr=w1/\Hid (oa l k)) (λi _=>l.length-(intOf i).toNat)
  case atStart=>exact⟨0,kqy _,rfl,rfl,hid (oh l)⟩
  obtain⟨k,W,rfl,rfl,P⟩:=hrel;by_cases o:k<l.length
  .have v:=hid (λh=>lF P.out h);have S:=hid (R.out k o);by_cases I:k=0
   .subst I;have z:Hid (oa l (0+1)):=hid (v.out rfl);go_wp2;go_roundw
    case rel=>exact⟨0+1,by omega,by go_num,trivial,z⟩
    case measure=>simp[intOf];omega
   obtain⟨b,off,rfl,U,-,-,p2,-⟩:=RdB.at_ K.out o;obtain⟨b',off',e',-,-,-,r2,-⟩:=RdB.at_ K.out (show k-1<l.length by omega);cases e';have f:nS l k=((l[k-1].kind==2)&&(l[k].kind==2)):=by unfold nS;rw[bN l k o,bN l (k-1) (by omega),show (k==0)=false by rw[kqi];omega];rfl
   obtain⟨x,hx⟩:=xq (l[k].kind);obtain⟨y,hy⟩:=xq (l[k-1].kind);rw[hx] at p2 f;rw[hy] at r2 f;have i1:IntKind.i64.wrap ((k:Int)-1)=((k-1:Nat):Int):=by rw[kqs _ (by omega)];omega
   have hki:(k:Int)<(l.length:Int):=by omega
   have hk0':(0:Int)<=(k:Int):=by omega
   have F:((k-1:Nat):Int)<(l.length:Int):=by omega
   have G:(0:Int)<=((k-1:Nat):Int):=by omega
   have d0:decide ((0:Int)<(k:Int))=true:=by rw[kqn];omega
   have d0n:decide (0<k)=true:=by rw[kqn];omega
   obtain⟨m,B⟩:=xq (k-1);rw[B] at i1 F G r2;have O:=hid f;clear hx hy P B f I;by_cases t:x=2
   .subst t;by_cases u:y=2
    .subst u;have z:=hid (S.out (by rw[O.out];rfl));have HW:Hid (kB ws=50):=hid (by rw[D.out,z.out];rfl);go_wp2;go_ret2;exact⟨rf HW.out (by decide),J.out⟩
    have Q:(y==2)=false:=by rw[kqi];exact u
    have z:Hid (oa l (k+1)):=hid (v.out (by rw[O.out,Q];rfl));clear u;go_wp2;go_roundw
    case rel=>exact⟨k+1,by omega,by go_num,trivial,z⟩
    case measure=>simp[intOf];omega
   have Q:(x==2)=false:=by rw[kqi];exact t
   have z:Hid (oa l (k+1)):=hid (v.out (by rw[O.out,Q,kj2]));clear t;go_wp2;go_roundw
   case rel=>exact⟨k+1,by omega,by go_num,trivial,z⟩
   case measure=>simp[intOf];omega
  have L:k=l.length:=by omega
  have hend:decide ((k:Int)<(l.length:Int))=false:=by rw[kqh];omega
  have hendn:decide (k<l.length)=false:=by rw[kqh];exact o
  have Y:=hid (V.out (N.out.2 (L ▸ P.out)));clear L o W;go_wp2;go_ret2;exact⟨⟨A1,c1,by rw[Y.out.1,Y.out.2];rfl,by rw[Y.out.1];exact E.out⟩,J.out⟩
 have p:aN ws 128=[]:=by unfold aN;rw[if_neg d]
 have hw:kB ws=bQ ws 128:=by
  unfold kB;cases g:aj (ws.length:Int) with
  | false=>rw[fv g];rfl
  | true =>
   have U:=(aa _).1 g;have a:fc ws.length 128=false:=by unfold fc;simp;omega
   cases j:blocks ws 128 with
   | none=>rw[nb j,eQ g a (by simpa using j)];rfl
   | some l =>exfalso;apply d;simp[bQ,g,a,j]
 have D:=hid hw;rw[p] at C;have T:(bQ ws 128 != 0)=true:=by rw[kqv];exact d
 have Z:=hid d;obtain⟨r,H⟩:=xq (bQ ws 128);rw[H] at C D T Z;clear d p hw H B;go_enter func26,ntmps26;go_wp2_with fail;refine C.out.mono ?_;rintro e w1 ⟨⟨A1,c1,rfl,-⟩,s⟩;go_wp2;go_ret2;exact⟨rf D.out Z.out,s⟩
theorem tR(A:Option Addr)(ws:List Nat)(c n a:Nat)(w:World)(hn:ws.length=n)(ha:a+8<=n)(hm:n<=2048)(hc:n<=c)(hr:RdW w w.heap.size A ws):
 Calls prog 157 #[.slice A n c,.int .i64 (a:Int)] w λe w'=>e=.returned (.bool (fe ws a))/\w=w':=by
 subst hn;have y:=hid hr;have r:=hid (jx ws a);obtain⟨b,off,rfl,j,-⟩:=RdW.at_ hr (show 0<ws.length by omega);have k2:IntKind.i64.wrap ((a:Int)+8)=((a+8:Nat):Int):=by rw[kqs _ (by omega)];omega
 have k3:a+8<=c:=by omega
 have k4:a<=a+8:=by omega
 clear hr j;go_enter func157,ntmps157;go_wp2_with fail
 go_loop [13] (λi=>∃k:Nat,k<=8/\i=.int .i64 k/\Hid (o7 ws a k)) (λi=>8-(intOf i).toNat)
 case atStart=>exact⟨0,kqy _,rfl,hid λi h=>absurd h (by omega)⟩
 obtain⟨k,hk,rfl,o⟩:=hrel;by_cases g:k<8
 .obtain ⟨b',off',u,j,l⟩:=RdW.at_ y.out (show a+k<ws.length by omega);cases u;rw[<-cq] at l;have q:Hid (wd ws (a+k)=0->o7 ws a (k+1)):=hid λh i v=>by
   rcases kq6 i k with s|s
   .exact o.out i s
   have:i=k:=by omega
   subst this;exact h
  have p:Hid (wd ws (a+k)≠0->fe ws a=false):=hid λh=>by
   cases z:fe ws a with
   | false=>rfl
   | true=>exact absurd (r.out.1 z k g) h
  rw[<-kjx] at l;obtain⟨x,t⟩:=xq (wd ws (a+k));rw[t] at l q p;have hki:(k:Int)<8:=by omega
  have hk0:(0:Int)<=(k:Int):=by omega
  clear t j;by_cases d:x=0
  .have m:=hid (q.out d);subst d;go_wp2_with fail
   go_round
   case rel=>exact⟨k+1,by omega,by go_num,m⟩
   case measure=>simp[intOf];omega
  have f:=hid (p.out d);have e1:((x:Int) != 0)=true:=by rw[kqv];omega
  have e1n:(x != 0)=true:=by rw[kqv];exact d
  clear d;go_wp2;go_ret;exact⟨by rw[f.out];rfl,rfl⟩
 have f:Hid (fe ws a=true):=hid (r.out.2 λi v=>o.out i (by omega));obtain rfl:k=8:=by omega
 go_wp2;go_ret;exact⟨by rw[f.out];rfl,rfl⟩
open Go.RowKit Go.Maps
def fg (ad:List Int):Nat->DataW Unit
 | 0=>.map []
 | k+1=>(fg ad k).put (.int .i64 (ad[k]?.getD 0)) (.lit (.bool true))
theorem wZ(ad:List Int)(k:Nat):IsMap (fg ad k):=by
 induction k with
 | zero=>exact isMap_empty
 | succ k ih=>exact ih.put _ _
theorem nH(ad:List Int)(x:Int)(k:Nat):(fg ad k).atKey (.int .i64 x) (.lit (.bool false))=.lit (.bool (cJ ad x k)):=by
 induction k with
 | zero=>rfl
 | succ k ih =>
  simp only[fg,cJ];by_cases e:ad[k]?.getD 0=x
  .rw[e,atKey_put_same (wZ ad k) (by trivial)];simp
  rw[atKey_put_other (by intro h;injection h with _ h;exact e h.symm),ih];have:(ad[k]?.getD 0==x)=false:=by rw[kqi];exact e
  rw[this,kvt]
theorem kO{H:Type}(he:P.underlying e=some .bool){v:Value}{z:DataW H × List MemPlace}(h:plainElem P e v=some z):∃c,v=.bool c/\z=(.lit (.bool c),[]):=by
 unfold plainElem at h;rw[he] at h;cases v<;>simp at h
 exact⟨_,rfl,h.symm⟩
theorem iI{H:Type}{D:DataW H}(h:w.ownsMap P k (plainElem P e) b n D)(K:Keyed P k)(ht:P.underlying t=some (.map k e))(he:P.underlying e=some .bool)(hz:(zeroValue e).run P w=.ok (.bool false) w){key:Value}{kl:Lit}(hkey:keyOf P k key=some kl){c:Bool}(hc:D.atKey kl (.lit (.bool false))=.lit (.bool c)):(Instr.lookup t (.map (some b)) key false).run P w=.ok (.bool c) w:=by obtain⟨v,ps,d,g⟩:=h.lookup K ht hz (plainElem_bool he false) hkey;obtain⟨c',rfl,a⟩:=kO he g;simp only[Prod.mk.injEq] at a;rw[hc] at a;obtain⟨f,-⟩:=a;injection f with f;injection f with f;subst f;exact d
theorem mO:Keyed prog 3:=int_keyed underlying3
theorem ms(w:World):(zeroValue 4).run prog w=.ok (.bool false) w:=by kernel_rfl
theorem fW{h:Nat}{cs:Array Value}{R:Value->Option (DataW Unit × List MemPlace)}{D:DataW Unit}(hb:Bx w h t cs)(ho:w.ownsMap P k R b n D):some h≠some b:=by rintro e;injection e with e;subst e;obtain⟨es,clock,a,_⟩:=ho;rw[show w.heap[h]? = _ from hb] at a;cases a
theorem Bx.c5(h:Bx w g t #[x0,x1,x2,x3,x4]):w.cell? ⟨g,0,none⟩=some x0/\w.cell? ⟨g,1,none⟩=some x1/\w.cell? ⟨g,2,none⟩=some x2 /\
 w.cell? ⟨g,3,none⟩=some x3/\w.cell? ⟨g,4,none⟩=some x4/\(∀i,w.frozen? ⟨g,i,none⟩=false)/\g<w.heap.size:=
 ⟨h.cell 0,h.cell 1,h.cell 2,h.cell 3,h.cell 4,h.frozen,h.lt⟩
theorem D7(A TA SA OA:Option Addr)(c n tc tn sc sn oc on mb a z ty nx:Nat)(xk:Int)(mk:Bool)(w:World):
 Calls prog 95 #[.agg #[.slice A n c,.slice TA tn tc,.slice SA sn sc,.slice OA on oc,.map (some mb)],.agg #[.int .i64 (a:Int),.int .i64 (z:Int),.int .i64 xk,.int .i64 (ty:Int),.bool mk,.int .u64 (nx:Int)]] w λe w'=>e=.returned (.bool (!(mk||decide (0<nx))))/\Below w.heap.size w w':=by
 have xs:=(Bx.new w 163 #[.slice A n c,.slice TA tn tc,.slice SA sn sc,.slice OA on oc,.map (some mb)]).alloc (.cells #[.int .i64 (a:Int),.int .i64 (z:Int),.int .i64 xk,.int .i64 (ty:Int),.bool mk,.int .u64 (nx:Int)] 55);have b:=Bx.new (w.alloc (.cells #[.slice A n c,.slice TA tn tc,.slice SA sn sc,.slice OA on oc,.map (some mb)] 163)) 55 #[.int .i64 (a:Int),.int .i64 (z:Int),.int .i64 xk,.int .i64 (ty:Int),.bool mk,.int .u64 (nx:Int)];rw[kqm] at b;have XS:=hid xs;have XB:=hid b;have g:=hid (((kql w.heap.size w).alloc (kqd _) (.cells #[.slice A n c,.slice TA tn tc,.slice SA sn sc,.slice OA on oc,.map (some mb)] 163)).alloc (by simp) (.cells #[.int .i64 (a:Int),.int .i64 (z:Int),.int .i64 xk,.int .i64 (ty:Int),.bool mk,.int .u64 (nx:Int)] 55));clear xs b;have f:((nx:Int)==0) = !decide (0<nx):=by rw[kzg,kqw,kx2,kqh];omega
 obtain⟨q,d⟩:=xq (decide (0<nx));rw[d] at f |-;clear d;cases mk
 all_goals
  go_enter func95,ntmps95;go_wp2;go_ret;exact⟨rfl,g.out⟩
theorem yV(A TA SA OA:Option Addr)(L:List Ty)(c n tc tn sc sn oc on mb a z ty nx:Nat)(xk:Int)(mk:Bool)(w:World)(ht:L.length=tn)(hk:∀x∈L,cY x.l=0/\kSz x.l=aY x.l.length/\x.l.length<=8)(hL:RdL w w.heap.size TA L):
 Calls prog 96 #[.agg #[.slice A n c,.slice TA tn tc,.slice SA sn sc,.slice OA on oc,.map (some mb)],.agg #[.int .i64 (a:Int),.int .i64 (z:Int),.int .i64 xk,.int .i64 (ty:Int),.bool mk,.int .u64 (nx:Int)]] w λe w'=>e=.returned (.bool (decide (ty<L.length)&&aY (((L.map Ty.l)[ty]?).getD []).length==z))/\Below w.heap.size w w':=by
 have xs:=(Bx.new w 163 #[.slice A n c,.slice TA tn tc,.slice SA sn sc,.slice OA on oc,.map (some mb)]).alloc (.cells #[.int .i64 (a:Int),.int .i64 (z:Int),.int .i64 xk,.int .i64 (ty:Int),.bool mk,.int .u64 (nx:Int)] 55);have u:=Bx.new (w.alloc (.cells #[.slice A n c,.slice TA tn tc,.slice SA sn sc,.slice OA on oc,.map (some mb)] 163)) 55 #[.int .i64 (a:Int),.int .i64 (z:Int),.int .i64 xk,.int .i64 (ty:Int),.bool mk,.int .u64 (nx:Int)];rw[kqm] at u;have XS:=hid xs;have XB:=hid u;have p:=hid (((kql w.heap.size w).alloc (kqd _) (.cells #[.slice A n c,.slice TA tn tc,.slice SA sn sc,.slice OA on oc,.map (some mb)] 163)).alloc (by simp) (.cells #[.int .i64 (a:Int),.int .i64 (z:Int),.int .i64 xk,.int .i64 (ty:Int),.bool mk,.int .u64 (nx:Int)] 55));clear xs u;subst ht;have y:=hid (hL.up p.out (kqd _));have hz1:=p.out.size;clear hL;by_cases d:ty<L.length
 .obtain ⟨b,off,rfl,I,C⟩:=oQ y.out.1 d;have i:=y.out.2 _ (kqp d);obtain⟨g,f,k⟩:=hk _ (kqp d);have j:Hid ((decide (ty<L.length)&&aY (((L.map Ty.l)[ty]?).getD []).length==z)=(aY L[ty].l.length==z)):=hid (by
   rw[decide_eq_true d,kxl,kqk d];rfl)
  obtain⟨x,F⟩:=xq (L[ty]);rw[F] at C g f k i j;obtain⟨D,H,m⟩:=x;dsimp only at C g f k i j;have t:=hid i;have s:=hid (λW B (h:RdY W B D m)=>sj D m H m.length B W rfl (by omega) h);rw[g,f] at s;have E:(((aY m.length:Nat):Int)==(z:Int))=(aY m.length==z):=by rw[kzg,kqw,kqw];omega
  obtain⟨o,v⟩:=xq (aY m.length);rw[v] at j s E;obtain⟨q,G⟩:=xq ((o==z));rw[G] at j E;have J:decide ((L.length:Int)<=(ty:Int))=false:=by rw[kqh];omega
  have r:decide (L.length<=ty)=false:=by rw[kqh];omega
  have j1:(ty:Int)<(L.length:Int):=by omega
  have j0:(0:Int)<=(ty:Int):=by omega
  clear F v G hk g f k i d I;go_enter func96,ntmps96;go_wp2_with fail;refine (s.out _ _ t.out).mono ?_;rintro e w1 ⟨rfl,rfl⟩;go_wp2;go_ret;exact⟨by rw[j.out];rfl,p.out⟩
 have j:Hid ((decide (ty<L.length)&&aY (((L.map Ty.l)[ty]?).getD []).length==z)=false):=hid (by rw[decide_eq_false d];rfl);have J:decide ((L.length:Int)<=(ty:Int))=true:=by rw[kqn];omega
 have r:decide (L.length<=ty)=true:=by rw[kqn];omega
 clear d hk;go_enter func96,ntmps96;go_wp2;go_ret;exact⟨by rw[j.out];rfl,p.out⟩
theorem Em{q:Nat}(h:q<18446744073709551616):bits BinOp.and .u64 (q:Int) 2047=((q%2048:Nat):Int):=by
 have:=u64_and_nat q 2047 h (by omega);rw[show (((2047:Nat)):Int)=2047 from rfl] at this;rw[this];have e:q &&& 2047=q%2048:=by rw[show (2047:Nat)=2 ^ 11-1 by decide,kxu]
 rw[e]
theorem B9(v:Nat)(w:World)(hv:v<18446744073709551616):Calls prog 159 #[.int .u64 (v:Int)] w λe w'=>e=.returned (.bool (ui v))/\w=w':=by
 have j:Hid (ui v=(v==9221120237041090561||decide (v%9223372036854775808<=9218868437227405312))):=hid rfl;have b:Hid (v/4503599627370496%2048≠2047->ui v=true):=hid λh=>by rw[j.out,decide_eq_true (by omega),Bool.or_true]
 have d:Hid (v*4096%18446744073709551616=0->ui v=true):=hid λh=>by rw[j.out,decide_eq_true (by omega),Bool.or_true]
 have a:Hid (v/4503599627370496%2048=2047->¬ v*4096%18446744073709551616=0->ui v=(v==9221120237041090561)):=hid λh g=>by rw[j.out,decide_eq_false (by omega),kvt]
 have k:=Em (q:=v/4503599627370496) (by omega);have t:(v:Int)/4503599627370496=((v/4503599627370496:Nat):Int):=by omega
 have o:IntKind.u64.wrap ((v:Int)*4096)=((v*4096%18446744073709551616:Nat):Int):=by simp[IntKind.wrap,IntKind.bits,IntKind.signed]
 obtain⟨q,n⟩:=xq (v/4503599627370496);rw[n] at b a k t;obtain⟨r,l⟩:=xq (q%2048);rw[l] at b a k;obtain⟨m,i⟩:=xq (v*4096%18446744073709551616);rw[i] at d a o;have e3:((v:Int)==9221120237041090561)=(v==9221120237041090561):=by rw[kzg,kqw,kqw];omega
 clear n l i hv;by_cases c:r=2047
 .have p:((r:Int) != 2047)=false:=by rw[kqq];omega
  by_cases g:m=0
  .have f:=hid (d.out g);have s:((m:Int)==0)=true:=by rw[kqw];omega
   clear c g;go_enter func159,ntmps159;go_wp2;go_ret;exact⟨by rw[f.out];rfl,rfl⟩
  have f:=hid (a.out c g);have s:((m:Int)==0)=false:=by rw[kqi];omega
  clear c g;go_enter func159,ntmps159;go_wp2;go_ret;exact⟨by rw[f.out];rfl,rfl⟩
 have f:=hid (b.out c);have p:((r:Int) != 2047)=true:=by rw[kqv];omega
 clear c;go_enter func159,ntmps159;go_wp2;go_ret;exact⟨by rw[f.out];rfl,rfl⟩
theorem rE(O:List Bk)(v:Nat):∀k,k<=O.length->cJ (O.map Bk.at_) (v:Int) k=(O.take k).any λb=>b.at_==(v:Int):=by
 intro k
 induction k with
 | zero=>intro _;rfl
 | succ k ih =>intro a;simp only[cJ];rw[ih (by omega),kqo (show k<O.length from a),List.any_append,kxl,kqk (show k<O.length from a)];simp
theorem uJ(O:List Bk)(v:Nat):cJ (O.map Bk.at_) (v:Int) O.length=mg O v:=by rw[rE O v O.length (kqd _),kzn];rfl
structure SgW (W:World) (A TA:Option Addr) (ws:List Nat) (L:List Ty) (O:List Bk) (mb:Nat):Prop where
 w:RdW W W.heap.size A ws
 t:RdL W W.heap.size TA L
 m:W.ownsMap prog 3 (plainElem prog 4) mb O.length (fg (O.map Bk.at_) O.length)
theorem d7{R:Value->Option (DataW Unit × List MemPlace)}{D:DataW Unit}(h:w.ownsMap P k R b n D)(hb:w'.heap[b]? = w.heap[b]?):w'.ownsMap P k R b n D:=by obtain⟨c,a,d,r⟩:=h;exact⟨c,a,hb.trans d,r⟩
theorem xE(A TA SA OA:Option Addr)(ws:List Nat)(L:List Ty)(c n tc tn sc sn oc on mb a z ty nx:Nat)(xk:Int)(mk:Bool)(w:World)(hn:ws.length=n)(hm:n<=2048)(ht:L.length=tn)(hty:ty<L.length)(h8:L[ty].l.length<=8)(hz:z=aY L[ty].l.length)(haz:a+z<=n)(hR:RdW w w.heap.size A ws)(hL:RdL w w.heap.size TA L):
 Calls prog 97 #[.agg #[.slice A n c,.slice TA tn tc,.slice SA sn sc,.slice OA on oc,.map (some mb)],.agg #[.int .i64 (a:Int),.int .i64 (z:Int),.int .i64 xk,.int .i64 (ty:Int),.bool mk,.int .u64 (nx:Int)]] w λe w'=>e=.returned (.bool (!(decide (L[ty].l.length+2<z)&&wd ws (a+2+L[ty].l.length) != 0)))/\Below w.heap.size w w':=by
 have xs:=(Bx.new w 163 #[.slice A n c,.slice TA tn tc,.slice SA sn sc,.slice OA on oc,.map (some mb)]).alloc (.cells #[.int .i64 (a:Int),.int .i64 (z:Int),.int .i64 xk,.int .i64 (ty:Int),.bool mk,.int .u64 (nx:Int)] 55);have s:=Bx.new (w.alloc (.cells #[.slice A n c,.slice TA tn tc,.slice SA sn sc,.slice OA on oc,.map (some mb)] 163)) 55 #[.int .i64 (a:Int),.int .i64 (z:Int),.int .i64 xk,.int .i64 (ty:Int),.bool mk,.int .u64 (nx:Int)];rw[kqm] at s;have XS:=hid xs;have XB:=hid s;have h:=hid (((kql w.heap.size w).alloc (kqd _) (.cells #[.slice A n c,.slice TA tn tc,.slice SA sn sc,.slice OA on oc,.map (some mb)] 163)).alloc (by simp) (.cells #[.int .i64 (a:Int),.int .i64 (z:Int),.int .i64 xk,.int .i64 (ty:Int),.bool mk,.int .u64 (nx:Int)] 55));clear xs s;subst ht hn;have E:=hid (hL.up h.out (kqd _));have hz1:=h.out.size;obtain⟨b,off,rfl,C,j⟩:=oQ E.out.1 hty;obtain⟨x,t⟩:=xq (L[ty]);rw[t] at j h8 hz |-;obtain⟨xA,xc,K⟩:=x;dsimp only at j h8 hz |-;have j1:(ty:Int)<(L.length:Int):=by omega
 have j0:(0:Int)<=(ty:Int):=by omega
 obtain⟨m,d⟩:=xq K.length;rw[d] at j h8 hz |-;by_cases i:m%2=0
 .have f:Hid ((!(decide (m+2<z)&&wd ws (a+2+m) != 0))=true):=hid (by rw[decide_eq_false (by rw[hz];unfold aY;omega)];rfl);have F:((m:Int)%2==0)=true:=by rw[kqw];omega
  clear i hz haz h8 hm t d hL hR C;go_enter func97,ntmps97;go_wp2;go_ret;exact⟨by rw[f.out];rfl,h.out⟩
 obtain⟨b2,off2,rfl,r,k⟩:=RdW.at_ (hR.up h.out (kqd _)) (show a+2+m<ws.length by rw[hz] at haz;unfold aY at haz;omega);rw[<-cq] at k;have H:IntKind.i64.wrap ((a:Int)+2)=((a+2:Nat):Int):=by rw[kqs _ (by omega)];omega
 have B:IntKind.i64.wrap (((a+2:Nat):Int)+(m:Int))=((a+2+m:Nat):Int):=by rw[kqs _ (by omega)];omega
 have I:((a+2+m:Nat):Int)<(ws.length:Int):=by rw[hz] at haz;unfold aY at haz;omega
 have J:(0:Int)<=((a+2+m:Nat):Int):=by omega
 have f:Hid ((!(decide (m+2<z)&&wd ws (a+2+m) != 0))=(wd ws (a+2+m)==0)):=hid (by rw[decide_eq_true (by rw[hz];unfold aY;omega),kzr];exact Bool.not_not _);have F:((m:Int)%2==0)=false:=by rw[kqi];omega
 obtain⟨p,u⟩:=xq (a+2+m);rw[u] at k B I J f;obtain⟨g,y⟩:=xq (a+2);rw[y] at H B;obtain⟨v,o⟩:=xq (wd ws p);rw[u,o];rw[o] at k f;have G:((v:Int)==0)=(v==0):=by rw[kzg,kqw,kqw];omega
 obtain⟨q,D⟩:=xq ((v==0));rw[D] at f G;clear i hz haz h8 hm t d hL hR C u y o D r;go_enter func97,ntmps97;go_wp2;go_ret;exact⟨by rw[f.out];rfl,h.out⟩
def Gq (ws F:List Nat) (O:List Bk) (a r k:Nat):Prop:=∀i,i<k->wrF ws F O a r i=false
theorem rj{k:Nat}(h:Gq ws F O a r k)(h1:wrF ws F O a r k=false):Gq ws F O a r (k+1):=λi hi=>by
 rcases kq6 i k with b|b
 .exact h i b
 .have:i=k:=by omega
  subst this;exact h1
theorem Fi(h:Gq ws F O a r F.length):((List.range F.length).any λi=>wrF ws F O a r i)=false:=by rw[kj5];intro i b;rw[h i (kzh.1 b)];simp
theorem E4{k:Nat}(hk:k<F.length)(h:wrF ws F O a r k=true):((List.range F.length).any λi=>wrF ws F O a r i)=true:=kx1.2 ⟨k,kzh.2 hk,h⟩
theorem vw(A TA SA OA:Option Addr)(ws:List Nat)(L:List Ty)(O:List Bk)(c n tc tn sc sn oc on mb a z ty nx:Nat)(xk:Int)(mk:Bool)(w:World)(hn:ws.length=n)(hm:n<=2048)(ht:L.length=tn)(hty:ty<L.length)(h8:L[ty].l.length<=8)(hz:z=aY L[ty].l.length)(haz:a+z<=n)(hR:RdW w w.heap.size A ws)(hL:RdL w w.heap.size TA L)(ho:∀x∈ws,x<18446744073709551616):
 Calls prog 98 #[.agg #[.slice A n c,.slice TA tn tc,.slice SA sn sc,.slice OA on oc,.map (some mb)],.agg #[.int .i64 (a:Int),.int .i64 (z:Int),.int .i64 xk,.int .i64 (ty:Int),.bool mk,.int .u64 (nx:Int)]] w λe w'=>e=.returned (.bool (!((List.range L[ty].l.length).any λi=>wrF ws L[ty].l O a 10 i)))/\Below w.heap.size w w':=by
 have xs:=(Bx.new w 163 #[.slice A n c,.slice TA tn tc,.slice SA sn sc,.slice OA on oc,.map (some mb)]).alloc (.cells #[.int .i64 (a:Int),.int .i64 (z:Int),.int .i64 xk,.int .i64 (ty:Int),.bool mk,.int .u64 (nx:Int)] 55);have Z:=Bx.new (w.alloc (.cells #[.slice A n c,.slice TA tn tc,.slice SA sn sc,.slice OA on oc,.map (some mb)] 163)) 55 #[.int .i64 (a:Int),.int .i64 (z:Int),.int .i64 xk,.int .i64 (ty:Int),.bool mk,.int .u64 (nx:Int)];rw[kqm] at Z;have XS:=hid xs;have XB:=hid Z;have G:=hid (((kql w.heap.size w).alloc (kqd _) (.cells #[.slice A n c,.slice TA tn tc,.slice SA sn sc,.slice OA on oc,.map (some mb)] 163)).alloc (by simp) (.cells #[.int .i64 (a:Int),.int .i64 (z:Int),.int .i64 xk,.int .i64 (ty:Int),.bool mk,.int .u64 (nx:Int)] 55));clear xs Z;subst ht hn;have N:=hid (hL.up G.out (kqd _));have Q:=G.out.size;obtain⟨b,off,rfl,hb,U⟩:=oQ N.out.1 hty;have I:=N.out.2 _ (kqp hty);obtain⟨x,hx⟩:=xq (L[ty]);rw[hx] at U h8 hz I |-;obtain⟨xA,xc,o⟩:=x;dsimp only at U h8 hz I |-;have HY:=hid I;have HR:=hid (hR.up G.out (kqd _));have j1:(ty:Int)<(L.length:Int):=by omega
 have j0:(0:Int)<=(ty:Int):=by omega
 have D:Hid (∀k,k<o.length->a+2+k<ws.length):=hid λk J=>by rw[hz] at haz;unfold aY at haz;omega
 have X:=hid (fF ho);have T:Hid (Gq ws o O a 10 0):=hid λi h=>absurd h (by omega);have S:=hid (λh=>Fi (ws:=ws) (F:=o) (O:=O) (a:=a) (r:=10) h);have K:=hid (λk J h=>E4 (ws:=ws) (F:=o) (O:=O) (a:=a) (r:=10) (k:=k) J h);have ha:a<=2048:=by omega
 obtain⟨q0,q1,q2,q3,q4,-,-⟩:=XS.out.c5;obtain⟨r0,r1,r2,r3,r4,r5,-,-⟩:=XB.out.c6;obtain⟨R,t⟩:∃R,(w.alloc (.cells #[.slice A ws.length c,.slice (some ⟨b,off,none⟩) L.length tc,.slice SA sn sc,.slice OA on oc,.map (some mb)] 163)).alloc (.cells #[.int .i64 (a:Int),.int .i64 (z:Int),.int .i64 xk,.int .i64 (ty:Int),.bool mk,.int .u64 (nx:Int)] 55)=R:=⟨_,rfl⟩;rw[t] at U HY HR q0 q1 q2 q3 q4 r0 r1 r2 r3 r4 r5;have C:=hid (show Below w.heap.size w R by rw[<-t];exact G.out);clear hz haz hm hx hL hR hb I ho XS XB G N Q;go_enter func98,ntmps98;go_wp2_with fail;clear t
 go_loop [14] (λi=>∃k:Nat,k<=o.length/\i=.int .i64 k/\Hid (Gq ws o O a 10 k)) (λi=>o.length-(intOf i).toNat)
 case atStart=>exact⟨0,kqy _,rfl,T⟩
 obtain⟨k,J,rfl,HW⟩:=hrel;by_cases j:k<o.length
 .obtain ⟨g,go,rfl,hg,y0⟩:=HY.out.at_ j;obtain⟨d,dof,rfl,hd,Y⟩:=RdW.at_ HR.out (D.out k j);rw[<-cq] at Y;have hj:=D.out k j;have B:=hid (λW=>B9 (wd ws (a+2+k)) W (X.out _));have m:wrF ws o O a 10 k=(o[k]? == some 2 && !ui (wd ws (a+2+k))):=rfl;rw[kqk j] at m;have HS:=hid (λh=>rj HW.out h);have P:=hid (λh=>K.out k j h);have i1:IntKind.i64.wrap ((a:Int)+2)=((a+2:Nat):Int):=by rw[kqs _ (by omega)];omega
  have i2:IntKind.i64.wrap (((a+2:Nat):Int)+(k:Int))=((a+2+k:Nat):Int):=by rw[kqs _ (by omega)];omega
  have k1:((a+2+k:Nat):Int)<(ws.length:Int):=by omega
  have k0:(0:Int)<=((a+2+k:Nat):Int):=by omega
  have hki:(k:Int)<(o.length:Int):=by omega
  have hk0:(0:Int)<=(k:Int):=by omega
  obtain⟨y,E⟩:=xq (o[k]);rw[E] at y0 m;obtain⟨p,hp⟩:=xq (a+2+k);rw[hp] at Y i2 k1 k0 B m;obtain⟨s,hs⟩:=xq (a+2);rw[hs] at i1 i2;obtain⟨v,hv⟩:=xq (wd ws p);rw[hv] at Y B m;obtain⟨f,hf⟩:=xq (ui v);rw[hf] at B m;have u:=hid m;clear E hp hs hv hf m hj;by_cases q:y=2
  .subst q;cases f
   .have M:=hid (P.out (by rw[u.out];rfl));go_wp2_with fail;refine (B.out _).mono ?_;rintro e w5 ⟨rfl,rfl⟩;go_wp2;go_ret;exact⟨by rw[M.out];rfl,C.out⟩
   have V:=hid (HS.out (by rw[u.out];rfl));go_wp2_with fail;refine (B.out _).mono ?_;rintro e w5 ⟨rfl,rfl⟩;go_wp2_with fail
   go_round
   case rel=>exact⟨k+1,by omega,by go_num,V⟩
   case measure=>simp[intOf];omega
  have e1:((y:Int)==2)=false:=by rw[kqi];omega
  have V:=hid (HS.out (by rw[u.out,show ((some y:Option Nat)==some 2)=false by simpa using q];rfl));clear q;go_wp2_with fail
  go_round
  case rel=>exact⟨k+1,by omega,by go_num,V⟩
  case measure=>simp[intOf];omega
 have H:k=o.length:=by omega
 have M:=hid (S.out (H ▸ HW.out));have hend:decide ((k:Int)<(o.length:Int))=false:=by rw[kqh];omega
 have hendn:decide (k<o.length)=false:=by rw[kqh];exact j
 clear H j J;go_wp2;go_ret;exact⟨by rw[M.out];rfl,C.out⟩
theorem EO(A TA SA OA:Option Addr)(ws:List Nat)(L:List Ty)(O:List Bk)(c n tc tn sc sn oc on mb a z ty nx:Nat)(xk:Int)(mk:Bool)(w:World)(hn:ws.length=n)(hm:n<=2048)(ht:L.length=tn)(hty:ty<L.length)(h8:L[ty].l.length<=8)(hz:z=aY L[ty].l.length)(haz:a+z<=n)(hR:RdW w w.heap.size A ws)(hL:RdL w w.heap.size TA L)(ho:∀x∈ws,x<18446744073709551616)(hO:∀b∈O,b.at_<(n:Int))(hM:w.ownsMap prog 3 (plainElem prog 4) mb O.length (fg (O.map Bk.at_) O.length)):
 Calls prog 99 #[.agg #[.slice A n c,.slice TA tn tc,.slice SA sn sc,.slice OA on oc,.map (some mb)],.agg #[.int .i64 (a:Int),.int .i64 (z:Int),.int .i64 xk,.int .i64 (ty:Int),.bool mk,.int .u64 (nx:Int)]] w λe w'=>e=.returned (.bool (!((List.range L[ty].l.length).any λi=>wrF ws L[ty].l O a 11 i)))/\Below w.heap.size w w':=by
 have xs:=(Bx.new w 163 #[.slice A n c,.slice TA tn tc,.slice SA sn sc,.slice OA on oc,.map (some mb)]).alloc (.cells #[.int .i64 (a:Int),.int .i64 (z:Int),.int .i64 xk,.int .i64 (ty:Int),.bool mk,.int .u64 (nx:Int)] 55);have xb:=Bx.new (w.alloc (.cells #[.slice A n c,.slice TA tn tc,.slice SA sn sc,.slice OA on oc,.map (some mb)] 163)) 55 #[.int .i64 (a:Int),.int .i64 (z:Int),.int .i64 xk,.int .i64 (ty:Int),.bool mk,.int .u64 (nx:Int)];rw[kqm] at xb;have XS:=hid xs;have XB:=hid xb;have J:=hid (((kql w.heap.size w).alloc (kqd _) (.cells #[.slice A n c,.slice TA tn tc,.slice SA sn sc,.slice OA on oc,.map (some mb)] 163)).alloc (by simp) (.cells #[.int .i64 (a:Int),.int .i64 (z:Int),.int .i64 xk,.int .i64 (ty:Int),.bool mk,.int .u64 (nx:Int)] 55));clear xs xb;subst ht hn;have HL:=hid (hL.up J.out (kqd _));have Ja:=J.out.size;obtain⟨b,off,rfl,hb,p0⟩:=oQ HL.out.1 hty;have W:=HL.out.2 _ (kqp hty);obtain⟨x,hx⟩:=xq (L[ty]);rw[hx] at p0 h8 hz W |-;obtain⟨xA,xc,f⟩:=x;dsimp only at p0 h8 hz W |-;have HY:=hid W;have HR:=hid (hR.up J.out (kqd _));have j1:(ty:Int)<(L.length:Int):=by omega
 have j0:(0:Int)<=(ty:Int):=by omega
 have Q:Hid (∀k,k<f.length->a+2+k<ws.length):=hid λk X=>by rw[hz] at haz;unfold aY at haz;omega
 have Je:=hid (fF ho);have H:=hid hm;have N:=hid (d7 hM (J.out.block mb hM.lt));have Jd:Hid (∀v:Nat,ws.length<=v->mg O v=false):=hid λv hv=>by
  cases Y:mg O v with
  | false=>rfl
  | true =>obtain⟨b,hb,e⟩:=kx1.1 Y;rw[kqw] at e;have:=hO b hb;omega
 have Jc:Hid (Gq ws f O a 11 0):=hid λi h=>absurd h (by omega);have Jb:=hid (λh=>Fi (ws:=ws) (F:=f) (O:=O) (a:=a) (r:=11) h);have Z:=hid (λk X h=>E4 (ws:=ws) (F:=f) (O:=O) (a:=a) (r:=11) (k:=k) X h);have ha:a<=2048:=by omega
 obtain⟨q0,q1,q2,q3,q4,-,-⟩:=XS.out.c5;obtain⟨r0,r1,r2,r3,r4,r5,-,-⟩:=XB.out.c6;obtain⟨V,E⟩:∃V,(w.alloc (.cells #[.slice A ws.length c,.slice (some ⟨b,off,none⟩) L.length tc,.slice SA sn sc,.slice OA on oc,.map (some mb)] 163)).alloc (.cells #[.int .i64 (a:Int),.int .i64 (z:Int),.int .i64 xk,.int .i64 (ty:Int),.bool mk,.int .u64 (nx:Int)] 55)=V:=⟨_,rfl⟩;rw[E] at p0 HY HR N q0 q1 q2 q3 q4 r0 r1 r2 r3 r4 r5;have C:=hid (show Below w.heap.size w V by rw[<-E];exact J.out);clear hz haz hm hx hL hR hb W ho hO hM XS XB J HL Ja;go_enter func99,ntmps99;go_wp2_with fail;clear E
 go_loop [15] (λi=>∃k:Nat,k<=f.length/\i=.int .i64 k/\Hid (Gq ws f O a 11 k)) (λi=>f.length-(intOf i).toNat)
 case atStart=>exact⟨0,kqy _,rfl,Jc⟩
 obtain⟨k,X,rfl,HW⟩:=hrel;by_cases j:k<f.length
 .obtain ⟨g,go,rfl,hg,y0⟩:=HY.out.at_ j;obtain⟨d,dof,rfl,hd,w0⟩:=RdW.at_ HR.out (Q.out k j);rw[<-cq] at w0;have hj:=Q.out k j;have m:wrF ws f O a 11 k=(f[k]? == some 3&&(decide (0<wd ws (a+2+k)) && !mg O (wd ws (a+2+k)))):=rfl;rw[kqk j] at m;have o:=Je.out (a+2+k);have HS:=hid (λh=>rj HW.out h);have M:=hid (λh=>Z.out k j h);have i1:IntKind.i64.wrap ((a:Int)+2)=((a+2:Nat):Int):=by rw[kqs _ (by omega)];omega
  have i2:IntKind.i64.wrap (((a+2:Nat):Int)+(k:Int))=((a+2+k:Nat):Int):=by rw[kqs _ (by omega)];omega
  have k1:((a+2+k:Nat):Int)<(ws.length:Int):=by omega
  have k0:(0:Int)<=((a+2+k:Nat):Int):=by omega
  have hki:(k:Int)<(f.length:Int):=by omega
  have hk0:(0:Int)<=(k:Int):=by omega
  have w1:IntKind.u64.wrap (ws.length:Int)=(ws.length:Int):=kzt _ (by have:=H.out;omega);obtain⟨y,S⟩:=xq (f[k]);rw[S] at y0 m;obtain⟨p,hp⟩:=xq (a+2+k);rw[hp] at w0 i2 k1 k0 m o;obtain⟨s,hs⟩:=xq (a+2);rw[hs] at i1 i2;obtain⟨v,hv⟩:=xq (wd ws p);rw[hv] at w0 m o;have t:=hid m;have u:=hid (Jd.out v);clear S hp hs hv m hj;by_cases B:y=3
  .subst B;by_cases D:v=0
   .subst D;have R:=hid (HS.out (by rw[t.out];rfl));clear o;go_wp2_with fail
    go_round
    case rel=>exact⟨k+1,by omega,by go_num,R⟩
    case measure=>simp[intOf];omega
   have e1:((v:Int) != 0)=true:=by rw[kqv];omega
   have e1n:(v != 0)=true:=by rw[kqv];omega
   by_cases G:ws.length<=v
   .have K:=hid (M.out (by rw[t.out,u.out G,decide_eq_true (by omega)];rfl));have d1:decide ((ws.length:Int)<=(v:Int))=true:=by rw[kqn];omega
    have d1n:decide (ws.length<=v)=true:=by rw[kqn];omega
    clear o G D;go_wp2;go_ret;exact⟨by rw[K.out];rfl,C.out⟩
   have d1:decide ((ws.length:Int)<=(v:Int))=false:=by rw[kqh];omega
   have d1n:decide (ws.length<=v)=false:=by rw[kqh];omega
   have w2:IntKind.i64.wrap (v:Int)=(v:Int):=kqs _ (by have:=H.out;omega);have U:(Lit.int .i64 (v:Int)).wf=true:=by have:=H.out;simp[Lit.wf,IntKind.min,IntKind.max,IntKind.signed,IntKind.bits];omega
   have Eq:=iI N.out mO underlying161 underlying4 (ms V) (keyOf_int_mk (P:=prog) underlying3 U) (c:=mg O v) (by rw[nH,uJ]);have I:Hid (wrF ws f O a 11 k = !mg O v):=hid (by rw[t.out,decide_eq_true (by omega)];simp);obtain⟨q,Y⟩:=xq (mg O v);rw[Y] at Eq I;clear o G D U Y u t;cases q
   .have K:=hid (M.out (by rw[I.out];rfl));go_wp2;go_ret;exact⟨by rw[K.out];rfl,C.out⟩
   have R:=hid (HS.out (by rw[I.out];rfl));go_wp2_with fail
   go_round
   case rel=>exact⟨k+1,by omega,by go_num,R⟩
   case measure=>simp[intOf];omega
  have e1:((y:Int)==3)=false:=by rw[kqi];omega
  have R:=hid (HS.out (by rw[t.out,show ((some y:Option Nat)==some 3)=false by simpa using B];rfl));clear B o;go_wp2_with fail
  go_round
  case rel=>exact⟨k+1,by omega,by go_num,R⟩
  case measure=>simp[intOf];omega
 have T:k=f.length:=by omega
 have K:=hid (Jb.out (T ▸ HW.out));have hend:decide ((k:Int)<(f.length:Int))=false:=by rw[kqh];omega
 have hendn:decide (k<f.length)=false:=by rw[kqh];exact j
 clear T j X;go_wp2;go_ret;exact⟨by rw[K.out];rfl,C.out⟩
def oy (l:List Nat):Array Value:=(l.flatMap ab).toArray
theorem BG(l:List Nat):(oy l).size=l.length:=by unfold oy;rw[kjq,cj _ 1 bh,kxo]
theorem DY(l:List Nat):(oy l).all (·.oneCell')=true:=by
 rw[kkz];intro i hi;have:(oy l)[i]∈l.flatMap ab:=by unfold oy at *;simp
 obtain⟨x,-,a⟩:=kk8.1 this;rw[ab,kq0] at a;rw[a];rfl
theorem ru:(prog.info? 242).map (·.size)=some 8:=by kernel_rfl
theorem E9(w:World):(zeroValue 242).run prog w=.ok (.agg #[.int .u64 0,.int .u64 0,.int .u64 0,.int .u64 0,.int .u64 0,.int .u64 0,.int .u64 0,.int .u64 0]) w:=by kernel_rfl
theorem xj{fn:Func}{p:Tmp}(h:fn.results=#[.cell p 242])(tmps:Array Value){W:World}{cs:Array Value}(hb:Bx W g t cs)(hs:cs.size=8)(hp:tmps.getD p undef=.pointer (some ⟨g,0,none⟩)):
 (results fn tmps).run prog W=.ok (.agg cs) W:=by
 have a:tmps[p]?.getD undef=.pointer (some ⟨g,0,none⟩):=by simpa using hp
 have c:(prog.info? 242).map (·.size)=some cs.size:=by rw[hs];exact ru
 have b:=run_loadVar_row W g t 242 cs (0,0) _ hb underlying242 rfl c;simp[results,h,a,asAddr,b]
theorem xu(n t:Nat)(w:World)(hn:n<=1000000)(ht:t<=1000000):
 Calls prog 174 #[.agg #[.int .i64 (n:Int),.int .i64 (t:Int)]] w λe w'=>e=.returned (.agg (oy (spL n t)))/\Below w.heap.size w w':=by
 have G:=hid (λA W (M:RdW W W.heap.size A (sp7 n t))=>qj A (sp7 n t) 8 7 W rfl (by omega) M (λx N=>by
  simp only[sp7,kqx,kzf,or_false] at N;omega))
 obtain⟨q,E⟩:=xq (aS 14695981039346656037 (sp7 n t));have H:=hid (show oy (spL n t)=#[.int .u64 32777959566500194,.int .u64 1,.int .u64 (n:Int),.int .u64 (t:Int),.int .u64 0,.int .u64 0,.int .u64 0,.int .u64 (q:Int)] by
  unfold oy spL;rw[E];rfl)
 have D:Hid (∀W g,Bx W g 242 #[.int .u64 32777959566500194,.int .u64 1,.int .u64 (n:Int),.int .u64 (t:Int),.int .u64 0,.int .u64 0,.int .u64 0,.int .u64 0]->RdW W W.heap.size (some ⟨g,0,none⟩) (sp7 n t)):=hid λW g h=>(Rd.of_box h h.lt).take_ 7;rw[E] at G;have K:=hid (((kql w.heap.size w).alloc (kqd _) (.cells #[.int .i64 (n:Int),.int .i64 (t:Int)] 126)).alloc (by simp) (.cells #[.int .u64 0,.int .u64 0,.int .u64 0,.int .u64 0,.int .u64 0,.int .u64 0,.int .u64 0,.int .u64 0] 242));have w1:IntKind.u64.wrap (n:Int)=(n:Int):=kzt _ (by omega);have w2:IntKind.u64.wrap (t:Int)=(t:Int):=kzt _ (by omega);have hzv:=E9;have bx:=Bx.new ((w.alloc (.cells #[.int .i64 (n:Int),.int .i64 (t:Int)] 126)).alloc (.cells #[.int .u64 0,.int .u64 0,.int .u64 0,.int .u64 0,.int .u64 0,.int .u64 0,.int .u64 0,.int .u64 0] 242)) 242 #[.int .u64 0,.int .u64 0,.int .u64 0,.int .u64 0,.int .u64 0,.int .u64 0,.int .u64 0,.int .u64 0];rw[kqm,kqm] at bx;have J:=hid bx;have z:=hid (((K.out.alloc (by simp;omega) (.cells #[.int .u64 0,.int .u64 0,.int .u64 0,.int .u64 0,.int .u64 0,.int .u64 0,.int .u64 0,.int .u64 0] 242))));have B:=Bx.new (w.alloc (.cells #[.int .i64 (n:Int),.int .i64 (t:Int)] 126)) 242 #[.int .u64 0,.int .u64 0,.int .u64 0,.int .u64 0,.int .u64 0,.int .u64 0,.int .u64 0,.int .u64 0]
 rw[kqm] at B;have F:=hid (B.alloc (.cells #[.int .u64 0,.int .u64 0,.int .u64 0,.int .u64 0,.int .u64 0,.int .u64 0,.int .u64 0,.int .u64 0] 242));have C:(prog.info? 242).map (·.size)=some (#[.int .u64 32777959566500194,.int .u64 1,.int .u64 (n:Int),.int .u64 (t:Int),.int .u64 0,.int .u64 0,.int .u64 0,.int .u64 0]:Array Value).size:=ru;clear E bx B;have hbd:∀W,(Instr.build 242 #[(0,.int .u64 32777959566500194),(1,.int .u64 1),(2,.int .u64 (n:Int)),(3,.int .u64 (t:Int))]).run prog W=.ok (.agg #[.int .u64 32777959566500194,.int .u64 1,.int .u64 (n:Int),.int .u64 (t:Int),.int .u64 0,.int .u64 0,.int .u64 0,.int .u64 0]) W:=λ_=>by kernel_rfl
 go_enter func174,ntmps174;go_wp2_with (first
  | ((with_reducible refine aq 242 (.tmp 3) _ ?_);refine ak rfl _ _ _ rfl (w.heap.size+1+1) 242 #[.int .u64 0,.int .u64 0,.int .u64 0,.int .u64 0,.int .u64 0,.int .u64 0,.int .u64 0,.int .u64 0] #[.int .u64 32777959566500194,.int .u64 1,.int .u64 (n:Int),.int .u64 (t:Int),.int .u64 0,.int .u64 0,.int .u64 0,.int .u64 0] (by rfl) (by rfl) J.out (by rfl) C (by simp[Value.oneCell']) ?_;intro w3 j k;have c:=hid j;have d:=hid k;clear j k))
 refine (G.out _ _ (D.out _ _ c.out)).mono ?_;rintro e w4 ⟨rfl,a⟩;have b:=hid (d.out.below z.out (by omega));have s:=hid (b.out.trans (a.mono b.out.size));have m:=c.out.up a c.out.lt;have L:=hid ((d.out.bx F.out (by omega)).up a (d.out.bx F.out (by omega)).lt);have hl3:=m.lt;have hc7:=m.cell 7;have hf7:=m.frozen 7;have I:=hid (m.set_ 7 (.int .u64 (q:Int)));have o:=hid (L.out.far (p:=⟨w.heap.size+1+1,7,none⟩) (by simp) (.int .u64 (q:Int)));have y:=hid (s.out.setCell (p:=⟨w.heap.size+1+1,7,none⟩) (by simp;omega) (.int .u64 (q:Int)));have l:(prog.info? 242).map (·.size)=some (#[.int .u64 32777959566500194,.int .u64 1,.int .u64 (n:Int),.int .u64 (t:Int),.int .u64 0,.int .u64 0,.int .u64 0,.int .u64 (q:Int)]:Array Value).size:=ru;clear m a;go_wp2_with (first
  | ((with_reducible refine aM 242 (.tmp 3) ?_);refine kxf rfl _ _ rfl (w.heap.size+1+1) (by rfl) 242 #[.int .u64 32777959566500194,.int .u64 1,.int .u64 (n:Int),.int .u64 (t:Int),.int .u64 0,.int .u64 0,.int .u64 0,.int .u64 (q:Int)] (0,0) _ I.out underlying242 (by rfl) l ?_)
  | ((with_reducible refine aq 242 (.tmp 2) _ ?_);refine ak rfl _ _ _ rfl (w.heap.size+1) 242 #[.int .u64 0,.int .u64 0,.int .u64 0,.int .u64 0,.int .u64 0,.int .u64 0,.int .u64 0,.int .u64 0] #[.int .u64 32777959566500194,.int .u64 1,.int .u64 (n:Int),.int .u64 (t:Int),.int .u64 0,.int .u64 0,.int .u64 0,.int .u64 (q:Int)] (by rfl) (by rfl) o.out (by rfl) l (by simp[Value.oneCell']) ?_;intro w6 f i;have r:=hid f;have u:=hid i;clear f i))
 exact kqr (v:=.agg #[.int .u64 32777959566500194,.int .u64 1,.int .u64 (n:Int),.int .u64 (t:Int),.int .u64 0,.int .u64 0,.int .u64 0,.int .u64 (q:Int)]) (xj results174 _ r.out (by rfl) rfl) rfl ⟨by rw[H.out],u.out.below y.out (by omega)⟩
theorem He(h:l.length=8):∃p0 p1 p2 p3 p4 p5 p6 p7,l=[p0,p1,p2,p3,p4,p5,p6,p7]:=by
 match l,h with
 | [p0,p1,p2,p3,p4,p5,p6,p7],_=>exact⟨p0,p1,p2,p3,p4,p5,p6,p7,rfl⟩
theorem CO{a b:List Nat}(ha:a.length=8)(hb:b.length=8)(W:World):(Op.equalIn 10000 242 (.agg (oy a)) (.agg (oy b))).run prog W=.ok (decide (a=b)) W:=by
 have I:=underlying242;have F:=underlying53;have G:List.range' 0 8=[0,1,2,3,4,5,6,7]:=rfl;have e1:=λ(x y:Int)=>run_equalIn_int W 9998 53 .u64 .u64 x y F;obtain⟨q,n,l,s,h,z,t,k,rfl⟩:=He ha;obtain⟨r,p,i,o,A,m,w,j,rfl⟩:=He hb;have H:decide ([q,n,l,s,h,z,t,k]=[r,p,i,o,A,m,w,j])=(q==r&&(n==p&&(l==i&&(s==o&&(h==A&&(z==m&&(t==w&&k==j))))))):=by rw[kzg,kqn];simp
 have E:∀u v,(Op.equalIn 10000 242 u v)=(Op.equalIn (9999+1) 242 u v):=λ_ _=>rfl;rw[E,H];unfold Op.equalIn oy;simp only[kzy,List.flatMap_nil,ab,kzq,kz2];simp[go_sem,run_underlying I,Sem.run_bind,G,List.forIn_cons];simp only[Int.ofNat_inj];by_cases c:q=r
 .by_cases d:n=p
  .by_cases e:l=i
   .by_cases f:s=o
    .by_cases g:h=A
     .by_cases B:z=m
      .by_cases C:t=w
       .by_cases D:k=j<;>simp[c,d,e,f,g,B,C,D,go_sem]
       simp[c,d,e,f,g,B,C,go_sem]
      simp[c,d,e,f,g,B,go_sem]
     simp[c,d,e,f,g,go_sem]
    simp[c,d,e,f,go_sem]
   simp[c,d,e,go_sem]
  simp[c,d,go_sem]
 simp[c,go_sem]
theorem ES(p q a b:Int)(W:World):(Op.equalIn 10000 126 (.agg #[.int .i64 p,.int .i64 q]) (.agg #[.int .i64 a,.int .i64 b])).run prog W=.ok (p==a&&q==b) W:=by have g:=underlying126;have d:=underlying3;have c:∀u v,(Op.equalIn 10000 126 u v)=(Op.equalIn (9999+1) 126 u v):=λ_ _=>rfl;have e1:=λ(x y:Int)=>run_equalIn_int W 9998 3 .i64 .i64 x y d;rw[c];unfold Op.equalIn;simp[go_sem,run_underlying g,Sem.run_bind,List.forIn_cons];by_cases f:p=a<;>by_cases e:q=b<;>simp[f,e,go_sem]
theorem Bx.c8{x5 x6 x7:Value}(h:Bx w g t #[x0,x1,x2,x3,x4,x5,x6,x7]):w.cell? ⟨g,0,none⟩=some x0/\w.cell? ⟨g,1,none⟩=some x1/\w.cell? ⟨g,2,none⟩=some x2 /\
 w.cell? ⟨g,3,none⟩=some x3/\w.cell? ⟨g,4,none⟩=some x4/\w.cell? ⟨g,5,none⟩=some x5/\w.cell? ⟨g,6,none⟩=some x6/\w.cell? ⟨g,7,none⟩=some x7:=
 ⟨h.cell 0,h.cell 1,h.cell 2,h.cell 3,h.cell 4,h.cell 5,h.cell 6,h.cell 7⟩
theorem at_s2a{ops:Array Oper}{rest:List Oper}{a:Act}{Q:Exit->Act->World->Prop}{dst:Option Tmp}{type:TypeId}{pos:String}{after:Array Edge}{guard:Option (Nat × Bool)}(ty:TypeId)(x:Operand)(h:wpList P ops Q ({ dst:=dst,op:=.sliceToArrayPointer ty x,type:=type,pos:=pos,after:=after,guard:=guard }::rest) a w):wpList P ops Q ({ dst:=dst,op:=.sliceToArrayPointer ty x,type:=type,pos:=pos,after:=after,guard:=guard }::rest) a w:=h
theorem vl{k:Nat}(hk:k<l.length):(oy l)[k]? = some (.int .u64 (wd l k:Int)):=by unfold oy;have:=iM ab 1 bh l k 0 hk (by omega);rw[kxo,kz8] at this;rw[List.getElem?_toArray,this,cq hk];rfl
theorem DR{B off:Nat}{cs:List Value}(h:Rd w B (some ⟨b,off,none⟩) cs):w.rangeAt b off cs:=λj v c=>by have a:=(kza.1 c).1;obtain⟨b',off',e,-,d⟩:=h (by intro e;rw[e] at a;simp at a);cases e;rw[d j a,<-c,kqk a]
def spNo (x y i:Nat):Prop:=¬ (256<=x/\x<256+8*i/\x%8=0/\y<=8)
def spT (x n y t:Nat):Prop:=¬ (x=n/\y<t)
theorem y6{x y i:Nat}(h:spNo x y i)(h2:¬ (x=256+8*i/\y<=8)):spNo x y (i+1):=λ⟨d,h4,c,a⟩=>by
 by_cases b:x<256+8*i
 .exact h ⟨d,b,c,a⟩
 .exact h2 ⟨by omega,a⟩
theorem rm(A:Option Addr)(l:List Nat)(c:Nat)(w:World)(q:l.length=8)(hr:RdW w w.heap.size A l):
 Calls prog 116 #[.slice A 8 c] w λe w'=>e=.returned (.tuple #[spV l,.int .i64 (jS l)])/\Below w.heap.size w w':=by
 obtain⟨p0,p1,x,y,p4,p5,p6,p7,E⟩:=He q;obtain⟨b,off,rfl,hb,-⟩:=RdW.at_ hr (show 0<l.length by omega);have H:=hid (λh=>aa ((wd l 2:Nat):Int) |>.1 h);have s:=hid (λh=>uV (l:=l) h);have F:=hid (λh=>nz (l:=l) h);have V:=hid (λh=>mu (l:=l) h);have C:Hid (aj ((wd l 2:Nat):Int)=true->wd l 3<=8->pj l=decide (spL (wd l 2) (wd l 3)=l)):=hid λh1 h2=>by
  unfold pj;rw[h1,decide_eq_true h2];rfl
 have Ja:=hid (show ∀W,Below w.heap.size w W->W.rangeAt b off (l.flatMap ab) from λW h=>DR (Rd.below hr h));have H8:=hid (show (oy l).size=8 by rw[BG,q]);have N:=hid (show (l.flatMap ab).length=8 by rw[cj _ 1 bh,q]);have H1:=hid (DY l);have g2:=vl (l:=l) (k:=2) (by omega);have g3:=vl (l:=l) (k:=3) (by omega);have x0:=Bx.new w 126 #[.int .i64 0,.int .i64 0];have X0:=hid x0;have hlt2:Hid (w.heap.size<=w.heap.size+1+1):=hid (by omega);have T:=hid ((((kql w.heap.size w).alloc (kqd _) (.cells #[.int .i64 0,.int .i64 0] 126)).alloc (by simp) (.cells #[.int .i64 0,.int .i64 0] 126)));have x1:=Bx.new (w.alloc (.cells #[.int .i64 0,.int .i64 0] 126)) 126 #[.int .i64 0,.int .i64 0];rw[kqm] at x1;have X1:=hid x1;have x2:=Bx.new ((w.alloc (.cells #[.int .i64 0,.int .i64 0] 126)).alloc (.cells #[.int .i64 0,.int .i64 0] 126)) 242 #[.int .u64 0,.int .u64 0,.int .u64 0,.int .u64 0,.int .u64 0,.int .u64 0,.int .u64 0,.int .u64 0];rw[kqm,kqm] at x2;have X2:=hid x2;have HL:=hid q;have hzv:=E9;have hx:wd l 2=x:=by rw[E];rfl
 have hy:wd l 3=y:=by rw[E];rfl
 have HA:=hid (show oy l=#[.int .u64 (p0:Int),.int .u64 (p1:Int),.int .u64 (x:Int),.int .u64 (y:Int),.int .u64 (p4:Int),.int .u64 (p5:Int),.int .u64 (p6:Int),.int .u64 (p7:Int)] by rw[E];rfl);rw[hx] at H s V C g2;rw[hy] at s V C g3;have G2:=hid g2;have G3:=hid g3;have Q:Hid ((l.flatMap ab).toArray=oy l):=hid rfl;have Eq:(prog.info? 242).map (·.size)=some (l.flatMap ab).length:=by rw[N.out];exact ru
 have Jo:(prog.info? 242).map (·.size)=some (oy l).size:=by rw[H8.out];exact ru
 have Jp:(oy l).size=(#[.int .u64 0,.int .u64 0,.int .u64 0,.int .u64 0,.int .u64 0,.int .u64 0,.int .u64 0,.int .u64 0]:Array Value).size:=H8.out;clear hx hy hr q x0 x1 x2 g2 g3 E;obtain⟨cs,Je⟩:=xq (l.flatMap ab);rw[Je] at Ja N Q Eq;clear Je;go_enter func116,ntmps116;go_wp2_with fail
 go_step3
 go_wp2_with (first
  | ((with_reducible refine at_s2a 242 _ ?_);refine rg rfl (.pointer (some ⟨b,off,none⟩)) (by unfold execOp;simp only[Sem.run_bind,Act.eval,go_sem];rfl) ?_)
  | ((with_reducible refine aM 242 (.tmp 13) ?_);refine wpList_load_mid rfl _ _ rfl b off (by rfl) cs _ (Ja.out _ T.out) underlying242 (by rfl) Eq ?_;rw[Q.out])
  | ((with_reducible refine aq 242 (.tmp 5) _ ?_);refine ak rfl _ _ _ rfl (w.heap.size+1+1) 242 #[.int .u64 0,.int .u64 0,.int .u64 0,.int .u64 0,.int .u64 0,.int .u64 0,.int .u64 0,.int .u64 0] (oy l) (by rfl) (by rfl) X2.out Jp Jo H1.out ?_;intro a Ji Jd;have j:=hid Ji;have I:=hid Jd;clear Ji Jd))
 go_step3
 have u:=hid (I.out.bx ((X0.out.alloc _).alloc _) (by omega));have f:=hid (I.out.bx (X1.out.alloc _) (by omega));have J:=hid (I.out.below (T.out.alloc (by simp;omega) _) (by omega));have c2:=(j.out.cell 2).trans G2.out;have c3:=(j.out.cell 3).trans G3.out;have hl3:=j.out.lt;clear Ja N Q Eq X2 X0 X1 T I;go_wp2_with fail
 go_loop [6] (λv=>∃i:Nat,i<=225/\v=.int .i64 ((256+8*i:Nat):Int)/\Hid (spNo x y i)) (λv=>4000-(intOf v).toNat)
 case atStart=>exact⟨0,kqy _,rfl,hid λh=>by omega⟩
 obtain⟨i,hi,rfl,HN⟩:=hrel;obtain⟨n,q⟩:=xq (256+8*i);have m:=hid q;rw[q];by_cases Jb:i<225
 .have d1:decide ((n:Int)<=2048)=true:=by rw[kqn];omega
  have d1n:decide (n<=2048)=true:=by rw[kqn];omega
  have w1:IntKind.u64.wrap (n:Int)=(n:Int):=kzt _ (by omega);have w2x:IntKind.i64.wrap ((n:Int)+8)=((n+8:Nat):Int):=by rw[kqs _ (by omega)];omega
  have hn8:n<=2048:=by omega
  clear q;go_wp2_with fail
  go_loop [19] (λv=>∃t:Nat,t<=9/\v=.int .i64 (t:Int)/\Hid (spT x n y t)) (λv=>9-(intOf v).toNat)
  case atStart=>exact⟨0,kqy _,rfl,hid λh=>by omega⟩
  obtain⟨t,ht,rfl,HT⟩:=hrel;by_cases Jq:t<9
  .have w3x:IntKind.u64.wrap (t:Int)=(t:Int):=kzt _ (by omega);have ht9:(t:Int)<9:=by omega
   by_cases Y:x=n
   .subst Y;by_cases Jk:y=t
    .subst Jk;obtain⟨r0,r1,f0,f1,Jr⟩:=f.out.c2;have Jl:aj (x:Int)=true:=(aa _).2 (by have:=m.out;omega);have U:=hid (C.out Jl (by omega));have HW:=hid (λW=>xu x y W (by omega) (by omega));have Jm:=λW=>ES x y 0 0 W;rw[show ((x:Int)==0&&(y:Int)==0)=false by rw[show ((x:Int)==0)=false by rw[kqi];have:=m.out;omega];rfl] at Jm;have z:=λW=>CO (qx x y) HL.out W;rw[HA.out] at z;obtain⟨AL,Jf⟩:=xq (oy (spL x y));rw[Jf] at z HW;have HM:=hid z;have P:=hid (show Bx a (w.heap.size+1+1) 242 #[.int .u64 (p0:Int),.int .u64 (p1:Int),.int .u64 (x:Int),.int .u64 (y:Int),.int .u64 (p4:Int),.int .u64 (p5:Int),.int .u64 (p6:Int),.int .u64 (p7:Int)] by rw[<-HA.out];exact j.out);clear Jl Jf z C s HT HN m ht Jq hi Jb;go_wp2_with fail;have x4:=((f.out.set_ 0 (.int .i64 (x:Int))).set_ 1 (.int .i64 (y:Int)));have B:=(P.out.far (p:=⟨w.heap.size+1,0,none⟩) (by simp) (.int .i64 (x:Int))).far (p:=⟨w.heap.size+1,1,none⟩) (by simp) (.int .i64 (y:Int));have Z:=hid ((u.out.far (p:=⟨w.heap.size+1,0,none⟩) (by simp) (.int .i64 (x:Int))).far (p:=⟨w.heap.size+1,1,none⟩) (by simp) (.int .i64 (y:Int)))
     have o:=hid ((J.out.setCell (p:=⟨w.heap.size+1,0,none⟩) (by simp) (.int .i64 (x:Int))).setCell (p:=⟨w.heap.size+1,1,none⟩) (by simp) (.int .i64 (y:Int)));obtain⟨W4,Jj⟩:∃W4,(a.setCell ⟨w.heap.size+1,0,none⟩ (.int .i64 (x:Int))).setCell ⟨w.heap.size+1,1,none⟩ (.int .i64 (y:Int))=W4:=⟨_,rfl⟩;rw[Jj] at x4 B Z o |-;obtain⟨q0,q1,-⟩:=x4.c2;obtain⟨e0,e1,e2,e3,e4,e5,e6,e7⟩:=B.c8;have XL4:=hid B;have X4:=hid x4;clear Jj u f j P J c2 c3 r0 r1 f0 f1 Jr x4 B;have hm:∀W,(Op.equalIn 10000 242 (.agg AL) (.agg #[.int .u64 (p0:Int),.int .u64 (p1:Int),.int .u64 (x:Int),.int .u64 (y:Int),.int .u64 (p4:Int),.int .u64 (p5:Int),.int .u64 (p6:Int),.int .u64 (p7:Int)])).run prog W=.ok (decide (spL x y=l)) W:=HM.out;obtain⟨dq,Jg⟩:=xq (decide (spL x y=l));rw[Jg] at hm U;clear Jg;cases dq
     all_goals
      go_region_held3 (λX:World=>X.cell? ⟨w.heap.size+1,0,none⟩=some (.int .i64 (x:Int))/\X.cell? ⟨w.heap.size+1,1,none⟩=some (.int .i64 (y:Int))/\X.cell? ⟨w.heap.size+1+1,0,none⟩=some (.int .u64 (p0:Int))/\X.cell? ⟨w.heap.size+1+1,1,none⟩=some (.int .u64 (p1:Int))/\X.cell? ⟨w.heap.size+1+1,2,none⟩=some (.int .u64 (x:Int))/\X.cell? ⟨w.heap.size+1+1,3,none⟩=some (.int .u64 (y:Int))/\X.cell? ⟨w.heap.size+1+1,4,none⟩=some (.int .u64 (p4:Int))/\X.cell? ⟨w.heap.size+1+1,5,none⟩=some (.int .u64 (p5:Int))/\X.cell? ⟨w.heap.size+1+1,6,none⟩=some (.int .u64 (p6:Int))/\X.cell? ⟨w.heap.size+1+1,7,none⟩=some (.int .u64 (p7:Int))) (go_keep)
       (first | (go_at_call 174;refine (HW.out _).mono ?_;rintro e w5 ⟨rfl,r⟩;have x45:=(show Bx W4.drew _ _ _ from X4.out).up r X4.out.lt;have M:=(show Bx W4.drew _ _ _ from XL4.out).up r XL4.out.lt;obtain⟨k0,k1,-⟩:=x45.c2;obtain⟨m0,m1,m2,m3,m4,m5,m6,m7⟩:=M.c8;have G:=hid ((show Bx W4.drew _ _ _ from Z.out).up r Z.out.lt);have Jc:=hid (o.out.drew.trans (r.mono o.out.size));clear x45 M))
      clear q0 q1 e0 e1 e2 e3 e4 e5 e6 e7 m0 m1 m2 m3 m4 m5 m6 m7;have hg5:=G.out.lt;obtain⟨v0,v1,f0,f1,-⟩:=G.out.c2;go_wp2_with fail;rw[Exit.noGoto_ret]
     .have L:=hid (F.out U.out);exact kqr (v:=.tuple #[.agg #[.int .i64 0,.int .i64 0],.int .i64 50]) (cu results116 _ ((G.out.set_ 0 _).set_ 1 _) rfl rfl) rfl ⟨by rw[L.out.1,L.out.2],(Jc.out.setCell (by simp) _).setCell (by simp) _⟩
     have L:=hid (V.out U.out);exact kqr (v:=.tuple #[.agg #[.int .i64 (x:Int),.int .i64 (y:Int)],.int .i64 0]) (cu results116 _ ((G.out.set_ 0 _).set_ 1 _) rfl rfl) rfl ⟨by rw[L.out.1,L.out.2],(Jc.out.setCell (by simp) _).setCell (by simp) _⟩
    have e1:((t:Int)==(y:Int))=false:=by rw[kqi];omega
    have e1n:(t==y)=false:=by rw[kqi];omega
    have R:Hid (spT x x y (t+1)):=hid λh=>HT.out ⟨rfl,by omega⟩;clear Jk;go_wp2_with fail
    go_round
    case rel=>exact⟨t+1,by omega,by go_num,R⟩
    case measure=>simp[intOf];omega
   have e1:((n:Int)==(x:Int))=false:=by rw[kqi];omega
   have e1n:(n==x)=false:=by rw[kqi];omega
   have R:Hid (spT x n y (t+1)):=hid λh=>Y h.1;clear Y;go_wp2_with fail
   go_round
   case rel=>exact⟨t+1,by omega,by go_num,R⟩
   case measure=>simp[intOf];omega
  obtain rfl:t=9:=by omega
  have F:Hid (spNo x y (i+1)):=hid (y6 HN.out λh=>HT.out ⟨by have:=m.out;omega,by omega⟩);go_wp2_with fail
  go_round
  case rel=>exact⟨i+1,by omega,by have:=m.out;go_num,F⟩
  case measure=>simp[intOf];omega
 obtain rfl:i=225:=by omega
 have d1:decide ((n:Int)<=2048)=false:=by rw[kqh];omega
 have d1n:decide (n<=2048)=false:=by rw[kqh];omega
 clear q Jb;have L:=hid (F.out (s.out λh=>HN.out ⟨by have:=H.out h.1;omega,by have:=H.out h.1;omega,by have:=H.out h.1;omega,h.2⟩));have P:=hid (show Bx a (w.heap.size+1+1) 242 #[.int .u64 (p0:Int),.int .u64 (p1:Int),.int .u64 (x:Int),.int .u64 (y:Int),.int .u64 (p4:Int),.int .u64 (p5:Int),.int .u64 (p6:Int),.int .u64 (p7:Int)] by rw[<-HA.out];exact j.out);have Jm:=λW=>ES 0 0 0 0 W;obtain⟨q0,q1,-⟩:=f.out.c2;clear c2 c3;go_wp2_with fail;have ct0:∀g:SW (λX:World=>Below a.heap.size a X),g.w.cell? ⟨w.heap.size+1,0,none⟩=some (.int .i64 0):=λg=>(g.ok.cell (p:=⟨w.heap.size+1,0,none⟩) f.out.lt).trans q0;have ct1:∀g:SW (λX:World=>Below a.heap.size a X),g.w.cell? ⟨w.heap.size+1,1,none⟩=some (.int .i64 0):=λg=>(g.ok.cell (p:=⟨w.heap.size+1,1,none⟩) f.out.lt).trans q1
 refine nD (S:=λX:World=>Below a.heap.size a X) ((0,0,0)::(0,1,0)::(0,2,0)::(0,3,0)::(0,4,0)::(0,6,0)::(1,5,0)::(0,7,0)::(0,8,0)::[]) (.one _ true (none)::.one _ true (none)::.one _ true (none)::.one _ true (none)::.one _ true (some (some 41,false))::.one _ true (some (some 41,false))::.one _ false (some (some 41,false))::.one _ true (some (some 41,false))::.one _ true (none)::[]) (by kernel_rfl) (by kernel_rfl) (by decide) (by kernel_rfl) (by rfl) (λ_ _ d _ _ h=>by cases d<;>exact h) (kql _ _).drew ?_;have D:=hid ((kql a.heap.size a).drew);obtain⟨X0,Jh⟩:=xq a.drew;rw[Jh] at D |-;clear Jh;have hne:Nonempty (SW (λX:World=>Below a.heap.size a X)):=⟨⟨X0,D.out⟩⟩
 iterate 6 (first | (refine eK (by rfl) ?_;(try simp only[Act.put,kqa,kqf,kqe])) | (refine iN (by rfl) ?_;intro K hK;go_big_quiet_op;go_big_quiet_on))
 (refine eK (by rfl) ?_;(try simp only[Act.put,kqa,kqf,kqe]))
 iterate 2 (first | (refine eK (by rfl) ?_;(try simp only[Act.put,kqa,kqf,kqe])) | (refine iN (by rfl) ?_;intro K hK;go_big_quiet_op;go_big_quiet_on))
 refine Af ?_;have O:=hid (u.out.up D.out u.out.lt);have o:=hid (J.out.trans (D.out.mono J.out.size));have hg6:=O.out.lt;obtain⟨v0,v1,f0,f1,-⟩:=O.out.c2;clear q0 q1;go_wp2_with fail;rw[Exit.noGoto_ret];exact kqr (v:=.tuple #[.agg #[.int .i64 0,.int .i64 0],.int .i64 50]) (cu results116 _ ((O.out.set_ 0 _).set_ 1 _) rfl rfl) rfl ⟨by rw[L.out.1,L.out.2],(o.out.setCell (by simp) _).setCell (by simp) _⟩
theorem Bx.c4(h:Bx w g t #[x0,x1,x2,x3]):w.cell? ⟨g,0,none⟩=some x0/\w.cell? ⟨g,1,none⟩=some x1/\w.cell? ⟨g,2,none⟩=some x2/\w.cell? ⟨g,3,none⟩=some x3 /\
 w.frozen? ⟨g,0,none⟩=false/\w.frozen? ⟨g,1,none⟩=false/\w.frozen? ⟨g,2,none⟩=false/\w.frozen? ⟨g,3,none⟩=false/\g<w.heap.size:=
 ⟨h.cell 0,h.cell 1,h.cell 2,h.cell 3,h.frozen 0,h.frozen 1,h.frozen 2,h.frozen 3,h.lt⟩
theorem vn(w:World):Calls prog 115 #[] w λe w'=>e=.returned (.agg #[.int .i64 0,.int .i64 8])/\Below w.heap.size w w':=by
 have hb:∀W,(Instr.build 179 #[(0,.int .i64 0),(1,.int .i64 8)]).run prog W=.ok (.agg #[.int .i64 0,.int .i64 8]) W:=λ_=>by kernel_rfl
 have a:=Bx.new w 179 #[.int .i64 0,.int .i64 0];obtain⟨q0,q1,f0,f1,hg⟩:=a.c2;go_enter func115,ntmps115;go_wp2_with fail;have b:=Bx.new w 179 #[.int .i64 0,.int .i64 8];obtain⟨p0,p1,-⟩:=b.c2;exact kqr (v:=.agg #[.int .i64 0,.int .i64 8]) (by simp[results,results115,go_sem]) rfl ⟨rfl,(kql w.heap.size w).alloc (kqd _) _⟩
theorem Fa(l:List Nat):∃a b:Int,spV l=.agg #[.int .i64 a,.int .i64 b]/\(jS l=0->a=((wd l 2:Nat):Int)/\b=((wd l 3:Nat):Int)):=by
 cases h:pj l with
 | true=>exact⟨_,_,(mu h).1,λ_=>⟨rfl,rfl⟩⟩
 | false=>exact⟨0,0,(nz h).1,λc=>by rw[(nz h).2] at c;cases c⟩
theorem zA :jS l=0↔pj l=true:=by unfold jS;split<;>simp_all
theorem cp_is(ws:List Nat)(a:Nat){x y:Int}(hv:jS (sp8 ws a)=0->x=((wd (sp8 ws a) 2:Nat):Int)/\y=((wd (sp8 ws a) 3:Nat):Int)):(k9 ws a=if jS (sp8 ws a)=0 then (x==(ws.length:Int)) else false)/\(k9 ws a=true->y=((wd ws (a+3):Nat):Int)):=by
 have c:wd (sp8 ws a) 2=wd ws (a+2):=nK (by omega);have d:wd (sp8 ws a) 3=wd ws (a+3):=nK (by omega);rw[c,d] at hv;have b:k9 ws a=if jS (sp8 ws a)=0 then (x==(ws.length:Int)) else false:=by
  unfold k9;by_cases h:jS (sp8 ws a)=0
  .rw[if_pos h,zA.1 h,kzr,(hv h).1,kzg,kqw,kqw];omega
  rw[if_neg h,show pj (sp8 ws a)=false by
   cases e:pj (sp8 ws a) with
   | false=>rfl
   | true=>exact absurd (zA.2 e) h]
  rfl
 refine⟨b,λh=>?_⟩;rw[b] at h;split at h
 .rename_i h2;exact (hv h2).2
 cases h
theorem DU(A:Option Addr)(ws:List Nat)(c n:Nat)(w:World)(hn:ws.length=n)(hm:n<=9223372036854775807)(hc:n<=c)(hr:RdW w w.heap.size A ws):
 Calls prog 68 #[.slice A n c] w λe w'=>yK ws e/\Below w.heap.size w w':=by
 subst hn;have HR:=hid hr;have Jc:=hid (λW=>aE A ws.length c W hm);have L:=hid (((kql w.heap.size w).alloc (kqd _) (.cells #[.int .i64 0,.int .i64 0] 126)).alloc (by simp) (.cells #[.bool false,.bool false] 127));have x0:=(Bx.new w 126 #[.int .i64 0,.int .i64 0]).alloc (.cells #[.bool false,.bool false] 127);have x1:=Bx.new (w.alloc (.cells #[.int .i64 0,.int .i64 0] 126)) 127 #[.bool false,.bool false];rw[kqm] at x1;have X0:=hid x0;have X1:=hid x1;clear x0 x1 hr;cases hs:aj (ws.length:Int)
 .have HV:=hid (tu hs);rw[bD hs] at Jc;clear hs hm hc;go_enter func68,ntmps68;go_wp2_with fail;refine (Jc.out _).mono ?_;rintro e w1 ⟨rfl,rfl⟩;obtain⟨a,Ja⟩:=xq ((w.alloc (.cells #[.int .i64 0,.int .i64 0] 126)).alloc (.cells #[.bool false,.bool false] 127));rw[Ja] at X0 X1 L |-;clear Ja;obtain⟨v0,v1,f0,f1,hg0⟩:=X0.out.c2;obtain⟨v2,v3,f2,f3,Jy⟩:=X1.out.c2;go_wp2_with fail;exact kqr (v:=.tuple #[.agg #[.int .i64 0,.int .i64 0],.agg #[.bool false,.bool false],.int .i64 8]) (cK results68 _ ((((X0.out.set_ 0 _).set_ 1 _).far (by simp) _).far (by simp) _) ((((X1.out.far (by simp) _).far (by simp) _).set_ 0 _).set_ 1 _) rfl rfl rfl) rfl ⟨⟨0,false,false,by rw[HV.out.1,HV.out.2];rfl⟩,(((L.out.setCell (by simp) _).setCell (by simp) _).setCell (by simp) _).setCell (by simp) _⟩
 have hb:=(aa _).1 hs;rw[aX hs] at Jc;obtain⟨b,off,rfl,Jt,-⟩:=RdW.at_ HR.out (show 0<ws.length by omega);obtain⟨l,m,Jl,Jr⟩:=Fa (sp8 ws 0);obtain⟨o,q,Jm,Jp⟩:=Fa (sp8 ws 8);have U:=hid (cp_is ws 0 Jr);have Z:=hid (cp_is ws 8 Jp);have Eq:=hid (λW (hr:RdW W W.heap.size (some ⟨b,off,none⟩) ws)=>rm (some ⟨b,off,none⟩) (sp8 ws 0) c W (sB (by omega)) (by
  have:=z9 hr 0
  simpa [Addr.add] using this))
 have R:=hid (λW (hr:RdW W W.heap.size (some ⟨b,off,none⟩) ws)=>rm (some ⟨b,off+8,none⟩) (sp8 ws 8) (c-8) W (sB (by omega)) (by
  have:=z9 hr 8
  simpa [Addr.add] using this))
 rw[Jl] at Eq;rw[Jm] at R;have HV:Hid (tyN ws=(if k9 ws 0=true then some (wd ws 3) else if k9 ws 8=true then some (wd ws 11) else none)/\jf ws=if (tyN ws).isSome=true then 0 else 50):=hid ⟨rfl,by unfold jf;rw[if_pos hs]⟩;have k3:8<=c:=by omega
 have k4:16<=c:=by omega
 obtain⟨e0,Jo⟩:=xq (jS (sp8 ws 0));obtain⟨e1,Jj⟩:=xq (jS (sp8 ws 8));rw[Jo] at Eq U;rw[Jj] at R Z;clear hs hb Jl Jm Jr Jp Jo Jj Jt hm hc;go_enter func68,ntmps68;go_wp2_with fail;refine (Jc.out _).mono ?_;rintro e w1 ⟨rfl,rfl⟩;obtain⟨a,Ja⟩:=xq ((w.alloc (.cells #[.int .i64 0,.int .i64 0] 126)).alloc (.cells #[.bool false,.bool false] 127));rw[Ja] at X0 X1 L |-;clear Ja;go_wp2_with fail;refine (vn _).mono ?_;rintro e wS ⟨rfl,O⟩;have x6:=(Bx.new a 178 #[.int .i64 0,.int .i64 0,.int .i64 0,.int .i64 0]).alloc (.cells #[.bool false,.bool false] 127);have x7:=Bx.new (a.alloc (.cells #[.int .i64 0,.int .i64 0,.int .i64 0,.int .i64 0] 178)) 127 #[.bool false,.bool false];rw[kqm] at x7;have z:=hid (x6.up O x6.lt);have C:=hid (x7.up O x7.lt);have X0S:=hid (((X0.out.alloc (.cells #[.int .i64 0,.int .i64 0,.int .i64 0,.int .i64 0] 178)).alloc (.cells #[.bool false,.bool false] 127)).up O ((X0.out.alloc (.cells #[.int .i64 0,.int .i64 0,.int .i64 0,.int .i64 0] 178)).alloc (.cells #[.bool false,.bool false] 127)).lt);have X1S:=hid (((X1.out.alloc (.cells #[.int .i64 0,.int .i64 0,.int .i64 0,.int .i64 0] 178)).alloc (.cells #[.bool false,.bool false] 127)).up O ((X1.out.alloc (.cells #[.int .i64 0,.int .i64 0,.int .i64 0,.int .i64 0] 178)).alloc (.cells #[.bool false,.bool false] 127)).lt)
 have r:=L.out.size;have Jy:=X1.out.lt;have Js:=hid (((L.out.alloc r (.cells #[.int .i64 0,.int .i64 0,.int .i64 0,.int .i64 0] 178)).alloc (by simp;omega) (.cells #[.bool false,.bool false] 127)).trans (O.mono (by simp;omega)));obtain⟨P,Jq⟩:=xq (k9 ws 0);obtain⟨B,Jk⟩:=xq (k9 ws 8);rw[Jq] at U HV;rw[Jk] at Z HV;clear Jq Jk x6 x7 O X0 X1 L;go_wp2_with fail;have ix0:∀w,(Instr.index 179 (.agg #[.int .i64 0,.int .i64 8]) (.int .i64 0)).run prog w=.ok (.int .i64 0) w:=λ_=>by kernel_rfl
 have ix1:∀w,(Instr.index 179 (.agg #[.int .i64 0,.int .i64 8]) (.int .i64 1)).run prog w=.ok (.int .i64 8) w:=λ_=>by kernel_rfl
 go_loopw [20] (λi wr=>∃k:Nat,k<=2/\i=.int .i64 k/\Hid (Bx wr w.heap.size 126 #[.int .i64 0,.int .i64 0])/\Hid (Bx wr (w.heap.size+1) 127 #[.bool false,.bool false])/\Hid (k=0->Bx wr a.heap.size 178 #[.int .i64 0,.int .i64 0,.int .i64 0,.int .i64 0]/\Bx wr (a.heap.size+1) 127 #[.bool false,.bool false])/\Hid (k=1->Bx wr a.heap.size 178 #[.int .i64 l,.int .i64 m,.int .i64 0,.int .i64 0]/\Bx wr (a.heap.size+1) 127 #[.bool P,.bool false])/\Hid (k=2->Bx wr a.heap.size 178 #[.int .i64 l,.int .i64 m,.int .i64 o,.int .i64 q]/\Bx wr (a.heap.size+1) 127 #[.bool P,.bool B])/\Hid (Below w.heap.size w wr)) (λi _=>2-(intOf i).toNat)
 case atStart=>exact⟨0,kqy _,rfl,X0S,X1S,hid λ_=>⟨z.out,C.out⟩,hid λh=>by omega,hid λh=>by omega,Js⟩
 obtain⟨k,hk,rfl,M,N,T0,T1,T2,HB⟩:=hrel;by_cases h0:k=0
 .subst h0;have z:=hid (T0.out rfl).1;have C:=hid (T0.out rfl).2;clear T0 T1 T2;have Y:=HB.out.size;have Jb:=hid (Eq.out wr (HR.out.up HB.out Y));by_cases he:e0=0
  .have hq:(l==(ws.length:Int))=P:=by have:=U.out.1;rw[if_pos he] at this;exact this.symm
   have HQ:=hid hq;subst he;go_wp2_with fail;refine Jb.out.mono ?_;rintro e s ⟨rfl,d⟩;have G:=d.size;have t:=hid ((M.out.up d M.out.lt).alloc (.cells #[.int .i64 l,.int .i64 m] 126));have u:=hid ((N.out.up d N.out.lt).alloc (.cells #[.int .i64 l,.int .i64 m] 126));have j:=((z.out.up d z.out.lt).alloc (.cells #[.int .i64 l,.int .i64 m] 126));have g:=((C.out.up d C.out.lt).alloc (.cells #[.int .i64 l,.int .i64 m] 126));have f:=Bx.new s 126 #[.int .i64 l,.int .i64 m];have x:=hid ((HB.out.trans (d.mono Y)).alloc (kz5 Y G) (.cells #[.int .i64 l,.int .i64 m] 126));have Jg:=z.out.lt;have Jf:=C.out.lt;clear d;go_wp2_with fail;obtain⟨F,y⟩:=xq (s.alloc (.cells #[.int .i64 l,.int .i64 m] 126));rw[y] at t u j g f x |-;clear y;obtain⟨q0,q1,-,-,Je⟩:=f.c2;obtain⟨p0,p1,p2,p3,p4,p5,p6,p7,Jd⟩:=j.c4;obtain⟨s0,s1,s2,s3,Jh⟩:=g.c2;have J:=hid j;have I:=hid g;have XS5:=hid (show Bx F.drew _ _ _ from f);have H:s.heap.size≠a.heap.size:=by omega
   have D:s.heap.size≠a.heap.size+1:=by omega
   clear j g f;have Q:=H.symm;have T:=D.symm
   first | (go_region_held3 (λX:World=>X.cell? ⟨s.heap.size,0,none⟩=some (.int .i64 l)/\X.cell? ⟨s.heap.size,1,none⟩=some (.int .i64 m)) (go_keep) (fail)) | fail
   clear q0 q1 p0 p1 p2 p3 p4 p5 p6 p7 s0 s1 s2 s3;go_wp2_with fail;have Z0:=hid (((t.out.far (p:=⟨a.heap.size,0,none⟩) (by simp;omega) (.int .i64 l)).far (p:=⟨a.heap.size,1,none⟩) (by simp;omega) (.int .i64 m)).far (p:=⟨a.heap.size+1,0,none⟩) (by simp;omega) (.bool P));have Z1:=hid (((u.out.far (p:=⟨a.heap.size,0,none⟩) (by simp;omega) (.int .i64 l)).far (p:=⟨a.heap.size,1,none⟩) (by simp;omega) (.int .i64 m)).far (p:=⟨a.heap.size+1,0,none⟩) (by simp;omega) (.bool P));have Z6:=hid (((J.out.set_ 0 (.int .i64 l)).set_ 1 (.int .i64 m)).far (p:=⟨a.heap.size+1,0,none⟩) (by simp) (.bool P));have Z7:=hid (((I.out.far (p:=⟨a.heap.size,0,none⟩) (by simp) (.int .i64 l)).far (p:=⟨a.heap.size,1,none⟩) (by simp) (.int .i64 m)).set_ 0 (.bool P));have ZB:=hid (((x.out.setCell (p:=⟨a.heap.size,0,none⟩) r (.int .i64 l)).setCell (p:=⟨a.heap.size,1,none⟩) r (.int .i64 m)).setCell (p:=⟨a.heap.size+1,0,none⟩) (kk2 r) (.bool P));go_roundw
   case rel=>exact⟨1,by omega,by go_num,Z0,Z1,hid λh=>absurd h (by decide),hid λh=>⟨Z6.out,Z7.out⟩,hid λh=>absurd h (by decide),hid ZB.out.drew⟩
   case measure=>simp[intOf]
  have hq:P=false:=by have:=U.out.1;rw[if_neg he] at this;exact this
  subst hq;have Ju:(e0==0)=false:=by rw[kqi];exact he
  clear he;go_wp2_with fail;refine Jb.out.mono ?_;rintro e s ⟨rfl,d⟩;have G:=d.size;have t:=hid ((M.out.up d M.out.lt).alloc (.cells #[.int .i64 l,.int .i64 m] 126));have u:=hid ((N.out.up d N.out.lt).alloc (.cells #[.int .i64 l,.int .i64 m] 126));have j:=((z.out.up d z.out.lt).alloc (.cells #[.int .i64 l,.int .i64 m] 126));have g:=((C.out.up d C.out.lt).alloc (.cells #[.int .i64 l,.int .i64 m] 126));have f:=Bx.new s 126 #[.int .i64 l,.int .i64 m];have x:=hid ((HB.out.trans (d.mono Y)).alloc (kz5 Y G) (.cells #[.int .i64 l,.int .i64 m] 126));have Jg:=z.out.lt;have Jf:=C.out.lt;clear d;go_wp2_with fail;obtain⟨F,y⟩:=xq (s.alloc (.cells #[.int .i64 l,.int .i64 m] 126));rw[y] at t u j g f x |-;clear y;obtain⟨q0,q1,-,-,Je⟩:=f.c2;obtain⟨p0,p1,p2,p3,p4,p5,p6,p7,Jd⟩:=j.c4;obtain⟨s0,s1,s2,s3,Jh⟩:=g.c2;have J:=hid j;have I:=hid g;have XS5:=hid (show Bx F.drew _ _ _ from f);have H:s.heap.size≠a.heap.size:=by omega
  have D:s.heap.size≠a.heap.size+1:=by omega
  clear j g f;have Q:=H.symm;have T:=D.symm;refine kzp (S:=λX:World=>X.cell? ⟨s.heap.size,0,none⟩=some (.int .i64 l)/\X.cell? ⟨s.heap.size,1,none⟩=some (.int .i64 m)) (by kernel_rfl) ⟨q0,q1⟩ (λE=>?_);show wpAnyH _ _ _ _ _ 16 #[false,false,false,false,false,false,false,false,false,false,false,false,false,false,false,false] _ _;refine tj 0 (.int .i64 0) ?_;dsimp only[Act.put,kqg,kqc,kqb,kqa,kqf,kqe];refine tj 1 (.int .i64 0) ?_;dsimp only[Act.put,kqg,kqc,kqb,kqa,kqf,kqe];refine tj 2 (.agg #[.int .i64 l,.int .i64 m]) ?_;dsimp only[Act.put,kqg,kqc,kqb,kqa,kqf,kqe];refine tj 3 (.int .i64 e0) ?_;dsimp only[Act.put,kqg,kqc,kqb,kqa,kqf,kqe];refine tj 4 (.bool false) ?_;dsimp only[Act.put,kqg,kqc,kqb,kqa,kqf,kqe];refine tj 5 (.bool false) ?_;dsimp only[Act.put,kqg,kqc,kqb,kqa,kqf,kqe];refine sk 6 ?_;dsimp only[Act.put,kqg,kqc,kqb,kqa,kqf,kqe];refine sk 7 ?_;dsimp only[Act.put,kqg,kqc,kqb,kqa,kqf,kqe];refine sk 8 ?_;dsimp only[Act.put,kqg,kqc,kqb,kqa,kqf,kqe];refine sk 9 ?_;dsimp only[Act.put,kqg,kqc,kqb,kqa,kqf,kqe];refine sk 10 ?_;dsimp only[Act.put,kqg,kqc,kqb,kqa,kqf,kqe];refine tj 11 (.bool false) ?_;dsimp only[Act.put,kqg,kqc,kqb,kqa,kqf,kqe];refine tj 12 (.pointer (some ⟨a.heap.size,0,none⟩)) ?_
  dsimp only[Act.put,kqg,kqc,kqb,kqa,kqf,kqe];refine kzx (rs:=[13]) (by kernel_rfl) (by simp) ?_;refine AllReadyH.cons rfl (λK hK=>?_) AllReadyH.nil;go_simp;refine hK.out _ _ ⟨by go_keep,by go_keep⟩ ?_;clear hK K;intro Jv;refine tj 14 (.pointer (some ⟨a.heap.size+1,0,none⟩)) ?_
  dsimp only[Act.put,kqg,kqc,kqb,kqa,kqf,kqe];refine kzx (rs:=[15]) (by kernel_rfl) (by simp) ?_;refine AllReadyH.cons rfl (λK hK=>?_) AllReadyH.nil;go_simp;refine hK.out _ _ ⟨by go_keep,by go_keep⟩ ?_;clear hK K;intro Jw;refine kxj (by kernel_rfl) ?_ _;clear E;clear q0 q1 p0 p1 p2 p3 p4 p5 p6 p7 s0 s1 s2 s3;go_wp2_with fail;have Z0:=hid (((t.out.far (p:=⟨a.heap.size,0,none⟩) (by simp;omega) (.int .i64 l)).far (p:=⟨a.heap.size,1,none⟩) (by simp;omega) (.int .i64 m)).far (p:=⟨a.heap.size+1,0,none⟩) (by simp;omega) (.bool false));have Z1:=hid (((u.out.far (p:=⟨a.heap.size,0,none⟩) (by simp;omega) (.int .i64 l)).far (p:=⟨a.heap.size,1,none⟩) (by simp;omega) (.int .i64 m)).far (p:=⟨a.heap.size+1,0,none⟩) (by simp;omega) (.bool false));have Z6:=hid (((J.out.set_ 0 (.int .i64 l)).set_ 1 (.int .i64 m)).far (p:=⟨a.heap.size+1,0,none⟩) (by simp) (.bool false));have Z7:=hid (((I.out.far (p:=⟨a.heap.size,0,none⟩) (by simp) (.int .i64 l)).far (p:=⟨a.heap.size,1,none⟩) (by simp) (.int .i64 m)).set_ 0 (.bool false));have ZB:=hid (((x.out.setCell (p:=⟨a.heap.size,0,none⟩) r (.int .i64 l)).setCell (p:=⟨a.heap.size,1,none⟩) r (.int .i64 m)).setCell (p:=⟨a.heap.size+1,0,none⟩) (kk2 r) (.bool false));go_roundw
  case rel=>exact⟨1,by omega,by go_num,Z0,Z1,hid λh=>absurd h (by decide),hid λh=>⟨Z6.out,Z7.out⟩,hid λh=>absurd h (by decide),hid ZB.out.drew⟩
  case measure=>simp[intOf]
 by_cases h1:k=1
 .subst h1;have z:=hid (T1.out rfl).1;have C:=hid (T1.out rfl).2;clear T0 T1 T2;have Y:=HB.out.size;have Jb:=hid (R.out wr (HR.out.up HB.out Y));by_cases he:e1=0
  .have hq:(o==(ws.length:Int))=B:=by have:=Z.out.1;rw[if_pos he] at this;exact this.symm
   have HQ:=hid hq;subst he;go_wp2_with fail;refine Jb.out.mono ?_;rintro e s ⟨rfl,d⟩;have G:=d.size;have t:=hid ((M.out.up d M.out.lt).alloc (.cells #[.int .i64 o,.int .i64 q] 126));have u:=hid ((N.out.up d N.out.lt).alloc (.cells #[.int .i64 o,.int .i64 q] 126));have j:=((z.out.up d z.out.lt).alloc (.cells #[.int .i64 o,.int .i64 q] 126));have g:=((C.out.up d C.out.lt).alloc (.cells #[.int .i64 o,.int .i64 q] 126));have f:=Bx.new s 126 #[.int .i64 o,.int .i64 q];have x:=hid ((HB.out.trans (d.mono Y)).alloc (kz5 Y G) (.cells #[.int .i64 o,.int .i64 q] 126));have Jg:=z.out.lt;have Jf:=C.out.lt;clear d;go_wp2_with fail;obtain⟨F,y⟩:=xq (s.alloc (.cells #[.int .i64 o,.int .i64 q] 126));rw[y] at t u j g f x |-;clear y;obtain⟨q0,q1,-,-,Je⟩:=f.c2;obtain⟨p0,p1,p2,p3,p4,p5,p6,p7,Jd⟩:=j.c4;obtain⟨s0,s1,s2,s3,Jh⟩:=g.c2;have J:=hid j;have I:=hid g;have XS5:=hid (show Bx F.drew _ _ _ from f);have H:s.heap.size≠a.heap.size:=by omega
   have D:s.heap.size≠a.heap.size+1:=by omega
   clear j g f;have Q:=H.symm;have T:=D.symm
   first | (go_region_held3 (λX:World=>X.cell? ⟨s.heap.size,0,none⟩=some (.int .i64 o)/\X.cell? ⟨s.heap.size,1,none⟩=some (.int .i64 q)) (go_keep) (fail)) | fail
   clear q0 q1 p0 p1 p2 p3 p4 p5 p6 p7 s0 s1 s2 s3;go_wp2_with fail;have Z0:=hid (((t.out.far (p:=⟨a.heap.size,2,none⟩) (by simp;omega) (.int .i64 o)).far (p:=⟨a.heap.size,3,none⟩) (by simp;omega) (.int .i64 q)).far (p:=⟨a.heap.size+1,1,none⟩) (by simp;omega) (.bool B));have Z1:=hid (((u.out.far (p:=⟨a.heap.size,2,none⟩) (by simp;omega) (.int .i64 o)).far (p:=⟨a.heap.size,3,none⟩) (by simp;omega) (.int .i64 q)).far (p:=⟨a.heap.size+1,1,none⟩) (by simp;omega) (.bool B));have Z6:=hid (((J.out.set_ 2 (.int .i64 o)).set_ 3 (.int .i64 q)).far (p:=⟨a.heap.size+1,1,none⟩) (by simp) (.bool B));have Z7:=hid (((I.out.far (p:=⟨a.heap.size,2,none⟩) (by simp) (.int .i64 o)).far (p:=⟨a.heap.size,3,none⟩) (by simp) (.int .i64 q)).set_ 1 (.bool B));have ZB:=hid (((x.out.setCell (p:=⟨a.heap.size,2,none⟩) r (.int .i64 o)).setCell (p:=⟨a.heap.size,3,none⟩) r (.int .i64 q)).setCell (p:=⟨a.heap.size+1,1,none⟩) (kk2 r) (.bool B));go_roundw
   case rel=>exact⟨2,by omega,by go_num,Z0,Z1,hid λh=>absurd h (by decide),hid λh=>absurd h (by decide),hid λh=>⟨Z6.out,Z7.out⟩,hid ZB.out.drew⟩
   case measure=>simp[intOf]
  have hq:B=false:=by have:=Z.out.1;rw[if_neg he] at this;exact this
  subst hq;have Ju:(e1==0)=false:=by rw[kqi];exact he
  clear he;go_wp2_with fail;refine Jb.out.mono ?_;rintro e s ⟨rfl,d⟩;have G:=d.size;have t:=hid ((M.out.up d M.out.lt).alloc (.cells #[.int .i64 o,.int .i64 q] 126));have u:=hid ((N.out.up d N.out.lt).alloc (.cells #[.int .i64 o,.int .i64 q] 126));have j:=((z.out.up d z.out.lt).alloc (.cells #[.int .i64 o,.int .i64 q] 126));have g:=((C.out.up d C.out.lt).alloc (.cells #[.int .i64 o,.int .i64 q] 126));have f:=Bx.new s 126 #[.int .i64 o,.int .i64 q];have x:=hid ((HB.out.trans (d.mono Y)).alloc (kz5 Y G) (.cells #[.int .i64 o,.int .i64 q] 126));have Jg:=z.out.lt;have Jf:=C.out.lt;clear d;go_wp2_with fail;obtain⟨F,y⟩:=xq (s.alloc (.cells #[.int .i64 o,.int .i64 q] 126));rw[y] at t u j g f x |-;clear y;obtain⟨q0,q1,-,-,Je⟩:=f.c2;obtain⟨p0,p1,p2,p3,p4,p5,p6,p7,Jd⟩:=j.c4;obtain⟨s0,s1,s2,s3,Jh⟩:=g.c2;have J:=hid j;have I:=hid g;have XS5:=hid (show Bx F.drew _ _ _ from f);have H:s.heap.size≠a.heap.size:=by omega
  have D:s.heap.size≠a.heap.size+1:=by omega
  clear j g f;have Q:=H.symm;have T:=D.symm;refine kzp (S:=λX:World=>X.cell? ⟨s.heap.size,0,none⟩=some (.int .i64 o)/\X.cell? ⟨s.heap.size,1,none⟩=some (.int .i64 q)) (by kernel_rfl) ⟨q0,q1⟩ (λE=>?_);show wpAnyH _ _ _ _ _ 16 #[false,false,false,false,false,false,false,false,false,false,false,false,false,false,false,false] _ _;refine tj 0 (.int .i64 1) ?_;dsimp only[Act.put,kqg,kqc,kqb,kqa,kqf,kqe];refine tj 1 (.int .i64 1) ?_;dsimp only[Act.put,kqg,kqc,kqb,kqa,kqf,kqe];refine tj 2 (.agg #[.int .i64 o,.int .i64 q]) ?_;dsimp only[Act.put,kqg,kqc,kqb,kqa,kqf,kqe];refine tj 3 (.int .i64 e1) ?_;dsimp only[Act.put,kqg,kqc,kqb,kqa,kqf,kqe];refine tj 4 (.bool false) ?_;dsimp only[Act.put,kqg,kqc,kqb,kqa,kqf,kqe];refine tj 5 (.bool false) ?_;dsimp only[Act.put,kqg,kqc,kqb,kqa,kqf,kqe];refine sk 6 ?_;dsimp only[Act.put,kqg,kqc,kqb,kqa,kqf,kqe];refine sk 7 ?_;dsimp only[Act.put,kqg,kqc,kqb,kqa,kqf,kqe];refine sk 8 ?_;dsimp only[Act.put,kqg,kqc,kqb,kqa,kqf,kqe];refine sk 9 ?_;dsimp only[Act.put,kqg,kqc,kqb,kqa,kqf,kqe];refine sk 10 ?_;dsimp only[Act.put,kqg,kqc,kqb,kqa,kqf,kqe];refine tj 11 (.bool false) ?_;dsimp only[Act.put,kqg,kqc,kqb,kqa,kqf,kqe];refine tj 12 (.pointer (some ⟨a.heap.size,2,none⟩)) ?_
  dsimp only[Act.put,kqg,kqc,kqb,kqa,kqf,kqe];refine kzx (rs:=[13]) (by kernel_rfl) (by simp) ?_;refine AllReadyH.cons rfl (λK hK=>?_) AllReadyH.nil;go_simp;refine hK.out _ _ ⟨by go_keep,by go_keep⟩ ?_;clear hK K;intro Jv;refine tj 14 (.pointer (some ⟨a.heap.size+1,1,none⟩)) ?_
  dsimp only[Act.put,kqg,kqc,kqb,kqa,kqf,kqe];refine kzx (rs:=[15]) (by kernel_rfl) (by simp) ?_;refine AllReadyH.cons rfl (λK hK=>?_) AllReadyH.nil;go_simp;refine hK.out _ _ ⟨by go_keep,by go_keep⟩ ?_;clear hK K;intro Jw;refine kxj (by kernel_rfl) ?_ _;clear E;clear q0 q1 p0 p1 p2 p3 p4 p5 p6 p7 s0 s1 s2 s3;go_wp2_with fail;have Z0:=hid (((t.out.far (p:=⟨a.heap.size,2,none⟩) (by simp;omega) (.int .i64 o)).far (p:=⟨a.heap.size,3,none⟩) (by simp;omega) (.int .i64 q)).far (p:=⟨a.heap.size+1,1,none⟩) (by simp;omega) (.bool false));have Z1:=hid (((u.out.far (p:=⟨a.heap.size,2,none⟩) (by simp;omega) (.int .i64 o)).far (p:=⟨a.heap.size,3,none⟩) (by simp;omega) (.int .i64 q)).far (p:=⟨a.heap.size+1,1,none⟩) (by simp;omega) (.bool false));have Z6:=hid (((J.out.set_ 2 (.int .i64 o)).set_ 3 (.int .i64 q)).far (p:=⟨a.heap.size+1,1,none⟩) (by simp) (.bool false));have Z7:=hid (((I.out.far (p:=⟨a.heap.size,2,none⟩) (by simp) (.int .i64 o)).far (p:=⟨a.heap.size,3,none⟩) (by simp) (.int .i64 q)).set_ 1 (.bool false));have ZB:=hid (((x.out.setCell (p:=⟨a.heap.size,2,none⟩) r (.int .i64 o)).setCell (p:=⟨a.heap.size,3,none⟩) r (.int .i64 q)).setCell (p:=⟨a.heap.size+1,1,none⟩) (kk2 r) (.bool false));go_roundw
  case rel=>exact⟨2,by omega,by go_num,Z0,Z1,hid λh=>absurd h (by decide),hid λh=>absurd h (by decide),hid λh=>⟨Z6.out,Z7.out⟩,hid ZB.out.drew⟩
  case measure=>simp[intOf]
 have h2:k=2:=by omega
 subst h2;have z:=hid (T2.out rfl).1;have C:=hid (T2.out rfl).2;obtain⟨p0,p1,p2,p3,-,-,-,-,-⟩:=z.out.c4;obtain⟨s0,s1,-⟩:=C.out.c2;have hgy0:=M.out.lt;have hgy1:=N.out.lt;obtain⟨v0,v1,f0,f1,-⟩:=M.out.c2;obtain⟨v2,v3,f2,f3,-⟩:=N.out.c2;clear T0 T1 T2;have n1:w.heap.size≠a.heap.size:=by omega
 have n2:w.heap.size≠a.heap.size+1:=by omega
 have n3:w.heap.size+1≠a.heap.size:=by omega
 cases P
 .cases B
  .have HN:Hid (tyN ws=none/\jf ws=50):=hid (by have:=HV.out;simp at this;exact⟨this.1,by rw[this.2,this.1];rfl⟩);go_wp2_with fail;exact kqr (v:=.tuple #[.agg #[.int .i64 0,.int .i64 0],.agg #[.bool false,.bool false],.int .i64 50]) (cK results68 _ (show Bx _ _ _ _ from (((M.out.set_ 0 (.int .i64 0)).set_ 1 (.int .i64 0)).far (p:=⟨w.heap.size+1,0,none⟩) (by simp) (.bool false)).far (p:=⟨w.heap.size+1,1,none⟩) (by simp) (.bool false)) (show Bx _ _ _ _ from (((N.out.far (p:=⟨w.heap.size,0,none⟩) (by simp) (.int .i64 0)).far (p:=⟨w.heap.size,1,none⟩) (by simp) (.int .i64 0)).set_ 0 (.bool false)).set_ 1 (.bool false)) rfl rfl rfl) rfl ⟨⟨0,false,false,by rw[HN.out.1,HN.out.2];rfl⟩,(((HB.out.setCell (p:=⟨w.heap.size,0,none⟩) (kqd _) (.int .i64 0)).setCell (p:=⟨w.heap.size,1,none⟩) (kqd _) (.int .i64 0)).setCell (p:=⟨w.heap.size+1,0,none⟩) (kx7 _) (.bool false)).setCell (p:=⟨w.heap.size+1,1,none⟩) (kx7 _) (.bool false)⟩
  have V:q=((wd ws 11:Nat):Int):=Z.out.2 rfl;have HN:Hid (tyN ws=some (wd ws 11)/\jf ws=0):=hid (by have:=HV.out;simp at this;exact⟨this.1,by rw[this.2,this.1];rfl⟩);have Ji:=hid V;clear V;go_wp2_with fail
  go_region_held3 (λX:World=>X.cell? ⟨a.heap.size,2,none⟩=some (.int .i64 o)/\X.cell? ⟨a.heap.size,3,none⟩=some (.int .i64 q)/\X.cell? ⟨a.heap.size+1,0,none⟩=some (.bool false)/\X.cell? ⟨a.heap.size+1,1,none⟩=some (.bool true)) (go_keep) (fail)
  go_wp2_with fail;exact kqr (v:=.tuple #[.agg #[.int .i64 o,.int .i64 q],.agg #[.bool false,.bool true],.int .i64 0]) (cK results68 _ (show Bx _ _ _ _ from (((M.out.set_ 0 (.int .i64 o)).set_ 1 (.int .i64 q)).far (p:=⟨w.heap.size+1,0,none⟩) (by simp) (.bool false)).far (p:=⟨w.heap.size+1,1,none⟩) (by simp) (.bool true)) (show Bx _ _ _ _ from (((N.out.far (p:=⟨w.heap.size,0,none⟩) (by simp) (.int .i64 o)).far (p:=⟨w.heap.size,1,none⟩) (by simp) (.int .i64 q)).set_ 0 (.bool false)).set_ 1 (.bool true)) rfl rfl rfl) rfl ⟨⟨o,false,true,by rw[HN.out.1,HN.out.2,Ji.out];rfl⟩,((((HB.out.setCell (p:=⟨w.heap.size,0,none⟩) (kqd _) (.int .i64 o)).setCell (p:=⟨w.heap.size,1,none⟩) (kqd _) (.int .i64 q)).setCell (p:=⟨w.heap.size+1,0,none⟩) (kx7 _) (.bool false)).setCell (p:=⟨w.heap.size+1,1,none⟩) (kx7 _) (.bool true)).drew⟩
 have V:m=((wd ws 3:Nat):Int):=U.out.2 rfl;have HN:Hid (tyN ws=some (wd ws 3)/\jf ws=0):=hid (by have:=HV.out;simp at this;exact⟨this.1,by rw[this.2,this.1];rfl⟩);have Ji:=hid V;clear V;go_wp2_with fail
 go_region_held3 (λX:World=>X.cell? ⟨a.heap.size,0,none⟩=some (.int .i64 l)/\X.cell? ⟨a.heap.size,1,none⟩=some (.int .i64 m)/\X.cell? ⟨a.heap.size+1,0,none⟩=some (.bool true)/\X.cell? ⟨a.heap.size+1,1,none⟩=some (.bool B)) (go_keep) (fail)
 go_wp2_with fail;exact kqr (v:=.tuple #[.agg #[.int .i64 l,.int .i64 m],.agg #[.bool true,.bool B],.int .i64 0]) (cK results68 _ (show Bx _ _ _ _ from (((M.out.set_ 0 (.int .i64 l)).set_ 1 (.int .i64 m)).far (p:=⟨w.heap.size+1,0,none⟩) (by simp) (.bool true)).far (p:=⟨w.heap.size+1,1,none⟩) (by simp) (.bool B)) (show Bx _ _ _ _ from (((N.out.far (p:=⟨w.heap.size,0,none⟩) (by simp) (.int .i64 l)).far (p:=⟨w.heap.size,1,none⟩) (by simp) (.int .i64 m)).set_ 0 (.bool true)).set_ 1 (.bool B)) rfl rfl rfl) rfl ⟨⟨l,true,B,by rw[HN.out.1,HN.out.2,Ji.out];rfl⟩,((((HB.out.setCell (p:=⟨w.heap.size,0,none⟩) (kqd _) (.int .i64 l)).setCell (p:=⟨w.heap.size,1,none⟩) (kqd _) (.int .i64 m)).setCell (p:=⟨w.heap.size+1,0,none⟩) (kx7 _) (.bool true)).setCell (p:=⟨w.heap.size+1,1,none⟩) (kx7 _) (.bool B)).drew⟩
end Go.Proofs.YtpcajamacpbjcaaGreat
