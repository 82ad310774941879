/- Texts laid together: LyK MapB LyC LyD LySup LySur LyTw. -/
import Derived.Test.YtpcajamacpbjcaaGreatZKR19
import Derived.Test.YtpcajamacpbjcaaGreatZKWnt
import Derived.Test.YtpcajamacpbjcaaGreatZKPlain
import Derived.Test.YtpcajamacpbjcaaGreatZKEff
import Derived.Maps.Own
import Derived.Maps.Views
import Derived.Maps.OwnOps
import Derived.Maps.Keyed
import Derived.Test.YtpcajamacpbjcaaGreatZKSup
import Derived.Test.YtpcajamacpbjcaaGreatZKRch
import Derived.Test.YtpcajamacpbjcaaGreatZGH
set_option maxHeartbeats 16000000
set_option maxRecDepth 100000
set_option linter.all false
namespace Go.Proofs.YtpcajamacpbjcaaGreat
open Lib (hid)
open Go.RowKit
variable {O:List Bk}{F l ws:List Nat}{H a b g n r:Nat}{P:Program}{e k t:TypeId}{x0 x1 x2 x3 x4:Value}{w w':World}
open Go.Proofs.Tryz
def Dn (ws:List Nat) (t H:Nat) (e:Ending) (w':World):Prop:=∃(B:Option Addr) (m d:Nat) (L:List Ty),e=.returned (.tuple #[.slice B m d,.int .i64 (if ga ws t=true then 0 else 50)])/\(ga ws t=true->m=L.length/\km w' H (.slice B m d) L/\L.map Ty.l=eB ws t 8)
theorem pa{t:Nat}{B:Option Addr}{m d:Nat}(h:ga ws t=false):Dn ws t H (.returned (.tuple #[.slice B m d,.int .i64 50])) w':=⟨B,m,d,[],by rw[h];rfl,λa=>by rw[h] at a;cases a⟩
theorem uo(A:Option Addr)(ws:List Nat)(c n t:Nat)(w:World)(hn:ws.length=n)(hs:al (n:Int)=true)(ht:t<=8)(hr:RdW w w.heap.size A ws)(ho:∀x∈ws,x<18446744073709551616):
 Calls prog 69 #[.slice A n c,.int .i64 (t:Int)] w λe w'=>Dn ws t w.heap.size e w'/\Below w.heap.size w w':=by
 subst hn;have hb:=(ac _).1 hs;have HR:=hid hr;have Z:=hid (λW=>aF A ws.length c W (by omega));rw[aW hs] at Z;have Y:Hid (∀k,wd ws k<18446744073709551616):=hid (fd ho);have d0:decide ((t:Int)<0)=false:=by rw[kqh];omega
 have d8:decide ((8:Int)<(t:Int))=false:=by rw[kqh];omega
 have d8n:decide (8<t)=false:=by rw[kqh];omega
 clear hr ho hs;obtain⟨i2,hi,P,Eq,Q⟩:=kzt By;have HJ:=hid hi;have Jj:=hid P;have Je:=hid Eq;have Jg:=hid Q;clear hi P Eq Q;go_enter func69,ntmps69;go_wp2_with fail;refine (Z.out _).mono ?_;rintro e w1 ⟨rfl,rfl⟩;go_wp2_with fail;go_loopw [7,24] (λv i wr=>∃(k:Nat) (L:List Ty),k<=8/\i=.int .i64 k/\Hid (wF ws t k)/\Hid (L.map Ty.l=eB ws t k)/\L.length<=k/\Hid (km wr w.heap.size v L)/\Below w.heap.size w wr) (λ_ i _=>8-(intOf i).toNat)
 case atStart=>exact⟨0,[],kqy _,rfl,hid (λi h=>absurd h (by omega)),hid (by simp[eB]),kqg _,hid ⟨kq3 _ _ _ _,λx hx=>absurd hx (by simp)⟩,kql _ _⟩
 obtain⟨k,L,hk,rfl,T,M,hLk,s,R⟩:=hrel;have hz:=R.size;by_cases Jd:k<8
 .obtain ⟨b,f,rfl,hbb,h0⟩:=RdW.at_ (Rd.below HR.out R) (show 96+2*k<ws.length by omega);obtain⟨b',off',e',-,h1⟩:=RdW.at_ (Rd.below HR.out R) (show 96+2*k+1<ws.length by omega);cases e';rw[<-ce] at h0 h1;have a:=hid (λW=>t7 (wd ws (96+2*k)) (wd ws (96+2*k+1)) W (Y.out _) (Y.out _));have r:=hid (λh=>oI T.out h);have m:=hid (λh=>qC (ws:=ws) (t:=t) Jd h);have d:Hid (Au ws t k=if k<t then bN (wd ws (96+2*k)) (wd ws (96+2*k+1)) else wd ws (96+2*k)==0&&wd ws (96+2*k+1)==0):=hid rfl;have j:=hid (λh=>zV (ws:=ws) (t:=t) (k:=k) h);have G:=hid (λh=>AH (ws:=ws) (t:=t) (k:=k) h);have i1:IntKind.i64.wrap ((2:Int)*(k:Int))=2*(k:Int):=kqr _ (by omega);have i2':IntKind.i64.wrap ((96:Int)+2*(k:Int))=((96+2*k:Nat):Int):=by rw[kqr _ (by omega)];omega
  have i3:IntKind.i64.wrap (((96+2*k:Nat):Int)+1)=((96+2*k+1:Nat):Int):=by rw[kqr _ (by omega)];omega
  have j1:((96+2*k:Nat):Int)<(ws.length:Int):=by omega
  have j2:(0:Int)<=((96+2*k:Nat):Int):=by omega
  have j3:((96+2*k+1:Nat):Int)<(ws.length:Int):=by omega
  have j4:(0:Int)<=((96+2*k+1:Nat):Int):=by omega
  have hk1:(k:Int)<8:=by omega
  obtain⟨p,hp⟩:=xq (96+2*k);rw[hp] at h0 h1 a d j i2' i3 j1 j2 j3 j4;obtain⟨q,hq⟩:=xq (p+1);rw[hq] at h1 a d j i3 j3 j4;obtain⟨x,hx⟩:=xq (wd ws p);obtain⟨y,hy⟩:=xq (wd ws q);rw[hx] at h0 a d j;rw[hy] at h1 a d j;have O:=hid R;clear hx hy hp hq;by_cases u:k<t
  .have d2:decide ((t:Int)<=(k:Int))=false:=by rw[kqh];omega
   have d2n:decide (t<=k)=false:=by rw[kqh];omega
   cases z:bN x y
   .have H:=hid (m.out (by rw[d.out,if_pos u,z]));have D:dJ x y=50:=by unfold dJ;rw[z];rfl
    have U:aX x y=[]:=by unfold aX;rw[z];rfl
    unfold lF at a;rw[D,U] at a;clear z D U d m r j G u;go_wp2_with fail
    go_region_held3 (λX:World=>X.cell? ⟨b,f+p,none⟩=some (.int .u64 (x:Int))/\X.cell? ⟨b,f+q,none⟩=some (.int .u64 (y:Int))) (go_keep) (fail)
    go_wp2_with fail;refine (a.out _).mono ?_;rintro e w3 ⟨⟨A3,c3,rfl,-⟩,o⟩;have E:=O.out.drew.trans (o.mono hz);clear o;go_wp2;go_ret2;exact⟨pa H.out,E⟩
   have H:=hid (r.out (by rw[d.out,if_pos u,z]));have I:=hid (j.out u);have D:dJ x y=0:=by unfold dJ;rw[z];rfl
   unfold lF at a;rw[D] at a;obtain⟨l,hl⟩:=xq (aX x y);rw[hl] at a I;clear z D hl d m r j G u;go_wp2_with fail
   go_region_held3 (λX:World=>X.cell? ⟨b,f+p,none⟩=some (.int .u64 (x:Int))/\X.cell? ⟨b,f+q,none⟩=some (.int .u64 (y:Int))) (go_keep) (fail)
   go_wp2_with fail;refine (a.out _).mono ?_;rintro e w3 ⟨⟨A3,c3,rfl,C⟩,o⟩;have E:=O.out.drew.trans (o.mono hz);have V:=E.size;have B:=aj (show wr.drew.ownsRow _ _ _ _ _ _ from s.out.1) o (kqg _);have Ja:Hid (∀y∈L,w3.ownsRow w.heap.size 5 1 (.slice y.A y.l.length y.c) y.l.length (y.l.flatMap aJ)):=hid λy hy=>aj (show wr.drew.ownsRow _ _ _ _ _ _ from s.out.2 y hy) o (kqg _);have Ji:=hid (aB C (show w.heap.size<=wr.drew.heap.size from hz));have S:=hid B;have Jh:=hid E;clear o C E s;go_wp2_with (at_builtin;refine kzn _ rfl _ _ 69 rfl w.heap.size 113 i2 _ 1 24 underlying69 HJ.out Jj.out Je.out Jg.out rfl (by decide) _ _ _ rfl (B.alloc _) ⟨_,0,none⟩ 1 1 [.slice A3 l.length c3] rfl rfl (bY _ _ _) (by simp[Value.oneCell']) (by unfold maxLen;omega) (by omega) (bM V) ?_;intro v1 w6 F J _;have Jb:=hid (aw Jh.out V B J);have Jc:=hid (rq (x:=⟨A3,c3,l⟩) Ja.out Ji.out (S.out.alloc _) (λh=>h.alloc _) J F);clear F J);go_roundw
   case rel=>exact⟨k+1,L++[⟨A3,c3,l⟩],by omega,by go_num,H,hid (by rw[kxa,M.out,I.out];rfl),by simp;omega,Jc,Jb.out⟩
   case measure=>simp[intOf];omega
  have d2:decide ((t:Int)<=(k:Int))=true:=by rw[kqo];omega
  have d2n:decide (t<=k)=true:=by rw[kqo];omega
  have I:=hid (G.out (by omega));have g:Hid (Au ws t k=(x==0&&y==0)):=hid (by rw[d.out,if_neg u]);clear a d j G u;by_cases N:x=0
  .subst N;by_cases K:y=0
   .subst K;have H:=hid (r.out (by rw[g.out];rfl));clear m r g;go_wp2_with fail
    go_region_held3 (λX:World=>X.cell? ⟨b,f+p,none⟩=some (.int .u64 ((0:Nat):Int))/\X.cell? ⟨b,f+q,none⟩=some (.int .u64 ((0:Nat):Int))) (go_keep) (fail)
    go_wp2_with fail;have Jf:Hid (km wr.drew w.heap.size u7 L):=hid ⟨s.out.1,s.out.2⟩;go_roundw
    case rel=>exact⟨k+1,L,by omega,by go_num,H,hid (by rw[M.out,I.out]),by omega,Jf,O.out.drew⟩
    case measure=>simp[intOf];omega
   have H:=hid (m.out (by rw[g.out,show (y==0)=false by rw[kqi];exact K];rfl));have d3:((y:Int) != 0)=true:=by rw[kqt];omega
   have d3n:(y != 0)=true:=by rw[kqt];omega
   clear m r g K;go_wp2_with fail
   go_region_held3 (λX:World=>X.cell? ⟨b,f+p,none⟩=some (.int .u64 ((0:Nat):Int))/\X.cell? ⟨b,f+q,none⟩=some (.int .u64 (y:Int))) (go_keep) (fail)
   go_wp2;go_ret2;exact⟨pa H.out,O.out.drew⟩
  have H:=hid (m.out (by rw[g.out,show (x==0)=false by rw[kqi];exact N];rfl));have d3:((x:Int) != 0)=true:=by rw[kqt];omega
  have d3n:(x != 0)=true:=by rw[kqt];omega
  clear m r g N;go_wp2_with fail
  go_region_held3 (λX:World=>X.cell? ⟨b,f+p,none⟩=some (.int .u64 (x:Int))/\X.cell? ⟨b,f+q,none⟩=some (.int .u64 (y:Int))) (go_keep) (fail)
  go_wp2;go_ret2;exact⟨pa H.out,O.out.drew⟩
 obtain rfl:k=8:=by omega
 have HT:Hid (ga ws t=true):=hid ((fI ws t).2 T.out);obtain⟨BO,dO,rfl⟩:=aE s.out.1;go_wp2;go_ret2;exact⟨⟨BO,L.length,dO,L,by rw[HT.out];rfl,λ_=>⟨rfl,s.out,M.out⟩⟩,R⟩
def ib (ws:List Nat):Int:=if al (ws.length:Int)=true then (if xx ws=true then 0 else 50) else 8
def gJ (ws:List Nat):List Bk:=if ib ws=0 then (blocks ws 128).getD [] else []
def Ik (ws:List Nat) (e:Ending) (w':World):Prop:=∃A c,e=.returned (.tuple #[.slice A (gJ ws).length c,.int .i64 (ib ws)])/\RdB w' w'.heap.size A (gJ ws)/\(gJ ws).length<=c
def oB (H:Nat) (ws:List Nat) (e:Ending) (w':World):Prop:=∃A c,e=.returned (.tuple #[.slice A (gJ ws).length c,.int .i64 (ib ws)])/\w'.ownsRow H 55 6 (.slice A (gJ ws).length c) (gJ ws).length ((gJ ws).flatMap Bk.cells)
theorem qQ{r:Int}(h:ib ws=r)(h0:r≠0):oB H ws (.returned (.tuple #[.slice none 0 0,.int .i64 r])) w':=by
 have e:gJ ws=[]:=by unfold gJ;rw[if_neg (by rw[h];exact h0)]
 exact⟨none,0,by rw[e,h];rfl,by rw[e];exact kq3 _ _ _ _⟩
theorem sI(A:Option Addr)(ws:List Nat)(c n:Nat)(w:World)(hn:ws.length=n)(C:n<=9223372036854775807)(hr:RdW w w.heap.size A ws)(ho:∀x∈ws,x<18446744073709551616):
 Calls prog 26 #[.slice A n c] w λe w'=>oB w.heap.size ws e w'/\Below w.heap.size w w':=by
 subst hn;have B:=hid (yS A ws c ws.length 128 w rfl C hr ho);unfold uw at B;clear hr ho;by_cases d:bU ws 128=0
 .have g:al (ws.length:Int)=true:=by
   cases g:al (ws.length:Int) with
   | true=>rfl
   | false=>rw[eZ g] at d;cases d
  have V:=(ac _).1 g;have a:eP ws.length 128=false:=by
   cases hq:eP ws.length 128 with
   | false=>rfl
   | true=>rw[iW g hq] at d;cases d
  have Q:∃l,blocks ws 128=some l:=by
   cases q:blocks ws 128 with
   | none=>rw[dV g a (by simpa using q)] at d;cases d
   | some l=>exact⟨l,rfl⟩
  obtain⟨l,q⟩:=Q;have D:=(bq (by omega) _ _ q (by omega) (by omega) (by omega)).1;have p:aO ws 128=l:=by unfold aO;rw[if_pos d];simp[q]
  rw[d,p] at B;have E:Hid (ib ws=if js l=true then 0 else 50):=hid (by unfold ib;rw[if_pos g,fF q]);have S:Hid (js l=true->gJ ws=l/\ib ws=0):=hid λh=>by
   have e:ib ws=0:=by rw[E.out,h];rfl
   exact⟨by unfold gJ;rw[if_pos e,q];rfl,e⟩
  have hl24:l.length<=1024:=by omega
  have X:=hid (λk Y h=>qU (l:=l) (k:=k) Y h);have P:=hid (jQ l);clear d g V a q p D C;go_enter func26,ntmps26;go_wp2_with fail;refine B.out.mono ?_;rintro e w1 ⟨⟨A1,c1,rfl,o⟩,s⟩;have K:=hid (show RdB _ _ _ _ from Rd.of_own o);have L:=hid o;have F:=hid s;clear o s;go_wp2_with fail;go_loopw [17] (λi wr=>∃k:Nat,k<=l.length/\i=.int .i64 k/\wr=w1/\Hid (nM l k)) (λi _=>l.length-(intOf i).toNat)
  case atStart=>exact⟨0,kqy _,rfl,rfl,hid (og l)⟩
  obtain⟨k,Y,rfl,rfl,T⟩:=hrel;by_cases j:k<l.length
  .have t:=hid (λh=>lm T.out h);have U:=hid (X.out k j);by_cases J:k=0
   .subst J;have z:Hid (nM l (0+1)):=hid (t.out rfl);go_wp2;go_roundw
    case rel=>exact⟨0+1,by omega,by go_num,trivial,z⟩
    case measure=>simp[intOf];omega
   obtain⟨b,off,rfl,V,-,-,p2,-⟩:=RdB.at_ K.out j;obtain⟨b',off',e',-,-,-,r2,-⟩:=RdB.at_ K.out (show k-1<l.length by omega);cases e';have f:mL l k=((l[k-1].kind==2)&&(l[k].kind==2)):=by unfold mL;rw[bB l k j,bB l (k-1) (by omega),show (k==0)=false by rw[kqi];omega];rfl
   obtain⟨x,hx⟩:=xq (l[k].kind);obtain⟨y,hy⟩:=xq (l[k-1].kind);rw[hx] at p2 f;rw[hy] at r2 f;have i1:IntKind.i64.wrap ((k:Int)-1)=((k-1:Nat):Int):=by rw[kqr _ (by omega)];omega
   have hki:(k:Int)<(l.length:Int):=by omega
   have hk0':(0:Int)<=(k:Int):=by omega
   have M:((k-1:Nat):Int)<(l.length:Int):=by omega
   have G:(0:Int)<=((k-1:Nat):Int):=by omega
   have d0:decide ((0:Int)<(k:Int))=true:=by rw[kqo];omega
   have d0n:decide (0<k)=true:=by rw[kqo];omega
   obtain⟨m,C⟩:=xq (k-1);rw[C] at i1 M G r2;have R:=hid f;clear hx hy T C f J;by_cases v:x=2
   .subst v;by_cases u:y=2
    .subst u;have z:=hid (U.out (by rw[R.out];rfl));have HW:Hid (ib ws=50):=hid (by rw[E.out,z.out];rfl);go_wp2;go_ret2;exact⟨qQ HW.out (by decide),F.out⟩
    have N:(y==2)=false:=by rw[kqi];exact u
    have z:Hid (nM l (k+1)):=hid (t.out (by rw[R.out,N];rfl));clear u;go_wp2;go_roundw
    case rel=>exact⟨k+1,by omega,by go_num,trivial,z⟩
    case measure=>simp[intOf];omega
   have N:(x==2)=false:=by rw[kqi];exact v
   have z:Hid (nM l (k+1)):=hid (t.out (by rw[R.out,N,kj3]));clear v;go_wp2;go_roundw
   case rel=>exact⟨k+1,by omega,by go_num,trivial,z⟩
   case measure=>simp[intOf];omega
  have I:k=l.length:=by omega
  have hend:decide ((k:Int)<(l.length:Int))=false:=by rw[kqh];omega
  have hendn:decide (k<l.length)=false:=by rw[kqh];exact j
  have W:=hid (S.out (P.out.2 (I ▸ T.out)));clear I j Y;go_wp2;go_ret2;exact⟨⟨A1,c1,by rw[W.out.1,W.out.2];rfl,by rw[W.out.1];exact L.out⟩,F.out⟩
 have p:aO ws 128=[]:=by unfold aO;rw[if_neg d]
 have hw:ib ws=bU ws 128:=by
  unfold ib;cases g:al (ws.length:Int) with
  | false=>rw[eZ g];rfl
  | true =>
   have V:=(ac _).1 g;have a:eP ws.length 128=false:=by unfold eP;simp;omega
   cases q:blocks ws 128 with
   | none=>rw[mY q,dV g a (by simpa using q)];rfl
   | some l =>exfalso;apply d;simp[bU,g,a,q]
 have E:=hid hw;rw[p] at B;have O:(bU ws 128 != 0)=true:=by rw[kqt];exact d
 have Z:=hid d;obtain⟨r,H⟩:=xq (bU ws 128);rw[H] at B E O Z;clear d p hw H C;go_enter func26,ntmps26;go_wp2_with fail;refine B.out.mono ?_;rintro e w1 ⟨⟨A1,c1,rfl,-⟩,s⟩;go_wp2;go_ret2;exact⟨qQ E.out Z.out,s⟩
theorem oB.old{e:Ending}(h:oB H ws e w'):Ik ws e w':=by
 obtain⟨A,c,rfl,a⟩:=h;refine⟨A,c,rfl,Rd.of_own a,?_⟩;rcases a.2 with⟨b,h2⟩|⟨g,cap,cur,b,-,-,hle,-⟩
 .omega
 injection b with _ _ h3;omega
theorem wAll_c(A:Option Addr)(ws:List Nat)(c n:Nat)(w:World)(hn:ws.length=n)(hm:n<=9223372036854775807)(hr:RdW w w.heap.size A ws)(ho:∀x∈ws,x<18446744073709551616):
 Calls prog 26 #[.slice A n c] w λe w'=>Ik ws e w'/\Below w.heap.size w w':=(sI A ws c n w hn hm hr ho).mono λ_ _ h=>⟨h.1.old,h.2⟩
theorem ur(A:Option Addr)(ws:List Nat)(c n a:Nat)(w:World)(hn:ws.length=n)(ha:a+8<=n)(hm:n<=2048)(hc:n<=c)(hr:RdW w w.heap.size A ws):
 Calls prog 157 #[.slice A n c,.int .i64 (a:Int)] w λe w'=>e=.returned (.bool (eD ws a))/\w=w':=by
 subst hn;have y:=hid hr;have t:=hid (iN ws a);obtain⟨b,off,rfl,l,-⟩:=RdW.at_ hr (show 0<ws.length by omega);have k2:IntKind.i64.wrap ((a:Int)+8)=((a+8:Nat):Int):=by rw[kqr _ (by omega)];omega
 have k3:a+8<=c:=by omega
 have k4:a<=a+8:=by omega
 clear hr l;go_enter func157,ntmps157;go_wp2_with fail
 go_loop [13] (λi=>∃k:Nat,k<=8/\i=.int .i64 k/\Hid (o8 ws a k)) (λi=>8-(intOf i).toNat)
 case atStart=>exact⟨0,kqy _,rfl,hid λi h=>absurd h (by omega)⟩
 obtain⟨k,hk,rfl,s⟩:=hrel;by_cases f:k<8
 .obtain ⟨b',off',v,l,j⟩:=RdW.at_ y.out (show a+k<ws.length by omega);cases v;rw[<-ce] at j;have o:Hid (wd ws (a+k)=0->o8 ws a (k+1)):=hid λh i u=>by
   rcases kq9 i k with r|r
   .exact s.out i r
   have:i=k:=by omega
   subst this;exact h
  have p:Hid (wd ws (a+k)≠0->eD ws a=false):=hid λh=>by
   cases z:eD ws a with
   | false=>rfl
   | true=>exact absurd (t.out.1 z k f) h
  rw[<-kjz] at j;obtain⟨x,q⟩:=xq (wd ws (a+k));rw[q] at j o p;have hki:(k:Int)<8:=by omega
  have hk0:(0:Int)<=(k:Int):=by omega
  clear q l;by_cases d:x=0
  .have m:=hid (o.out d);subst d;go_wp2_with fail
   go_round
   case rel=>exact⟨k+1,by omega,by go_num,m⟩
   case measure=>simp[intOf];omega
  have g:=hid (p.out d);have e1:((x:Int) != 0)=true:=by rw[kqt];omega
  have e1n:(x != 0)=true:=by rw[kqt];exact d
  clear d;go_wp2;go_ret;exact⟨by rw[g.out];rfl,rfl⟩
 have g:Hid (eD ws a=true):=hid (t.out.2 λi u=>s.out i (by omega));obtain rfl:k=8:=by omega
 go_wp2;go_ret;exact⟨by rw[g.out];rfl,rfl⟩
open Go.RowKit Go.Maps
def gH (ad:List Int):Nat->DataW Unit
 | 0=>.map []
 | k+1=>(gH ad k).put (.int .i64 (ad[k]?.getD 0)) (.lit (.bool true))
theorem wc(ad:List Int)(k:Nat):IsMap (gH ad k):=by
 induction k with
 | zero=>exact isMap_empty
 | succ k ih=>exact ih.put _ _
theorem rj(ad:List Int)(x:Int)(k:Nat):(gH ad k).atKey (.int .i64 x) (.lit (.bool false))=.lit (.bool (fQ ad x k)):=by
 induction k with
 | zero=>rfl
 | succ k ih =>
  simp only[gH,fQ];by_cases e:ad[k]?.getD 0=x
  .rw[e,atKey_put_same (wc ad k) (by trivial)];simp
  rw[atKey_put_other (by intro h;injection h with _ h;exact e h.symm),ih];have:(ad[k]?.getD 0==x)=false:=by rw[kqi];exact e
  rw[this,kvp]
theorem kj{H:Type}(he:P.underlying e=some .bool){v:Value}{z:DataW H × List MemPlace}(h:plainElem P e v=some z):∃c,v=.bool c/\z=(.lit (.bool c),[]):=by
 unfold plainElem at h;rw[he] at h;cases v<;>simp at h
 exact⟨_,rfl,h.symm⟩
theorem nk{H:Type}{D:DataW H}(h:w.ownsMap P k (plainElem P e) b n D)(K:Keyed P k)(ht:P.underlying t=some (.map k e))(he:P.underlying e=some .bool)(hz:(zeroValue e).run P w=.ok (.bool false) w){key:Value}{kl:Lit}(hkey:keyOf P k key=some kl){c:Bool}(hc:D.atKey kl (.lit (.bool false))=.lit (.bool c)):(Instr.lookup t (.map (some b)) key false).run P w=.ok (.bool c) w:=by obtain⟨v,ps,f,g⟩:=h.lookup K ht hz (plainElem_bool he false) hkey;obtain⟨c',rfl,a⟩:=kj he g;simp only[Prod.mk.injEq] at a;rw[hc] at a;obtain⟨d,-⟩:=a;injection d with d;injection d with d;subst d;exact f
theorem rp:Keyed prog 3:=int_keyed underlying3
theorem vf(w:World):(zeroValue 4).run prog w=.ok (.bool false) w:=by kernel_rfl
theorem mR{h:Nat}{cs:Array Value}{R:Value->Option (DataW Unit × List MemPlace)}{D:DataW Unit}(hb:Bx w h t cs)(ho:w.ownsMap P k R b n D):some h≠some b:=by rintro e;injection e with e;subst e;obtain⟨es,clock,a,_⟩:=ho;rw[show w.heap[h]? = _ from hb] at a;cases a
theorem Bx.c5(h:Bx w g t #[x0,x1,x2,x3,x4]):w.cell? ⟨g,0,none⟩=some x0/\w.cell? ⟨g,1,none⟩=some x1/\w.cell? ⟨g,2,none⟩=some x2 /\
 w.cell? ⟨g,3,none⟩=some x3/\w.cell? ⟨g,4,none⟩=some x4/\(∀i,w.frozen? ⟨g,i,none⟩=false)/\g<w.heap.size:=
 ⟨h.cell 0,h.cell 1,h.cell 2,h.cell 3,h.cell 4,h.frozen,h.lt⟩
theorem DM(A TA SA OA:Option Addr)(c n tc tn sc sn oc on mb a z ty nx:Nat)(xk:Int)(mk:Bool)(w:World):
 Calls prog 95 #[.agg #[.slice A n c,.slice TA tn tc,.slice SA sn sc,.slice OA on oc,.map (some mb)],.agg #[.int .i64 (a:Int),.int .i64 (z:Int),.int .i64 xk,.int .i64 (ty:Int),.bool mk,.int .u64 (nx:Int)]] w λe w'=>e=.returned (.bool (!(mk||decide (0<nx))))/\Below w.heap.size w w':=by
 have xs:=(Bx.new w 163 #[.slice A n c,.slice TA tn tc,.slice SA sn sc,.slice OA on oc,.map (some mb)]).alloc (.cells #[.int .i64 (a:Int),.int .i64 (z:Int),.int .i64 xk,.int .i64 (ty:Int),.bool mk,.int .u64 (nx:Int)] 55);have b:=Bx.new (w.alloc (.cells #[.slice A n c,.slice TA tn tc,.slice SA sn sc,.slice OA on oc,.map (some mb)] 163)) 55 #[.int .i64 (a:Int),.int .i64 (z:Int),.int .i64 xk,.int .i64 (ty:Int),.bool mk,.int .u64 (nx:Int)];rw[kqn] at b;have XS:=hid xs;have XB:=hid b;have g:=hid (((kql w.heap.size w).alloc (kqg _) (.cells #[.slice A n c,.slice TA tn tc,.slice SA sn sc,.slice OA on oc,.map (some mb)] 163)).alloc (by simp) (.cells #[.int .i64 (a:Int),.int .i64 (z:Int),.int .i64 xk,.int .i64 (ty:Int),.bool mk,.int .u64 (nx:Int)] 55));clear xs b;have f:((nx:Int)==0) = !decide (0<nx):=by rw[kzr,kqx,kjf,kqh];omega
 obtain⟨q,d⟩:=xq (decide (0<nx));rw[d] at f |-;clear d;cases mk
 all_goals
  go_enter func95,ntmps95;go_wp2;go_ret;exact⟨rfl,g.out⟩
theorem An(A TA SA OA:Option Addr)(L:List Ty)(c n tc tn sc sn oc on mb a z ty nx:Nat)(xk:Int)(mk:Bool)(w:World)(ht:L.length=tn)(hk:∀x∈L,b8 x.l=0/\kSz x.l=aP x.l.length/\x.l.length<=8)(hL:RdL w w.heap.size TA L):
 Calls prog 96 #[.agg #[.slice A n c,.slice TA tn tc,.slice SA sn sc,.slice OA on oc,.map (some mb)],.agg #[.int .i64 (a:Int),.int .i64 (z:Int),.int .i64 xk,.int .i64 (ty:Int),.bool mk,.int .u64 (nx:Int)]] w λe w'=>e=.returned (.bool (decide (ty<L.length)&&aP (((L.map Ty.l)[ty]?).getD []).length==z))/\Below w.heap.size w w':=by
 have xs:=(Bx.new w 163 #[.slice A n c,.slice TA tn tc,.slice SA sn sc,.slice OA on oc,.map (some mb)]).alloc (.cells #[.int .i64 (a:Int),.int .i64 (z:Int),.int .i64 xk,.int .i64 (ty:Int),.bool mk,.int .u64 (nx:Int)] 55);have t:=Bx.new (w.alloc (.cells #[.slice A n c,.slice TA tn tc,.slice SA sn sc,.slice OA on oc,.map (some mb)] 163)) 55 #[.int .i64 (a:Int),.int .i64 (z:Int),.int .i64 xk,.int .i64 (ty:Int),.bool mk,.int .u64 (nx:Int)];rw[kqn] at t;have XS:=hid xs;have XB:=hid t;have p:=hid (((kql w.heap.size w).alloc (kqg _) (.cells #[.slice A n c,.slice TA tn tc,.slice SA sn sc,.slice OA on oc,.map (some mb)] 163)).alloc (by simp) (.cells #[.int .i64 (a:Int),.int .i64 (z:Int),.int .i64 xk,.int .i64 (ty:Int),.bool mk,.int .u64 (nx:Int)] 55));clear xs t;subst ht;have F:=hid (hL.up p.out (kqg _));have hz1:=p.out.size;clear hL;by_cases d:ty<L.length
 .obtain ⟨b,off,rfl,I,E⟩:=fE F.out.1 d;have g:=F.out.2 _ (kqm d);obtain⟨i,f,k⟩:=hk _ (kqm d);have j:Hid ((decide (ty<L.length)&&aP (((L.map Ty.l)[ty]?).getD []).length==z)=(aP L[ty].l.length==z)):=hid (by
   rw[decide_eq_true d,kzh,kqj d];rfl)
  obtain⟨x,y⟩:=xq (L[ty]);rw[y] at E i f k g j;obtain⟨v,H,m⟩:=x;dsimp only at E i f k g j;have s:=hid g;have u:=hid (λW B (h:RdY W B v m)=>rY v m H m.length B W rfl (by omega) h);rw[i,f] at u;have C:(((aP m.length:Nat):Int)==(z:Int))=(aP m.length==z):=by rw[kzr,kqx,kqx];omega
  obtain⟨o,D⟩:=xq (aP m.length);rw[D] at j u C;obtain⟨q,G⟩:=xq ((o==z));rw[G] at j C;have J:decide ((L.length:Int)<=(ty:Int))=false:=by rw[kqh];omega
  have r:decide (L.length<=ty)=false:=by rw[kqh];omega
  have j1:(ty:Int)<(L.length:Int):=by omega
  have j0:(0:Int)<=(ty:Int):=by omega
  clear y D G hk i f k g d I;go_enter func96,ntmps96;go_wp2_with fail;refine (u.out _ _ s.out).mono ?_;rintro e w1 ⟨rfl,rfl⟩;go_wp2;go_ret;exact⟨by rw[j.out];rfl,p.out⟩
 have j:Hid ((decide (ty<L.length)&&aP (((L.map Ty.l)[ty]?).getD []).length==z)=false):=hid (by rw[decide_eq_false d];rfl);have J:decide ((L.length:Int)<=(ty:Int))=true:=by rw[kqo];omega
 have r:decide (L.length<=ty)=true:=by rw[kqo];omega
 clear d hk;go_enter func96,ntmps96;go_wp2;go_ret;exact⟨by rw[j.out];rfl,p.out⟩
theorem uS{q:Nat}(h:q<18446744073709551616):bits BinOp.and .u64 (q:Int) 2047=((q%2048:Nat):Int):=by
 have:=u64_and_nat q 2047 h (by omega);rw[show (((2047:Nat)):Int)=2047 from rfl] at this;rw[this];have e:q &&& 2047=q%2048:=by rw[show (2047:Nat)=2 ^ 11-1 by decide,kjj]
 rw[e]
theorem Ae(v:Nat)(w:World)(hv:v<18446744073709551616):Calls prog 159 #[.int .u64 (v:Int)] w λe w'=>e=.returned (.bool (nE v))/\w=w':=by
 have j:Hid (nE v=(v==9221120237041090561||decide (v%9223372036854775808<=9218868437227405312))):=hid rfl;have b:Hid (v/4503599627370496%2048≠2047->nE v=true):=hid λh=>by rw[j.out,decide_eq_true (by omega),kvj]
 have d:Hid (v*4096%18446744073709551616=0->nE v=true):=hid λh=>by rw[j.out,decide_eq_true (by omega),kvj]
 have a:Hid (v/4503599627370496%2048=2047->¬ v*4096%18446744073709551616=0->nE v=(v==9221120237041090561)):=hid λh f=>by rw[j.out,decide_eq_false (by omega),kvp]
 have k:=uS (q:=v/4503599627370496) (by omega);have t:(v:Int)/4503599627370496=((v/4503599627370496:Nat):Int):=by omega
 have o:IntKind.u64.wrap ((v:Int)*4096)=((v*4096%18446744073709551616:Nat):Int):=by simp[IntKind.wrap,IntKind.bits,IntKind.signed]
 obtain⟨q,n⟩:=xq (v/4503599627370496);rw[n] at b a k t;obtain⟨r,l⟩:=xq (q%2048);rw[l] at b a k;obtain⟨m,g⟩:=xq (v*4096%18446744073709551616);rw[g] at d a o;have e3:((v:Int)==9221120237041090561)=(v==9221120237041090561):=by rw[kzr,kqx,kqx];omega
 clear n l g hv;by_cases c:r=2047
 .have p:((r:Int) != 2047)=false:=by rw[kqq];omega
  by_cases f:m=0
  .have i:=hid (d.out f);have s:((m:Int)==0)=true:=by rw[kqx];omega
   clear c f;go_enter func159,ntmps159;go_wp2;go_ret;exact⟨by rw[i.out];rfl,rfl⟩
  have i:=hid (a.out c f);have s:((m:Int)==0)=false:=by rw[kqi];omega
  clear c f;go_enter func159,ntmps159;go_wp2;go_ret;exact⟨by rw[i.out];rfl,rfl⟩
 have i:=hid (b.out c);have p:((r:Int) != 2047)=true:=by rw[kqt];omega
 clear c;go_enter func159,ntmps159;go_wp2;go_ret;exact⟨by rw[i.out];rfl,rfl⟩
theorem rB(O:List Bk)(v:Nat):∀k,k<=O.length->fQ (O.map Bk.at_) (v:Int) k=(O.take k).any λb=>b.at_==(v:Int):=by
 intro k
 induction k with
 | zero=>intro _;rfl
 | succ k ih =>intro a;simp only[fQ];rw[ih (by omega),kqp (show k<O.length from a),List.any_append,kzh,kqj (show k<O.length from a)];simp
theorem un(O:List Bk)(v:Nat):fQ (O.map Bk.at_) (v:Int) O.length=lU O v:=by rw[rB O v O.length (kqg _),kz2];rfl
structure SgW (W:World) (A TA:Option Addr) (ws:List Nat) (L:List Ty) (O:List Bk) (mb:Nat):Prop where
 w:RdW W W.heap.size A ws
 t:RdL W W.heap.size TA L
 m:W.ownsMap prog 3 (plainElem prog 4) mb O.length (gH (O.map Bk.at_) O.length)
theorem bV{R:Value->Option (DataW Unit × List MemPlace)}{D:DataW Unit}(h:w.ownsMap P k R b n D)(hb:w'.heap[b]? = w.heap[b]?):w'.ownsMap P k R b n D:=by obtain⟨d,a,c,r⟩:=h;exact⟨d,a,hb.trans c,r⟩
theorem vY(A TA SA OA:Option Addr)(ws:List Nat)(L:List Ty)(c n tc tn sc sn oc on mb a z ty nx:Nat)(xk:Int)(mk:Bool)(w:World)(hn:ws.length=n)(hm:n<=2048)(ht:L.length=tn)(hty:ty<L.length)(h8:L[ty].l.length<=8)(hz:z=aP L[ty].l.length)(haz:a+z<=n)(hR:RdW w w.heap.size A ws)(hL:RdL w w.heap.size TA L):
 Calls prog 97 #[.agg #[.slice A n c,.slice TA tn tc,.slice SA sn sc,.slice OA on oc,.map (some mb)],.agg #[.int .i64 (a:Int),.int .i64 (z:Int),.int .i64 xk,.int .i64 (ty:Int),.bool mk,.int .u64 (nx:Int)]] w λe w'=>e=.returned (.bool (!(decide (L[ty].l.length+2<z)&&wd ws (a+2+L[ty].l.length) != 0)))/\Below w.heap.size w w':=by
 have xs:=(Bx.new w 163 #[.slice A n c,.slice TA tn tc,.slice SA sn sc,.slice OA on oc,.map (some mb)]).alloc (.cells #[.int .i64 (a:Int),.int .i64 (z:Int),.int .i64 xk,.int .i64 (ty:Int),.bool mk,.int .u64 (nx:Int)] 55);have r:=Bx.new (w.alloc (.cells #[.slice A n c,.slice TA tn tc,.slice SA sn sc,.slice OA on oc,.map (some mb)] 163)) 55 #[.int .i64 (a:Int),.int .i64 (z:Int),.int .i64 xk,.int .i64 (ty:Int),.bool mk,.int .u64 (nx:Int)];rw[kqn] at r;have XS:=hid xs;have XB:=hid r;have h:=hid (((kql w.heap.size w).alloc (kqg _) (.cells #[.slice A n c,.slice TA tn tc,.slice SA sn sc,.slice OA on oc,.map (some mb)] 163)).alloc (by simp) (.cells #[.int .i64 (a:Int),.int .i64 (z:Int),.int .i64 xk,.int .i64 (ty:Int),.bool mk,.int .u64 (nx:Int)] 55));clear xs r;subst ht hn;have J:=hid (hL.up h.out (kqg _));have hz1:=h.out.size;obtain⟨b,off,rfl,B,s⟩:=fE J.out.1 hty;obtain⟨x,k⟩:=xq (L[ty]);rw[k] at s h8 hz |-;obtain⟨xA,xc,I⟩:=x;dsimp only at s h8 hz |-;have j1:(ty:Int)<(L.length:Int):=by omega
 have j0:(0:Int)<=(ty:Int):=by omega
 obtain⟨m,d⟩:=xq I.length;rw[d] at s h8 hz |-;by_cases i:m%2=0
 .have f:Hid ((!(decide (m+2<z)&&wd ws (a+2+m) != 0))=true):=hid (by rw[decide_eq_false (by rw[hz];unfold aP;omega)];rfl);have E:((m:Int)%2==0)=true:=by rw[kqx];omega
  clear i hz haz h8 hm k d hL hR B;go_enter func97,ntmps97;go_wp2;go_ret;exact⟨by rw[f.out];rfl,h.out⟩
 obtain⟨b2,off2,rfl,j,o⟩:=RdW.at_ (hR.up h.out (kqg _)) (show a+2+m<ws.length by rw[hz] at haz;unfold aP at haz;omega);rw[<-ce] at o;have H:IntKind.i64.wrap ((a:Int)+2)=((a+2:Nat):Int):=by rw[kqr _ (by omega)];omega
 have D:IntKind.i64.wrap (((a+2:Nat):Int)+(m:Int))=((a+2+m:Nat):Int):=by rw[kqr _ (by omega)];omega
 have F:((a+2+m:Nat):Int)<(ws.length:Int):=by rw[hz] at haz;unfold aP at haz;omega
 have K:(0:Int)<=((a+2+m:Nat):Int):=by omega
 have f:Hid ((!(decide (m+2<z)&&wd ws (a+2+m) != 0))=(wd ws (a+2+m)==0)):=hid (by rw[decide_eq_true (by rw[hz];unfold aP;omega),kzx];exact Bool.not_not _);have E:((m:Int)%2==0)=false:=by rw[kqi];omega
 obtain⟨p,t⟩:=xq (a+2+m);rw[t] at o D F K f;obtain⟨g,y⟩:=xq (a+2);rw[y] at H D;obtain⟨v,u⟩:=xq (wd ws p);rw[t,u];rw[u] at o f;have G:((v:Int)==0)=(v==0):=by rw[kzr,kqx,kqx];omega
 obtain⟨q,C⟩:=xq ((v==0));rw[C] at f G;clear i hz haz h8 hm k d hL hR B t y u C j;go_enter func97,ntmps97;go_wp2;go_ret;exact⟨by rw[f.out];rfl,h.out⟩
def Hq (ws F:List Nat) (O:List Bk) (a r k:Nat):Prop:=∀i,i<k->wrF ws F O a r i=false
theorem rr{k:Nat}(h:Hq ws F O a r k)(h1:wrF ws F O a r k=false):Hq ws F O a r (k+1):=λi hi=>by
 rcases kq9 i k with b|b
 .exact h i b
 .have:i=k:=by omega
  subst this;exact h1
theorem EU(h:Hq ws F O a r F.length):((List.range F.length).any λi=>wrF ws F O a r i)=false:=by rw[kx5];intro i b;rw[h i (kq8.1 b)];simp
theorem EV{k:Nat}(hk:k<F.length)(h:wrF ws F O a r k=true):((List.range F.length).any λi=>wrF ws F O a r i)=true:=kx1.2 ⟨k,kq8.2 hk,h⟩
theorem vO(A TA SA OA:Option Addr)(ws:List Nat)(L:List Ty)(O:List Bk)(c n tc tn sc sn oc on mb a z ty nx:Nat)(xk:Int)(mk:Bool)(w:World)(hn:ws.length=n)(hm:n<=2048)(ht:L.length=tn)(hty:ty<L.length)(h8:L[ty].l.length<=8)(hz:z=aP L[ty].l.length)(haz:a+z<=n)(hR:RdW w w.heap.size A ws)(hL:RdL w w.heap.size TA L)(ho:∀x∈ws,x<18446744073709551616):
 Calls prog 98 #[.agg #[.slice A n c,.slice TA tn tc,.slice SA sn sc,.slice OA on oc,.map (some mb)],.agg #[.int .i64 (a:Int),.int .i64 (z:Int),.int .i64 xk,.int .i64 (ty:Int),.bool mk,.int .u64 (nx:Int)]] w λe w'=>e=.returned (.bool (!((List.range L[ty].l.length).any λi=>wrF ws L[ty].l O a 10 i)))/\Below w.heap.size w w':=by
 have xs:=(Bx.new w 163 #[.slice A n c,.slice TA tn tc,.slice SA sn sc,.slice OA on oc,.map (some mb)]).alloc (.cells #[.int .i64 (a:Int),.int .i64 (z:Int),.int .i64 xk,.int .i64 (ty:Int),.bool mk,.int .u64 (nx:Int)] 55);have N:=Bx.new (w.alloc (.cells #[.slice A n c,.slice TA tn tc,.slice SA sn sc,.slice OA on oc,.map (some mb)] 163)) 55 #[.int .i64 (a:Int),.int .i64 (z:Int),.int .i64 xk,.int .i64 (ty:Int),.bool mk,.int .u64 (nx:Int)];rw[kqn] at N;have XS:=hid xs;have XB:=hid N;have B:=hid (((kql w.heap.size w).alloc (kqg _) (.cells #[.slice A n c,.slice TA tn tc,.slice SA sn sc,.slice OA on oc,.map (some mb)] 163)).alloc (by simp) (.cells #[.int .i64 (a:Int),.int .i64 (z:Int),.int .i64 xk,.int .i64 (ty:Int),.bool mk,.int .u64 (nx:Int)] 55));clear xs N;subst ht hn;have P:=hid (hL.up B.out (kqg _));have Y:=B.out.size;obtain⟨b,M,rfl,hb,S⟩:=fE P.out.1 hty;have I:=P.out.2 _ (kqm hty);obtain⟨x,hx⟩:=xq (L[ty]);rw[hx] at S h8 hz I |-;obtain⟨xA,xc,j⟩:=x;dsimp only at S h8 hz I |-;have HY:=hid I;have HR:=hid (hR.up B.out (kqg _));have j1:(ty:Int)<(L.length:Int):=by omega
 have j0:(0:Int)<=(ty:Int):=by omega
 have H:Hid (∀k,k<j.length->a+2+k<ws.length):=hid λk J=>by rw[hz] at haz;unfold aP at haz;omega
 have T:=hid (fd ho);have Z:Hid (Hq ws j O a 10 0):=hid λi h=>absurd h (by omega);have Q:=hid (λh=>EU (ws:=ws) (F:=j) (O:=O) (a:=a) (r:=10) h);have X:=hid (λk J h=>EV (ws:=ws) (F:=j) (O:=O) (a:=a) (r:=10) (k:=k) J h);have ha:a<=2048:=by omega
 obtain⟨q0,q1,q2,q3,q4,-,-⟩:=XS.out.c5;obtain⟨r0,r1,r2,r3,r4,r5,-,-⟩:=XB.out.c6;obtain⟨W0,u⟩:∃W0,(w.alloc (.cells #[.slice A ws.length c,.slice (some ⟨b,M,none⟩) L.length tc,.slice SA sn sc,.slice OA on oc,.map (some mb)] 163)).alloc (.cells #[.int .i64 (a:Int),.int .i64 (z:Int),.int .i64 xk,.int .i64 (ty:Int),.bool mk,.int .u64 (nx:Int)] 55)=W0:=⟨_,rfl⟩;rw[u] at S HY HR q0 q1 q2 q3 q4 r0 r1 r2 r3 r4 r5;have C:=hid (show Below w.heap.size w W0 by rw[<-u];exact B.out);clear hz haz hm hx hL hR hb I ho XS XB B P Y;go_enter func98,ntmps98;go_wp2_with fail;clear u
 go_loop [14] (λi=>∃k:Nat,k<=j.length/\i=.int .i64 k/\Hid (Hq ws j O a 10 k)) (λi=>j.length-(intOf i).toNat)
 case atStart=>exact⟨0,kqy _,rfl,Z⟩
 obtain⟨k,J,rfl,HW⟩:=hrel;by_cases m:k<j.length
 .obtain ⟨g,go,rfl,hg,y0⟩:=HY.out.at_ m;obtain⟨d,dof,rfl,hd,V⟩:=RdW.at_ HR.out (H.out k m);rw[<-ce] at V;have hj:=H.out k m;have E:=hid (λW=>Ae (wd ws (a+2+k)) W (T.out _));have o:wrF ws j O a 10 k=(j[k]? == some 2 && !nE (wd ws (a+2+k))):=rfl;rw[kqj m] at o;have HS:=hid (λh=>rr HW.out h);have U:=hid (λh=>X.out k m h);have i1:IntKind.i64.wrap ((a:Int)+2)=((a+2:Nat):Int):=by rw[kqr _ (by omega)];omega
  have i2:IntKind.i64.wrap (((a+2:Nat):Int)+(k:Int))=((a+2+k:Nat):Int):=by rw[kqr _ (by omega)];omega
  have k1:((a+2+k:Nat):Int)<(ws.length:Int):=by omega
  have k0:(0:Int)<=((a+2+k:Nat):Int):=by omega
  have hki:(k:Int)<(j.length:Int):=by omega
  have hk0:(0:Int)<=(k:Int):=by omega
  obtain⟨y,D⟩:=xq (j[k]);rw[D] at y0 o;obtain⟨p,hp⟩:=xq (a+2+k);rw[hp] at V i2 k1 k0 E o;obtain⟨s,hs⟩:=xq (a+2);rw[hs] at i1 i2;obtain⟨v,hv⟩:=xq (wd ws p);rw[hv] at V E o;obtain⟨f,hf⟩:=xq (nE v);rw[hf] at E o;have t:=hid o;clear D hp hs hv hf o hj;by_cases q:y=2
  .subst q;cases f
   .have R:=hid (U.out (by rw[t.out];rfl));go_wp2_with fail;refine (E.out _).mono ?_;rintro e w5 ⟨rfl,rfl⟩;go_wp2;go_ret;exact⟨by rw[R.out];rfl,C.out⟩
   have K:=hid (HS.out (by rw[t.out];rfl));go_wp2_with fail;refine (E.out _).mono ?_;rintro e w5 ⟨rfl,rfl⟩;go_wp2_with fail
   go_round
   case rel=>exact⟨k+1,by omega,by go_num,K⟩
   case measure=>simp[intOf];omega
  have e1:((y:Int)==2)=false:=by rw[kqi];omega
  have K:=hid (HS.out (by rw[t.out,show ((some y:Option Nat)==some 2)=false by simpa using q];rfl));clear q;go_wp2_with fail
  go_round
  case rel=>exact⟨k+1,by omega,by go_num,K⟩
  case measure=>simp[intOf];omega
 have G:k=j.length:=by omega
 have R:=hid (Q.out (G ▸ HW.out));have hend:decide ((k:Int)<(j.length:Int))=false:=by rw[kqh];omega
 have hendn:decide (k<j.length)=false:=by rw[kqh];exact m
 clear G m J;go_wp2;go_ret;exact⟨by rw[R.out];rfl,C.out⟩
theorem DY(A TA SA OA:Option Addr)(ws:List Nat)(L:List Ty)(O:List Bk)(c n tc tn sc sn oc on mb a z ty nx:Nat)(xk:Int)(mk:Bool)(w:World)(hn:ws.length=n)(hm:n<=2048)(ht:L.length=tn)(hty:ty<L.length)(h8:L[ty].l.length<=8)(hz:z=aP L[ty].l.length)(haz:a+z<=n)(hR:RdW w w.heap.size A ws)(hL:RdL w w.heap.size TA L)(ho:∀x∈ws,x<18446744073709551616)(hO:∀b∈O,b.at_<(n:Int))(hM:w.ownsMap prog 3 (plainElem prog 4) mb O.length (gH (O.map Bk.at_) O.length)):
 Calls prog 99 #[.agg #[.slice A n c,.slice TA tn tc,.slice SA sn sc,.slice OA on oc,.map (some mb)],.agg #[.int .i64 (a:Int),.int .i64 (z:Int),.int .i64 xk,.int .i64 (ty:Int),.bool mk,.int .u64 (nx:Int)]] w λe w'=>e=.returned (.bool (!((List.range L[ty].l.length).any λi=>wrF ws L[ty].l O a 11 i)))/\Below w.heap.size w w':=by
 have xs:=(Bx.new w 163 #[.slice A n c,.slice TA tn tc,.slice SA sn sc,.slice OA on oc,.map (some mb)]).alloc (.cells #[.int .i64 (a:Int),.int .i64 (z:Int),.int .i64 xk,.int .i64 (ty:Int),.bool mk,.int .u64 (nx:Int)] 55);have xb:=Bx.new (w.alloc (.cells #[.slice A n c,.slice TA tn tc,.slice SA sn sc,.slice OA on oc,.map (some mb)] 163)) 55 #[.int .i64 (a:Int),.int .i64 (z:Int),.int .i64 xk,.int .i64 (ty:Int),.bool mk,.int .u64 (nx:Int)];rw[kqn] at xb;have XS:=hid xs;have XB:=hid xb;have J:=hid (((kql w.heap.size w).alloc (kqg _) (.cells #[.slice A n c,.slice TA tn tc,.slice SA sn sc,.slice OA on oc,.map (some mb)] 163)).alloc (by simp) (.cells #[.int .i64 (a:Int),.int .i64 (z:Int),.int .i64 xk,.int .i64 (ty:Int),.bool mk,.int .u64 (nx:Int)] 55));clear xs xb;subst ht hn;have HL:=hid (hL.up J.out (kqg _));have Jd:=J.out.size;obtain⟨b,Z,rfl,hb,p0⟩:=fE HL.out.1 hty;have V:=HL.out.2 _ (kqm hty);obtain⟨x,hx⟩:=xq (L[ty]);rw[hx] at p0 h8 hz V |-;obtain⟨xA,xc,f⟩:=x;dsimp only at p0 h8 hz V |-;have HY:=hid V;have HR:=hid (hR.up J.out (kqg _));have j1:(ty:Int)<(L.length:Int):=by omega
 have j0:(0:Int)<=(ty:Int):=by omega
 have T:Hid (∀k,k<f.length->a+2+k<ws.length):=hid λk W=>by rw[hz] at haz;unfold aP at haz;omega
 have Jb:=hid (fd ho);have H:=hid hm;have U:=hid (bV hM (J.out.block mb hM.lt));have Je:Hid (∀v:Nat,ws.length<=v->lU O v=false):=hid λv hv=>by
  cases Y:lU O v with
  | false=>rfl
  | true =>obtain⟨b,hb,e⟩:=kx1.1 Y;rw[kqx] at e;have:=hO b hb;omega
 have Jf:Hid (Hq ws f O a 11 0):=hid λi h=>absurd h (by omega);have Eq:=hid (λh=>EU (ws:=ws) (F:=f) (O:=O) (a:=a) (r:=11) h);have Jc:=hid (λk W h=>EV (ws:=ws) (F:=f) (O:=O) (a:=a) (r:=11) (k:=k) W h);have ha:a<=2048:=by omega
 obtain⟨q0,q1,q2,q3,q4,-,-⟩:=XS.out.c5;obtain⟨r0,r1,r2,r3,r4,r5,-,-⟩:=XB.out.c6;obtain⟨X,I⟩:∃X,(w.alloc (.cells #[.slice A ws.length c,.slice (some ⟨b,Z,none⟩) L.length tc,.slice SA sn sc,.slice OA on oc,.map (some mb)] 163)).alloc (.cells #[.int .i64 (a:Int),.int .i64 (z:Int),.int .i64 xk,.int .i64 (ty:Int),.bool mk,.int .u64 (nx:Int)] 55)=X:=⟨_,rfl⟩;rw[I] at p0 HY HR U q0 q1 q2 q3 q4 r0 r1 r2 r3 r4 r5;have C:=hid (show Below w.heap.size w X by rw[<-I];exact J.out);clear hz haz hm hx hL hR hb V ho hO hM XS XB J HL Jd;go_enter func99,ntmps99;go_wp2_with fail;clear I
 go_loop [15] (λi=>∃k:Nat,k<=f.length/\i=.int .i64 k/\Hid (Hq ws f O a 11 k)) (λi=>f.length-(intOf i).toNat)
 case atStart=>exact⟨0,kqy _,rfl,Jf⟩
 obtain⟨k,W,rfl,HW⟩:=hrel;by_cases j:k<f.length
 .obtain ⟨g,go,rfl,hg,y0⟩:=HY.out.at_ j;obtain⟨d,dof,rfl,hd,w0⟩:=RdW.at_ HR.out (T.out k j);rw[<-ce] at w0;have hj:=T.out k j;have o:wrF ws f O a 11 k=(f[k]? == some 3&&(decide (0<wd ws (a+2+k)) && !lU O (wd ws (a+2+k)))):=rfl;rw[kqj j] at o;have m:=Jb.out (a+2+k);have HS:=hid (λh=>rr HW.out h);have S:=hid (λh=>Jc.out k j h);have i1:IntKind.i64.wrap ((a:Int)+2)=((a+2:Nat):Int):=by rw[kqr _ (by omega)];omega
  have i2:IntKind.i64.wrap (((a+2:Nat):Int)+(k:Int))=((a+2+k:Nat):Int):=by rw[kqr _ (by omega)];omega
  have k1:((a+2+k:Nat):Int)<(ws.length:Int):=by omega
  have k0:(0:Int)<=((a+2+k:Nat):Int):=by omega
  have hki:(k:Int)<(f.length:Int):=by omega
  have hk0:(0:Int)<=(k:Int):=by omega
  have w1:IntKind.u64.wrap (ws.length:Int)=(ws.length:Int):=kzs _ (by have:=H.out;omega);obtain⟨y,M⟩:=xq (f[k]);rw[M] at y0 o;obtain⟨p,hp⟩:=xq (a+2+k);rw[hp] at w0 i2 k1 k0 o m;obtain⟨s,hs⟩:=xq (a+2);rw[hs] at i1 i2;obtain⟨v,hv⟩:=xq (wd ws p);rw[hv] at w0 o m;have t:=hid o;have u:=hid (Je.out v);clear M hp hs hv o hj;by_cases G:y=3
  .subst G;by_cases E:v=0
   .subst E;have K:=hid (HS.out (by rw[t.out];rfl));clear m;go_wp2_with fail
    go_round
    case rel=>exact⟨k+1,by omega,by go_num,K⟩
    case measure=>simp[intOf];omega
   have e1:((v:Int) != 0)=true:=by rw[kqt];omega
   have e1n:(v != 0)=true:=by rw[kqt];omega
   by_cases D:ws.length<=v
   .have R:=hid (S.out (by rw[t.out,u.out D,decide_eq_true (by omega)];rfl));have d1:decide ((ws.length:Int)<=(v:Int))=true:=by rw[kqo];omega
    have d1n:decide (ws.length<=v)=true:=by rw[kqo];omega
    clear m D E;go_wp2;go_ret;exact⟨by rw[R.out];rfl,C.out⟩
   have d1:decide ((ws.length:Int)<=(v:Int))=false:=by rw[kqh];omega
   have d1n:decide (ws.length<=v)=false:=by rw[kqh];omega
   have w2:IntKind.i64.wrap (v:Int)=(v:Int):=kqr _ (by have:=H.out;omega);have N:(Lit.int .i64 (v:Int)).wf=true:=by have:=H.out;simp[Lit.wf,IntKind.min,IntKind.max,IntKind.signed,IntKind.bits];omega
   have Ja:=nk U.out rp underlying161 underlying4 (vf X) (keyOf_int_mk (P:=prog) underlying3 N) (c:=lU O v) (by rw[rj,un]);have B:Hid (wrF ws f O a 11 k = !lU O v):=hid (by rw[t.out,decide_eq_true (by omega)];simp);obtain⟨q,Y⟩:=xq (lU O v);rw[Y] at Ja B;clear m D E N Y u t;cases q
   .have R:=hid (S.out (by rw[B.out];rfl));go_wp2;go_ret;exact⟨by rw[R.out];rfl,C.out⟩
   have K:=hid (HS.out (by rw[B.out];rfl));go_wp2_with fail
   go_round
   case rel=>exact⟨k+1,by omega,by go_num,K⟩
   case measure=>simp[intOf];omega
  have e1:((y:Int)==3)=false:=by rw[kqi];omega
  have K:=hid (HS.out (by rw[t.out,show ((some y:Option Nat)==some 3)=false by simpa using G];rfl));clear G m;go_wp2_with fail
  go_round
  case rel=>exact⟨k+1,by omega,by go_num,K⟩
  case measure=>simp[intOf];omega
 have Q:k=f.length:=by omega
 have R:=hid (Eq.out (Q ▸ HW.out));have hend:decide ((k:Int)<(f.length:Int))=false:=by rw[kqh];omega
 have hendn:decide (k<f.length)=false:=by rw[kqh];exact j
 clear Q j W;go_wp2;go_ret;exact⟨by rw[R.out];rfl,C.out⟩
def ol (l:List Nat):Array Value:=(l.flatMap ai).toArray
theorem yh(l:List Nat):(ol l).size=l.length:=by unfold ol;rw[kjr,bE _ 1 aZ,kxn]
theorem DH(l:List Nat):(ol l).all (·.oneCell')=true:=by
 rw[Array.all_eq_true];intro i hi;have:(ol l)[i]∈l.flatMap ai:=by unfold ol at *;simp
 obtain⟨x,-,a⟩:=List.mem_flatMap.1 this;rw[ai,kq1] at a;rw[a];rfl
theorem qp:(prog.info? 242).map (·.size)=some 8:=by kernel_rfl
theorem EQ(w:World):(zeroValue 242).run prog w=.ok (.agg #[.int .u64 0,.int .u64 0,.int .u64 0,.int .u64 0,.int .u64 0,.int .u64 0,.int .u64 0,.int .u64 0]) w:=by kernel_rfl
theorem xz{fn:Func}{p:Tmp}(h:fn.results=#[.cell p 242])(tmps:Array Value){W:World}{cs:Array Value}(hb:Bx W g t cs)(hs:cs.size=8)(hp:tmps.getD p undef=.pointer (some ⟨g,0,none⟩)):
 (results fn tmps).run prog W=.ok (.agg cs) W:=by
 have a:tmps[p]?.getD undef=.pointer (some ⟨g,0,none⟩):=by simpa using hp
 have b:(prog.info? 242).map (·.size)=some cs.size:=by rw[hs];exact qp
 have c:=run_loadVar_row W g t 242 cs (0,0) _ hb underlying242 rfl b;simp[results,h,a,asAddr,c]
theorem vj(n t:Nat)(w:World)(hn:n<=1000000)(ht:t<=1000000):
 Calls prog 174 #[.agg #[.int .i64 (n:Int),.int .i64 (t:Int)]] w λe w'=>e=.returned (.agg (ol (spL n t)))/\Below w.heap.size w w':=by
 have G:=hid (λA W (I:RdW W W.heap.size A (sp7 n t))=>tp A (sp7 n t) 8 7 W rfl (by omega) I (λx J=>by
  simp only[sp7,kq0,kzu,or_false] at J;omega))
 obtain⟨q,C⟩:=xq (a8 14695981039346656037 (sp7 n t));have M:=hid (show ol (spL n t)=#[.int .u64 32777959566500194,.int .u64 1,.int .u64 (n:Int),.int .u64 (t:Int),.int .u64 0,.int .u64 0,.int .u64 0,.int .u64 (q:Int)] by
  unfold ol spL;rw[C];rfl)
 have B:Hid (∀W g,Bx W g 242 #[.int .u64 32777959566500194,.int .u64 1,.int .u64 (n:Int),.int .u64 (t:Int),.int .u64 0,.int .u64 0,.int .u64 0,.int .u64 0]->RdW W W.heap.size (some ⟨g,0,none⟩) (sp7 n t)):=hid λW g h=>(Rd.of_box h h.lt).take_ 7;rw[C] at G;have H:=hid (((kql w.heap.size w).alloc (kqg _) (.cells #[.int .i64 (n:Int),.int .i64 (t:Int)] 126)).alloc (by simp) (.cells #[.int .u64 0,.int .u64 0,.int .u64 0,.int .u64 0,.int .u64 0,.int .u64 0,.int .u64 0,.int .u64 0] 242));have w1:IntKind.u64.wrap (n:Int)=(n:Int):=kzs _ (by omega);have w2:IntKind.u64.wrap (t:Int)=(t:Int):=kzs _ (by omega);have hzv:=EQ;have bx:=Bx.new ((w.alloc (.cells #[.int .i64 (n:Int),.int .i64 (t:Int)] 126)).alloc (.cells #[.int .u64 0,.int .u64 0,.int .u64 0,.int .u64 0,.int .u64 0,.int .u64 0,.int .u64 0,.int .u64 0] 242)) 242 #[.int .u64 0,.int .u64 0,.int .u64 0,.int .u64 0,.int .u64 0,.int .u64 0,.int .u64 0,.int .u64 0];rw[kqn,kqn] at bx;have L:=hid bx;have D:=hid (((H.out.alloc (by simp;omega) (.cells #[.int .u64 0,.int .u64 0,.int .u64 0,.int .u64 0,.int .u64 0,.int .u64 0,.int .u64 0,.int .u64 0] 242))));have s:=Bx.new (w.alloc (.cells #[.int .i64 (n:Int),.int .i64 (t:Int)] 126)) 242 #[.int .u64 0,.int .u64 0,.int .u64 0,.int .u64 0,.int .u64 0,.int .u64 0,.int .u64 0,.int .u64 0]
 rw[kqn] at s;have F:=hid (s.alloc (.cells #[.int .u64 0,.int .u64 0,.int .u64 0,.int .u64 0,.int .u64 0,.int .u64 0,.int .u64 0,.int .u64 0] 242));have E:(prog.info? 242).map (·.size)=some (#[.int .u64 32777959566500194,.int .u64 1,.int .u64 (n:Int),.int .u64 (t:Int),.int .u64 0,.int .u64 0,.int .u64 0,.int .u64 0]:Array Value).size:=qp;clear C bx s;have hbd:∀W,(Instr.build 242 #[(0,.int .u64 32777959566500194),(1,.int .u64 1),(2,.int .u64 (n:Int)),(3,.int .u64 (t:Int))]).run prog W=.ok (.agg #[.int .u64 32777959566500194,.int .u64 1,.int .u64 (n:Int),.int .u64 (t:Int),.int .u64 0,.int .u64 0,.int .u64 0,.int .u64 0]) W:=λ_=>by kernel_rfl
 go_enter func174,ntmps174;go_wp2_with (first
  | ((with_reducible refine bt 242 (.tmp 3) _ ?_);refine am rfl _ _ _ rfl (w.heap.size+1+1) 242 #[.int .u64 0,.int .u64 0,.int .u64 0,.int .u64 0,.int .u64 0,.int .u64 0,.int .u64 0,.int .u64 0] #[.int .u64 32777959566500194,.int .u64 1,.int .u64 (n:Int),.int .u64 (t:Int),.int .u64 0,.int .u64 0,.int .u64 0,.int .u64 0] (by rfl) (by rfl) L.out (by rfl) E (by simp[Value.oneCell']) ?_;intro w3 k m;have c:=hid k;have d:=hid m;clear k m))
 refine (G.out _ _ (B.out _ _ c.out)).mono ?_;rintro e w4 ⟨rfl,a⟩;have b:=hid (d.out.below D.out (by omega));have u:=hid (b.out.trans (a.mono b.out.size));have f:=c.out.up a c.out.lt;have K:=hid ((d.out.bx F.out (by omega)).up a (d.out.bx F.out (by omega)).lt);have hl3:=f.lt;have hc7:=f.cell 7;have hf7:=f.frozen 7;have N:=hid (f.set_ 7 (.int .u64 (q:Int)));have y:=hid (K.out.far (p:=⟨w.heap.size+1+1,7,none⟩) (by simp) (.int .u64 (q:Int)));have z:=hid (u.out.setCell (p:=⟨w.heap.size+1+1,7,none⟩) (by simp;omega) (.int .u64 (q:Int)));have i:(prog.info? 242).map (·.size)=some (#[.int .u64 32777959566500194,.int .u64 1,.int .u64 (n:Int),.int .u64 (t:Int),.int .u64 0,.int .u64 0,.int .u64 0,.int .u64 (q:Int)]:Array Value).size:=qp;clear f a;go_wp2_with (first
  | ((with_reducible refine gX 242 (.tmp 3) ?_);refine kja rfl _ _ rfl (w.heap.size+1+1) (by rfl) 242 #[.int .u64 32777959566500194,.int .u64 1,.int .u64 (n:Int),.int .u64 (t:Int),.int .u64 0,.int .u64 0,.int .u64 0,.int .u64 (q:Int)] (0,0) _ N.out underlying242 (by rfl) i ?_)
  | ((with_reducible refine bt 242 (.tmp 2) _ ?_);refine am rfl _ _ _ rfl (w.heap.size+1) 242 #[.int .u64 0,.int .u64 0,.int .u64 0,.int .u64 0,.int .u64 0,.int .u64 0,.int .u64 0,.int .u64 0] #[.int .u64 32777959566500194,.int .u64 1,.int .u64 (n:Int),.int .u64 (t:Int),.int .u64 0,.int .u64 0,.int .u64 0,.int .u64 (q:Int)] (by rfl) (by rfl) y.out (by rfl) i (by simp[Value.oneCell']) ?_;intro w6 l j;have r:=hid l;have o:=hid j;clear l j))
 exact kqv (v:=.agg #[.int .u64 32777959566500194,.int .u64 1,.int .u64 (n:Int),.int .u64 (t:Int),.int .u64 0,.int .u64 0,.int .u64 0,.int .u64 (q:Int)]) (xz results174 _ r.out (by rfl) rfl) rfl ⟨by rw[M.out],o.out.below z.out (by omega)⟩
theorem GN(h:l.length=8):∃p0 p1 p2 p3 p4 p5 p6 p7,l=[p0,p1,p2,p3,p4,p5,p6,p7]:=by
 match l,h with
 | [p0,p1,p2,p3,p4,p5,p6,p7],_=>exact⟨p0,p1,p2,p3,p4,p5,p6,p7,rfl⟩
theorem DE{a b:List Nat}(ha:a.length=8)(hb:b.length=8)(W:World):(Op.equalIn 10000 242 (.agg (ol a)) (.agg (ol b))).run prog W=.ok (decide (a=b)) W:=by
 have G:=underlying242;have I:=underlying53;have D:List.range' 0 8=[0,1,2,3,4,5,6,7]:=rfl;have e1:=λ(x y:Int)=>run_equalIn_int W 9998 53 .u64 .u64 x y I;obtain⟨s,o,h,i,n,w,k,q,rfl⟩:=GN ha;obtain⟨p,m,j,r,A,l,B,z,rfl⟩:=GN hb;have F:decide ([s,o,h,i,n,w,k,q]=[p,m,j,r,A,l,B,z])=(s==p&&(o==m&&(h==j&&(i==r&&(n==A&&(w==l&&(k==B&&q==z))))))):=by rw[kzr,kqo];simp
 have H:∀u v,(Op.equalIn 10000 242 u v)=(Op.equalIn (9999+1) 242 u v):=λ_ _=>rfl;rw[H,F];unfold Op.equalIn ol;simp only[kzy,List.flatMap_nil,ai,kz0,kz5];simp[go_sem,run_underlying G,Sem.run_bind,D,List.forIn_cons];simp only[Int.ofNat_inj];by_cases c:s=p
 .by_cases d:o=m
  .by_cases e:h=j
   .by_cases f:i=r
    .by_cases g:n=A
     .by_cases t:w=l
      .by_cases C:k=B
       .by_cases E:q=z<;>simp[c,d,e,f,g,t,C,E,go_sem]
       simp[c,d,e,f,g,t,C,go_sem]
      simp[c,d,e,f,g,t,go_sem]
     simp[c,d,e,f,g,go_sem]
    simp[c,d,e,f,go_sem]
   simp[c,d,e,go_sem]
  simp[c,d,go_sem]
 simp[c,go_sem]
theorem Fc(p q a b:Int)(W:World):(Op.equalIn 10000 126 (.agg #[.int .i64 p,.int .i64 q]) (.agg #[.int .i64 a,.int .i64 b])).run prog W=.ok (p==a&&q==b) W:=by have g:=underlying126;have d:=underlying3;have f:∀u v,(Op.equalIn 10000 126 u v)=(Op.equalIn (9999+1) 126 u v):=λ_ _=>rfl;have e1:=λ(x y:Int)=>run_equalIn_int W 9998 3 .i64 .i64 x y d;rw[f];unfold Op.equalIn;simp[go_sem,run_underlying g,Sem.run_bind,List.forIn_cons];by_cases c:p=a<;>by_cases e:q=b<;>simp[c,e,go_sem]
theorem Bx.c8{x5 x6 x7:Value}(h:Bx w g t #[x0,x1,x2,x3,x4,x5,x6,x7]):w.cell? ⟨g,0,none⟩=some x0/\w.cell? ⟨g,1,none⟩=some x1/\w.cell? ⟨g,2,none⟩=some x2 /\
 w.cell? ⟨g,3,none⟩=some x3/\w.cell? ⟨g,4,none⟩=some x4/\w.cell? ⟨g,5,none⟩=some x5/\w.cell? ⟨g,6,none⟩=some x6/\w.cell? ⟨g,7,none⟩=some x7:=
 ⟨h.cell 0,h.cell 1,h.cell 2,h.cell 3,h.cell 4,h.cell 5,h.cell 6,h.cell 7⟩
theorem at_s2a{ops:Array Oper}{rest:List Oper}{a:Act}{Q:Exit->Act->World->Prop}{dst:Option Tmp}{type:TypeId}{pos:String}{after:Array Edge}{guard:Option (Nat × Bool)}(ty:TypeId)(x:Operand)(h:wpList P ops Q ({ dst:=dst,op:=.sliceToArrayPointer ty x,type:=type,pos:=pos,after:=after,guard:=guard }::rest) a w):wpList P ops Q ({ dst:=dst,op:=.sliceToArrayPointer ty x,type:=type,pos:=pos,after:=after,guard:=guard }::rest) a w:=h
theorem uG{k:Nat}(hk:k<l.length):(ol l)[k]? = some (.int .u64 (wd l k:Int)):=by unfold ol;have:=ig ai 1 aZ l k 0 hk (by omega);rw[kxn,kxd] at this;rw[List.getElem?_toArray,this,ce hk];rfl
theorem DC{B off:Nat}{cs:List Value}(h:Rd w B (some ⟨b,off,none⟩) cs):w.rangeAt b off cs:=λj v c=>by have a:=(kq7.1 c).1;obtain⟨b',off',e,-,d⟩:=h (by intro e;rw[e] at a;simp at a);cases e;rw[d j a,<-c,kqj a]
def spNo (x y i:Nat):Prop:=¬ (256<=x/\x<256+8*i/\x%8=0/\y<=8)
def spT (x n y t:Nat):Prop:=¬ (x=n/\y<t)
theorem Bg{x y i:Nat}(h:spNo x y i)(h2:¬ (x=256+8*i/\y<=8)):spNo x y (i+1):=λ⟨c,h4,b,a⟩=>by
 by_cases d:x<256+8*i
 .exact h ⟨c,d,b,a⟩
 .exact h2 ⟨by omega,a⟩
theorem rP(A:Option Addr)(l:List Nat)(c:Nat)(w:World)(q:l.length=8)(hr:RdW w w.heap.size A l):
 Calls prog 116 #[.slice A 8 c] w λe w'=>e=.returned (.tuple #[spV l,.int .i64 (jD l)])/\Below w.heap.size w w':=by
 obtain⟨p0,p1,x,y,p4,p5,p6,p7,F⟩:=GN q;obtain⟨b,O,rfl,hb,-⟩:=RdW.at_ hr (show 0<l.length by omega);have H:=hid (λh=>ac ((wd l 2:Nat):Int) |>.1 h);have E:=hid (λh=>ut (l:=l) h);have J:=hid (λh=>nz (l:=l) h);have N:=hid (λh=>mg (l:=l) h);have G:Hid (al ((wd l 2:Nat):Int)=true->wd l 3<=8->pV l=decide (spL (wd l 2) (wd l 3)=l)):=hid λh1 h2=>by
  unfold pV;rw[h1,decide_eq_true h2];rfl
 have Eq:=hid (show ∀W,Below w.heap.size w W->W.rangeAt b O (l.flatMap ai) from λW h=>DC (Rd.below hr h));have H8:=hid (show (ol l).size=8 by rw[yh,q]);have Z:=hid (show (l.flatMap ai).length=8 by rw[bE _ 1 aZ,q]);have H1:=hid (DH l);have g2:=uG (l:=l) (k:=2) (by omega);have g3:=uG (l:=l) (k:=3) (by omega);have x0:=Bx.new w 126 #[.int .i64 0,.int .i64 0];have X0:=hid x0;have hlt2:Hid (w.heap.size<=w.heap.size+1+1):=hid (by omega);have U:=hid ((((kql w.heap.size w).alloc (kqg _) (.cells #[.int .i64 0,.int .i64 0] 126)).alloc (by simp) (.cells #[.int .i64 0,.int .i64 0] 126)));have x1:=Bx.new (w.alloc (.cells #[.int .i64 0,.int .i64 0] 126)) 126 #[.int .i64 0,.int .i64 0];rw[kqn] at x1;have X1:=hid x1;have x2:=Bx.new ((w.alloc (.cells #[.int .i64 0,.int .i64 0] 126)).alloc (.cells #[.int .i64 0,.int .i64 0] 126)) 242 #[.int .u64 0,.int .u64 0,.int .u64 0,.int .u64 0,.int .u64 0,.int .u64 0,.int .u64 0,.int .u64 0];rw[kqn,kqn] at x2;have X2:=hid x2;have HL:=hid q;have hzv:=EQ;have hx:wd l 2=x:=by rw[F];rfl
 have hy:wd l 3=y:=by rw[F];rfl
 have HA:=hid (show ol l=#[.int .u64 (p0:Int),.int .u64 (p1:Int),.int .u64 (x:Int),.int .u64 (y:Int),.int .u64 (p4:Int),.int .u64 (p5:Int),.int .u64 (p6:Int),.int .u64 (p7:Int)] by rw[F];rfl);rw[hx] at H E N G g2;rw[hy] at E N G g3;have G2:=hid g2;have G3:=hid g3;have Q:Hid ((l.flatMap ai).toArray=ol l):=hid rfl;have Ja:(prog.info? 242).map (·.size)=some (l.flatMap ai).length:=by rw[Z.out];exact qp
 have Jp:(prog.info? 242).map (·.size)=some (ol l).size:=by rw[H8.out];exact qp
 have Jq:(ol l).size=(#[.int .u64 0,.int .u64 0,.int .u64 0,.int .u64 0,.int .u64 0,.int .u64 0,.int .u64 0,.int .u64 0]:Array Value).size:=H8.out;clear hx hy hr q x0 x1 x2 g2 g3 F;obtain⟨cs,Jh⟩:=xq (l.flatMap ai);rw[Jh] at Eq Z Q Ja;clear Jh;go_enter func116,ntmps116;go_wp2_with fail
 go_step3
 go_wp2_with (first
  | ((with_reducible refine at_s2a 242 _ ?_);refine qG rfl (.pointer (some ⟨b,O,none⟩)) (by unfold execOp;simp only[Sem.run_bind,Act.eval,go_sem];rfl) ?_)
  | ((with_reducible refine gX 242 (.tmp 13) ?_);refine wpList_load_mid rfl _ _ rfl b O (by rfl) cs _ (Eq.out _ U.out) underlying242 (by rfl) Ja ?_;rw[Q.out])
  | ((with_reducible refine bt 242 (.tmp 5) _ ?_);refine am rfl _ _ _ rfl (w.heap.size+1+1) 242 #[.int .u64 0,.int .u64 0,.int .u64 0,.int .u64 0,.int .u64 0,.int .u64 0,.int .u64 0,.int .u64 0] (ol l) (by rfl) (by rfl) X2.out Jq Jp H1.out ?_;intro a Ji Je;have j:=hid Ji;have I:=hid Je;clear Ji Je))
 go_step3
 have C:=hid (I.out.bx ((X0.out.alloc _).alloc _) (by omega));have f:=hid (I.out.bx (X1.out.alloc _) (by omega));have D:=hid (I.out.below (U.out.alloc (by simp;omega) _) (by omega));have c2:=(j.out.cell 2).trans G2.out;have c3:=(j.out.cell 3).trans G3.out;have hl3:=j.out.lt;clear Eq Z Q Ja X2 X0 X1 U I;go_wp2_with fail
 go_loop [6] (λv=>∃i:Nat,i<=225/\v=.int .i64 ((256+8*i:Nat):Int)/\Hid (spNo x y i)) (λv=>4000-(intOf v).toNat)
 case atStart=>exact⟨0,kqy _,rfl,hid λh=>by omega⟩
 obtain⟨i,hi,rfl,HN⟩:=hrel;obtain⟨n,q⟩:=xq (256+8*i);have o:=hid q;rw[q];by_cases Jj:i<225
 .have d1:decide ((n:Int)<=2048)=true:=by rw[kqo];omega
  have d1n:decide (n<=2048)=true:=by rw[kqo];omega
  have w1:IntKind.u64.wrap (n:Int)=(n:Int):=kzs _ (by omega);have w2x:IntKind.i64.wrap ((n:Int)+8)=((n+8:Nat):Int):=by rw[kqr _ (by omega)];omega
  have hn8:n<=2048:=by omega
  clear q;go_wp2_with fail
  go_loop [19] (λv=>∃t:Nat,t<=9/\v=.int .i64 (t:Int)/\Hid (spT x n y t)) (λv=>9-(intOf v).toNat)
  case atStart=>exact⟨0,kqy _,rfl,hid λh=>by omega⟩
  obtain⟨t,ht,rfl,HT⟩:=hrel;by_cases Jn:t<9
  .have w3x:IntKind.u64.wrap (t:Int)=(t:Int):=kzs _ (by omega);have ht9:(t:Int)<9:=by omega
   by_cases T:x=n
   .subst T;by_cases Jl:y=t
    .subst Jl;obtain⟨r0,r1,f0,f1,Jo⟩:=f.out.c2;have Jf:al (x:Int)=true:=(ac _).2 (by have:=o.out;omega);have R:=hid (G.out Jf (by omega));have HW:=hid (λW=>vj x y W (by omega) (by omega));have Jm:=λW=>Fc x y 0 0 W;rw[show ((x:Int)==0&&(y:Int)==0)=false by rw[show ((x:Int)==0)=false by rw[kqi];have:=o.out;omega];rfl] at Jm;have u:=λW=>DE (pe x y) HL.out W;rw[HA.out] at u;obtain⟨AL,Jk⟩:=xq (ol (spL x y));rw[Jk] at u HW;have HM:=hid u;have Y:=hid (show Bx a (w.heap.size+1+1) 242 #[.int .u64 (p0:Int),.int .u64 (p1:Int),.int .u64 (x:Int),.int .u64 (y:Int),.int .u64 (p4:Int),.int .u64 (p5:Int),.int .u64 (p6:Int),.int .u64 (p7:Int)] by rw[<-HA.out];exact j.out);clear Jf Jk u G E HT HN o ht Jn hi Jj;go_wp2_with fail;have x4:=((f.out.set_ 0 (.int .i64 (x:Int))).set_ 1 (.int .i64 (y:Int)));have r:=(Y.out.far (p:=⟨w.heap.size+1,0,none⟩) (by simp) (.int .i64 (x:Int))).far (p:=⟨w.heap.size+1,1,none⟩) (by simp) (.int .i64 (y:Int));have V:=hid ((C.out.far (p:=⟨w.heap.size+1,0,none⟩) (by simp) (.int .i64 (x:Int))).far (p:=⟨w.heap.size+1,1,none⟩) (by simp) (.int .i64 (y:Int)))
     have m:=hid ((D.out.setCell (p:=⟨w.heap.size+1,0,none⟩) (by simp) (.int .i64 (x:Int))).setCell (p:=⟨w.heap.size+1,1,none⟩) (by simp) (.int .i64 (y:Int)));obtain⟨W4,Jd⟩:∃W4,(a.setCell ⟨w.heap.size+1,0,none⟩ (.int .i64 (x:Int))).setCell ⟨w.heap.size+1,1,none⟩ (.int .i64 (y:Int))=W4:=⟨_,rfl⟩;rw[Jd] at x4 r V m |-;obtain⟨q0,q1,-⟩:=x4.c2;obtain⟨e0,e1,e2,e3,e4,e5,e6,e7⟩:=r.c8;have XL4:=hid r;have X4:=hid x4;clear Jd C f j Y D c2 c3 r0 r1 f0 f1 Jo x4 r;have hm:∀W,(Op.equalIn 10000 242 (.agg AL) (.agg #[.int .u64 (p0:Int),.int .u64 (p1:Int),.int .u64 (x:Int),.int .u64 (y:Int),.int .u64 (p4:Int),.int .u64 (p5:Int),.int .u64 (p6:Int),.int .u64 (p7:Int)])).run prog W=.ok (decide (spL x y=l)) W:=HM.out;obtain⟨dq,Jb⟩:=xq (decide (spL x y=l));rw[Jb] at hm R;clear Jb;cases dq
     all_goals
      go_region_held3 (λX:World=>X.cell? ⟨w.heap.size+1,0,none⟩=some (.int .i64 (x:Int))/\X.cell? ⟨w.heap.size+1,1,none⟩=some (.int .i64 (y:Int))/\X.cell? ⟨w.heap.size+1+1,0,none⟩=some (.int .u64 (p0:Int))/\X.cell? ⟨w.heap.size+1+1,1,none⟩=some (.int .u64 (p1:Int))/\X.cell? ⟨w.heap.size+1+1,2,none⟩=some (.int .u64 (x:Int))/\X.cell? ⟨w.heap.size+1+1,3,none⟩=some (.int .u64 (y:Int))/\X.cell? ⟨w.heap.size+1+1,4,none⟩=some (.int .u64 (p4:Int))/\X.cell? ⟨w.heap.size+1+1,5,none⟩=some (.int .u64 (p5:Int))/\X.cell? ⟨w.heap.size+1+1,6,none⟩=some (.int .u64 (p6:Int))/\X.cell? ⟨w.heap.size+1+1,7,none⟩=some (.int .u64 (p7:Int))) (go_keep)
       (first | (go_at_call 174;refine (HW.out _).mono ?_;rintro e w5 ⟨rfl,z⟩;have x45:=(show Bx W4.drew _ _ _ from X4.out).up z X4.out.lt;have L:=(show Bx W4.drew _ _ _ from XL4.out).up z XL4.out.lt;obtain⟨k0,k1,-⟩:=x45.c2;obtain⟨m0,m1,m2,m3,m4,m5,m6,m7⟩:=L.c8;have s:=hid ((show Bx W4.drew _ _ _ from V.out).up z V.out.lt);have Jg:=hid (m.out.drew.trans (z.mono m.out.size));clear x45 L))
      clear q0 q1 e0 e1 e2 e3 e4 e5 e6 e7 m0 m1 m2 m3 m4 m5 m6 m7;have hg5:=s.out.lt;obtain⟨v0,v1,f0,f1,-⟩:=s.out.c2;go_wp2_with fail;rw[Exit.noGoto_ret]
     .have M:=hid (J.out R.out);exact kqv (v:=.tuple #[.agg #[.int .i64 0,.int .i64 0],.int .i64 50]) (cc results116 _ ((s.out.set_ 0 _).set_ 1 _) rfl rfl) rfl ⟨by rw[M.out.1,M.out.2],(Jg.out.setCell (by simp) _).setCell (by simp) _⟩
     have M:=hid (N.out R.out);exact kqv (v:=.tuple #[.agg #[.int .i64 (x:Int),.int .i64 (y:Int)],.int .i64 0]) (cc results116 _ ((s.out.set_ 0 _).set_ 1 _) rfl rfl) rfl ⟨by rw[M.out.1,M.out.2],(Jg.out.setCell (by simp) _).setCell (by simp) _⟩
    have e1:((t:Int)==(y:Int))=false:=by rw[kqi];omega
    have e1n:(t==y)=false:=by rw[kqi];omega
    have P:Hid (spT x x y (t+1)):=hid λh=>HT.out ⟨rfl,by omega⟩;clear Jl;go_wp2_with fail
    go_round
    case rel=>exact⟨t+1,by omega,by go_num,P⟩
    case measure=>simp[intOf];omega
   have e1:((n:Int)==(x:Int))=false:=by rw[kqi];omega
   have e1n:(n==x)=false:=by rw[kqi];omega
   have P:Hid (spT x n y (t+1)):=hid λh=>T h.1;clear T;go_wp2_with fail
   go_round
   case rel=>exact⟨t+1,by omega,by go_num,P⟩
   case measure=>simp[intOf];omega
  obtain rfl:t=9:=by omega
  have J:Hid (spNo x y (i+1)):=hid (Bg HN.out λh=>HT.out ⟨by have:=o.out;omega,by omega⟩);go_wp2_with fail
  go_round
  case rel=>exact⟨i+1,by omega,by have:=o.out;go_num,J⟩
  case measure=>simp[intOf];omega
 obtain rfl:i=225:=by omega
 have d1:decide ((n:Int)<=2048)=false:=by rw[kqh];omega
 have d1n:decide (n<=2048)=false:=by rw[kqh];omega
 clear q Jj;have M:=hid (J.out (E.out λh=>HN.out ⟨by have:=H.out h.1;omega,by have:=H.out h.1;omega,by have:=H.out h.1;omega,h.2⟩));have Y:=hid (show Bx a (w.heap.size+1+1) 242 #[.int .u64 (p0:Int),.int .u64 (p1:Int),.int .u64 (x:Int),.int .u64 (y:Int),.int .u64 (p4:Int),.int .u64 (p5:Int),.int .u64 (p6:Int),.int .u64 (p7:Int)] by rw[<-HA.out];exact j.out);have Jm:=λW=>Fc 0 0 0 0 W;obtain⟨q0,q1,-⟩:=f.out.c2;clear c2 c3;go_wp2_with fail;have ct0:∀g:SW (λX:World=>Below a.heap.size a X),g.w.cell? ⟨w.heap.size+1,0,none⟩=some (.int .i64 0):=λg=>(g.ok.cell (p:=⟨w.heap.size+1,0,none⟩) f.out.lt).trans q0;have ct1:∀g:SW (λX:World=>Below a.heap.size a X),g.w.cell? ⟨w.heap.size+1,1,none⟩=some (.int .i64 0):=λg=>(g.ok.cell (p:=⟨w.heap.size+1,1,none⟩) f.out.lt).trans q1
 refine nw (S:=λX:World=>Below a.heap.size a X) ((0,0,0)::(0,1,0)::(0,2,0)::(0,3,0)::(0,4,0)::(0,6,0)::(1,5,0)::(0,7,0)::(0,8,0)::[]) (.one _ true (none)::.one _ true (none)::.one _ true (none)::.one _ true (none)::.one _ true (some (some 41,false))::.one _ true (some (some 41,false))::.one _ false (some (some 41,false))::.one _ true (some (some 41,false))::.one _ true (none)::[]) (by kernel_rfl) (by kernel_rfl) (by decide) (by kernel_rfl) (by rfl) (λ_ _ d _ _ h=>by cases d<;>exact h) (kql _ _).drew ?_;have B:=hid ((kql a.heap.size a).drew);obtain⟨X0,Jc⟩:=xq a.drew;rw[Jc] at B |-;clear Jc;have hne:Nonempty (SW (λX:World=>Below a.heap.size a X)):=⟨⟨X0,B.out⟩⟩
 iterate 6 (first | (refine dP (by rfl) ?_;(try simp only[Act.put,kqa,kqf,kqd])) | (refine ic (by rfl) ?_;intro K hK;go_big_quiet_op;go_big_quiet_on))
 (refine dP (by rfl) ?_;(try simp only[Act.put,kqa,kqf,kqd]))
 iterate 2 (first | (refine dP (by rfl) ?_;(try simp only[Act.put,kqa,kqf,kqd])) | (refine ic (by rfl) ?_;intro K hK;go_big_quiet_op;go_big_quiet_on))
 refine Af ?_;have X06:=hid (C.out.up B.out C.out.lt);have m:=hid (D.out.trans (B.out.mono D.out.size));have hg6:=X06.out.lt;obtain⟨v0,v1,f0,f1,-⟩:=X06.out.c2;clear q0 q1;go_wp2_with fail;rw[Exit.noGoto_ret];exact kqv (v:=.tuple #[.agg #[.int .i64 0,.int .i64 0],.int .i64 50]) (cc results116 _ ((X06.out.set_ 0 _).set_ 1 _) rfl rfl) rfl ⟨by rw[M.out.1,M.out.2],(m.out.setCell (by simp) _).setCell (by simp) _⟩
theorem Bx.c4(h:Bx w g t #[x0,x1,x2,x3]):w.cell? ⟨g,0,none⟩=some x0/\w.cell? ⟨g,1,none⟩=some x1/\w.cell? ⟨g,2,none⟩=some x2/\w.cell? ⟨g,3,none⟩=some x3 /\
 w.frozen? ⟨g,0,none⟩=false/\w.frozen? ⟨g,1,none⟩=false/\w.frozen? ⟨g,2,none⟩=false/\w.frozen? ⟨g,3,none⟩=false/\g<w.heap.size:=
 ⟨h.cell 0,h.cell 1,h.cell 2,h.cell 3,h.frozen 0,h.frozen 1,h.frozen 2,h.frozen 3,h.lt⟩
theorem xM(w:World):Calls prog 115 #[] w λe w'=>e=.returned (.agg #[.int .i64 0,.int .i64 8])/\Below w.heap.size w w':=by
 have hb:∀W,(Instr.build 179 #[(0,.int .i64 0),(1,.int .i64 8)]).run prog W=.ok (.agg #[.int .i64 0,.int .i64 8]) W:=λ_=>by kernel_rfl
 have b:=Bx.new w 179 #[.int .i64 0,.int .i64 0];obtain⟨q0,q1,f0,f1,hg⟩:=b.c2;go_enter func115,ntmps115;go_wp2_with fail;have a:=Bx.new w 179 #[.int .i64 0,.int .i64 8];obtain⟨p0,p1,-⟩:=a.c2;exact kqv (v:=.agg #[.int .i64 0,.int .i64 8]) (by simp[results,results115,go_sem]) rfl ⟨rfl,(kql w.heap.size w).alloc (kqg _) _⟩
theorem EZ(l:List Nat):∃a b:Int,spV l=.agg #[.int .i64 a,.int .i64 b]/\(jD l=0->a=((wd l 2:Nat):Int)/\b=((wd l 3:Nat):Int)):=by
 cases h:pV l with
 | true=>exact⟨_,_,(mg h).1,λ_=>⟨rfl,rfl⟩⟩
 | false=>exact⟨0,0,(nz h).1,λc=>by rw[(nz h).2] at c;cases c⟩
theorem zO :jD l=0↔pV l=true:=by unfold jD;split<;>simp_all
theorem cp_is(ws:List Nat)(a:Nat){x y:Int}(hv:jD (sp8 ws a)=0->x=((wd (sp8 ws a) 2:Nat):Int)/\y=((wd (sp8 ws a) 3:Nat):Int)):(jL ws a=if jD (sp8 ws a)=0 then (x==(ws.length:Int)) else false)/\(jL ws a=true->y=((wd ws (a+3):Nat):Int)):=by
 have d:wd (sp8 ws a) 2=wd ws (a+2):=kx (by omega);have e:wd (sp8 ws a) 3=wd ws (a+3):=kx (by omega);rw[d,e] at hv;have b:jL ws a=if jD (sp8 ws a)=0 then (x==(ws.length:Int)) else false:=by
  unfold jL;by_cases h:jD (sp8 ws a)=0
  .rw[if_pos h,zO.1 h,kzx,(hv h).1,kzr,kqx,kqx];omega
  rw[if_neg h,show pV (sp8 ws a)=false by
   cases c:pV (sp8 ws a) with
   | false=>rfl
   | true=>exact absurd (zO.2 c) h]
  rfl
 refine⟨b,λh=>?_⟩;rw[b] at h;split at h
 .rename_i h2;exact (hv h2).2
 cases h
theorem tZ(A:Option Addr)(ws:List Nat)(c n:Nat)(w:World)(hn:ws.length=n)(hm:n<=9223372036854775807)(hc:n<=c)(hr:RdW w w.heap.size A ws):
 Calls prog 68 #[.slice A n c] w λe w'=>vW ws e/\Below w.heap.size w w':=by
 subst hn;have HR:=hid hr;have Jc:=hid (λW=>aF A ws.length c W hm);have M:=hid (((kql w.heap.size w).alloc (kqg _) (.cells #[.int .i64 0,.int .i64 0] 126)).alloc (by simp) (.cells #[.bool false,.bool false] 127));have x0:=(Bx.new w 126 #[.int .i64 0,.int .i64 0]).alloc (.cells #[.bool false,.bool false] 127);have x1:=Bx.new (w.alloc (.cells #[.int .i64 0,.int .i64 0] 126)) 127 #[.bool false,.bool false];rw[kqn] at x1;have X0:=hid x0;have X1:=hid x1;clear x0 x1 hr;cases hs:al (ws.length:Int)
 .have HV:=hid (sx hs);rw[bA hs] at Jc;clear hs hm hc;go_enter func68,ntmps68;go_wp2_with fail;refine (Jc.out _).mono ?_;rintro e w1 ⟨rfl,rfl⟩;obtain⟨a,T⟩:=xq ((w.alloc (.cells #[.int .i64 0,.int .i64 0] 126)).alloc (.cells #[.bool false,.bool false] 127));rw[T] at X0 X1 M |-;clear T;obtain⟨v0,v1,f0,f1,hg0⟩:=X0.out.c2;obtain⟨v2,v3,f2,f3,Jt⟩:=X1.out.c2;go_wp2_with fail;exact kqv (v:=.tuple #[.agg #[.int .i64 0,.int .i64 0],.agg #[.bool false,.bool false],.int .i64 8]) (co results68 _ ((((X0.out.set_ 0 _).set_ 1 _).far (by simp) _).far (by simp) _) ((((X1.out.far (by simp) _).far (by simp) _).set_ 0 _).set_ 1 _) rfl rfl rfl) rfl ⟨⟨0,false,false,by rw[HV.out.1,HV.out.2];rfl⟩,(((M.out.setCell (by simp) _).setCell (by simp) _).setCell (by simp) _).setCell (by simp) _⟩
 have hb:=(ac _).1 hs;rw[aW hs] at Jc;obtain⟨b,off,rfl,Js,-⟩:=RdW.at_ HR.out (show 0<ws.length by omega);obtain⟨l,o,Jk,Jn⟩:=EZ (sp8 ws 0);obtain⟨m,q,Jj,Jl⟩:=EZ (sp8 ws 8);have V:=hid (cp_is ws 0 Jn);have Y:=hid (cp_is ws 8 Jl);have U:=hid (λW (hr:RdW W W.heap.size (some ⟨b,off,none⟩) ws)=>rP (some ⟨b,off,none⟩) (sp8 ws 0) c W (kY (by omega)) (by
  have:=zC hr 0
  simpa [Addr.add] using this))
 have R:=hid (λW (hr:RdW W W.heap.size (some ⟨b,off,none⟩) ws)=>rP (some ⟨b,off+8,none⟩) (sp8 ws 8) (c-8) W (kY (by omega)) (by
  have:=zC hr 8
  simpa [Addr.add] using this))
 rw[Jk] at U;rw[Jj] at R;have HV:Hid (tyN ws=(if jL ws 0=true then some (wd ws 3) else if jL ws 8=true then some (wd ws 11) else none)/\ir ws=if (tyN ws).isSome=true then 0 else 50):=hid ⟨rfl,by unfold ir;rw[if_pos hs]⟩;have k3:8<=c:=by omega
 have k4:16<=c:=by omega
 obtain⟨e0,Jo⟩:=xq (jD (sp8 ws 0));obtain⟨e1,Jq⟩:=xq (jD (sp8 ws 8));rw[Jo] at U V;rw[Jq] at R Y;clear hs hb Jk Jj Jn Jl Jo Jq Js hm hc;go_enter func68,ntmps68;go_wp2_with fail;refine (Jc.out _).mono ?_;rintro e w1 ⟨rfl,rfl⟩;obtain⟨a,T⟩:=xq ((w.alloc (.cells #[.int .i64 0,.int .i64 0] 126)).alloc (.cells #[.bool false,.bool false] 127));rw[T] at X0 X1 M |-;clear T;go_wp2_with fail;refine (xM _).mono ?_;rintro e wS ⟨rfl,N⟩;have x6:=(Bx.new a 178 #[.int .i64 0,.int .i64 0,.int .i64 0,.int .i64 0]).alloc (.cells #[.bool false,.bool false] 127);have x7:=Bx.new (a.alloc (.cells #[.int .i64 0,.int .i64 0,.int .i64 0,.int .i64 0] 178)) 127 #[.bool false,.bool false];rw[kqn] at x7;have C:=hid (x6.up N x6.lt);have B:=hid (x7.up N x7.lt);have X0S:=hid (((X0.out.alloc (.cells #[.int .i64 0,.int .i64 0,.int .i64 0,.int .i64 0] 178)).alloc (.cells #[.bool false,.bool false] 127)).up N ((X0.out.alloc (.cells #[.int .i64 0,.int .i64 0,.int .i64 0,.int .i64 0] 178)).alloc (.cells #[.bool false,.bool false] 127)).lt);have X1S:=hid (((X1.out.alloc (.cells #[.int .i64 0,.int .i64 0,.int .i64 0,.int .i64 0] 178)).alloc (.cells #[.bool false,.bool false] 127)).up N ((X1.out.alloc (.cells #[.int .i64 0,.int .i64 0,.int .i64 0,.int .i64 0] 178)).alloc (.cells #[.bool false,.bool false] 127)).lt)
 have s:=M.out.size;have Jt:=X1.out.lt;have Jr:=hid (((M.out.alloc s (.cells #[.int .i64 0,.int .i64 0,.int .i64 0,.int .i64 0] 178)).alloc (by simp;omega) (.cells #[.bool false,.bool false] 127)).trans (N.mono (by simp;omega)));obtain⟨P,Jp⟩:=xq (jL ws 0);obtain⟨z,Jm⟩:=xq (jL ws 8);rw[Jp] at V HV;rw[Jm] at Y HV;clear Jp Jm x6 x7 N X0 X1 M;go_wp2_with fail;have ix0:∀w,(Instr.index 179 (.agg #[.int .i64 0,.int .i64 8]) (.int .i64 0)).run prog w=.ok (.int .i64 0) w:=λ_=>by kernel_rfl
 have ix1:∀w,(Instr.index 179 (.agg #[.int .i64 0,.int .i64 8]) (.int .i64 1)).run prog w=.ok (.int .i64 8) w:=λ_=>by kernel_rfl
 go_loopw [20] (λi wr=>∃k:Nat,k<=2/\i=.int .i64 k/\Hid (Bx wr w.heap.size 126 #[.int .i64 0,.int .i64 0])/\Hid (Bx wr (w.heap.size+1) 127 #[.bool false,.bool false])/\Hid (k=0->Bx wr a.heap.size 178 #[.int .i64 0,.int .i64 0,.int .i64 0,.int .i64 0]/\Bx wr (a.heap.size+1) 127 #[.bool false,.bool false])/\Hid (k=1->Bx wr a.heap.size 178 #[.int .i64 l,.int .i64 o,.int .i64 0,.int .i64 0]/\Bx wr (a.heap.size+1) 127 #[.bool P,.bool false])/\Hid (k=2->Bx wr a.heap.size 178 #[.int .i64 l,.int .i64 o,.int .i64 m,.int .i64 q]/\Bx wr (a.heap.size+1) 127 #[.bool P,.bool z])/\Hid (Below w.heap.size w wr)) (λi _=>2-(intOf i).toNat)
 case atStart=>exact⟨0,kqy _,rfl,X0S,X1S,hid λ_=>⟨C.out,B.out⟩,hid λh=>by omega,hid λh=>by omega,Jr⟩
 obtain⟨k,hk,rfl,O,L,T0,T1,T2,Q⟩:=hrel;by_cases h0:k=0
 .subst h0;have C:=hid (T0.out rfl).1;have B:=hid (T0.out rfl).2;clear T0 T1 T2;have hz:=Q.out.size;have Z:=hid (U.out wr (HR.out.up Q.out hz));by_cases he:e0=0
  .have hq:(l==(ws.length:Int))=P:=by have:=V.out.1;rw[if_pos he] at this;exact this.symm
   have HQ:=hid hq;subst he;go_wp2_with fail;refine Z.out.mono ?_;rintro e r ⟨rfl,d⟩;have H:=d.size;have y:=hid ((O.out.up d O.out.lt).alloc (.cells #[.int .i64 l,.int .i64 o] 126));have t:=hid ((L.out.up d L.out.lt).alloc (.cells #[.int .i64 l,.int .i64 o] 126));have f:=((C.out.up d C.out.lt).alloc (.cells #[.int .i64 l,.int .i64 o] 126));have g:=((B.out.up d B.out.lt).alloc (.cells #[.int .i64 l,.int .i64 o] 126));have j:=Bx.new r 126 #[.int .i64 l,.int .i64 o];have u:=hid ((Q.out.trans (d.mono hz)).alloc (kza hz H) (.cells #[.int .i64 l,.int .i64 o] 126));have Jh:=C.out.lt;have Jd:=B.out.lt;clear d;go_wp2_with fail;obtain⟨F,x⟩:=xq (r.alloc (.cells #[.int .i64 l,.int .i64 o] 126));rw[x] at y t f g j u |-;clear x;obtain⟨q0,q1,-,-,Ji⟩:=j.c2;obtain⟨p0,p1,p2,p3,p4,p5,p6,p7,Je⟩:=f.c4;obtain⟨s0,s1,s2,s3,Jg⟩:=g.c2;have E:=hid f;have J:=hid g;have XS5:=hid (show Bx F.drew _ _ _ from j);have D:r.heap.size≠a.heap.size:=by omega
   have I:r.heap.size≠a.heap.size+1:=by omega
   clear f g j;have Eq:=D.symm;have Jb:=I.symm
   first | (go_region_held3 (λX:World=>X.cell? ⟨r.heap.size,0,none⟩=some (.int .i64 l)/\X.cell? ⟨r.heap.size,1,none⟩=some (.int .i64 o)) (go_keep) (fail)) | fail
   clear q0 q1 p0 p1 p2 p3 p4 p5 p6 p7 s0 s1 s2 s3;go_wp2_with fail;have Z0:=hid (((y.out.far (p:=⟨a.heap.size,0,none⟩) (by simp;omega) (.int .i64 l)).far (p:=⟨a.heap.size,1,none⟩) (by simp;omega) (.int .i64 o)).far (p:=⟨a.heap.size+1,0,none⟩) (by simp;omega) (.bool P));have Z1:=hid (((t.out.far (p:=⟨a.heap.size,0,none⟩) (by simp;omega) (.int .i64 l)).far (p:=⟨a.heap.size,1,none⟩) (by simp;omega) (.int .i64 o)).far (p:=⟨a.heap.size+1,0,none⟩) (by simp;omega) (.bool P));have Z6:=hid (((E.out.set_ 0 (.int .i64 l)).set_ 1 (.int .i64 o)).far (p:=⟨a.heap.size+1,0,none⟩) (by simp) (.bool P));have Z7:=hid (((J.out.far (p:=⟨a.heap.size,0,none⟩) (by simp) (.int .i64 l)).far (p:=⟨a.heap.size,1,none⟩) (by simp) (.int .i64 o)).set_ 0 (.bool P));have ZB:=hid (((u.out.setCell (p:=⟨a.heap.size,0,none⟩) s (.int .i64 l)).setCell (p:=⟨a.heap.size,1,none⟩) s (.int .i64 o)).setCell (p:=⟨a.heap.size+1,0,none⟩) (kk8 s) (.bool P));go_roundw
   case rel=>exact⟨1,by omega,by go_num,Z0,Z1,hid λh=>absurd h (by decide),hid λh=>⟨Z6.out,Z7.out⟩,hid λh=>absurd h (by decide),hid ZB.out.drew⟩
   case measure=>simp[intOf]
  have hq:P=false:=by have:=V.out.1;rw[if_neg he] at this;exact this
  subst hq;have Jw:(e0==0)=false:=by rw[kqi];exact he
  clear he;go_wp2_with fail;refine Z.out.mono ?_;rintro e r ⟨rfl,d⟩;have H:=d.size;have y:=hid ((O.out.up d O.out.lt).alloc (.cells #[.int .i64 l,.int .i64 o] 126));have t:=hid ((L.out.up d L.out.lt).alloc (.cells #[.int .i64 l,.int .i64 o] 126));have f:=((C.out.up d C.out.lt).alloc (.cells #[.int .i64 l,.int .i64 o] 126));have g:=((B.out.up d B.out.lt).alloc (.cells #[.int .i64 l,.int .i64 o] 126));have j:=Bx.new r 126 #[.int .i64 l,.int .i64 o];have u:=hid ((Q.out.trans (d.mono hz)).alloc (kza hz H) (.cells #[.int .i64 l,.int .i64 o] 126));have Jh:=C.out.lt;have Jd:=B.out.lt;clear d;go_wp2_with fail;obtain⟨F,x⟩:=xq (r.alloc (.cells #[.int .i64 l,.int .i64 o] 126));rw[x] at y t f g j u |-;clear x;obtain⟨q0,q1,-,-,Ji⟩:=j.c2;obtain⟨p0,p1,p2,p3,p4,p5,p6,p7,Je⟩:=f.c4;obtain⟨s0,s1,s2,s3,Jg⟩:=g.c2;have E:=hid f;have J:=hid g;have XS5:=hid (show Bx F.drew _ _ _ from j);have D:r.heap.size≠a.heap.size:=by omega
  have I:r.heap.size≠a.heap.size+1:=by omega
  clear f g j;have Eq:=D.symm;have Jb:=I.symm;refine kz6 (S:=λX:World=>X.cell? ⟨r.heap.size,0,none⟩=some (.int .i64 l)/\X.cell? ⟨r.heap.size,1,none⟩=some (.int .i64 o)) (by kernel_rfl) ⟨q0,q1⟩ (λG=>?_);show wpAnyH _ _ _ _ _ 16 #[false,false,false,false,false,false,false,false,false,false,false,false,false,false,false,false] _ _;refine tj 0 (.int .i64 0) ?_;dsimp only[Act.put,kqe,kqc,kqb,kqa,kqf,kqd];refine tj 1 (.int .i64 0) ?_;dsimp only[Act.put,kqe,kqc,kqb,kqa,kqf,kqd];refine tj 2 (.agg #[.int .i64 l,.int .i64 o]) ?_;dsimp only[Act.put,kqe,kqc,kqb,kqa,kqf,kqd];refine tj 3 (.int .i64 e0) ?_;dsimp only[Act.put,kqe,kqc,kqb,kqa,kqf,kqd];refine tj 4 (.bool false) ?_;dsimp only[Act.put,kqe,kqc,kqb,kqa,kqf,kqd];refine tj 5 (.bool false) ?_;dsimp only[Act.put,kqe,kqc,kqb,kqa,kqf,kqd];refine sk 6 ?_;dsimp only[Act.put,kqe,kqc,kqb,kqa,kqf,kqd];refine sk 7 ?_;dsimp only[Act.put,kqe,kqc,kqb,kqa,kqf,kqd];refine sk 8 ?_;dsimp only[Act.put,kqe,kqc,kqb,kqa,kqf,kqd];refine sk 9 ?_;dsimp only[Act.put,kqe,kqc,kqb,kqa,kqf,kqd];refine sk 10 ?_;dsimp only[Act.put,kqe,kqc,kqb,kqa,kqf,kqd];refine tj 11 (.bool false) ?_;dsimp only[Act.put,kqe,kqc,kqb,kqa,kqf,kqd];refine tj 12 (.pointer (some ⟨a.heap.size,0,none⟩)) ?_
  dsimp only[Act.put,kqe,kqc,kqb,kqa,kqf,kqd];refine kxr (rs:=[13]) (by kernel_rfl) (by simp) ?_;refine AllReadyH.cons rfl (λK hK=>?_) AllReadyH.nil;go_simp;refine hK.out _ _ ⟨by go_keep,by go_keep⟩ ?_;clear hK K;intro Ju;refine tj 14 (.pointer (some ⟨a.heap.size+1,0,none⟩)) ?_
  dsimp only[Act.put,kqe,kqc,kqb,kqa,kqf,kqd];refine kxr (rs:=[15]) (by kernel_rfl) (by simp) ?_;refine AllReadyH.cons rfl (λK hK=>?_) AllReadyH.nil;go_simp;refine hK.out _ _ ⟨by go_keep,by go_keep⟩ ?_;clear hK K;intro Jv;refine kx3 (by kernel_rfl) ?_ _;clear G;clear q0 q1 p0 p1 p2 p3 p4 p5 p6 p7 s0 s1 s2 s3;go_wp2_with fail;have Z0:=hid (((y.out.far (p:=⟨a.heap.size,0,none⟩) (by simp;omega) (.int .i64 l)).far (p:=⟨a.heap.size,1,none⟩) (by simp;omega) (.int .i64 o)).far (p:=⟨a.heap.size+1,0,none⟩) (by simp;omega) (.bool false));have Z1:=hid (((t.out.far (p:=⟨a.heap.size,0,none⟩) (by simp;omega) (.int .i64 l)).far (p:=⟨a.heap.size,1,none⟩) (by simp;omega) (.int .i64 o)).far (p:=⟨a.heap.size+1,0,none⟩) (by simp;omega) (.bool false));have Z6:=hid (((E.out.set_ 0 (.int .i64 l)).set_ 1 (.int .i64 o)).far (p:=⟨a.heap.size+1,0,none⟩) (by simp) (.bool false));have Z7:=hid (((J.out.far (p:=⟨a.heap.size,0,none⟩) (by simp) (.int .i64 l)).far (p:=⟨a.heap.size,1,none⟩) (by simp) (.int .i64 o)).set_ 0 (.bool false));have ZB:=hid (((u.out.setCell (p:=⟨a.heap.size,0,none⟩) s (.int .i64 l)).setCell (p:=⟨a.heap.size,1,none⟩) s (.int .i64 o)).setCell (p:=⟨a.heap.size+1,0,none⟩) (kk8 s) (.bool false));go_roundw
  case rel=>exact⟨1,by omega,by go_num,Z0,Z1,hid λh=>absurd h (by decide),hid λh=>⟨Z6.out,Z7.out⟩,hid λh=>absurd h (by decide),hid ZB.out.drew⟩
  case measure=>simp[intOf]
 by_cases h1:k=1
 .subst h1;have C:=hid (T1.out rfl).1;have B:=hid (T1.out rfl).2;clear T0 T1 T2;have hz:=Q.out.size;have Z:=hid (R.out wr (HR.out.up Q.out hz));by_cases he:e1=0
  .have hq:(m==(ws.length:Int))=z:=by have:=Y.out.1;rw[if_pos he] at this;exact this.symm
   have HQ:=hid hq;subst he;go_wp2_with fail;refine Z.out.mono ?_;rintro e r ⟨rfl,d⟩;have H:=d.size;have y:=hid ((O.out.up d O.out.lt).alloc (.cells #[.int .i64 m,.int .i64 q] 126));have t:=hid ((L.out.up d L.out.lt).alloc (.cells #[.int .i64 m,.int .i64 q] 126));have f:=((C.out.up d C.out.lt).alloc (.cells #[.int .i64 m,.int .i64 q] 126));have g:=((B.out.up d B.out.lt).alloc (.cells #[.int .i64 m,.int .i64 q] 126));have j:=Bx.new r 126 #[.int .i64 m,.int .i64 q];have u:=hid ((Q.out.trans (d.mono hz)).alloc (kza hz H) (.cells #[.int .i64 m,.int .i64 q] 126));have Jh:=C.out.lt;have Jd:=B.out.lt;clear d;go_wp2_with fail;obtain⟨F,x⟩:=xq (r.alloc (.cells #[.int .i64 m,.int .i64 q] 126));rw[x] at y t f g j u |-;clear x;obtain⟨q0,q1,-,-,Ji⟩:=j.c2;obtain⟨p0,p1,p2,p3,p4,p5,p6,p7,Je⟩:=f.c4;obtain⟨s0,s1,s2,s3,Jg⟩:=g.c2;have E:=hid f;have J:=hid g;have XS5:=hid (show Bx F.drew _ _ _ from j);have D:r.heap.size≠a.heap.size:=by omega
   have I:r.heap.size≠a.heap.size+1:=by omega
   clear f g j;have Eq:=D.symm;have Jb:=I.symm
   first | (go_region_held3 (λX:World=>X.cell? ⟨r.heap.size,0,none⟩=some (.int .i64 m)/\X.cell? ⟨r.heap.size,1,none⟩=some (.int .i64 q)) (go_keep) (fail)) | fail
   clear q0 q1 p0 p1 p2 p3 p4 p5 p6 p7 s0 s1 s2 s3;go_wp2_with fail;have Z0:=hid (((y.out.far (p:=⟨a.heap.size,2,none⟩) (by simp;omega) (.int .i64 m)).far (p:=⟨a.heap.size,3,none⟩) (by simp;omega) (.int .i64 q)).far (p:=⟨a.heap.size+1,1,none⟩) (by simp;omega) (.bool z));have Z1:=hid (((t.out.far (p:=⟨a.heap.size,2,none⟩) (by simp;omega) (.int .i64 m)).far (p:=⟨a.heap.size,3,none⟩) (by simp;omega) (.int .i64 q)).far (p:=⟨a.heap.size+1,1,none⟩) (by simp;omega) (.bool z));have Z6:=hid (((E.out.set_ 2 (.int .i64 m)).set_ 3 (.int .i64 q)).far (p:=⟨a.heap.size+1,1,none⟩) (by simp) (.bool z));have Z7:=hid (((J.out.far (p:=⟨a.heap.size,2,none⟩) (by simp) (.int .i64 m)).far (p:=⟨a.heap.size,3,none⟩) (by simp) (.int .i64 q)).set_ 1 (.bool z));have ZB:=hid (((u.out.setCell (p:=⟨a.heap.size,2,none⟩) s (.int .i64 m)).setCell (p:=⟨a.heap.size,3,none⟩) s (.int .i64 q)).setCell (p:=⟨a.heap.size+1,1,none⟩) (kk8 s) (.bool z));go_roundw
   case rel=>exact⟨2,by omega,by go_num,Z0,Z1,hid λh=>absurd h (by decide),hid λh=>absurd h (by decide),hid λh=>⟨Z6.out,Z7.out⟩,hid ZB.out.drew⟩
   case measure=>simp[intOf]
  have hq:z=false:=by have:=Y.out.1;rw[if_neg he] at this;exact this
  subst hq;have Jw:(e1==0)=false:=by rw[kqi];exact he
  clear he;go_wp2_with fail;refine Z.out.mono ?_;rintro e r ⟨rfl,d⟩;have H:=d.size;have y:=hid ((O.out.up d O.out.lt).alloc (.cells #[.int .i64 m,.int .i64 q] 126));have t:=hid ((L.out.up d L.out.lt).alloc (.cells #[.int .i64 m,.int .i64 q] 126));have f:=((C.out.up d C.out.lt).alloc (.cells #[.int .i64 m,.int .i64 q] 126));have g:=((B.out.up d B.out.lt).alloc (.cells #[.int .i64 m,.int .i64 q] 126));have j:=Bx.new r 126 #[.int .i64 m,.int .i64 q];have u:=hid ((Q.out.trans (d.mono hz)).alloc (kza hz H) (.cells #[.int .i64 m,.int .i64 q] 126));have Jh:=C.out.lt;have Jd:=B.out.lt;clear d;go_wp2_with fail;obtain⟨F,x⟩:=xq (r.alloc (.cells #[.int .i64 m,.int .i64 q] 126));rw[x] at y t f g j u |-;clear x;obtain⟨q0,q1,-,-,Ji⟩:=j.c2;obtain⟨p0,p1,p2,p3,p4,p5,p6,p7,Je⟩:=f.c4;obtain⟨s0,s1,s2,s3,Jg⟩:=g.c2;have E:=hid f;have J:=hid g;have XS5:=hid (show Bx F.drew _ _ _ from j);have D:r.heap.size≠a.heap.size:=by omega
  have I:r.heap.size≠a.heap.size+1:=by omega
  clear f g j;have Eq:=D.symm;have Jb:=I.symm;refine kz6 (S:=λX:World=>X.cell? ⟨r.heap.size,0,none⟩=some (.int .i64 m)/\X.cell? ⟨r.heap.size,1,none⟩=some (.int .i64 q)) (by kernel_rfl) ⟨q0,q1⟩ (λG=>?_);show wpAnyH _ _ _ _ _ 16 #[false,false,false,false,false,false,false,false,false,false,false,false,false,false,false,false] _ _;refine tj 0 (.int .i64 1) ?_;dsimp only[Act.put,kqe,kqc,kqb,kqa,kqf,kqd];refine tj 1 (.int .i64 1) ?_;dsimp only[Act.put,kqe,kqc,kqb,kqa,kqf,kqd];refine tj 2 (.agg #[.int .i64 m,.int .i64 q]) ?_;dsimp only[Act.put,kqe,kqc,kqb,kqa,kqf,kqd];refine tj 3 (.int .i64 e1) ?_;dsimp only[Act.put,kqe,kqc,kqb,kqa,kqf,kqd];refine tj 4 (.bool false) ?_;dsimp only[Act.put,kqe,kqc,kqb,kqa,kqf,kqd];refine tj 5 (.bool false) ?_;dsimp only[Act.put,kqe,kqc,kqb,kqa,kqf,kqd];refine sk 6 ?_;dsimp only[Act.put,kqe,kqc,kqb,kqa,kqf,kqd];refine sk 7 ?_;dsimp only[Act.put,kqe,kqc,kqb,kqa,kqf,kqd];refine sk 8 ?_;dsimp only[Act.put,kqe,kqc,kqb,kqa,kqf,kqd];refine sk 9 ?_;dsimp only[Act.put,kqe,kqc,kqb,kqa,kqf,kqd];refine sk 10 ?_;dsimp only[Act.put,kqe,kqc,kqb,kqa,kqf,kqd];refine tj 11 (.bool false) ?_;dsimp only[Act.put,kqe,kqc,kqb,kqa,kqf,kqd];refine tj 12 (.pointer (some ⟨a.heap.size,2,none⟩)) ?_
  dsimp only[Act.put,kqe,kqc,kqb,kqa,kqf,kqd];refine kxr (rs:=[13]) (by kernel_rfl) (by simp) ?_;refine AllReadyH.cons rfl (λK hK=>?_) AllReadyH.nil;go_simp;refine hK.out _ _ ⟨by go_keep,by go_keep⟩ ?_;clear hK K;intro Ju;refine tj 14 (.pointer (some ⟨a.heap.size+1,1,none⟩)) ?_
  dsimp only[Act.put,kqe,kqc,kqb,kqa,kqf,kqd];refine kxr (rs:=[15]) (by kernel_rfl) (by simp) ?_;refine AllReadyH.cons rfl (λK hK=>?_) AllReadyH.nil;go_simp;refine hK.out _ _ ⟨by go_keep,by go_keep⟩ ?_;clear hK K;intro Jv;refine kx3 (by kernel_rfl) ?_ _;clear G;clear q0 q1 p0 p1 p2 p3 p4 p5 p6 p7 s0 s1 s2 s3;go_wp2_with fail;have Z0:=hid (((y.out.far (p:=⟨a.heap.size,2,none⟩) (by simp;omega) (.int .i64 m)).far (p:=⟨a.heap.size,3,none⟩) (by simp;omega) (.int .i64 q)).far (p:=⟨a.heap.size+1,1,none⟩) (by simp;omega) (.bool false));have Z1:=hid (((t.out.far (p:=⟨a.heap.size,2,none⟩) (by simp;omega) (.int .i64 m)).far (p:=⟨a.heap.size,3,none⟩) (by simp;omega) (.int .i64 q)).far (p:=⟨a.heap.size+1,1,none⟩) (by simp;omega) (.bool false));have Z6:=hid (((E.out.set_ 2 (.int .i64 m)).set_ 3 (.int .i64 q)).far (p:=⟨a.heap.size+1,1,none⟩) (by simp) (.bool false));have Z7:=hid (((J.out.far (p:=⟨a.heap.size,2,none⟩) (by simp) (.int .i64 m)).far (p:=⟨a.heap.size,3,none⟩) (by simp) (.int .i64 q)).set_ 1 (.bool false));have ZB:=hid (((u.out.setCell (p:=⟨a.heap.size,2,none⟩) s (.int .i64 m)).setCell (p:=⟨a.heap.size,3,none⟩) s (.int .i64 q)).setCell (p:=⟨a.heap.size+1,1,none⟩) (kk8 s) (.bool false));go_roundw
  case rel=>exact⟨2,by omega,by go_num,Z0,Z1,hid λh=>absurd h (by decide),hid λh=>absurd h (by decide),hid λh=>⟨Z6.out,Z7.out⟩,hid ZB.out.drew⟩
  case measure=>simp[intOf]
 have h2:k=2:=by omega
 subst h2;have C:=hid (T2.out rfl).1;have B:=hid (T2.out rfl).2;obtain⟨p0,p1,p2,p3,-,-,-,-,-⟩:=C.out.c4;obtain⟨s0,s1,-⟩:=B.out.c2;have hgy0:=O.out.lt;have hgy1:=L.out.lt;obtain⟨v0,v1,f0,f1,-⟩:=O.out.c2;obtain⟨v2,v3,f2,f3,-⟩:=L.out.c2;clear T0 T1 T2;have n1:w.heap.size≠a.heap.size:=by omega
 have n2:w.heap.size≠a.heap.size+1:=by omega
 have n3:w.heap.size+1≠a.heap.size:=by omega
 cases P
 .cases z
  .have HN:Hid (tyN ws=none/\ir ws=50):=hid (by have:=HV.out;simp at this;exact⟨this.1,by rw[this.2,this.1];rfl⟩);go_wp2_with fail;exact kqv (v:=.tuple #[.agg #[.int .i64 0,.int .i64 0],.agg #[.bool false,.bool false],.int .i64 50]) (co results68 _ (show Bx _ _ _ _ from (((O.out.set_ 0 (.int .i64 0)).set_ 1 (.int .i64 0)).far (p:=⟨w.heap.size+1,0,none⟩) (by simp) (.bool false)).far (p:=⟨w.heap.size+1,1,none⟩) (by simp) (.bool false)) (show Bx _ _ _ _ from (((L.out.far (p:=⟨w.heap.size,0,none⟩) (by simp) (.int .i64 0)).far (p:=⟨w.heap.size,1,none⟩) (by simp) (.int .i64 0)).set_ 0 (.bool false)).set_ 1 (.bool false)) rfl rfl rfl) rfl ⟨⟨0,false,false,by rw[HN.out.1,HN.out.2];rfl⟩,(((Q.out.setCell (p:=⟨w.heap.size,0,none⟩) (kqg _) (.int .i64 0)).setCell (p:=⟨w.heap.size,1,none⟩) (kqg _) (.int .i64 0)).setCell (p:=⟨w.heap.size+1,0,none⟩) (kxe _) (.bool false)).setCell (p:=⟨w.heap.size+1,1,none⟩) (kxe _) (.bool false)⟩
  have Ja:q=((wd ws 11:Nat):Int):=Y.out.2 rfl;have HN:Hid (tyN ws=some (wd ws 11)/\ir ws=0):=hid (by have:=HV.out;simp at this;exact⟨this.1,by rw[this.2,this.1];rfl⟩);have Jf:=hid Ja;clear Ja;go_wp2_with fail
  go_region_held3 (λX:World=>X.cell? ⟨a.heap.size,2,none⟩=some (.int .i64 m)/\X.cell? ⟨a.heap.size,3,none⟩=some (.int .i64 q)/\X.cell? ⟨a.heap.size+1,0,none⟩=some (.bool false)/\X.cell? ⟨a.heap.size+1,1,none⟩=some (.bool true)) (go_keep) (fail)
  go_wp2_with fail;exact kqv (v:=.tuple #[.agg #[.int .i64 m,.int .i64 q],.agg #[.bool false,.bool true],.int .i64 0]) (co results68 _ (show Bx _ _ _ _ from (((O.out.set_ 0 (.int .i64 m)).set_ 1 (.int .i64 q)).far (p:=⟨w.heap.size+1,0,none⟩) (by simp) (.bool false)).far (p:=⟨w.heap.size+1,1,none⟩) (by simp) (.bool true)) (show Bx _ _ _ _ from (((L.out.far (p:=⟨w.heap.size,0,none⟩) (by simp) (.int .i64 m)).far (p:=⟨w.heap.size,1,none⟩) (by simp) (.int .i64 q)).set_ 0 (.bool false)).set_ 1 (.bool true)) rfl rfl rfl) rfl ⟨⟨m,false,true,by rw[HN.out.1,HN.out.2,Jf.out];rfl⟩,((((Q.out.setCell (p:=⟨w.heap.size,0,none⟩) (kqg _) (.int .i64 m)).setCell (p:=⟨w.heap.size,1,none⟩) (kqg _) (.int .i64 q)).setCell (p:=⟨w.heap.size+1,0,none⟩) (kxe _) (.bool false)).setCell (p:=⟨w.heap.size+1,1,none⟩) (kxe _) (.bool true)).drew⟩
 have Ja:o=((wd ws 3:Nat):Int):=V.out.2 rfl;have HN:Hid (tyN ws=some (wd ws 3)/\ir ws=0):=hid (by have:=HV.out;simp at this;exact⟨this.1,by rw[this.2,this.1];rfl⟩);have Jf:=hid Ja;clear Ja;go_wp2_with fail
 go_region_held3 (λX:World=>X.cell? ⟨a.heap.size,0,none⟩=some (.int .i64 l)/\X.cell? ⟨a.heap.size,1,none⟩=some (.int .i64 o)/\X.cell? ⟨a.heap.size+1,0,none⟩=some (.bool true)/\X.cell? ⟨a.heap.size+1,1,none⟩=some (.bool z)) (go_keep) (fail)
 go_wp2_with fail;exact kqv (v:=.tuple #[.agg #[.int .i64 l,.int .i64 o],.agg #[.bool true,.bool z],.int .i64 0]) (co results68 _ (show Bx _ _ _ _ from (((O.out.set_ 0 (.int .i64 l)).set_ 1 (.int .i64 o)).far (p:=⟨w.heap.size+1,0,none⟩) (by simp) (.bool true)).far (p:=⟨w.heap.size+1,1,none⟩) (by simp) (.bool z)) (show Bx _ _ _ _ from (((L.out.far (p:=⟨w.heap.size,0,none⟩) (by simp) (.int .i64 l)).far (p:=⟨w.heap.size,1,none⟩) (by simp) (.int .i64 o)).set_ 0 (.bool true)).set_ 1 (.bool z)) rfl rfl rfl) rfl ⟨⟨l,true,z,by rw[HN.out.1,HN.out.2,Jf.out];rfl⟩,((((Q.out.setCell (p:=⟨w.heap.size,0,none⟩) (kqg _) (.int .i64 l)).setCell (p:=⟨w.heap.size,1,none⟩) (kqg _) (.int .i64 o)).setCell (p:=⟨w.heap.size+1,0,none⟩) (kxe _) (.bool true)).setCell (p:=⟨w.heap.size+1,1,none⟩) (kxe _) (.bool z)).drew⟩
end Go.Proofs.YtpcajamacpbjcaaGreat
