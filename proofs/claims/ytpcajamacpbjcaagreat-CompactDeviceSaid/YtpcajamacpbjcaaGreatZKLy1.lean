/- Texts laid together: LyK MapB LyC LyD LySup LySur LyTw. -/
import Derived.Test.YtpcajamacpbjcaaGreatZKR19
import Derived.Test.YtpcajamacpbjcaaGreatZKWnt
import Derived.Test.YtpcajamacpbjcaaGreatZKPlain
import Derived.Test.YtpcajamacpbjcaaGreatZKEff
import Derived.Maps.Own
import Derived.Maps.Views
import Derived.Maps.OwnOps
import Derived.Maps.Keyed
import Derived.Test.YtpcajamacpbjcaaGreatZKSup
import Derived.Test.YtpcajamacpbjcaaGreatZKRch
import Derived.Test.YtpcajamacpbjcaaGreatZGH
set_option maxHeartbeats 16000000
set_option maxRecDepth 100000
set_option linter.all false
namespace Go.Proofs.YtpcajamacpbjcaaGreat
open Lib (hid)
open Go.RowKit
variable {O:List Bk}{F l ws:List Nat}{H a b g n r:Nat}{P:Program}{e k t:TypeId}{x0 x1 x2 x3 x4:Value}{w w':World}
open Go.Proofs.Tryz
def Jg (ws:List Nat) (t H:Nat) (e:Ending) (w':World):Prop:=∃(B:Option Addr) (m d:Nat) (L:List Ty),e=.returned (.tuple #[.slice B m d,.int .i64 (if ib ws t=true then 0 else 50)])/\(ib ws t=true->m=L.length/\uU w' H (.slice B m d) L/\L.map Ty.l=gJ ws t 8)
theorem pY{t:Nat}{B:Option Addr}{m d:Nat}(h:ib ws t=false):Jg ws t H (.returned (.tuple #[.slice B m d,.int .i64 50])) w':=⟨B,m,d,[],by rw[h];rfl,λa=>by rw[h] at a;cases a⟩
theorem Ep(A:Option Addr)(ws:List Nat)(c n t:Nat)(w:World)(hn:ws.length=n)(hs:aj (n:Int)=true)(ht:t<=8)(hr:RdW w w.heap.size A ws)(ho:∀x∈ws,x<18446744073709551616):
 Calls prog 69 #[.slice A n c,.int .i64 (t:Int)] w λe w'=>Jg ws t w.heap.size e w'/\Below w.heap.size w w':=by
 subst hn;have hb:=(aa _).1 hs;have HR:=hid hr;have O:=hid (λW=>aG A ws.length c W (by omega));rw[aZ hs] at O;have Y:Hid (∀k,wd ws k<18446744073709551616):=hid (fM ho);have d0:decide ((t:Int)<0)=false:=by rw[kqc];omega
 have d8:decide ((8:Int)<(t:Int))=false:=by rw[kqc];omega
 have d8n:decide (8<t)=false:=by rw[kqc];omega
 clear hr ho hs;obtain⟨i2,hi,Q,R,V⟩:=kzw CT;have HJ:=hid hi;have Kd:=hid Q;have Kb:=hid R;have Kf:=hid V;clear hi Q R V;go_enter func69,ntmps69;go_wp2_with fail;refine (O.out _).mono ?_;rintro e w1 ⟨rfl,rfl⟩;go_wp2_with fail;go_loopw [7,24] (λv i wr=>∃(k:Nat) (L:List Ty),k<=8/\i=.int .i64 k/\Hid (yf ws t k)/\Hid (L.map Ty.l=gJ ws t k)/\L.length<=k/\Hid (uU wr w.heap.size v L)/\Below w.heap.size w wr) (λ_ i _=>8-(intOf i).toNat)
 case atStart=>exact⟨0,[],kqy _,rfl,hid (λi h=>absurd h (by omega)),hid (by simp[gJ]),kqa _,hid ⟨kza _ _ _ _,λx hx=>absurd hx (by simp)⟩,kqk _ _⟩
 obtain⟨k,L,hk,rfl,P,N,hLk,u,S⟩:=hrel;have hz:=S.size;by_cases Eq:k<8
 .obtain ⟨b,f,rfl,hbb,h0⟩:=RdW.at_ (Rd.below HR.out S) (show 96+2*k<ws.length by omega);obtain⟨b',off',e',-,h1⟩:=RdW.at_ (Rd.below HR.out S) (show 96+2*k+1<ws.length by omega);cases e';rw[<-cA] at h0 h1;have a:=hid (λW=>vN (wd ws (96+2*k)) (wd ws (96+2*k+1)) W (Y.out _) (Y.out _));have r:=hid (λh=>oO P.out h);have j:=hid (λh=>sU (ws:=ws) (t:=t) Eq h);have d:Hid (Dq ws t k=if k<t then cr (wd ws (96+2*k)) (wd ws (96+2*k+1)) else wd ws (96+2*k)==0&&wd ws (96+2*k+1)==0):=hid rfl;have m:=hid (λh=>Cd (ws:=ws) (t:=t) (k:=k) h);have G:=hid (λh=>zz (ws:=ws) (t:=t) (k:=k) h);have i1:IntKind.i64.wrap ((2:Int)*(k:Int))=2*(k:Int):=kqs _ (by omega);have i2':IntKind.i64.wrap ((96:Int)+2*(k:Int))=((96+2*k:Nat):Int):=by rw[kqs _ (by omega)];omega
  have i3:IntKind.i64.wrap (((96+2*k:Nat):Int)+1)=((96+2*k+1:Nat):Int):=by rw[kqs _ (by omega)];omega
  have j1:((96+2*k:Nat):Int)<(ws.length:Int):=by omega
  have j2:(0:Int)<=((96+2*k:Nat):Int):=by omega
  have j3:((96+2*k+1:Nat):Int)<(ws.length:Int):=by omega
  have j4:(0:Int)<=((96+2*k+1:Nat):Int):=by omega
  have hk1:(k:Int)<8:=by omega
  obtain⟨p,hp⟩:=xq (96+2*k);rw[hp] at h0 h1 a d m i2' i3 j1 j2 j3 j4;obtain⟨q,hq⟩:=xq (p+1);rw[hq] at h1 a d m i3 j3 j4;obtain⟨x,hx⟩:=xq (wd ws p);obtain⟨y,hy⟩:=xq (wd ws q);rw[hx] at h0 a d m;rw[hy] at h1 a d m;have HB:=hid S;clear hx hy hp hq;by_cases o:k<t
  .have d2:decide ((t:Int)<=(k:Int))=false:=by rw[kqc];omega
   have d2n:decide (t<=k)=false:=by rw[kqc];omega
   cases s:cr x y
   .have H:=hid (j.out (by rw[d.out,if_pos o,s]));have C:eN x y=50:=by unfold eN;rw[s];rfl
    have U:bp x y=[]:=by unfold bp;rw[s];rfl
    unfold mj at a;rw[C,U] at a;clear s C U d j r m G o;go_wp2_with fail
    go_region_held3 (λX:World=>X.cell? ⟨b,f+p,none⟩=some (.int .u64 (x:Int))/\X.cell? ⟨b,f+q,none⟩=some (.int .u64 (y:Int))) (go_keep) (fail)
    go_wp2_with fail;refine (a.out _).mono ?_;rintro e w3 ⟨⟨A3,c3,rfl,-⟩,z⟩;have F:=HB.out.drew.trans (z.mono hz);clear z;go_wp2;go_ret2;exact⟨pY H.out,F⟩
   have H:=hid (r.out (by rw[d.out,if_pos o,s]));have I:=hid (m.out o);have C:eN x y=0:=by unfold eN;rw[s];rfl
   unfold mj at a;rw[C] at a;obtain⟨l,hl⟩:=xq (bp x y);rw[hl] at a I;clear s C hl d j r m G o;go_wp2_with fail
   go_region_held3 (λX:World=>X.cell? ⟨b,f+p,none⟩=some (.int .u64 (x:Int))/\X.cell? ⟨b,f+q,none⟩=some (.int .u64 (y:Int))) (go_keep) (fail)
   go_wp2_with fail;refine (a.out _).mono ?_;rintro e w3 ⟨⟨A3,c3,rfl,D⟩,z⟩;have F:=HB.out.drew.trans (z.mono hz);have T:=F.size;have B:=ai (show wr.drew.ownsRow _ _ _ _ _ _ from u.out.1) z (kqa _);have Ki:Hid (∀y∈L,w3.ownsRow w.heap.size 5 1 (.slice y.A y.l.length y.c) y.l.length (y.l.flatMap bu)):=hid λy hy=>ai (show wr.drew.ownsRow _ _ _ _ _ _ from u.out.2 y hy) z (kqa _);have Ka:=hid (ao D (show w.heap.size<=wr.drew.heap.size from hz));have Z:=hid B;have Ke:=hid F;clear z D F u;go_wp2_with (at_builtin;refine kze _ rfl _ _ 69 rfl w.heap.size 113 i2 _ 1 24 underlying69 HJ.out Kd.out Kb.out Kf.out rfl (by decide) _ _ _ rfl (B.alloc _) ⟨_,0,none⟩ 1 1 [.slice A3 l.length c3] rfl rfl (cI _ _ _) (by simp[Value.oneCell']) (by unfold maxLen;omega) (by omega) (aS T) ?_;intro v1 w6 E J _;have Kg:=hid (aE Ke.out T B J);have Kh:=hid (rt (x:=⟨A3,c3,l⟩) Ki.out Ka.out (Z.out.alloc _) (λh=>h.alloc _) J E);clear E J);go_roundw
   case rel=>exact⟨k+1,L++[⟨A3,c3,l⟩],by omega,by go_num,H,hid (by rw[kjo,N.out,I.out];rfl),by simp;omega,Kh,Kg.out⟩
   case measure=>simp[intOf];omega
  have d2:decide ((t:Int)<=(k:Int))=true:=by rw[kqn];omega
  have d2n:decide (t<=k)=true:=by rw[kqn];omega
  have I:=hid (G.out (by omega));have g:Hid (Dq ws t k=(x==0&&y==0)):=hid (by rw[d.out,if_neg o]);clear a d m G o;by_cases K:x=0
  .subst K;by_cases M:y=0
   .subst M;have H:=hid (r.out (by rw[g.out];rfl));clear j r g;go_wp2_with fail
    go_region_held3 (λX:World=>X.cell? ⟨b,f+p,none⟩=some (.int .u64 ((0:Nat):Int))/\X.cell? ⟨b,f+q,none⟩=some (.int .u64 ((0:Nat):Int))) (go_keep) (fail)
    go_wp2_with fail;have Kc:Hid (uU wr.drew w.heap.size u7 L):=hid ⟨u.out.1,u.out.2⟩;go_roundw
    case rel=>exact⟨k+1,L,by omega,by go_num,H,hid (by rw[N.out,I.out]),by omega,Kc,HB.out.drew⟩
    case measure=>simp[intOf];omega
   have H:=hid (j.out (by rw[g.out,show (y==0)=false by rw[kqi];exact M];rfl));have d3:((y:Int) != 0)=true:=by rw[kqv];omega
   have d3n:(y != 0)=true:=by rw[kqv];omega
   clear j r g M;go_wp2_with fail
   go_region_held3 (λX:World=>X.cell? ⟨b,f+p,none⟩=some (.int .u64 ((0:Nat):Int))/\X.cell? ⟨b,f+q,none⟩=some (.int .u64 (y:Int))) (go_keep) (fail)
   go_wp2;go_ret2;exact⟨pY H.out,HB.out.drew⟩
  have H:=hid (j.out (by rw[g.out,show (x==0)=false by rw[kqi];exact K];rfl));have d3:((x:Int) != 0)=true:=by rw[kqv];omega
  have d3n:(x != 0)=true:=by rw[kqv];omega
  clear j r g K;go_wp2_with fail
  go_region_held3 (λX:World=>X.cell? ⟨b,f+p,none⟩=some (.int .u64 (x:Int))/\X.cell? ⟨b,f+q,none⟩=some (.int .u64 (y:Int))) (go_keep) (fail)
  go_wp2;go_ret2;exact⟨pY H.out,HB.out.drew⟩
 obtain rfl:k=8:=by omega
 have HT:Hid (ib ws t=true):=hid ((jz ws t).2 P.out);obtain⟨BO,dO,rfl⟩:=aO u.out.1;go_wp2;go_ret2;exact⟨⟨BO,L.length,dO,L,by rw[HT.out];rfl,λ_=>⟨rfl,u.out,N.out⟩⟩,S⟩
def kR (ws:List Nat):Int:=if aj (ws.length:Int)=true then (if wu ws=true then 0 else 50) else 8
def mC (ws:List Nat):List Bk:=if kR ws=0 then (blocks ws 128).getD [] else []
def CO (H:Nat) (ws:List Nat) (e:Ending) (w':World):Prop:=∃A c,e=.returned (.tuple #[.slice A (mC ws).length c,.int .i64 (kR ws)])/\w'.ownsRow H 55 6 (.slice A (mC ws).length c) (mC ws).length ((mC ws).flatMap Bk.cells)
theorem rj{r:Int}(h:kR ws=r)(h0:r≠0):CO H ws (.returned (.tuple #[.slice none 0 0,.int .i64 r])) w':=by
 have e:mC ws=[]:=by unfold mC;rw[if_neg (by rw[h];exact h0)]
 exact⟨none,0,by rw[e,h];rfl,by rw[e];exact kza _ _ _ _⟩
theorem GW(A:Option Addr)(ws:List Nat)(c n:Nat)(w:World)(hn:ws.length=n)(C:n<=9223372036854775807)(hr:RdW w w.heap.size A ws)(ho:∀x∈ws,x<18446744073709551616):
 Calls prog 26 #[.slice A n c] w λe w'=>CO w.heap.size ws e w'/\Below w.heap.size w w':=by
 subst hn;have B:=hid (BE A ws c ws.length 128 w rfl C hr ho);unfold uG at B;clear hr ho;by_cases d:cc ws 128=0
 .have g:aj (ws.length:Int)=true:=by
   cases g:aj (ws.length:Int) with
   | true=>rfl
   | false=>rw[fH g] at d;cases d
  have N:=(aa _).1 g;have a:fe ws.length 128=false:=by
   cases hq:fe ws.length 128 with
   | false=>rfl
   | true=>rw[jf g hq] at d;cases d
  have V:∃l,blocks ws 128=some l:=by
   cases j:blocks ws 128 with
   | none=>rw[eP g a (by simpa using j)] at d;cases d
   | some l=>exact⟨l,rfl⟩
  obtain⟨l,j⟩:=V;have G:=(bK (by omega) _ _ j (by omega) (by omega) (by omega)).1;have p:aQ ws 128=l:=by unfold aQ;rw[if_pos d];simp[j]
  rw[d,p] at B;have E:Hid (kR ws=if kk l=true then 0 else 50):=hid (by unfold kR;rw[if_pos g,iI j]);have Q:Hid (kk l=true->mC ws=l/\kR ws=0):=hid λh=>by
   have e:kR ws=0:=by rw[E.out,h];rfl
   exact⟨by unfold mC;rw[if_pos e,j];rfl,e⟩
  have hl24:l.length<=1024:=by omega
  have R:=hid (λk O h=>rn (l:=l) (k:=k) O h);have W:=hid (ng l);clear d g N a j p G C;go_enter func26,ntmps26;go_wp2_with fail;refine B.out.mono ?_;rintro e w1 ⟨⟨A1,c1,rfl,q⟩,s⟩;have I:=hid (show RdB _ _ _ _ from Rd.of_own q);have M:=hid q;have D:=hid s;clear q s;go_wp2_with fail;go_loopw [17] (λi wr=>∃k:Nat,k<=l.length/\i=.int .i64 k/\wr=w1/\Hid (oD l k)) (λi _=>l.length-(intOf i).toNat)
  case atStart=>exact⟨0,kqy _,rfl,rfl,hid (o9 l)⟩
  obtain⟨k,O,rfl,rfl,P⟩:=hrel;by_cases o:k<l.length
  .have z:=hid (λh=>lJ P.out h);have U:=hid (R.out k o);by_cases J:k=0
   .subst J;have v:Hid (oD l (0+1)):=hid (z.out rfl);go_wp2;go_roundw
    case rel=>exact⟨0+1,by omega,by go_num,trivial,v⟩
    case measure=>simp[intOf];omega
   obtain⟨b,off,rfl,N,-,-,p2,-⟩:=RdB.at_ I.out o;obtain⟨b',off',e',-,-,-,r2,-⟩:=RdB.at_ I.out (show k-1<l.length by omega);cases e';have f:oE l k=((l[k-1].kind==2)&&(l[k].kind==2)):=by unfold oE;rw[bP l k o,bP l (k-1) (by omega),show (k==0)=false by rw[kqi];omega];rfl
   obtain⟨x,hx⟩:=xq (l[k].kind);obtain⟨y,hy⟩:=xq (l[k-1].kind);rw[hx] at p2 f;rw[hy] at r2 f;have i1:IntKind.i64.wrap ((k:Int)-1)=((k-1:Nat):Int):=by rw[kqs _ (by omega)];omega
   have hki:(k:Int)<(l.length:Int):=by omega
   have hk0':(0:Int)<=(k:Int):=by omega
   have K:((k-1:Nat):Int)<(l.length:Int):=by omega
   have L:(0:Int)<=((k-1:Nat):Int):=by omega
   have d0:decide ((0:Int)<(k:Int))=true:=by rw[kqn];omega
   have d0n:decide (0<k)=true:=by rw[kqn];omega
   obtain⟨m,C⟩:=xq (k-1);rw[C] at i1 K L r2;have S:=hid f;clear hx hy P C f J;by_cases t:x=2
   .subst t;by_cases u:y=2
    .subst u;have v:=hid (U.out (by rw[S.out];rfl));have HW:Hid (kR ws=50):=hid (by rw[E.out,v.out];rfl);go_wp2;go_ret2;exact⟨rj HW.out (by decide),D.out⟩
    have X:(y==2)=false:=by rw[kqi];exact u
    have v:Hid (oD l (k+1)):=hid (z.out (by rw[S.out,X];rfl));clear u;go_wp2;go_roundw
    case rel=>exact⟨k+1,by omega,by go_num,trivial,v⟩
    case measure=>simp[intOf];omega
   have X:(x==2)=false:=by rw[kqi];exact t
   have v:Hid (oD l (k+1)):=hid (z.out (by rw[S.out,X,kjv]));clear t;go_wp2;go_roundw
   case rel=>exact⟨k+1,by omega,by go_num,trivial,v⟩
   case measure=>simp[intOf];omega
  have F:k=l.length:=by omega
  have hend:decide ((k:Int)<(l.length:Int))=false:=by rw[kqc];omega
  have hendn:decide (k<l.length)=false:=by rw[kqc];exact o
  have T:=hid (Q.out (W.out.2 (F ▸ P.out)));clear F o O;go_wp2;go_ret2;exact⟨⟨A1,c1,by rw[T.out.1,T.out.2];rfl,by rw[T.out.1];exact M.out⟩,D.out⟩
 have p:aQ ws 128=[]:=by unfold aQ;rw[if_neg d]
 have hw:kR ws=cc ws 128:=by
  unfold kR;cases g:aj (ws.length:Int) with
  | false=>rw[fH g];rfl
  | true =>
   have N:=(aa _).1 g;have a:fe ws.length 128=false:=by unfold fe;simp;omega
   cases j:blocks ws 128 with
   | none=>rw[nX j,eP g a (by simpa using j)];rfl
   | some l =>exfalso;apply d;simp[cc,g,a,j]
 have E:=hid hw;rw[p] at B;have Y:(cc ws 128 != 0)=true:=by rw[kqv];exact d
 have Z:=hid d;obtain⟨r,H⟩:=xq (cc ws 128);rw[H] at B E Y Z;clear d p hw H C;go_enter func26,ntmps26;go_wp2_with fail;refine B.out.mono ?_;rintro e w1 ⟨⟨A1,c1,rfl,-⟩,s⟩;go_wp2;go_ret2;exact⟨rj E.out Z.out,s⟩
theorem vr(A:Option Addr)(ws:List Nat)(c n a:Nat)(w:World)(hn:ws.length=n)(ha:a+8<=n)(hm:n<=2048)(hc:n<=c)(hr:RdW w w.heap.size A ws):
 Calls prog 157 #[.slice A n c,.int .i64 (a:Int)] w λe w'=>e=.returned (.bool (fi ws a))/\w=w':=by
 subst hn;have z:=hid hr;have q:=hid (jJ ws a);obtain⟨b,off,rfl,j,-⟩:=RdW.at_ hr (show 0<ws.length by omega);have k2:IntKind.i64.wrap ((a:Int)+8)=((a+8:Nat):Int):=by rw[kqs _ (by omega)];omega
 have k3:a+8<=c:=by omega
 have k4:a<=a+8:=by omega
 clear hr j;go_enter func157,ntmps157;go_wp2_with fail
 go_loop [13] (λi=>∃k:Nat,k<=8/\i=.int .i64 k/\Hid (pA ws a k)) (λi=>8-(intOf i).toNat)
 case atStart=>exact⟨0,kqy _,rfl,hid λi h=>absurd h (by omega)⟩
 obtain⟨k,hk,rfl,r⟩:=hrel;by_cases m:k<8
 .obtain ⟨b',off',v,j,l⟩:=RdW.at_ z.out (show a+k<ws.length by omega);cases v;rw[<-cA] at l;have o:Hid (wd ws (a+k)=0->pA ws a (k+1)):=hid λh i y=>by
   rcases kq6 i k with t|t
   .exact r.out i t
   have:i=k:=by omega
   subst this;exact h
  have s:Hid (wd ws (a+k)≠0->fi ws a=false):=hid λh=>by
   cases u:fi ws a with
   | false=>rfl
   | true=>exact absurd (q.out.1 u k m) h
  rw[<-kj7] at l;obtain⟨x,p⟩:=xq (wd ws (a+k));rw[p] at l o s;have hki:(k:Int)<8:=by omega
  have hk0:(0:Int)<=(k:Int):=by omega
  clear p j;by_cases d:x=0
  .have f:=hid (o.out d);subst d;go_wp2_with fail
   go_round
   case rel=>exact⟨k+1,by omega,by go_num,f⟩
   case measure=>simp[intOf];omega
  have g:=hid (s.out d);have e1:((x:Int) != 0)=true:=by rw[kqv];omega
  have e1n:(x != 0)=true:=by rw[kqv];exact d
  clear d;go_wp2;go_ret;exact⟨by rw[g.out];rfl,rfl⟩
 have g:Hid (fi ws a=true):=hid (q.out.2 λi y=>r.out i (by omega));obtain rfl:k=8:=by omega
 go_wp2;go_ret;exact⟨by rw[g.out];rfl,rfl⟩
open Go.RowKit Go.Maps
def fk (ad:List Int):Nat->DataW Unit
 | 0=>.map []
 | k+1=>(fk ad k).put (.int .i64 (ad[k]?.getD 0)) (.lit (.bool true))
theorem xh(ad:List Int)(k:Nat):IsMap (fk ad k):=by
 induction k with
 | zero=>exact isMap_empty
 | succ k ih=>exact ih.put _ _
theorem ni(ad:List Int)(x:Int)(k:Nat):(fk ad k).atKey (.int .i64 x) (.lit (.bool false))=.lit (.bool (bT ad x k)):=by
 induction k with
 | zero=>rfl
 | succ k ih =>
  simp only[fk,bT];by_cases e:ad[k]?.getD 0=x
  .rw[e,atKey_put_same (xh ad k) (by trivial)];simp
  rw[atKey_put_other (by intro h;injection h with _ h;exact e h.symm),ih];have:(ad[k]?.getD 0==x)=false:=by rw[kqi];exact e
  rw[this,kkl]
theorem lk{H:Type}(he:P.underlying e=some .bool){v:Value}{z:DataW H × List MemPlace}(h:plainElem P e v=some z):∃c,v=.bool c/\z=(.lit (.bool c),[]):=by
 unfold plainElem at h;rw[he] at h;cases v<;>simp at h
 exact⟨_,rfl,h.symm⟩
theorem iS{H:Type}{D:DataW H}(h:w.ownsMap P k (plainElem P e) b n D)(K:Keyed P k)(ht:P.underlying t=some (.map k e))(he:P.underlying e=some .bool)(hz:(zeroValue e).run P w=.ok (.bool false) w){key:Value}{kl:Lit}(hkey:keyOf P k key=some kl){c:Bool}(hc:D.atKey kl (.lit (.bool false))=.lit (.bool c)):(Instr.lookup t (.map (some b)) key false).run P w=.ok (.bool c) w:=by obtain⟨v,ps,d,g⟩:=h.lookup K ht hz (plainElem_bool he false) hkey;obtain⟨c',rfl,a⟩:=lk he g;simp only[Prod.mk.injEq] at a;rw[hc] at a;obtain⟨f,-⟩:=a;injection f with f;injection f with f;subst f;exact d
theorem nT:Keyed prog 3:=int_keyed underlying3
theorem mR(w:World):(zeroValue 4).run prog w=.ok (.bool false) w:=by kernel_rfl
theorem gu{h:Nat}{cs:Array Value}{R:Value->Option (DataW Unit × List MemPlace)}{D:DataW Unit}(hb:Bx w h t cs)(ho:w.ownsMap P k R b n D):some h≠some b:=by rintro e;injection e with e;subst e;obtain⟨es,clock,a,_⟩:=ho;rw[show w.heap[h]? = _ from hb] at a;cases a
theorem Bx.c5(h:Bx w g t #[x0,x1,x2,x3,x4]):w.cell? ⟨g,0,none⟩=some x0/\w.cell? ⟨g,1,none⟩=some x1/\w.cell? ⟨g,2,none⟩=some x2 /\
 w.cell? ⟨g,3,none⟩=some x3/\w.cell? ⟨g,4,none⟩=some x4/\(∀i,w.frozen? ⟨g,i,none⟩=false)/\g<w.heap.size:=
 ⟨h.cell 0,h.cell 1,h.cell 2,h.cell 3,h.cell 4,h.frozen,h.lt⟩
theorem Fe(A TA SA OA:Option Addr)(c n tc tn sc sn oc on mb a z ty nx:Nat)(xk:Int)(mk:Bool)(w:World):
 Calls prog 95 #[.agg #[.slice A n c,.slice TA tn tc,.slice SA sn sc,.slice OA on oc,.map (some mb)],.agg #[.int .i64 (a:Int),.int .i64 (z:Int),.int .i64 xk,.int .i64 (ty:Int),.bool mk,.int .u64 (nx:Int)]] w λe w'=>e=.returned (.bool (!(mk||decide (0<nx))))/\Below w.heap.size w w':=by
 have xs:=(Bx.new w 163 #[.slice A n c,.slice TA tn tc,.slice SA sn sc,.slice OA on oc,.map (some mb)]).alloc (.cells #[.int .i64 (a:Int),.int .i64 (z:Int),.int .i64 xk,.int .i64 (ty:Int),.bool mk,.int .u64 (nx:Int)] 55);have b:=Bx.new (w.alloc (.cells #[.slice A n c,.slice TA tn tc,.slice SA sn sc,.slice OA on oc,.map (some mb)] 163)) 55 #[.int .i64 (a:Int),.int .i64 (z:Int),.int .i64 xk,.int .i64 (ty:Int),.bool mk,.int .u64 (nx:Int)];rw[kqm] at b;have XS:=hid xs;have XB:=hid b;have g:=hid (((kqk w.heap.size w).alloc (kqa _) (.cells #[.slice A n c,.slice TA tn tc,.slice SA sn sc,.slice OA on oc,.map (some mb)] 163)).alloc (by simp) (.cells #[.int .i64 (a:Int),.int .i64 (z:Int),.int .i64 xk,.int .i64 (ty:Int),.bool mk,.int .u64 (nx:Int)] 55));clear xs b;have f:((nx:Int)==0) = !decide (0<nx):=by rw[kzg,kqw,kx4,kqc];omega
 obtain⟨q,d⟩:=xq (decide (0<nx));rw[d] at f |-;clear d;cases mk
 all_goals
  go_enter func95,ntmps95;go_wp2;go_ret;exact⟨rfl,g.out⟩
theorem Dg(A TA SA OA:Option Addr)(L:List Ty)(c n tc tn sc sn oc on mb a z ty nx:Nat)(xk:Int)(mk:Bool)(w:World)(ht:L.length=tn)(hk:∀x∈L,da x.l=0/\kSz x.l=bi x.l.length/\x.l.length<=8)(hL:RdL w w.heap.size TA L):
 Calls prog 96 #[.agg #[.slice A n c,.slice TA tn tc,.slice SA sn sc,.slice OA on oc,.map (some mb)],.agg #[.int .i64 (a:Int),.int .i64 (z:Int),.int .i64 xk,.int .i64 (ty:Int),.bool mk,.int .u64 (nx:Int)]] w λe w'=>e=.returned (.bool (decide (ty<L.length)&&bi (((L.map Ty.l)[ty]?).getD []).length==z))/\Below w.heap.size w w':=by
 have xs:=(Bx.new w 163 #[.slice A n c,.slice TA tn tc,.slice SA sn sc,.slice OA on oc,.map (some mb)]).alloc (.cells #[.int .i64 (a:Int),.int .i64 (z:Int),.int .i64 xk,.int .i64 (ty:Int),.bool mk,.int .u64 (nx:Int)] 55);have t:=Bx.new (w.alloc (.cells #[.slice A n c,.slice TA tn tc,.slice SA sn sc,.slice OA on oc,.map (some mb)] 163)) 55 #[.int .i64 (a:Int),.int .i64 (z:Int),.int .i64 xk,.int .i64 (ty:Int),.bool mk,.int .u64 (nx:Int)];rw[kqm] at t;have XS:=hid xs;have XB:=hid t;have p:=hid (((kqk w.heap.size w).alloc (kqa _) (.cells #[.slice A n c,.slice TA tn tc,.slice SA sn sc,.slice OA on oc,.map (some mb)] 163)).alloc (by simp) (.cells #[.int .i64 (a:Int),.int .i64 (z:Int),.int .i64 xk,.int .i64 (ty:Int),.bool mk,.int .u64 (nx:Int)] 55));clear xs t;subst ht;have G:=hid (hL.up p.out (kqa _));have hz1:=p.out.size;clear hL;by_cases d:ty<L.length
 .obtain ⟨b,off,rfl,I,E⟩:=oN G.out.1 d;have g:=G.out.2 _ (kqq d);obtain⟨i,f,j⟩:=hk _ (kqq d);have k:Hid ((decide (ty<L.length)&&bi (((L.map Ty.l)[ty]?).getD []).length==z)=(bi L[ty].l.length==z)):=hid (by
   rw[decide_eq_true d,kxf,kql d];rfl)
  obtain⟨x,y⟩:=xq (L[ty]);rw[y] at E i f j g k;obtain⟨C,J,m⟩:=x;dsimp only at E i f j g k;have s:=hid g;have u:=hid (λW B (h:RdY W B C m)=>sX C m J m.length B W rfl (by omega) h);rw[i,f] at u;have D:(((bi m.length:Nat):Int)==(z:Int))=(bi m.length==z):=by rw[kzg,kqw,kqw];omega
  obtain⟨o,F⟩:=xq (bi m.length);rw[F] at k u D;obtain⟨q,v⟩:=xq ((o==z));rw[v] at k D;have H:decide ((L.length:Int)<=(ty:Int))=false:=by rw[kqc];omega
  have r:decide (L.length<=ty)=false:=by rw[kqc];omega
  have j1:(ty:Int)<(L.length:Int):=by omega
  have j0:(0:Int)<=(ty:Int):=by omega
  clear y F v hk i f j g d I;go_enter func96,ntmps96;go_wp2_with fail;refine (u.out _ _ s.out).mono ?_;rintro e w1 ⟨rfl,rfl⟩;go_wp2;go_ret;exact⟨by rw[k.out];rfl,p.out⟩
 have k:Hid ((decide (ty<L.length)&&bi (((L.map Ty.l)[ty]?).getD []).length==z)=false):=hid (by rw[decide_eq_false d];rfl);have H:decide ((L.length:Int)<=(ty:Int))=true:=by rw[kqn];omega
 have r:decide (L.length<=ty)=true:=by rw[kqn];omega
 clear d hk;go_enter func96,ntmps96;go_wp2;go_ret;exact⟨by rw[k.out];rfl,p.out⟩
theorem FM{q:Nat}(h:q<18446744073709551616):bits BinOp.and .u64 (q:Int) 2047=((q%2048:Nat):Int):=by
 have:=u64_and_nat q 2047 h (by omega);rw[show (((2047:Nat)):Int)=2047 from rfl] at this;rw[this];have e:q &&& 2047=q%2048:=by rw[show (2047:Nat)=2 ^ 11-1 by decide,kxx]
 rw[e]
theorem Br(v:Nat)(w:World)(hv:v<18446744073709551616):Calls prog 159 #[.int .u64 (v:Int)] w λe w'=>e=.returned (.bool (vW v))/\w=w':=by
 have j:Hid (vW v=(v==9221120237041090561||decide (v%9223372036854775808<=9218868437227405312))):=hid rfl;have b:Hid (v/4503599627370496%2048≠2047->vW v=true):=hid λh=>by rw[j.out,decide_eq_true (by omega),kvc]
 have i:Hid (v*4096%18446744073709551616=0->vW v=true):=hid λh=>by rw[j.out,decide_eq_true (by omega),kvc]
 have a:Hid (v/4503599627370496%2048=2047->¬ v*4096%18446744073709551616=0->vW v=(v==9221120237041090561)):=hid λh g=>by rw[j.out,decide_eq_false (by omega),kkl]
 have l:=FM (q:=v/4503599627370496) (by omega);have t:(v:Int)/4503599627370496=((v/4503599627370496:Nat):Int):=by omega
 have p:IntKind.u64.wrap ((v:Int)*4096)=((v*4096%18446744073709551616:Nat):Int):=by simp[IntKind.wrap,IntKind.bits,IntKind.signed]
 obtain⟨q,k⟩:=xq (v/4503599627370496);rw[k] at b a l t;obtain⟨r,n⟩:=xq (q%2048);rw[n] at b a l;obtain⟨m,d⟩:=xq (v*4096%18446744073709551616);rw[d] at i a p;have e3:((v:Int)==9221120237041090561)=(v==9221120237041090561):=by rw[kzg,kqw,kqw];omega
 clear k n d hv;by_cases c:r=2047
 .have s:((r:Int) != 2047)=false:=by rw[kqr];omega
  by_cases g:m=0
  .have f:=hid (i.out g);have o:((m:Int)==0)=true:=by rw[kqw];omega
   clear c g;go_enter func159,ntmps159;go_wp2;go_ret;exact⟨by rw[f.out];rfl,rfl⟩
  have f:=hid (a.out c g);have o:((m:Int)==0)=false:=by rw[kqi];omega
  clear c g;go_enter func159,ntmps159;go_wp2;go_ret;exact⟨by rw[f.out];rfl,rfl⟩
 have f:=hid (b.out c);have s:((r:Int) != 2047)=true:=by rw[kqv];omega
 clear c;go_enter func159,ntmps159;go_wp2;go_ret;exact⟨by rw[f.out];rfl,rfl⟩
theorem sy(O:List Bk)(v:Nat):∀k,k<=O.length->bT (O.map Bk.at_) (v:Int) k=(O.take k).any λb=>b.at_==(v:Int):=by
 intro k
 induction k with
 | zero=>intro _;rfl
 | succ k ih =>intro a;simp only[bT];rw[ih (by omega),kqp (show k<O.length from a),List.any_append,kxf,kql (show k<O.length from a)];simp
theorem uV(O:List Bk)(v:Nat):bT (O.map Bk.at_) (v:Int) O.length=my O v:=by rw[sy O v O.length (kqa _),kzl];rfl
structure SgW (W:World) (A TA:Option Addr) (ws:List Nat) (L:List Ty) (O:List Bk) (mb:Nat):Prop where
 w:RdW W W.heap.size A ws
 t:RdL W W.heap.size TA L
 m:W.ownsMap prog 3 (plainElem prog 4) mb O.length (fk (O.map Bk.at_) O.length)
theorem eg{R:Value->Option (DataW Unit × List MemPlace)}{D:DataW Unit}(h:w.ownsMap P k R b n D)(hb:w'.heap[b]? = w.heap[b]?):w'.ownsMap P k R b n D:=by obtain⟨c,a,d,r⟩:=h;exact⟨c,a,hb.trans d,r⟩
theorem yL(A TA SA OA:Option Addr)(ws:List Nat)(L:List Ty)(c n tc tn sc sn oc on mb a z ty nx:Nat)(xk:Int)(mk:Bool)(w:World)(hn:ws.length=n)(hm:n<=2048)(ht:L.length=tn)(hty:ty<L.length)(h8:L[ty].l.length<=8)(hz:z=bi L[ty].l.length)(haz:a+z<=n)(hR:RdW w w.heap.size A ws)(hL:RdL w w.heap.size TA L):
 Calls prog 97 #[.agg #[.slice A n c,.slice TA tn tc,.slice SA sn sc,.slice OA on oc,.map (some mb)],.agg #[.int .i64 (a:Int),.int .i64 (z:Int),.int .i64 xk,.int .i64 (ty:Int),.bool mk,.int .u64 (nx:Int)]] w λe w'=>e=.returned (.bool (!(decide (L[ty].l.length+2<z)&&wd ws (a+2+L[ty].l.length) != 0)))/\Below w.heap.size w w':=by
 have xs:=(Bx.new w 163 #[.slice A n c,.slice TA tn tc,.slice SA sn sc,.slice OA on oc,.map (some mb)]).alloc (.cells #[.int .i64 (a:Int),.int .i64 (z:Int),.int .i64 xk,.int .i64 (ty:Int),.bool mk,.int .u64 (nx:Int)] 55);have t:=Bx.new (w.alloc (.cells #[.slice A n c,.slice TA tn tc,.slice SA sn sc,.slice OA on oc,.map (some mb)] 163)) 55 #[.int .i64 (a:Int),.int .i64 (z:Int),.int .i64 xk,.int .i64 (ty:Int),.bool mk,.int .u64 (nx:Int)];rw[kqm] at t;have XS:=hid xs;have XB:=hid t;have i:=hid (((kqk w.heap.size w).alloc (kqa _) (.cells #[.slice A n c,.slice TA tn tc,.slice SA sn sc,.slice OA on oc,.map (some mb)] 163)).alloc (by simp) (.cells #[.int .i64 (a:Int),.int .i64 (z:Int),.int .i64 xk,.int .i64 (ty:Int),.bool mk,.int .u64 (nx:Int)] 55));clear xs t;subst ht hn;have K:=hid (hL.up i.out (kqa _));have hz1:=i.out.size;obtain⟨b,off,rfl,B,s⟩:=oN K.out.1 hty;obtain⟨x,k⟩:=xq (L[ty]);rw[k] at s h8 hz |-;obtain⟨xA,xc,I⟩:=x;dsimp only at s h8 hz |-;have j1:(ty:Int)<(L.length:Int):=by omega
 have j0:(0:Int)<=(ty:Int):=by omega
 obtain⟨m,d⟩:=xq I.length;rw[d] at s h8 hz |-;by_cases h:m%2=0
 .have f:Hid ((!(decide (m+2<z)&&wd ws (a+2+m) != 0))=true):=hid (by rw[decide_eq_false (by rw[hz];unfold bi;omega)];rfl);have H:((m:Int)%2==0)=true:=by rw[kqw];omega
  clear h hz haz h8 hm k d hL hR B;go_enter func97,ntmps97;go_wp2;go_ret;exact⟨by rw[f.out];rfl,i.out⟩
 obtain⟨b2,off2,rfl,j,r⟩:=RdW.at_ (hR.up i.out (kqa _)) (show a+2+m<ws.length by rw[hz] at haz;unfold bi at haz;omega);rw[<-cA] at r;have F:IntKind.i64.wrap ((a:Int)+2)=((a+2:Nat):Int):=by rw[kqs _ (by omega)];omega
 have C:IntKind.i64.wrap (((a+2:Nat):Int)+(m:Int))=((a+2+m:Nat):Int):=by rw[kqs _ (by omega)];omega
 have J:((a+2+m:Nat):Int)<(ws.length:Int):=by rw[hz] at haz;unfold bi at haz;omega
 have G:(0:Int)<=((a+2+m:Nat):Int):=by omega
 have f:Hid ((!(decide (m+2<z)&&wd ws (a+2+m) != 0))=(wd ws (a+2+m)==0)):=hid (by rw[decide_eq_true (by rw[hz];unfold bi;omega),kzq];exact Bool.not_not _);have H:((m:Int)%2==0)=false:=by rw[kqi];omega
 obtain⟨p,u⟩:=xq (a+2+m);rw[u] at r C J G f;obtain⟨g,D⟩:=xq (a+2);rw[D] at F C;obtain⟨v,o⟩:=xq (wd ws p);rw[u,o];rw[o] at r f;have E:((v:Int)==0)=(v==0):=by rw[kzg,kqw,kqw];omega
 obtain⟨q,y⟩:=xq ((v==0));rw[y] at f E;clear h hz haz h8 hm k d hL hR B u D o y j;go_enter func97,ntmps97;go_wp2;go_ret;exact⟨by rw[f.out];rfl,i.out⟩
def Jk (ws F:List Nat) (O:List Bk) (a r k:Nat):Prop:=∀i,i<k->wrF ws F O a r i=false
theorem sb{k:Nat}(h:Jk ws F O a r k)(h1:wrF ws F O a r k=false):Jk ws F O a r (k+1):=λi hi=>by
 rcases kq6 i k with b|b
 .exact h i b
 .have:i=k:=by omega
  subst this;exact h1
theorem GA(h:Jk ws F O a r F.length):((List.range F.length).any λi=>wrF ws F O a r i)=false:=by rw[kj5];intro i b;rw[h i (kzj.1 b)];simp
theorem F7{k:Nat}(hk:k<F.length)(h:wrF ws F O a r k=true):((List.range F.length).any λi=>wrF ws F O a r i)=true:=kx3.2 ⟨k,kzj.2 hk,h⟩
theorem yC(A TA SA OA:Option Addr)(ws:List Nat)(L:List Ty)(O:List Bk)(c n tc tn sc sn oc on mb a z ty nx:Nat)(xk:Int)(mk:Bool)(w:World)(hn:ws.length=n)(hm:n<=2048)(ht:L.length=tn)(hty:ty<L.length)(h8:L[ty].l.length<=8)(hz:z=bi L[ty].l.length)(haz:a+z<=n)(hR:RdW w w.heap.size A ws)(hL:RdL w w.heap.size TA L)(ho:∀x∈ws,x<18446744073709551616):
 Calls prog 98 #[.agg #[.slice A n c,.slice TA tn tc,.slice SA sn sc,.slice OA on oc,.map (some mb)],.agg #[.int .i64 (a:Int),.int .i64 (z:Int),.int .i64 xk,.int .i64 (ty:Int),.bool mk,.int .u64 (nx:Int)]] w λe w'=>e=.returned (.bool (!((List.range L[ty].l.length).any λi=>wrF ws L[ty].l O a 10 i)))/\Below w.heap.size w w':=by
 have xs:=(Bx.new w 163 #[.slice A n c,.slice TA tn tc,.slice SA sn sc,.slice OA on oc,.map (some mb)]).alloc (.cells #[.int .i64 (a:Int),.int .i64 (z:Int),.int .i64 xk,.int .i64 (ty:Int),.bool mk,.int .u64 (nx:Int)] 55);have xb:=Bx.new (w.alloc (.cells #[.slice A n c,.slice TA tn tc,.slice SA sn sc,.slice OA on oc,.map (some mb)] 163)) 55 #[.int .i64 (a:Int),.int .i64 (z:Int),.int .i64 xk,.int .i64 (ty:Int),.bool mk,.int .u64 (nx:Int)];rw[kqm] at xb;have XS:=hid xs;have XB:=hid xb;have H:=hid (((kqk w.heap.size w).alloc (kqa _) (.cells #[.slice A n c,.slice TA tn tc,.slice SA sn sc,.slice OA on oc,.map (some mb)] 163)).alloc (by simp) (.cells #[.int .i64 (a:Int),.int .i64 (z:Int),.int .i64 xk,.int .i64 (ty:Int),.bool mk,.int .u64 (nx:Int)] 55));clear xs xb;subst ht hn;have T:=hid (hL.up H.out (kqa _));have Q:=H.out.size;obtain⟨b,R,rfl,hb,P⟩:=oN T.out.1 hty;have J:=T.out.2 _ (kqq hty);obtain⟨x,hx⟩:=xq (L[ty]);rw[hx] at P h8 hz J |-;obtain⟨xA,xc,o⟩:=x;dsimp only at P h8 hz J |-;have HY:=hid J;have HR:=hid (hR.up H.out (kqa _));have j1:(ty:Int)<(L.length:Int):=by omega
 have j0:(0:Int)<=(ty:Int):=by omega
 have C:Hid (∀k,k<o.length->a+2+k<ws.length):=hid λk I=>by rw[hz] at haz;unfold bi at haz;omega
 have Z:=hid (fM ho);have K:Hid (Jk ws o O a 10 0):=hid λi h=>absurd h (by omega);have U:=hid (λh=>GA (ws:=ws) (F:=o) (O:=O) (a:=a) (r:=10) h);have Y:=hid (λk I h=>F7 (ws:=ws) (F:=o) (O:=O) (a:=a) (r:=10) (k:=k) I h);have ha:a<=2048:=by omega
 obtain⟨q0,q1,q2,q3,q4,-,-⟩:=XS.out.c5;obtain⟨r0,r1,r2,r3,r4,r5,-,-⟩:=XB.out.c6;obtain⟨N,t⟩:∃N,(w.alloc (.cells #[.slice A ws.length c,.slice (some ⟨b,R,none⟩) L.length tc,.slice SA sn sc,.slice OA on oc,.map (some mb)] 163)).alloc (.cells #[.int .i64 (a:Int),.int .i64 (z:Int),.int .i64 xk,.int .i64 (ty:Int),.bool mk,.int .u64 (nx:Int)] 55)=N:=⟨_,rfl⟩;rw[t] at P HY HR q0 q1 q2 q3 q4 r0 r1 r2 r3 r4 r5;have D:=hid (show Below w.heap.size w N by rw[<-t];exact H.out);clear hz haz hm hx hL hR hb J ho XS XB H T Q;go_enter func98,ntmps98;go_wp2_with fail;clear t
 go_loop [14] (λi=>∃k:Nat,k<=o.length/\i=.int .i64 k/\Hid (Jk ws o O a 10 k)) (λi=>o.length-(intOf i).toNat)
 case atStart=>exact⟨0,kqy _,rfl,K⟩
 obtain⟨k,I,rfl,HW⟩:=hrel;by_cases j:k<o.length
 .obtain ⟨g,go,rfl,hg,y0⟩:=HY.out.at_ j;obtain⟨d,dof,rfl,hd,X⟩:=RdW.at_ HR.out (C.out k j);rw[<-cA] at X;have hj:=C.out k j;have E:=hid (λW=>Br (wd ws (a+2+k)) W (Z.out _));have m:wrF ws o O a 10 k=(o[k]? == some 2 && !vW (wd ws (a+2+k))):=rfl;rw[kql j] at m;have HS:=hid (λh=>sb HW.out h);have M:=hid (λh=>Y.out k j h);have i1:IntKind.i64.wrap ((a:Int)+2)=((a+2:Nat):Int):=by rw[kqs _ (by omega)];omega
  have i2:IntKind.i64.wrap (((a+2:Nat):Int)+(k:Int))=((a+2+k:Nat):Int):=by rw[kqs _ (by omega)];omega
  have k1:((a+2+k:Nat):Int)<(ws.length:Int):=by omega
  have k0:(0:Int)<=((a+2+k:Nat):Int):=by omega
  have hki:(k:Int)<(o.length:Int):=by omega
  have hk0:(0:Int)<=(k:Int):=by omega
  obtain⟨y,B⟩:=xq (o[k]);rw[B] at y0 m;obtain⟨p,hp⟩:=xq (a+2+k);rw[hp] at X i2 k1 k0 E m;obtain⟨s,hs⟩:=xq (a+2);rw[hs] at i1 i2;obtain⟨v,hv⟩:=xq (wd ws p);rw[hv] at X E m;obtain⟨f,hf⟩:=xq (vW v);rw[hf] at E m;have u:=hid m;clear B hp hs hv hf m hj;by_cases q:y=2
  .subst q;cases f
   .have V:=hid (M.out (by rw[u.out];rfl));go_wp2_with fail;refine (E.out _).mono ?_;rintro e w5 ⟨rfl,rfl⟩;go_wp2;go_ret;exact⟨by rw[V.out];rfl,D.out⟩
   have S:=hid (HS.out (by rw[u.out];rfl));go_wp2_with fail;refine (E.out _).mono ?_;rintro e w5 ⟨rfl,rfl⟩;go_wp2_with fail
   go_round
   case rel=>exact⟨k+1,by omega,by go_num,S⟩
   case measure=>simp[intOf];omega
  have e1:((y:Int)==2)=false:=by rw[kqi];omega
  have S:=hid (HS.out (by rw[u.out,show ((some y:Option Nat)==some 2)=false by simpa using q];rfl));clear q;go_wp2_with fail
  go_round
  case rel=>exact⟨k+1,by omega,by go_num,S⟩
  case measure=>simp[intOf];omega
 have G:k=o.length:=by omega
 have V:=hid (U.out (G ▸ HW.out));have hend:decide ((k:Int)<(o.length:Int))=false:=by rw[kqc];omega
 have hendn:decide (k<o.length)=false:=by rw[kqc];exact j
 clear G j I;go_wp2;go_ret;exact⟨by rw[V.out];rfl,D.out⟩
theorem EO(A TA SA OA:Option Addr)(ws:List Nat)(L:List Ty)(O:List Bk)(c n tc tn sc sn oc on mb a z ty nx:Nat)(xk:Int)(mk:Bool)(w:World)(hn:ws.length=n)(hm:n<=2048)(ht:L.length=tn)(hty:ty<L.length)(h8:L[ty].l.length<=8)(hz:z=bi L[ty].l.length)(haz:a+z<=n)(hR:RdW w w.heap.size A ws)(hL:RdL w w.heap.size TA L)(ho:∀x∈ws,x<18446744073709551616)(hO:∀b∈O,b.at_<(n:Int))(hM:w.ownsMap prog 3 (plainElem prog 4) mb O.length (fk (O.map Bk.at_) O.length)):
 Calls prog 99 #[.agg #[.slice A n c,.slice TA tn tc,.slice SA sn sc,.slice OA on oc,.map (some mb)],.agg #[.int .i64 (a:Int),.int .i64 (z:Int),.int .i64 xk,.int .i64 (ty:Int),.bool mk,.int .u64 (nx:Int)]] w λe w'=>e=.returned (.bool (!((List.range L[ty].l.length).any λi=>wrF ws L[ty].l O a 11 i)))/\Below w.heap.size w w':=by
 have xs:=(Bx.new w 163 #[.slice A n c,.slice TA tn tc,.slice SA sn sc,.slice OA on oc,.map (some mb)]).alloc (.cells #[.int .i64 (a:Int),.int .i64 (z:Int),.int .i64 xk,.int .i64 (ty:Int),.bool mk,.int .u64 (nx:Int)] 55);have xb:=Bx.new (w.alloc (.cells #[.slice A n c,.slice TA tn tc,.slice SA sn sc,.slice OA on oc,.map (some mb)] 163)) 55 #[.int .i64 (a:Int),.int .i64 (z:Int),.int .i64 xk,.int .i64 (ty:Int),.bool mk,.int .u64 (nx:Int)];rw[kqm] at xb;have XS:=hid xs;have XB:=hid xb;have J:=hid (((kqk w.heap.size w).alloc (kqa _) (.cells #[.slice A n c,.slice TA tn tc,.slice SA sn sc,.slice OA on oc,.map (some mb)] 163)).alloc (by simp) (.cells #[.int .i64 (a:Int),.int .i64 (z:Int),.int .i64 xk,.int .i64 (ty:Int),.bool mk,.int .u64 (nx:Int)] 55));clear xs xb;subst ht hn;have HL:=hid (hL.up J.out (kqa _));have Ka:=J.out.size;obtain⟨b,off,rfl,hb,p0⟩:=oN HL.out.1 hty;have X:=HL.out.2 _ (kqq hty);obtain⟨x,hx⟩:=xq (L[ty]);rw[hx] at p0 h8 hz X |-;obtain⟨xA,xc,f⟩:=x;dsimp only at p0 h8 hz X |-;have HY:=hid X;have HR:=hid (hR.up J.out (kqa _));have j1:(ty:Int)<(L.length:Int):=by omega
 have j0:(0:Int)<=(ty:Int):=by omega
 have Q:Hid (∀k,k<f.length->a+2+k<ws.length):=hid λk V=>by rw[hz] at haz;unfold bi at haz;omega
 have Kf:=hid (fM ho);have I:=hid hm;have S:=hid (eg hM (J.out.block mb hM.lt));have Kb:Hid (∀v:Nat,ws.length<=v->my O v=false):=hid λv Z=>by
  cases Y:my O v with
  | false=>rfl
  | true =>obtain⟨b,hb,e⟩:=kx3.1 Y;rw[kqw] at e;have:=hO b hb;omega
 have Eq:Hid (Jk ws f O a 11 0):=hid λi h=>absurd h (by omega);have Kd:=hid (λh=>GA (ws:=ws) (F:=f) (O:=O) (a:=a) (r:=11) h);have Ke:=hid (λk V h=>F7 (ws:=ws) (F:=f) (O:=O) (a:=a) (r:=11) (k:=k) V h);have ha:a<=2048:=by omega
 obtain⟨q0,q1,q2,q3,q4,-,-⟩:=XS.out.c5;obtain⟨r0,r1,r2,r3,r4,r5,-,-⟩:=XB.out.c6;obtain⟨W,E⟩:∃W,(w.alloc (.cells #[.slice A ws.length c,.slice (some ⟨b,off,none⟩) L.length tc,.slice SA sn sc,.slice OA on oc,.map (some mb)] 163)).alloc (.cells #[.int .i64 (a:Int),.int .i64 (z:Int),.int .i64 xk,.int .i64 (ty:Int),.bool mk,.int .u64 (nx:Int)] 55)=W:=⟨_,rfl⟩;rw[E] at p0 HY HR S q0 q1 q2 q3 q4 r0 r1 r2 r3 r4 r5;have D:=hid (show Below w.heap.size w W by rw[<-E];exact J.out);clear hz haz hm hx hL hR hb X ho hO hM XS XB J HL Ka;go_enter func99,ntmps99;go_wp2_with fail;clear E
 go_loop [15] (λi=>∃k:Nat,k<=f.length/\i=.int .i64 k/\Hid (Jk ws f O a 11 k)) (λi=>f.length-(intOf i).toNat)
 case atStart=>exact⟨0,kqy _,rfl,Eq⟩
 obtain⟨k,V,rfl,HW⟩:=hrel;by_cases j:k<f.length
 .obtain ⟨g,go,rfl,hg,y0⟩:=HY.out.at_ j;obtain⟨d,dof,rfl,hd,w0⟩:=RdW.at_ HR.out (Q.out k j);rw[<-cA] at w0;have hj:=Q.out k j;have m:wrF ws f O a 11 k=(f[k]? == some 3&&(decide (0<wd ws (a+2+k)) && !my O (wd ws (a+2+k)))):=rfl;rw[kql j] at m;have o:=Kf.out (a+2+k);have HS:=hid (λh=>sb HW.out h);have M:=hid (λh=>Ke.out k j h);have i1:IntKind.i64.wrap ((a:Int)+2)=((a+2:Nat):Int):=by rw[kqs _ (by omega)];omega
  have i2:IntKind.i64.wrap (((a+2:Nat):Int)+(k:Int))=((a+2+k:Nat):Int):=by rw[kqs _ (by omega)];omega
  have k1:((a+2+k:Nat):Int)<(ws.length:Int):=by omega
  have k0:(0:Int)<=((a+2+k:Nat):Int):=by omega
  have hki:(k:Int)<(f.length:Int):=by omega
  have hk0:(0:Int)<=(k:Int):=by omega
  have w1:IntKind.u64.wrap (ws.length:Int)=(ws.length:Int):=kzt _ (by have:=I.out;omega);obtain⟨y,N⟩:=xq (f[k]);rw[N] at y0 m;obtain⟨p,hp⟩:=xq (a+2+k);rw[hp] at w0 i2 k1 k0 m o;obtain⟨s,hs⟩:=xq (a+2);rw[hs] at i1 i2;obtain⟨v,Z⟩:=xq (wd ws p);rw[Z] at w0 m o;have t:=hid m;have u:=hid (Kb.out v);clear N hp hs Z m hj;by_cases B:y=3
  .subst B;by_cases H:v=0
   .subst H;have R:=hid (HS.out (by rw[t.out];rfl));clear o;go_wp2_with fail
    go_round
    case rel=>exact⟨k+1,by omega,by go_num,R⟩
    case measure=>simp[intOf];omega
   have e1:((v:Int) != 0)=true:=by rw[kqv];omega
   have e1n:(v != 0)=true:=by rw[kqv];omega
   by_cases G:ws.length<=v
   .have T:=hid (M.out (by rw[t.out,u.out G,decide_eq_true (by omega)];rfl));have d1:decide ((ws.length:Int)<=(v:Int))=true:=by rw[kqn];omega
    have d1n:decide (ws.length<=v)=true:=by rw[kqn];omega
    clear o G H;go_wp2;go_ret;exact⟨by rw[T.out];rfl,D.out⟩
   have d1:decide ((ws.length:Int)<=(v:Int))=false:=by rw[kqc];omega
   have d1n:decide (ws.length<=v)=false:=by rw[kqc];omega
   have w2:IntKind.i64.wrap (v:Int)=(v:Int):=kqs _ (by have:=I.out;omega);have K:(Lit.int .i64 (v:Int)).wf=true:=by have:=I.out;simp[Lit.wf,IntKind.min,IntKind.max,IntKind.signed,IntKind.bits];omega
   have Kc:=iS S.out nT underlying161 underlying4 (mR W) (keyOf_int_mk (P:=prog) underlying3 K) (c:=my O v) (by rw[ni,uV]);have C:Hid (wrF ws f O a 11 k = !my O v):=hid (by rw[t.out,decide_eq_true (by omega)];simp);obtain⟨q,Y⟩:=xq (my O v);rw[Y] at Kc C;clear o G H K Y u t;cases q
   .have T:=hid (M.out (by rw[C.out];rfl));go_wp2;go_ret;exact⟨by rw[T.out];rfl,D.out⟩
   have R:=hid (HS.out (by rw[C.out];rfl));go_wp2_with fail
   go_round
   case rel=>exact⟨k+1,by omega,by go_num,R⟩
   case measure=>simp[intOf];omega
  have e1:((y:Int)==3)=false:=by rw[kqi];omega
  have R:=hid (HS.out (by rw[t.out,show ((some y:Option Nat)==some 3)=false by simpa using B];rfl));clear B o;go_wp2_with fail
  go_round
  case rel=>exact⟨k+1,by omega,by go_num,R⟩
  case measure=>simp[intOf];omega
 have U:k=f.length:=by omega
 have T:=hid (Kd.out (U ▸ HW.out));have hend:decide ((k:Int)<(f.length:Int))=false:=by rw[kqc];omega
 have hendn:decide (k<f.length)=false:=by rw[kqc];exact j
 clear U j V;go_wp2;go_ret;exact⟨by rw[T.out];rfl,D.out⟩
def pC (l:List Nat):Array Value:=(l.flatMap ag).toArray
theorem AU(l:List Nat):(pC l).size=l.length:=by unfold pC;rw[kjw,cw _ 1 bt,kxm]
theorem Ec(l:List Nat):(pC l).all (·.oneCell')=true:=by
 rw[kk8];intro i hi;have:(pC l)[i]∈l.flatMap ag:=by unfold pC at *;simp
 obtain⟨x,-,a⟩:=kvg.1 this;rw[ag,kq1] at a;rw[a];rfl
theorem se:(prog.info? 242).map (·.size)=some 8:=by kernel_rfl
theorem Gs(w:World):(zeroValue 242).run prog w=.ok (.agg #[.int .u64 0,.int .u64 0,.int .u64 0,.int .u64 0,.int .u64 0,.int .u64 0,.int .u64 0,.int .u64 0]) w:=by kernel_rfl
theorem x8{fn:Func}{p:Tmp}(h:fn.results=#[.cell p 242])(tmps:Array Value){W:World}{cs:Array Value}(hb:Bx W g t cs)(hs:cs.size=8)(hp:tmps.getD p undef=.pointer (some ⟨g,0,none⟩)):
 (results fn tmps).run prog W=.ok (.agg cs) W:=by
 have a:tmps[p]?.getD undef=.pointer (some ⟨g,0,none⟩):=by simpa using hp
 have b:(prog.info? 242).map (·.size)=some cs.size:=by rw[hs];exact se
 have c:=run_loadVar_row W g t 242 cs (0,0) _ hb underlying242 rfl b;simp[results,h,a,asAddr,c]
theorem xw(n t:Nat)(w:World)(hn:n<=1000000)(ht:t<=1000000):
 Calls prog 174 #[.agg #[.int .i64 (n:Int),.int .i64 (t:Int)]] w λe w'=>e=.returned (.agg (pC (spL n t)))/\Below w.heap.size w w':=by
 have G:=hid (λA W (L:RdW W W.heap.size A (sp7 n t))=>qZ A (sp7 n t) 8 7 W rfl (by omega) L (λx H=>by
  simp only[sp7,kqx,kzf,or_false] at H;omega))
 obtain⟨q,r⟩:=xq (aY 14695981039346656037 (sp7 n t));have N:=hid (show pC (spL n t)=#[.int .u64 32777959566500194,.int .u64 1,.int .u64 (n:Int),.int .u64 (t:Int),.int .u64 0,.int .u64 0,.int .u64 0,.int .u64 (q:Int)] by
  unfold pC spL;rw[r];rfl)
 have y:Hid (∀W g,Bx W g 242 #[.int .u64 32777959566500194,.int .u64 1,.int .u64 (n:Int),.int .u64 (t:Int),.int .u64 0,.int .u64 0,.int .u64 0,.int .u64 0]->RdW W W.heap.size (some ⟨g,0,none⟩) (sp7 n t)):=hid λW g h=>(Rd.of_box h h.lt).take_ 7;rw[r] at G;have M:=hid (((kqk w.heap.size w).alloc (kqa _) (.cells #[.int .i64 (n:Int),.int .i64 (t:Int)] 126)).alloc (by simp) (.cells #[.int .u64 0,.int .u64 0,.int .u64 0,.int .u64 0,.int .u64 0,.int .u64 0,.int .u64 0,.int .u64 0] 242));have w1:IntKind.u64.wrap (n:Int)=(n:Int):=kzt _ (by omega);have w2:IntKind.u64.wrap (t:Int)=(t:Int):=kzt _ (by omega);have hzv:=Gs;have bx:=Bx.new ((w.alloc (.cells #[.int .i64 (n:Int),.int .i64 (t:Int)] 126)).alloc (.cells #[.int .u64 0,.int .u64 0,.int .u64 0,.int .u64 0,.int .u64 0,.int .u64 0,.int .u64 0,.int .u64 0] 242)) 242 #[.int .u64 0,.int .u64 0,.int .u64 0,.int .u64 0,.int .u64 0,.int .u64 0,.int .u64 0,.int .u64 0];rw[kqm,kqm] at bx;have K:=hid bx;have z:=hid (((M.out.alloc (by simp;omega) (.cells #[.int .u64 0,.int .u64 0,.int .u64 0,.int .u64 0,.int .u64 0,.int .u64 0,.int .u64 0,.int .u64 0] 242))));have B:=Bx.new (w.alloc (.cells #[.int .i64 (n:Int),.int .i64 (t:Int)] 126)) 242 #[.int .u64 0,.int .u64 0,.int .u64 0,.int .u64 0,.int .u64 0,.int .u64 0,.int .u64 0,.int .u64 0]
 rw[kqm] at B;have F:=hid (B.alloc (.cells #[.int .u64 0,.int .u64 0,.int .u64 0,.int .u64 0,.int .u64 0,.int .u64 0,.int .u64 0,.int .u64 0] 242));have D:(prog.info? 242).map (·.size)=some (#[.int .u64 32777959566500194,.int .u64 1,.int .u64 (n:Int),.int .u64 (t:Int),.int .u64 0,.int .u64 0,.int .u64 0,.int .u64 0]:Array Value).size:=se;clear r bx B;have hbd:∀W,(Instr.build 242 #[(0,.int .u64 32777959566500194),(1,.int .u64 1),(2,.int .u64 (n:Int)),(3,.int .u64 (t:Int))]).run prog W=.ok (.agg #[.int .u64 32777959566500194,.int .u64 1,.int .u64 (n:Int),.int .u64 (t:Int),.int .u64 0,.int .u64 0,.int .u64 0,.int .u64 0]) W:=λ_=>by kernel_rfl
 go_enter func174,ntmps174;go_wp2_with (first
  | ((with_reducible refine ar 242 (.tmp 3) _ ?_);refine am rfl _ _ _ rfl (w.heap.size+1+1) 242 #[.int .u64 0,.int .u64 0,.int .u64 0,.int .u64 0,.int .u64 0,.int .u64 0,.int .u64 0,.int .u64 0] #[.int .u64 32777959566500194,.int .u64 1,.int .u64 (n:Int),.int .u64 (t:Int),.int .u64 0,.int .u64 0,.int .u64 0,.int .u64 0] (by rfl) (by rfl) K.out (by rfl) D (by simp[Value.oneCell']) ?_;intro w3 l f;have d:=hid l;have c:=hid f;clear l f))
 refine (G.out _ _ (y.out _ _ d.out)).mono ?_;rintro e w4 ⟨rfl,a⟩;have b:=hid (c.out.below z.out (by omega));have u:=hid (b.out.trans (a.mono b.out.size));have k:=d.out.up a d.out.lt;have I:=hid ((c.out.bx F.out (by omega)).up a (c.out.bx F.out (by omega)).lt);have hl3:=k.lt;have hc7:=k.cell 7;have hf7:=k.frozen 7;have J:=hid (k.set_ 7 (.int .u64 (q:Int)));have o:=hid (I.out.far (p:=⟨w.heap.size+1+1,7,none⟩) (by simp) (.int .u64 (q:Int)));have C:=hid (u.out.setCell (p:=⟨w.heap.size+1+1,7,none⟩) (by simp;omega) (.int .u64 (q:Int)));have i:(prog.info? 242).map (·.size)=some (#[.int .u64 32777959566500194,.int .u64 1,.int .u64 (n:Int),.int .u64 (t:Int),.int .u64 0,.int .u64 0,.int .u64 0,.int .u64 (q:Int)]:Array Value).size:=se;clear k a;go_wp2_with (first
  | ((with_reducible refine aN 242 (.tmp 3) ?_);refine kxh rfl _ _ rfl (w.heap.size+1+1) (by rfl) 242 #[.int .u64 32777959566500194,.int .u64 1,.int .u64 (n:Int),.int .u64 (t:Int),.int .u64 0,.int .u64 0,.int .u64 0,.int .u64 (q:Int)] (0,0) _ J.out underlying242 (by rfl) i ?_)
  | ((with_reducible refine ar 242 (.tmp 2) _ ?_);refine am rfl _ _ _ rfl (w.heap.size+1) 242 #[.int .u64 0,.int .u64 0,.int .u64 0,.int .u64 0,.int .u64 0,.int .u64 0,.int .u64 0,.int .u64 0] #[.int .u64 32777959566500194,.int .u64 1,.int .u64 (n:Int),.int .u64 (t:Int),.int .u64 0,.int .u64 0,.int .u64 0,.int .u64 (q:Int)] (by rfl) (by rfl) o.out (by rfl) i (by simp[Value.oneCell']) ?_;intro w6 j m;have s:=hid j;have E:=hid m;clear j m))
 exact kqo (v:=.agg #[.int .u64 32777959566500194,.int .u64 1,.int .u64 (n:Int),.int .u64 (t:Int),.int .u64 0,.int .u64 0,.int .u64 0,.int .u64 (q:Int)]) (x8 results174 _ s.out (by rfl) rfl) rfl ⟨by rw[N.out],E.out.below C.out (by omega)⟩
theorem GD(h:l.length=8):∃p0 p1 p2 p3 p4 p5 p6 p7,l=[p0,p1,p2,p3,p4,p5,p6,p7]:=by
 match l,h with
 | [p0,p1,p2,p3,p4,p5,p6,p7],_=>exact⟨p0,p1,p2,p3,p4,p5,p6,p7,rfl⟩
theorem Ea{a b:List Nat}(ha:a.length=8)(hb:b.length=8)(W:World):(Op.equalIn 10000 242 (.agg (pC a)) (.agg (pC b))).run prog W=.ok (decide (a=b)) W:=by
 have I:=underlying242;have E:=underlying53;have D:List.range' 0 8=[0,1,2,3,4,5,6,7]:=rfl;have e1:=λ(x y:Int)=>run_equalIn_int W 9998 53 .u64 .u64 x y E;obtain⟨t,A,z,k,m,B,r,l,rfl⟩:=GD ha;obtain⟨n,j,s,q,h,i,o,w,rfl⟩:=GD hb;have H:decide ([t,A,z,k,m,B,r,l]=[n,j,s,q,h,i,o,w])=(t==n&&(A==j&&(z==s&&(k==q&&(m==h&&(B==i&&(r==o&&l==w))))))):=by rw[kzg,kqn];simp
 have F:∀u v,(Op.equalIn 10000 242 u v)=(Op.equalIn (9999+1) 242 u v):=λ_ _=>rfl;rw[F,H];unfold Op.equalIn pC;simp only[kzx,List.flatMap_nil,ag,kzm,kz1];simp[go_sem,run_underlying I,Sem.run_bind,D,List.forIn_cons];simp only[Int.ofNat_inj];by_cases c:t=n
 .by_cases d:A=j
  .by_cases e:z=s
   .by_cases f:k=q
    .by_cases g:m=h
     .by_cases p:B=i
      .by_cases C:r=o
       .by_cases G:l=w<;>simp[c,d,e,f,g,p,C,G,go_sem]
       simp[c,d,e,f,g,p,C,go_sem]
      simp[c,d,e,f,g,p,go_sem]
     simp[c,d,e,f,g,go_sem]
    simp[c,d,e,f,go_sem]
   simp[c,d,e,go_sem]
  simp[c,d,go_sem]
 simp[c,go_sem]
theorem F5(p q a b:Int)(W:World):(Op.equalIn 10000 126 (.agg #[.int .i64 p,.int .i64 q]) (.agg #[.int .i64 a,.int .i64 b])).run prog W=.ok (p==a&&q==b) W:=by have g:=underlying126;have d:=underlying3;have c:∀u v,(Op.equalIn 10000 126 u v)=(Op.equalIn (9999+1) 126 u v):=λ_ _=>rfl;have e1:=λ(x y:Int)=>run_equalIn_int W 9998 3 .i64 .i64 x y d;rw[c];unfold Op.equalIn;simp[go_sem,run_underlying g,Sem.run_bind,List.forIn_cons];by_cases f:p=a<;>by_cases e:q=b<;>simp[f,e,go_sem]
theorem Bx.c8{x5 x6 x7:Value}(h:Bx w g t #[x0,x1,x2,x3,x4,x5,x6,x7]):w.cell? ⟨g,0,none⟩=some x0/\w.cell? ⟨g,1,none⟩=some x1/\w.cell? ⟨g,2,none⟩=some x2 /\
 w.cell? ⟨g,3,none⟩=some x3/\w.cell? ⟨g,4,none⟩=some x4/\w.cell? ⟨g,5,none⟩=some x5/\w.cell? ⟨g,6,none⟩=some x6/\w.cell? ⟨g,7,none⟩=some x7:=
 ⟨h.cell 0,h.cell 1,h.cell 2,h.cell 3,h.cell 4,h.cell 5,h.cell 6,h.cell 7⟩
theorem at_s2a{ops:Array Oper}{rest:List Oper}{a:Act}{Q:Exit->Act->World->Prop}{dst:Option Tmp}{type:TypeId}{pos:String}{after:Array Edge}{guard:Option (Nat × Bool)}(ty:TypeId)(x:Operand)(h:wpList P ops Q ({ dst:=dst,op:=.sliceToArrayPointer ty x,type:=type,pos:=pos,after:=after,guard:=guard }::rest) a w):wpList P ops Q ({ dst:=dst,op:=.sliceToArrayPointer ty x,type:=type,pos:=pos,after:=after,guard:=guard }::rest) a w:=h
theorem u9{k:Nat}(hk:k<l.length):(pC l)[k]? = some (.int .u64 (wd l k:Int)):=by unfold pC;have:=iN ag 1 bt l k 0 hk (by omega);rw[kxm,kz8] at this;rw[List.getElem?_toArray,this,cA hk];rfl
theorem DY{B off:Nat}{cs:List Value}(h:Rd w B (some ⟨b,off,none⟩) cs):w.rangeAt b off cs:=λj v c=>by have a:=(kzb.1 c).1;obtain⟨b',off',e,-,d⟩:=h (by intro e;rw[e] at a;simp at a);cases e;rw[d j a,<-c,kql a]
def spNo (x y i:Nat):Prop:=¬ (256<=x/\x<256+8*i/\x%8=0/\y<=8)
def spT (x n y t:Nat):Prop:=¬ (x=n/\y<t)
theorem Dk{x y i:Nat}(h:spNo x y i)(h2:¬ (x=256+8*i/\y<=8)):spNo x y (i+1):=λ⟨d,h4,c,a⟩=>by
 by_cases b:x<256+8*i
 .exact h ⟨d,b,c,a⟩
 .exact h2 ⟨by omega,a⟩
theorem sr(A:Option Addr)(l:List Nat)(c:Nat)(w:World)(q:l.length=8)(hr:RdW w w.heap.size A l):
 Calls prog 116 #[.slice A 8 c] w λe w'=>e=.returned (.tuple #[spV l,.int .i64 (kf l)])/\Below w.heap.size w w':=by
 obtain⟨p0,p1,x,y,p4,p5,p6,p7,D⟩:=GD q;obtain⟨b,T,rfl,hb,-⟩:=RdW.at_ hr (show 0<l.length by omega);have r:=hid (λh=>aa ((wd l 2:Nat):Int) |>.1 h);have I:=hid (λh=>uL (l:=l) h);have C:=hid (λh=>mW (l:=l) h);have O:=hid (λh=>mM (l:=l) h);have s:Hid (aj ((wd l 2:Nat):Int)=true->wd l 3<=8->qR l=decide (spL (wd l 2) (wd l 3)=l)):=hid λh1 h2=>by
  unfold qR;rw[h1,decide_eq_true h2];rfl
 have Eq:=hid (show ∀W,Below w.heap.size w W->W.rangeAt b T (l.flatMap ag) from λW h=>DY (Rd.below hr h));have H8:=hid (show (pC l).size=8 by rw[AU,q]);have Y:=hid (show (l.flatMap ag).length=8 by rw[cw _ 1 bt,q]);have H1:=hid (Ec l);have g2:=u9 (l:=l) (k:=2) (by omega);have g3:=u9 (l:=l) (k:=3) (by omega);have x0:=Bx.new w 126 #[.int .i64 0,.int .i64 0];have X0:=hid x0;have hlt2:Hid (w.heap.size<=w.heap.size+1+1):=hid (by omega);have Kb:=hid ((((kqk w.heap.size w).alloc (kqa _) (.cells #[.int .i64 0,.int .i64 0] 126)).alloc (by simp) (.cells #[.int .i64 0,.int .i64 0] 126)));have x1:=Bx.new (w.alloc (.cells #[.int .i64 0,.int .i64 0] 126)) 126 #[.int .i64 0,.int .i64 0];rw[kqm] at x1;have X1:=hid x1;have x2:=Bx.new ((w.alloc (.cells #[.int .i64 0,.int .i64 0] 126)).alloc (.cells #[.int .i64 0,.int .i64 0] 126)) 242 #[.int .u64 0,.int .u64 0,.int .u64 0,.int .u64 0,.int .u64 0,.int .u64 0,.int .u64 0,.int .u64 0];rw[kqm,kqm] at x2;have X2:=hid x2;have HL:=hid q;have hzv:=Gs;have hx:wd l 2=x:=by rw[D];rfl
 have hy:wd l 3=y:=by rw[D];rfl
 have HA:=hid (show pC l=#[.int .u64 (p0:Int),.int .u64 (p1:Int),.int .u64 (x:Int),.int .u64 (y:Int),.int .u64 (p4:Int),.int .u64 (p5:Int),.int .u64 (p6:Int),.int .u64 (p7:Int)] by rw[D];rfl);rw[hx] at r I O s g2;rw[hy] at I O s g3;have G2:=hid g2;have G3:=hid g3;have U:Hid ((l.flatMap ag).toArray=pC l):=hid rfl;have Z:(prog.info? 242).map (·.size)=some (l.flatMap ag).length:=by rw[Y.out];exact se
 have Kq:(prog.info? 242).map (·.size)=some (pC l).size:=by rw[H8.out];exact se
 have Kr:(pC l).size=(#[.int .u64 0,.int .u64 0,.int .u64 0,.int .u64 0,.int .u64 0,.int .u64 0,.int .u64 0,.int .u64 0]:Array Value).size:=H8.out;clear hx hy hr q x0 x1 x2 g2 g3 D;obtain⟨cs,Kh⟩:=xq (l.flatMap ag);rw[Kh] at Eq Y U Z;clear Kh;go_enter func116,ntmps116;go_wp2_with fail
 go_step3
 go_wp2_with (first
  | ((with_reducible refine at_s2a 242 _ ?_);refine sD rfl (.pointer (some ⟨b,T,none⟩)) (by unfold execOp;simp only[Sem.run_bind,Act.eval,go_sem];rfl) ?_)
  | ((with_reducible refine aN 242 (.tmp 13) ?_);refine wpList_load_mid rfl _ _ rfl b T (by rfl) cs _ (Eq.out _ Kb.out) underlying242 (by rfl) Z ?_;rw[U.out])
  | ((with_reducible refine ar 242 (.tmp 5) _ ?_);refine am rfl _ _ _ rfl (w.heap.size+1+1) 242 #[.int .u64 0,.int .u64 0,.int .u64 0,.int .u64 0,.int .u64 0,.int .u64 0,.int .u64 0,.int .u64 0] (pC l) (by rfl) (by rfl) X2.out Kr Kq H1.out ?_;intro a Kl Ke;have j:=hid Kl;have z:=hid Ke;clear Kl Ke))
 go_step3
 have H:=hid (z.out.bx ((X0.out.alloc _).alloc _) (by omega));have f:=hid (z.out.bx (X1.out.alloc _) (by omega));have G:=hid (z.out.below (Kb.out.alloc (by simp;omega) _) (by omega));have c2:=(j.out.cell 2).trans G2.out;have c3:=(j.out.cell 3).trans G3.out;have hl3:=j.out.lt;clear Eq Y U Z X2 X0 X1 Kb z;go_wp2_with fail
 go_loop [6] (λv=>∃i:Nat,i<=225/\v=.int .i64 ((256+8*i:Nat):Int)/\Hid (spNo x y i)) (λv=>4000-(intOf v).toNat)
 case atStart=>exact⟨0,kqy _,rfl,hid λh=>by omega⟩
 obtain⟨i,hi,rfl,HN⟩:=hrel;obtain⟨n,q⟩:=xq (256+8*i);have m:=hid q;rw[q];by_cases Kc:i<225
 .have d1:decide ((n:Int)<=2048)=true:=by rw[kqn];omega
  have d1n:decide (n<=2048)=true:=by rw[kqn];omega
  have w1:IntKind.u64.wrap (n:Int)=(n:Int):=kzt _ (by omega);have w2x:IntKind.i64.wrap ((n:Int)+8)=((n+8:Nat):Int):=by rw[kqs _ (by omega)];omega
  have hn8:n<=2048:=by omega
  clear q;go_wp2_with fail
  go_loop [19] (λv=>∃t:Nat,t<=9/\v=.int .i64 (t:Int)/\Hid (spT x n y t)) (λv=>9-(intOf v).toNat)
  case atStart=>exact⟨0,kqy _,rfl,hid λh=>by omega⟩
  obtain⟨t,ht,rfl,HT⟩:=hrel;by_cases Kp:t<9
  .have w3x:IntKind.u64.wrap (t:Int)=(t:Int):=kzt _ (by omega);have ht9:(t:Int)<9:=by omega
   by_cases V:x=n
   .subst V;by_cases Kk:y=t
    .subst Kk;obtain⟨r0,r1,f0,f1,Ko⟩:=f.out.c2;have Kd:aj (x:Int)=true:=(aa _).2 (by have:=m.out;omega);have Ka:=hid (s.out Kd (by omega));have HW:=hid (λW=>xw x y W (by omega) (by omega));have Ki:=λW=>F5 x y 0 0 W;rw[show ((x:Int)==0&&(y:Int)==0)=false by rw[show ((x:Int)==0)=false by rw[kqi];have:=m.out;omega];rfl] at Ki;have F:=λW=>Ea (qJ x y) HL.out W;rw[HA.out] at F;obtain⟨AL,Kg⟩:=xq (pC (spL x y));rw[Kg] at F HW;have HM:=hid F;have Q:=hid (show Bx a (w.heap.size+1+1) 242 #[.int .u64 (p0:Int),.int .u64 (p1:Int),.int .u64 (x:Int),.int .u64 (y:Int),.int .u64 (p4:Int),.int .u64 (p5:Int),.int .u64 (p6:Int),.int .u64 (p7:Int)] by rw[<-HA.out];exact j.out);clear Kd Kg F s I HT HN m ht Kp hi Kc;go_wp2_with fail;have x4:=((f.out.set_ 0 (.int .i64 (x:Int))).set_ 1 (.int .i64 (y:Int)));have J:=(Q.out.far (p:=⟨w.heap.size+1,0,none⟩) (by simp) (.int .i64 (x:Int))).far (p:=⟨w.heap.size+1,1,none⟩) (by simp) (.int .i64 (y:Int));have R:=hid ((H.out.far (p:=⟨w.heap.size+1,0,none⟩) (by simp) (.int .i64 (x:Int))).far (p:=⟨w.heap.size+1,1,none⟩) (by simp) (.int .i64 (y:Int)))
     have o:=hid ((G.out.setCell (p:=⟨w.heap.size+1,0,none⟩) (by simp) (.int .i64 (x:Int))).setCell (p:=⟨w.heap.size+1,1,none⟩) (by simp) (.int .i64 (y:Int)));obtain⟨W4,Kj⟩:∃W4,(a.setCell ⟨w.heap.size+1,0,none⟩ (.int .i64 (x:Int))).setCell ⟨w.heap.size+1,1,none⟩ (.int .i64 (y:Int))=W4:=⟨_,rfl⟩;rw[Kj] at x4 J R o |-;obtain⟨q0,q1,-⟩:=x4.c2;obtain⟨e0,e1,e2,e3,e4,e5,e6,e7⟩:=J.c8;have XL4:=hid J;have X4:=hid x4;clear Kj H f j Q G c2 c3 r0 r1 f0 f1 Ko x4 J;have hm:∀W,(Op.equalIn 10000 242 (.agg AL) (.agg #[.int .u64 (p0:Int),.int .u64 (p1:Int),.int .u64 (x:Int),.int .u64 (y:Int),.int .u64 (p4:Int),.int .u64 (p5:Int),.int .u64 (p6:Int),.int .u64 (p7:Int)])).run prog W=.ok (decide (spL x y=l)) W:=HM.out;obtain⟨dq,Km⟩:=xq (decide (spL x y=l));rw[Km] at hm Ka;clear Km;cases dq
     all_goals
      go_region_held3 (λX:World=>X.cell? ⟨w.heap.size+1,0,none⟩=some (.int .i64 (x:Int))/\X.cell? ⟨w.heap.size+1,1,none⟩=some (.int .i64 (y:Int))/\X.cell? ⟨w.heap.size+1+1,0,none⟩=some (.int .u64 (p0:Int))/\X.cell? ⟨w.heap.size+1+1,1,none⟩=some (.int .u64 (p1:Int))/\X.cell? ⟨w.heap.size+1+1,2,none⟩=some (.int .u64 (x:Int))/\X.cell? ⟨w.heap.size+1+1,3,none⟩=some (.int .u64 (y:Int))/\X.cell? ⟨w.heap.size+1+1,4,none⟩=some (.int .u64 (p4:Int))/\X.cell? ⟨w.heap.size+1+1,5,none⟩=some (.int .u64 (p5:Int))/\X.cell? ⟨w.heap.size+1+1,6,none⟩=some (.int .u64 (p6:Int))/\X.cell? ⟨w.heap.size+1+1,7,none⟩=some (.int .u64 (p7:Int))) (go_keep)
       (first | (go_at_call 174;refine (HW.out _).mono ?_;rintro e w5 ⟨rfl,u⟩;have x45:=(show Bx W4.drew _ _ _ from X4.out).up u X4.out.lt;have M:=(show Bx W4.drew _ _ _ from XL4.out).up u XL4.out.lt;obtain⟨k0,k1,-⟩:=x45.c2;obtain⟨m0,m1,m2,m3,m4,m5,m6,m7⟩:=M.c8;have B:=hid ((show Bx W4.drew _ _ _ from R.out).up u R.out.lt);have Kf:=hid (o.out.drew.trans (u.mono o.out.size));clear x45 M))
      clear q0 q1 e0 e1 e2 e3 e4 e5 e6 e7 m0 m1 m2 m3 m4 m5 m6 m7;have hg5:=B.out.lt;obtain⟨v0,v1,f0,f1,-⟩:=B.out.c2;go_wp2_with fail;rw[Exit.noGoto_ret]
     .have L:=hid (C.out Ka.out);exact kqo (v:=.tuple #[.agg #[.int .i64 0,.int .i64 0],.int .i64 50]) (cF results116 _ ((B.out.set_ 0 _).set_ 1 _) rfl rfl) rfl ⟨by rw[L.out.1,L.out.2],(Kf.out.setCell (by simp) _).setCell (by simp) _⟩
     have L:=hid (O.out Ka.out);exact kqo (v:=.tuple #[.agg #[.int .i64 (x:Int),.int .i64 (y:Int)],.int .i64 0]) (cF results116 _ ((B.out.set_ 0 _).set_ 1 _) rfl rfl) rfl ⟨by rw[L.out.1,L.out.2],(Kf.out.setCell (by simp) _).setCell (by simp) _⟩
    have e1:((t:Int)==(y:Int))=false:=by rw[kqi];omega
    have e1n:(t==y)=false:=by rw[kqi];omega
    have N:Hid (spT x x y (t+1)):=hid λh=>HT.out ⟨rfl,by omega⟩;clear Kk;go_wp2_with fail
    go_round
    case rel=>exact⟨t+1,by omega,by go_num,N⟩
    case measure=>simp[intOf];omega
   have e1:((n:Int)==(x:Int))=false:=by rw[kqi];omega
   have e1n:(n==x)=false:=by rw[kqi];omega
   have N:Hid (spT x n y (t+1)):=hid λh=>V h.1;clear V;go_wp2_with fail
   go_round
   case rel=>exact⟨t+1,by omega,by go_num,N⟩
   case measure=>simp[intOf];omega
  obtain rfl:t=9:=by omega
  have C:Hid (spNo x y (i+1)):=hid (Dk HN.out λh=>HT.out ⟨by have:=m.out;omega,by omega⟩);go_wp2_with fail
  go_round
  case rel=>exact⟨i+1,by omega,by have:=m.out;go_num,C⟩
  case measure=>simp[intOf];omega
 obtain rfl:i=225:=by omega
 have d1:decide ((n:Int)<=2048)=false:=by rw[kqc];omega
 have d1n:decide (n<=2048)=false:=by rw[kqc];omega
 clear q Kc;have L:=hid (C.out (I.out λh=>HN.out ⟨by have:=r.out h.1;omega,by have:=r.out h.1;omega,by have:=r.out h.1;omega,h.2⟩));have Q:=hid (show Bx a (w.heap.size+1+1) 242 #[.int .u64 (p0:Int),.int .u64 (p1:Int),.int .u64 (x:Int),.int .u64 (y:Int),.int .u64 (p4:Int),.int .u64 (p5:Int),.int .u64 (p6:Int),.int .u64 (p7:Int)] by rw[<-HA.out];exact j.out);have Ki:=λW=>F5 0 0 0 0 W;obtain⟨q0,q1,-⟩:=f.out.c2;clear c2 c3;go_wp2_with fail;have ct0:∀g:SW (λX:World=>Below a.heap.size a X),g.w.cell? ⟨w.heap.size+1,0,none⟩=some (.int .i64 0):=λg=>(g.ok.cell (p:=⟨w.heap.size+1,0,none⟩) f.out.lt).trans q0;have ct1:∀g:SW (λX:World=>Below a.heap.size a X),g.w.cell? ⟨w.heap.size+1,1,none⟩=some (.int .i64 0):=λg=>(g.ok.cell (p:=⟨w.heap.size+1,1,none⟩) f.out.lt).trans q1
 refine nK (S:=λX:World=>Below a.heap.size a X) ((0,0,0)::(0,1,0)::(0,2,0)::(0,3,0)::(0,4,0)::(0,6,0)::(1,5,0)::(0,7,0)::(0,8,0)::[]) (.one _ true (none)::.one _ true (none)::.one _ true (none)::.one _ true (none)::.one _ true (some (some 41,false))::.one _ true (some (some 41,false))::.one _ false (some (some 41,false))::.one _ true (some (some 41,false))::.one _ true (none)::[]) (by kernel_rfl) (by kernel_rfl) (by decide) (by kernel_rfl) (by rfl) (λ_ _ d _ _ h=>by cases d<;>exact h) (kqk _ _).drew ?_;have E:=hid ((kqk a.heap.size a).drew);obtain⟨X0,Kn⟩:=xq a.drew;rw[Kn] at E |-;clear Kn;have hne:Nonempty (SW (λX:World=>Below a.heap.size a X)):=⟨⟨X0,E.out⟩⟩
 iterate 6 (first | (refine eO (by rfl) ?_;(try simp only[Act.put,kqb,kqg,kqf])) | (refine iP (by rfl) ?_;intro K hK;go_big_quiet_op;go_big_quiet_on))
 (refine eO (by rfl) ?_;(try simp only[Act.put,kqb,kqg,kqf]))
 iterate 2 (first | (refine eO (by rfl) ?_;(try simp only[Act.put,kqb,kqg,kqf])) | (refine iP (by rfl) ?_;intro K hK;go_big_quiet_op;go_big_quiet_on))
 refine Af ?_;have P:=hid (H.out.up E.out H.out.lt);have o:=hid (G.out.trans (E.out.mono G.out.size));have hg6:=P.out.lt;obtain⟨v0,v1,f0,f1,-⟩:=P.out.c2;clear q0 q1;go_wp2_with fail;rw[Exit.noGoto_ret];exact kqo (v:=.tuple #[.agg #[.int .i64 0,.int .i64 0],.int .i64 50]) (cF results116 _ ((P.out.set_ 0 _).set_ 1 _) rfl rfl) rfl ⟨by rw[L.out.1,L.out.2],(o.out.setCell (by simp) _).setCell (by simp) _⟩
theorem Bx.c4(h:Bx w g t #[x0,x1,x2,x3]):w.cell? ⟨g,0,none⟩=some x0/\w.cell? ⟨g,1,none⟩=some x1/\w.cell? ⟨g,2,none⟩=some x2/\w.cell? ⟨g,3,none⟩=some x3 /\
 w.frozen? ⟨g,0,none⟩=false/\w.frozen? ⟨g,1,none⟩=false/\w.frozen? ⟨g,2,none⟩=false/\w.frozen? ⟨g,3,none⟩=false/\g<w.heap.size:=
 ⟨h.cell 0,h.cell 1,h.cell 2,h.cell 3,h.frozen 0,h.frozen 1,h.frozen 2,h.frozen 3,h.lt⟩
theorem wg(w:World):Calls prog 115 #[] w λe w'=>e=.returned (.agg #[.int .i64 0,.int .i64 8])/\Below w.heap.size w w':=by
 have hb:∀W,(Instr.build 179 #[(0,.int .i64 0),(1,.int .i64 8)]).run prog W=.ok (.agg #[.int .i64 0,.int .i64 8]) W:=λ_=>by kernel_rfl
 have a:=Bx.new w 179 #[.int .i64 0,.int .i64 0];obtain⟨q0,q1,f0,f1,hg⟩:=a.c2;go_enter func115,ntmps115;go_wp2_with fail;have b:=Bx.new w 179 #[.int .i64 0,.int .i64 8];obtain⟨p0,p1,-⟩:=b.c2;exact kqo (v:=.agg #[.int .i64 0,.int .i64 8]) (by simp[results,results115,go_sem]) rfl ⟨rfl,(kqk w.heap.size w).alloc (kqa _) _⟩
theorem Gt(l:List Nat):∃a b:Int,spV l=.agg #[.int .i64 a,.int .i64 b]/\(kf l=0->a=((wd l 2:Nat):Int)/\b=((wd l 3:Nat):Int)):=by
 cases h:qR l with
 | true=>exact⟨_,_,(mM h).1,λ_=>⟨rfl,rfl⟩⟩
 | false=>exact⟨0,0,(mW h).1,λc=>by rw[(mW h).2] at c;cases c⟩
theorem Ci :kf l=0↔qR l=true:=by unfold kf;split<;>simp_all
theorem cp_is(ws:List Nat)(a:Nat){x y:Int}(hv:kf (sp8 ws a)=0->x=((wd (sp8 ws a) 2:Nat):Int)/\y=((wd (sp8 ws a) 3:Nat):Int)):(ly ws a=if kf (sp8 ws a)=0 then (x==(ws.length:Int)) else false)/\(ly ws a=true->y=((wd ws (a+3):Nat):Int)):=by
 have c:wd (sp8 ws a) 2=wd ws (a+2):=ny (by omega);have d:wd (sp8 ws a) 3=wd ws (a+3):=ny (by omega);rw[c,d] at hv;have b:ly ws a=if kf (sp8 ws a)=0 then (x==(ws.length:Int)) else false:=by
  unfold ly;by_cases h:kf (sp8 ws a)=0
  .rw[if_pos h,Ci.1 h,kzq,(hv h).1,kzg,kqw,kqw];omega
  rw[if_neg h,show qR (sp8 ws a)=false by
   cases e:qR (sp8 ws a) with
   | false=>rfl
   | true=>exact absurd (Ci.2 e) h]
  rfl
 refine⟨b,λh=>?_⟩;rw[b] at h;split at h
 .rename_i h2;exact (hv h2).2
 cases h
theorem Fn(A:Option Addr)(ws:List Nat)(c n:Nat)(w:World)(hn:ws.length=n)(hm:n<=9223372036854775807)(hc:n<=c)(hr:RdW w w.heap.size A ws):
 Calls prog 68 #[.slice A n c] w λe w'=>An ws e/\Below w.heap.size w w':=by
 subst hn;have HR:=hid hr;have Kc:=hid (λW=>aG A ws.length c W hm);have O:=hid (((kqk w.heap.size w).alloc (kqa _) (.cells #[.int .i64 0,.int .i64 0] 126)).alloc (by simp) (.cells #[.bool false,.bool false] 127));have x0:=(Bx.new w 126 #[.int .i64 0,.int .i64 0]).alloc (.cells #[.bool false,.bool false] 127);have x1:=Bx.new (w.alloc (.cells #[.int .i64 0,.int .i64 0] 126)) 127 #[.bool false,.bool false];rw[kqm] at x1;have X0:=hid x0;have X1:=hid x1;clear x0 x1 hr;cases hs:aj (ws.length:Int)
 .have HV:=hid (uh hs);rw[bI hs] at Kc;clear hs hm hc;go_enter func68,ntmps68;go_wp2_with fail;refine (Kc.out _).mono ?_;rintro e w1 ⟨rfl,rfl⟩;obtain⟨a,Kb⟩:=xq ((w.alloc (.cells #[.int .i64 0,.int .i64 0] 126)).alloc (.cells #[.bool false,.bool false] 127));rw[Kb] at X0 X1 O |-;clear Kb;obtain⟨v0,v1,f0,f1,hg0⟩:=X0.out.c2;obtain⟨v2,v3,f2,f3,Kr⟩:=X1.out.c2;go_wp2_with fail;exact kqo (v:=.tuple #[.agg #[.int .i64 0,.int .i64 0],.agg #[.bool false,.bool false],.int .i64 8]) (cR results68 _ ((((X0.out.set_ 0 _).set_ 1 _).far (by simp) _).far (by simp) _) ((((X1.out.far (by simp) _).far (by simp) _).set_ 0 _).set_ 1 _) rfl rfl rfl) rfl ⟨⟨0,false,false,by rw[HV.out.1,HV.out.2];rfl⟩,(((O.out.setCell (by simp) _).setCell (by simp) _).setCell (by simp) _).setCell (by simp) _⟩
 have hb:=(aa _).1 hs;rw[aZ hs] at Kc;obtain⟨b,off,rfl,Ku,-⟩:=RdW.at_ HR.out (show 0<ws.length by omega);obtain⟨l,o,Kq,Kj⟩:=Gt (sp8 ws 0);obtain⟨m,q,Kp,Kn⟩:=Gt (sp8 ws 8);have Q:=hid (cp_is ws 0 Kj);have Ka:=hid (cp_is ws 8 Kn);have U:=hid (λW (hr:RdW W W.heap.size (some ⟨b,off,none⟩) ws)=>sr (some ⟨b,off,none⟩) (sp8 ws 0) c W (ug (by omega)) (by
  have:=zR hr 0
  simpa [Addr.add] using this))
 have T:=hid (λW (hr:RdW W W.heap.size (some ⟨b,off,none⟩) ws)=>sr (some ⟨b,off+8,none⟩) (sp8 ws 8) (c-8) W (ug (by omega)) (by
  have:=zR hr 8
  simpa [Addr.add] using this))
 rw[Kq] at U;rw[Kp] at T;have HV:Hid (tyN ws=(if ly ws 0=true then some (wd ws 3) else if ly ws 8=true then some (wd ws 11) else none)/\jE ws=if (tyN ws).isSome=true then 0 else 50):=hid ⟨rfl,by unfold jE;rw[if_pos hs]⟩;have k3:8<=c:=by omega
 have k4:16<=c:=by omega
 obtain⟨e0,Km⟩:=xq (kf (sp8 ws 0));obtain⟨e1,Kk⟩:=xq (kf (sp8 ws 8));rw[Km] at U Q;rw[Kk] at T Ka;clear hs hb Kq Kp Kj Kn Km Kk Ku hm hc;go_enter func68,ntmps68;go_wp2_with fail;refine (Kc.out _).mono ?_;rintro e w1 ⟨rfl,rfl⟩;obtain⟨a,Kb⟩:=xq ((w.alloc (.cells #[.int .i64 0,.int .i64 0] 126)).alloc (.cells #[.bool false,.bool false] 127));rw[Kb] at X0 X1 O |-;clear Kb;go_wp2_with fail;refine (wg _).mono ?_;rintro e wS ⟨rfl,L⟩;have x6:=(Bx.new a 178 #[.int .i64 0,.int .i64 0,.int .i64 0,.int .i64 0]).alloc (.cells #[.bool false,.bool false] 127);have x7:=Bx.new (a.alloc (.cells #[.int .i64 0,.int .i64 0,.int .i64 0,.int .i64 0] 178)) 127 #[.bool false,.bool false];rw[kqm] at x7;have C:=hid (x6.up L x6.lt);have z:=hid (x7.up L x7.lt);have X0S:=hid (((X0.out.alloc (.cells #[.int .i64 0,.int .i64 0,.int .i64 0,.int .i64 0] 178)).alloc (.cells #[.bool false,.bool false] 127)).up L ((X0.out.alloc (.cells #[.int .i64 0,.int .i64 0,.int .i64 0,.int .i64 0] 178)).alloc (.cells #[.bool false,.bool false] 127)).lt);have X1S:=hid (((X1.out.alloc (.cells #[.int .i64 0,.int .i64 0,.int .i64 0,.int .i64 0] 178)).alloc (.cells #[.bool false,.bool false] 127)).up L ((X1.out.alloc (.cells #[.int .i64 0,.int .i64 0,.int .i64 0,.int .i64 0] 178)).alloc (.cells #[.bool false,.bool false] 127)).lt)
 have r:=O.out.size;have Kr:=X1.out.lt;have Ks:=hid (((O.out.alloc r (.cells #[.int .i64 0,.int .i64 0,.int .i64 0,.int .i64 0] 178)).alloc (by simp;omega) (.cells #[.bool false,.bool false] 127)).trans (L.mono (by simp;omega)));obtain⟨P,Kl⟩:=xq (ly ws 0);obtain⟨B,Ko⟩:=xq (ly ws 8);rw[Kl] at Q HV;rw[Ko] at Ka HV;clear Kl Ko x6 x7 L X0 X1 O;go_wp2_with fail;have ix0:∀w,(Instr.index 179 (.agg #[.int .i64 0,.int .i64 8]) (.int .i64 0)).run prog w=.ok (.int .i64 0) w:=λ_=>by kernel_rfl
 have ix1:∀w,(Instr.index 179 (.agg #[.int .i64 0,.int .i64 8]) (.int .i64 1)).run prog w=.ok (.int .i64 8) w:=λ_=>by kernel_rfl
 go_loopw [20] (λi wr=>∃k:Nat,k<=2/\i=.int .i64 k/\Hid (Bx wr w.heap.size 126 #[.int .i64 0,.int .i64 0])/\Hid (Bx wr (w.heap.size+1) 127 #[.bool false,.bool false])/\Hid (k=0->Bx wr a.heap.size 178 #[.int .i64 0,.int .i64 0,.int .i64 0,.int .i64 0]/\Bx wr (a.heap.size+1) 127 #[.bool false,.bool false])/\Hid (k=1->Bx wr a.heap.size 178 #[.int .i64 l,.int .i64 o,.int .i64 0,.int .i64 0]/\Bx wr (a.heap.size+1) 127 #[.bool P,.bool false])/\Hid (k=2->Bx wr a.heap.size 178 #[.int .i64 l,.int .i64 o,.int .i64 m,.int .i64 q]/\Bx wr (a.heap.size+1) 127 #[.bool P,.bool B])/\Hid (Below w.heap.size w wr)) (λi _=>2-(intOf i).toNat)
 case atStart=>exact⟨0,kqy _,rfl,X0S,X1S,hid λ_=>⟨C.out,z.out⟩,hid λh=>by omega,hid λh=>by omega,Ks⟩
 obtain⟨k,hk,rfl,M,N,T0,T1,T2,HB⟩:=hrel;by_cases h0:k=0
 .subst h0;have C:=hid (T0.out rfl).1;have z:=hid (T0.out rfl).2;clear T0 T1 T2;have hz:=HB.out.size;have R:=hid (U.out wr (HR.out.up HB.out hz));by_cases he:e0=0
  .have hq:(l==(ws.length:Int))=P:=by have:=Q.out.1;rw[if_pos he] at this;exact this.symm
   have HQ:=hid hq;subst he;go_wp2_with fail;refine R.out.mono ?_;rintro e s ⟨rfl,d⟩;have J:=d.size;have y:=hid ((M.out.up d M.out.lt).alloc (.cells #[.int .i64 l,.int .i64 o] 126));have x:=hid ((N.out.up d N.out.lt).alloc (.cells #[.int .i64 l,.int .i64 o] 126));have f:=((C.out.up d C.out.lt).alloc (.cells #[.int .i64 l,.int .i64 o] 126));have j:=((z.out.up d z.out.lt).alloc (.cells #[.int .i64 l,.int .i64 o] 126));have g:=Bx.new s 126 #[.int .i64 l,.int .i64 o];have u:=hid ((HB.out.trans (d.mono hz)).alloc (kz3 hz J) (.cells #[.int .i64 l,.int .i64 o] 126));have Ki:=C.out.lt;have Kh:=z.out.lt;clear d;go_wp2_with fail;obtain⟨H,t⟩:=xq (s.alloc (.cells #[.int .i64 l,.int .i64 o] 126));rw[t] at y x f j g u |-;clear t;obtain⟨q0,q1,-,-,Kg⟩:=g.c2;obtain⟨p0,p1,p2,p3,p4,p5,p6,p7,Kf⟩:=f.c4;obtain⟨s0,s1,s2,s3,Ke⟩:=j.c2;have E:=hid f;have D:=hid j;have XS5:=hid (show Bx H.drew _ _ _ from g);have I:s.heap.size≠a.heap.size:=by omega
   have G:s.heap.size≠a.heap.size+1:=by omega
   clear f j g;have V:=I.symm;have Eq:=G.symm
   first | (go_region_held3 (λX:World=>X.cell? ⟨s.heap.size,0,none⟩=some (.int .i64 l)/\X.cell? ⟨s.heap.size,1,none⟩=some (.int .i64 o)) (go_keep) (fail)) | fail
   clear q0 q1 p0 p1 p2 p3 p4 p5 p6 p7 s0 s1 s2 s3;go_wp2_with fail;have Z0:=hid (((y.out.far (p:=⟨a.heap.size,0,none⟩) (by simp;omega) (.int .i64 l)).far (p:=⟨a.heap.size,1,none⟩) (by simp;omega) (.int .i64 o)).far (p:=⟨a.heap.size+1,0,none⟩) (by simp;omega) (.bool P));have Z1:=hid (((x.out.far (p:=⟨a.heap.size,0,none⟩) (by simp;omega) (.int .i64 l)).far (p:=⟨a.heap.size,1,none⟩) (by simp;omega) (.int .i64 o)).far (p:=⟨a.heap.size+1,0,none⟩) (by simp;omega) (.bool P));have Z6:=hid (((E.out.set_ 0 (.int .i64 l)).set_ 1 (.int .i64 o)).far (p:=⟨a.heap.size+1,0,none⟩) (by simp) (.bool P));have Z7:=hid (((D.out.far (p:=⟨a.heap.size,0,none⟩) (by simp) (.int .i64 l)).far (p:=⟨a.heap.size,1,none⟩) (by simp) (.int .i64 o)).set_ 0 (.bool P));have ZB:=hid (((u.out.setCell (p:=⟨a.heap.size,0,none⟩) r (.int .i64 l)).setCell (p:=⟨a.heap.size,1,none⟩) r (.int .i64 o)).setCell (p:=⟨a.heap.size+1,0,none⟩) (kva r) (.bool P));go_roundw
   case rel=>exact⟨1,by omega,by go_num,Z0,Z1,hid λh=>absurd h (by decide),hid λh=>⟨Z6.out,Z7.out⟩,hid λh=>absurd h (by decide),hid ZB.out.drew⟩
   case measure=>simp[intOf]
  have hq:P=false:=by have:=Q.out.1;rw[if_neg he] at this;exact this
  subst hq;have Kv:(e0==0)=false:=by rw[kqi];exact he
  clear he;go_wp2_with fail;refine R.out.mono ?_;rintro e s ⟨rfl,d⟩;have J:=d.size;have y:=hid ((M.out.up d M.out.lt).alloc (.cells #[.int .i64 l,.int .i64 o] 126));have x:=hid ((N.out.up d N.out.lt).alloc (.cells #[.int .i64 l,.int .i64 o] 126));have f:=((C.out.up d C.out.lt).alloc (.cells #[.int .i64 l,.int .i64 o] 126));have j:=((z.out.up d z.out.lt).alloc (.cells #[.int .i64 l,.int .i64 o] 126));have g:=Bx.new s 126 #[.int .i64 l,.int .i64 o];have u:=hid ((HB.out.trans (d.mono hz)).alloc (kz3 hz J) (.cells #[.int .i64 l,.int .i64 o] 126));have Ki:=C.out.lt;have Kh:=z.out.lt;clear d;go_wp2_with fail;obtain⟨H,t⟩:=xq (s.alloc (.cells #[.int .i64 l,.int .i64 o] 126));rw[t] at y x f j g u |-;clear t;obtain⟨q0,q1,-,-,Kg⟩:=g.c2;obtain⟨p0,p1,p2,p3,p4,p5,p6,p7,Kf⟩:=f.c4;obtain⟨s0,s1,s2,s3,Ke⟩:=j.c2;have E:=hid f;have D:=hid j;have XS5:=hid (show Bx H.drew _ _ _ from g);have I:s.heap.size≠a.heap.size:=by omega
  have G:s.heap.size≠a.heap.size+1:=by omega
  clear f j g;have V:=I.symm;have Eq:=G.symm;refine kxq (S:=λX:World=>X.cell? ⟨s.heap.size,0,none⟩=some (.int .i64 l)/\X.cell? ⟨s.heap.size,1,none⟩=some (.int .i64 o)) (by kernel_rfl) ⟨q0,q1⟩ (λF=>?_);show wpAnyH _ _ _ _ _ 16 #[false,false,false,false,false,false,false,false,false,false,false,false,false,false,false,false] _ _;refine tj 0 (.int .i64 0) ?_;dsimp only[Act.put,kqh,kqe,kqd,kqb,kqg,kqf];refine tj 1 (.int .i64 0) ?_;dsimp only[Act.put,kqh,kqe,kqd,kqb,kqg,kqf];refine tj 2 (.agg #[.int .i64 l,.int .i64 o]) ?_;dsimp only[Act.put,kqh,kqe,kqd,kqb,kqg,kqf];refine tj 3 (.int .i64 e0) ?_;dsimp only[Act.put,kqh,kqe,kqd,kqb,kqg,kqf];refine tj 4 (.bool false) ?_;dsimp only[Act.put,kqh,kqe,kqd,kqb,kqg,kqf];refine tj 5 (.bool false) ?_;dsimp only[Act.put,kqh,kqe,kqd,kqb,kqg,kqf];refine sk 6 ?_;dsimp only[Act.put,kqh,kqe,kqd,kqb,kqg,kqf];refine sk 7 ?_;dsimp only[Act.put,kqh,kqe,kqd,kqb,kqg,kqf];refine sk 8 ?_;dsimp only[Act.put,kqh,kqe,kqd,kqb,kqg,kqf];refine sk 9 ?_;dsimp only[Act.put,kqh,kqe,kqd,kqb,kqg,kqf];refine sk 10 ?_;dsimp only[Act.put,kqh,kqe,kqd,kqb,kqg,kqf];refine tj 11 (.bool false) ?_;dsimp only[Act.put,kqh,kqe,kqd,kqb,kqg,kqf];refine tj 12 (.pointer (some ⟨a.heap.size,0,none⟩)) ?_
  dsimp only[Act.put,kqh,kqe,kqd,kqb,kqg,kqf];refine kz5 (rs:=[13]) (by kernel_rfl) (by simp) ?_;refine AllReadyH.cons rfl (λK Y=>?_) AllReadyH.nil;go_simp;refine Y.out _ _ ⟨by go_keep,by go_keep⟩ ?_;clear Y K;intro Kw;refine tj 14 (.pointer (some ⟨a.heap.size+1,0,none⟩)) ?_
  dsimp only[Act.put,kqh,kqe,kqd,kqb,kqg,kqf];refine kz5 (rs:=[15]) (by kernel_rfl) (by simp) ?_;refine AllReadyH.cons rfl (λK Y=>?_) AllReadyH.nil;go_simp;refine Y.out _ _ ⟨by go_keep,by go_keep⟩ ?_;clear Y K;intro Kt;refine kj4 (by kernel_rfl) ?_ _;clear F;clear q0 q1 p0 p1 p2 p3 p4 p5 p6 p7 s0 s1 s2 s3;go_wp2_with fail;have Z0:=hid (((y.out.far (p:=⟨a.heap.size,0,none⟩) (by simp;omega) (.int .i64 l)).far (p:=⟨a.heap.size,1,none⟩) (by simp;omega) (.int .i64 o)).far (p:=⟨a.heap.size+1,0,none⟩) (by simp;omega) (.bool false));have Z1:=hid (((x.out.far (p:=⟨a.heap.size,0,none⟩) (by simp;omega) (.int .i64 l)).far (p:=⟨a.heap.size,1,none⟩) (by simp;omega) (.int .i64 o)).far (p:=⟨a.heap.size+1,0,none⟩) (by simp;omega) (.bool false));have Z6:=hid (((E.out.set_ 0 (.int .i64 l)).set_ 1 (.int .i64 o)).far (p:=⟨a.heap.size+1,0,none⟩) (by simp) (.bool false));have Z7:=hid (((D.out.far (p:=⟨a.heap.size,0,none⟩) (by simp) (.int .i64 l)).far (p:=⟨a.heap.size,1,none⟩) (by simp) (.int .i64 o)).set_ 0 (.bool false));have ZB:=hid (((u.out.setCell (p:=⟨a.heap.size,0,none⟩) r (.int .i64 l)).setCell (p:=⟨a.heap.size,1,none⟩) r (.int .i64 o)).setCell (p:=⟨a.heap.size+1,0,none⟩) (kva r) (.bool false));go_roundw
  case rel=>exact⟨1,by omega,by go_num,Z0,Z1,hid λh=>absurd h (by decide),hid λh=>⟨Z6.out,Z7.out⟩,hid λh=>absurd h (by decide),hid ZB.out.drew⟩
  case measure=>simp[intOf]
 by_cases h1:k=1
 .subst h1;have C:=hid (T1.out rfl).1;have z:=hid (T1.out rfl).2;clear T0 T1 T2;have hz:=HB.out.size;have R:=hid (T.out wr (HR.out.up HB.out hz));by_cases he:e1=0
  .have hq:(m==(ws.length:Int))=B:=by have:=Ka.out.1;rw[if_pos he] at this;exact this.symm
   have HQ:=hid hq;subst he;go_wp2_with fail;refine R.out.mono ?_;rintro e s ⟨rfl,d⟩;have J:=d.size;have y:=hid ((M.out.up d M.out.lt).alloc (.cells #[.int .i64 m,.int .i64 q] 126));have x:=hid ((N.out.up d N.out.lt).alloc (.cells #[.int .i64 m,.int .i64 q] 126));have f:=((C.out.up d C.out.lt).alloc (.cells #[.int .i64 m,.int .i64 q] 126));have j:=((z.out.up d z.out.lt).alloc (.cells #[.int .i64 m,.int .i64 q] 126));have g:=Bx.new s 126 #[.int .i64 m,.int .i64 q];have u:=hid ((HB.out.trans (d.mono hz)).alloc (kz3 hz J) (.cells #[.int .i64 m,.int .i64 q] 126));have Ki:=C.out.lt;have Kh:=z.out.lt;clear d;go_wp2_with fail;obtain⟨H,t⟩:=xq (s.alloc (.cells #[.int .i64 m,.int .i64 q] 126));rw[t] at y x f j g u |-;clear t;obtain⟨q0,q1,-,-,Kg⟩:=g.c2;obtain⟨p0,p1,p2,p3,p4,p5,p6,p7,Kf⟩:=f.c4;obtain⟨s0,s1,s2,s3,Ke⟩:=j.c2;have E:=hid f;have D:=hid j;have XS5:=hid (show Bx H.drew _ _ _ from g);have I:s.heap.size≠a.heap.size:=by omega
   have G:s.heap.size≠a.heap.size+1:=by omega
   clear f j g;have V:=I.symm;have Eq:=G.symm
   first | (go_region_held3 (λX:World=>X.cell? ⟨s.heap.size,0,none⟩=some (.int .i64 m)/\X.cell? ⟨s.heap.size,1,none⟩=some (.int .i64 q)) (go_keep) (fail)) | fail
   clear q0 q1 p0 p1 p2 p3 p4 p5 p6 p7 s0 s1 s2 s3;go_wp2_with fail;have Z0:=hid (((y.out.far (p:=⟨a.heap.size,2,none⟩) (by simp;omega) (.int .i64 m)).far (p:=⟨a.heap.size,3,none⟩) (by simp;omega) (.int .i64 q)).far (p:=⟨a.heap.size+1,1,none⟩) (by simp;omega) (.bool B));have Z1:=hid (((x.out.far (p:=⟨a.heap.size,2,none⟩) (by simp;omega) (.int .i64 m)).far (p:=⟨a.heap.size,3,none⟩) (by simp;omega) (.int .i64 q)).far (p:=⟨a.heap.size+1,1,none⟩) (by simp;omega) (.bool B));have Z6:=hid (((E.out.set_ 2 (.int .i64 m)).set_ 3 (.int .i64 q)).far (p:=⟨a.heap.size+1,1,none⟩) (by simp) (.bool B));have Z7:=hid (((D.out.far (p:=⟨a.heap.size,2,none⟩) (by simp) (.int .i64 m)).far (p:=⟨a.heap.size,3,none⟩) (by simp) (.int .i64 q)).set_ 1 (.bool B));have ZB:=hid (((u.out.setCell (p:=⟨a.heap.size,2,none⟩) r (.int .i64 m)).setCell (p:=⟨a.heap.size,3,none⟩) r (.int .i64 q)).setCell (p:=⟨a.heap.size+1,1,none⟩) (kva r) (.bool B));go_roundw
   case rel=>exact⟨2,by omega,by go_num,Z0,Z1,hid λh=>absurd h (by decide),hid λh=>absurd h (by decide),hid λh=>⟨Z6.out,Z7.out⟩,hid ZB.out.drew⟩
   case measure=>simp[intOf]
  have hq:B=false:=by have:=Ka.out.1;rw[if_neg he] at this;exact this
  subst hq;have Kv:(e1==0)=false:=by rw[kqi];exact he
  clear he;go_wp2_with fail;refine R.out.mono ?_;rintro e s ⟨rfl,d⟩;have J:=d.size;have y:=hid ((M.out.up d M.out.lt).alloc (.cells #[.int .i64 m,.int .i64 q] 126));have x:=hid ((N.out.up d N.out.lt).alloc (.cells #[.int .i64 m,.int .i64 q] 126));have f:=((C.out.up d C.out.lt).alloc (.cells #[.int .i64 m,.int .i64 q] 126));have j:=((z.out.up d z.out.lt).alloc (.cells #[.int .i64 m,.int .i64 q] 126));have g:=Bx.new s 126 #[.int .i64 m,.int .i64 q];have u:=hid ((HB.out.trans (d.mono hz)).alloc (kz3 hz J) (.cells #[.int .i64 m,.int .i64 q] 126));have Ki:=C.out.lt;have Kh:=z.out.lt;clear d;go_wp2_with fail;obtain⟨H,t⟩:=xq (s.alloc (.cells #[.int .i64 m,.int .i64 q] 126));rw[t] at y x f j g u |-;clear t;obtain⟨q0,q1,-,-,Kg⟩:=g.c2;obtain⟨p0,p1,p2,p3,p4,p5,p6,p7,Kf⟩:=f.c4;obtain⟨s0,s1,s2,s3,Ke⟩:=j.c2;have E:=hid f;have D:=hid j;have XS5:=hid (show Bx H.drew _ _ _ from g);have I:s.heap.size≠a.heap.size:=by omega
  have G:s.heap.size≠a.heap.size+1:=by omega
  clear f j g;have V:=I.symm;have Eq:=G.symm;refine kxq (S:=λX:World=>X.cell? ⟨s.heap.size,0,none⟩=some (.int .i64 m)/\X.cell? ⟨s.heap.size,1,none⟩=some (.int .i64 q)) (by kernel_rfl) ⟨q0,q1⟩ (λF=>?_);show wpAnyH _ _ _ _ _ 16 #[false,false,false,false,false,false,false,false,false,false,false,false,false,false,false,false] _ _;refine tj 0 (.int .i64 1) ?_;dsimp only[Act.put,kqh,kqe,kqd,kqb,kqg,kqf];refine tj 1 (.int .i64 1) ?_;dsimp only[Act.put,kqh,kqe,kqd,kqb,kqg,kqf];refine tj 2 (.agg #[.int .i64 m,.int .i64 q]) ?_;dsimp only[Act.put,kqh,kqe,kqd,kqb,kqg,kqf];refine tj 3 (.int .i64 e1) ?_;dsimp only[Act.put,kqh,kqe,kqd,kqb,kqg,kqf];refine tj 4 (.bool false) ?_;dsimp only[Act.put,kqh,kqe,kqd,kqb,kqg,kqf];refine tj 5 (.bool false) ?_;dsimp only[Act.put,kqh,kqe,kqd,kqb,kqg,kqf];refine sk 6 ?_;dsimp only[Act.put,kqh,kqe,kqd,kqb,kqg,kqf];refine sk 7 ?_;dsimp only[Act.put,kqh,kqe,kqd,kqb,kqg,kqf];refine sk 8 ?_;dsimp only[Act.put,kqh,kqe,kqd,kqb,kqg,kqf];refine sk 9 ?_;dsimp only[Act.put,kqh,kqe,kqd,kqb,kqg,kqf];refine sk 10 ?_;dsimp only[Act.put,kqh,kqe,kqd,kqb,kqg,kqf];refine tj 11 (.bool false) ?_;dsimp only[Act.put,kqh,kqe,kqd,kqb,kqg,kqf];refine tj 12 (.pointer (some ⟨a.heap.size,2,none⟩)) ?_
  dsimp only[Act.put,kqh,kqe,kqd,kqb,kqg,kqf];refine kz5 (rs:=[13]) (by kernel_rfl) (by simp) ?_;refine AllReadyH.cons rfl (λK Y=>?_) AllReadyH.nil;go_simp;refine Y.out _ _ ⟨by go_keep,by go_keep⟩ ?_;clear Y K;intro Kw;refine tj 14 (.pointer (some ⟨a.heap.size+1,1,none⟩)) ?_
  dsimp only[Act.put,kqh,kqe,kqd,kqb,kqg,kqf];refine kz5 (rs:=[15]) (by kernel_rfl) (by simp) ?_;refine AllReadyH.cons rfl (λK Y=>?_) AllReadyH.nil;go_simp;refine Y.out _ _ ⟨by go_keep,by go_keep⟩ ?_;clear Y K;intro Kt;refine kj4 (by kernel_rfl) ?_ _;clear F;clear q0 q1 p0 p1 p2 p3 p4 p5 p6 p7 s0 s1 s2 s3;go_wp2_with fail;have Z0:=hid (((y.out.far (p:=⟨a.heap.size,2,none⟩) (by simp;omega) (.int .i64 m)).far (p:=⟨a.heap.size,3,none⟩) (by simp;omega) (.int .i64 q)).far (p:=⟨a.heap.size+1,1,none⟩) (by simp;omega) (.bool false));have Z1:=hid (((x.out.far (p:=⟨a.heap.size,2,none⟩) (by simp;omega) (.int .i64 m)).far (p:=⟨a.heap.size,3,none⟩) (by simp;omega) (.int .i64 q)).far (p:=⟨a.heap.size+1,1,none⟩) (by simp;omega) (.bool false));have Z6:=hid (((E.out.set_ 2 (.int .i64 m)).set_ 3 (.int .i64 q)).far (p:=⟨a.heap.size+1,1,none⟩) (by simp) (.bool false));have Z7:=hid (((D.out.far (p:=⟨a.heap.size,2,none⟩) (by simp) (.int .i64 m)).far (p:=⟨a.heap.size,3,none⟩) (by simp) (.int .i64 q)).set_ 1 (.bool false));have ZB:=hid (((u.out.setCell (p:=⟨a.heap.size,2,none⟩) r (.int .i64 m)).setCell (p:=⟨a.heap.size,3,none⟩) r (.int .i64 q)).setCell (p:=⟨a.heap.size+1,1,none⟩) (kva r) (.bool false));go_roundw
  case rel=>exact⟨2,by omega,by go_num,Z0,Z1,hid λh=>absurd h (by decide),hid λh=>absurd h (by decide),hid λh=>⟨Z6.out,Z7.out⟩,hid ZB.out.drew⟩
  case measure=>simp[intOf]
 have h2:k=2:=by omega
 subst h2;have C:=hid (T2.out rfl).1;have z:=hid (T2.out rfl).2;obtain⟨p0,p1,p2,p3,-,-,-,-,-⟩:=C.out.c4;obtain⟨s0,s1,-⟩:=z.out.c2;have hgy0:=M.out.lt;have hgy1:=N.out.lt;obtain⟨v0,v1,f0,f1,-⟩:=M.out.c2;obtain⟨v2,v3,f2,f3,-⟩:=N.out.c2;clear T0 T1 T2;have n1:w.heap.size≠a.heap.size:=by omega
 have n2:w.heap.size≠a.heap.size+1:=by omega
 have n3:w.heap.size+1≠a.heap.size:=by omega
 cases P
 .cases B
  .have HN:Hid (tyN ws=none/\jE ws=50):=hid (by have:=HV.out;simp at this;exact⟨this.1,by rw[this.2,this.1];rfl⟩);go_wp2_with fail;exact kqo (v:=.tuple #[.agg #[.int .i64 0,.int .i64 0],.agg #[.bool false,.bool false],.int .i64 50]) (cR results68 _ (show Bx _ _ _ _ from (((M.out.set_ 0 (.int .i64 0)).set_ 1 (.int .i64 0)).far (p:=⟨w.heap.size+1,0,none⟩) (by simp) (.bool false)).far (p:=⟨w.heap.size+1,1,none⟩) (by simp) (.bool false)) (show Bx _ _ _ _ from (((N.out.far (p:=⟨w.heap.size,0,none⟩) (by simp) (.int .i64 0)).far (p:=⟨w.heap.size,1,none⟩) (by simp) (.int .i64 0)).set_ 0 (.bool false)).set_ 1 (.bool false)) rfl rfl rfl) rfl ⟨⟨0,false,false,by rw[HN.out.1,HN.out.2];rfl⟩,(((HB.out.setCell (p:=⟨w.heap.size,0,none⟩) (kqa _) (.int .i64 0)).setCell (p:=⟨w.heap.size,1,none⟩) (kqa _) (.int .i64 0)).setCell (p:=⟨w.heap.size+1,0,none⟩) (kz4 _) (.bool false)).setCell (p:=⟨w.heap.size+1,1,none⟩) (kz4 _) (.bool false)⟩
  have Z:q=((wd ws 11:Nat):Int):=Ka.out.2 rfl;have HN:Hid (tyN ws=some (wd ws 11)/\jE ws=0):=hid (by have:=HV.out;simp at this;exact⟨this.1,by rw[this.2,this.1];rfl⟩);have Kd:=hid Z;clear Z;go_wp2_with fail
  go_region_held3 (λX:World=>X.cell? ⟨a.heap.size,2,none⟩=some (.int .i64 m)/\X.cell? ⟨a.heap.size,3,none⟩=some (.int .i64 q)/\X.cell? ⟨a.heap.size+1,0,none⟩=some (.bool false)/\X.cell? ⟨a.heap.size+1,1,none⟩=some (.bool true)) (go_keep) (fail)
  go_wp2_with fail;exact kqo (v:=.tuple #[.agg #[.int .i64 m,.int .i64 q],.agg #[.bool false,.bool true],.int .i64 0]) (cR results68 _ (show Bx _ _ _ _ from (((M.out.set_ 0 (.int .i64 m)).set_ 1 (.int .i64 q)).far (p:=⟨w.heap.size+1,0,none⟩) (by simp) (.bool false)).far (p:=⟨w.heap.size+1,1,none⟩) (by simp) (.bool true)) (show Bx _ _ _ _ from (((N.out.far (p:=⟨w.heap.size,0,none⟩) (by simp) (.int .i64 m)).far (p:=⟨w.heap.size,1,none⟩) (by simp) (.int .i64 q)).set_ 0 (.bool false)).set_ 1 (.bool true)) rfl rfl rfl) rfl ⟨⟨m,false,true,by rw[HN.out.1,HN.out.2,Kd.out];rfl⟩,((((HB.out.setCell (p:=⟨w.heap.size,0,none⟩) (kqa _) (.int .i64 m)).setCell (p:=⟨w.heap.size,1,none⟩) (kqa _) (.int .i64 q)).setCell (p:=⟨w.heap.size+1,0,none⟩) (kz4 _) (.bool false)).setCell (p:=⟨w.heap.size+1,1,none⟩) (kz4 _) (.bool true)).drew⟩
 have Z:o=((wd ws 3:Nat):Int):=Q.out.2 rfl;have HN:Hid (tyN ws=some (wd ws 3)/\jE ws=0):=hid (by have:=HV.out;simp at this;exact⟨this.1,by rw[this.2,this.1];rfl⟩);have Kd:=hid Z;clear Z;go_wp2_with fail
 go_region_held3 (λX:World=>X.cell? ⟨a.heap.size,0,none⟩=some (.int .i64 l)/\X.cell? ⟨a.heap.size,1,none⟩=some (.int .i64 o)/\X.cell? ⟨a.heap.size+1,0,none⟩=some (.bool true)/\X.cell? ⟨a.heap.size+1,1,none⟩=some (.bool B)) (go_keep) (fail)
 go_wp2_with fail;exact kqo (v:=.tuple #[.agg #[.int .i64 l,.int .i64 o],.agg #[.bool true,.bool B],.int .i64 0]) (cR results68 _ (show Bx _ _ _ _ from (((M.out.set_ 0 (.int .i64 l)).set_ 1 (.int .i64 o)).far (p:=⟨w.heap.size+1,0,none⟩) (by simp) (.bool true)).far (p:=⟨w.heap.size+1,1,none⟩) (by simp) (.bool B)) (show Bx _ _ _ _ from (((N.out.far (p:=⟨w.heap.size,0,none⟩) (by simp) (.int .i64 l)).far (p:=⟨w.heap.size,1,none⟩) (by simp) (.int .i64 o)).set_ 0 (.bool true)).set_ 1 (.bool B)) rfl rfl rfl) rfl ⟨⟨l,true,B,by rw[HN.out.1,HN.out.2,Kd.out];rfl⟩,((((HB.out.setCell (p:=⟨w.heap.size,0,none⟩) (kqa _) (.int .i64 l)).setCell (p:=⟨w.heap.size,1,none⟩) (kqa _) (.int .i64 o)).setCell (p:=⟨w.heap.size+1,0,none⟩) (kz4 _) (.bool true)).setCell (p:=⟨w.heap.size+1,1,none⟩) (kz4 _) (.bool B)).drew⟩
end Go.Proofs.YtpcajamacpbjcaaGreat
