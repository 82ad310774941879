/- Texts laid together: Tys WaP R18 LyP R19A Seq R19B R19C. -/
import Derived.Test.YtpcajamacpbjcaaGreatZGH
import Derived.Test.YtpcajamacpbjcaaGreatZKStg2
import Derived.Test.YtpcajamacpbjcaaGreatZKRef15
import Derived.Test.YtpcajamacpbjcaaGreatZKImage
import Derived.Test.YtpcajamacpbjcaaGreatZKRch
import Derived.Test.YtpcajamacpbjcaaGreatZKRefs
import Derived.Test.YtpcajamacpbjcaaGreatZKHead
import Derived.Test.YtpcajamacpbjcaaGreatZKSup
import Derived.RowKit
import Derived.OrdersHeld
import Derived.Deep.RegionHeld
import Derived.BigQuiet
set_option maxHeartbeats 16000000
set_option maxRecDepth 100000
set_option linter.all false
namespace Go.Proofs.YtpcajamacpbjcaaGreat
open Lib (hid)
open Go.RowKit
variable {ops:Array Oper}{O l:List Bk}{ws:List Nat}{L:List Ty}{B H id k t v:Nat}{o:Oper}{A:Option Addr}{P:Program}{w w':World}
open Go.Proofs.Tryz
theorem oj{l:List Ty}(h:Rd w B A (l.flatMap Ty.cells))(hk:k<l.length):
 ∃b a,A=some ⟨b,a,none⟩/\b<B/\w.cell? ⟨b,a+k,none⟩=some (.slice l[k].A l[k].l.length l[k].c):=by obtain⟨b,a,e,d,f⟩:=Rd.at_flat Ty.len h (by omega) hk;have:=f 0 (by omega);simp only[kx7,kz6] at this;exact⟨b,a,e,d,this⟩
def te (w:World) (H:Nat) (v:Value) (L:List Ty):Prop:=w.ownsRow H 113 1 v L.length (L.flatMap Ty.cells)/\∀x∈L,w.ownsRow H 5 1 (.slice x.A x.l.length x.c) x.l.length (x.l.flatMap aZ)
theorem zD:(prog.info? 113).map (λi=>(i.zero,i.size,i.bytes))=some (some (.slice none 0 0),1,24):=by kernel_rfl
def Ai (ws:List Nat) (t i:Nat):Bool:=if i<t then bE (wd ws (96+2*i)) (wd ws (96+2*i+1)) else wd ws (96+2*i)==0&&wd ws (96+2*i+1)==0
def vz (ws:List Nat) (t k:Nat):Prop:=∀i,i<k->Ai ws t i=true
def gH (ws:List Nat) (t:Nat):Bool:=(List.range 8).all λi=>Ai ws t i
theorem i9(ws:List Nat)(t:Nat):gH ws t=true↔vz ws t 8:=by unfold gH vz;rw[kzq];exact⟨λh i a=>h i (kzh.2 a),λh i a=>h i (kzh.1 a)⟩
theorem oi(h:vz ws t k)(h1:Ai ws t k=true):vz ws t (k+1):=λi hi=>by
 rcases kq6 i k with a|a
 .exact h i a
 .have:i=k:=by omega
  subst this;exact h1
theorem qV(hk:k<8)(h:Ai ws t k=false):gH ws t=false:=by
 cases a:gH ws t with
 | false=>rfl
 | true=>rw[(i9 ws t).1 a k hk] at h;cases h
def gx (ws:List Nat) (t k:Nat):List (List Nat):=(List.range (min t k)).map λi=>bc (wd ws (96+2*i)) (wd ws (96+2*i+1))
theorem wU(h:k<t):gx ws t (k+1)=gx ws t k++[bc (wd ws (96+2*k)) (wd ws (96+2*k+1))]:=by unfold gx;rw[kk3 (by omega),kk3 (by omega),kj1,kxu];rfl
theorem xM(h:t<=k):gx ws t (k+1)=gx ws t k:=by unfold gx;rw[kjr (by omega),kjr (by omega)]
theorem ua(ws:List Nat)(t k:Nat):(gx ws t k).length=min t k:=by simp[gx]
theorem rv{wb:World}{v v1:Value}{x:Ty}(h:∀y∈L,w.ownsRow H 5 1 (.slice y.A y.l.length y.c) y.l.length (y.l.flatMap aZ))(hx:w.ownsRow H 5 1 (.slice x.A x.l.length x.c) x.l.length (x.l.flatMap aZ))(hrow:wb.ownsRow H 113 1 v L.length (L.flatMap Ty.cells))(hwb:∀ {A:Option Addr} {n c:Nat} {xs:List Value},w.ownsRow H 5 1 (.slice A n c) n xs->wb.ownsRow H 5 1 (.slice A n c) n xs)(hg:wb.grownBy w' v.ownBlock)(h1:w'.ownsRow H 113 1 v1 (L.length+1) (L.flatMap Ty.cells++x.cells)):te w' H v1 (L++[x]):=by
 refine⟨by rw[b9,kqz];exact h1,λy a=>?_⟩;rcases kzt.1 a with a|a
 .exact cB (hwb (h y a)) hg (gK (hwb (h y a)) hrow (by decide))
 rw[kq7] at a;subst a;exact cB (hwb hx) hg (gK (hwb hx) hrow (by decide))
def DQ (ws:List Nat) (t H:Nat) (e:Ending) (w':World):Prop:=∃v L,e=.returned (.tuple #[v,.bool (gH ws t)])/\(gH ws t=true->te w' H v L/\L.map Ty.l=gx ws t 8)
theorem vJ(A:Option Addr)(ws:List Nat)(c n t:Nat)(w:World)(hn:ws.length=n)(h2:256<=n)(hm:n<=2048)(hr:RdW w w.heap.size A ws)(ho:∀x∈ws,x<18446744073709551616):
 Calls prog 211 #[.slice A n c,.int .i64 (t:Int)] w λe w'=>DQ ws t w.heap.size e w'/\Below w.heap.size w w':=by
 subst hn;have HR:=hid hr;have Gb:Hid (∀k,wd ws k<18446744073709551616):=hid (eX ho);clear hr ho;obtain⟨i2,hi,Y,Fr,V⟩:=kze zD;have HJ:=hid hi;have Ft:=hid Y;have Ga:=hid Fr;have Fu:=hid V;clear hi Y Fr V;go_enter func211,ntmps211;go_wp2_with fail;go_loopw [6,7] (λv i wr=>∃(k:Nat) (L:List Ty),k<=8/\i=.int .i64 k/\Hid (vz ws t k)/\Hid (L.map Ty.l=gx ws t k)/\L.length<=k/\Hid (te wr w.heap.size v L)/\Below w.heap.size w wr) (λ_ i _=>8-(intOf i).toNat)
 case atStart=>exact⟨0,[],kqx _,rfl,hid (λi h=>absurd h (by omega)),hid (by simp[gx]),kqb _,hid ⟨kq1 _ _ _ _,λx hx=>absurd hx (by simp)⟩,kqk _ _⟩
 obtain⟨k,L,hk,rfl,Eq,O,hLk,C,R⟩:=hrel;have T:=R.size;by_cases Fx:k<8
 .obtain ⟨b,g,rfl,hb,h0⟩:=RdW.at_ (Rd.below HR.out R) (show 96+2*k<ws.length by omega);obtain⟨b',off',e',-,h1⟩:=RdW.at_ (Rd.below HR.out R) (show 96+2*k+1<ws.length by omega);cases e';rw[<-bI] at h0 h1;have d:=hid (λW=>uw (wd ws (96+2*k)) (wd ws (96+2*k+1)) W (Gb.out _));have u:=hid (λh=>oi Eq.out h);have s:=hid (λh=>qV (ws:=ws) (t:=t) Fx h);have f:Hid (Ai ws t k=if k<t then bE (wd ws (96+2*k)) (wd ws (96+2*k+1)) else wd ws (96+2*k)==0&&wd ws (96+2*k+1)==0):=hid rfl;have o:=hid (λh=>wU (ws:=ws) (t:=t) (k:=k) h);have J:=hid (λh=>xM (ws:=ws) (t:=t) (k:=k) h);have i1:IntKind.i64.wrap ((2:Int)*(k:Int))=2*(k:Int):=kqo _ (by omega);have i2':IntKind.i64.wrap ((96:Int)+2*(k:Int))=((96+2*k:Nat):Int):=by rw[kqo _ (by omega)];omega
  have i3:IntKind.i64.wrap (((96+2*k:Nat):Int)+1)=((96+2*k+1:Nat):Int):=by rw[kqo _ (by omega)];omega
  have j1:((96+2*k:Nat):Int)<(ws.length:Int):=by omega
  have j2:(0:Int)<=((96+2*k:Nat):Int):=by omega
  have j3:((96+2*k+1:Nat):Int)<(ws.length:Int):=by omega
  have j4:(0:Int)<=((96+2*k+1:Nat):Int):=by omega
  have hk1:(k:Int)<8:=by omega
  obtain⟨p,hp⟩:=xq (96+2*k);rw[hp] at h0 h1 d f o i2' i3 j1 j2 j3 j4;obtain⟨q,hq⟩:=xq (p+1);rw[hq] at h1 d f o i3 j3 j4;obtain⟨x,hx⟩:=xq (wd ws p);obtain⟨y,S⟩:=xq (wd ws q);rw[hx] at h0 d f o;rw[S] at h1 d f o;have Z:=hid R;clear hx S hp hq;by_cases m:k<t
  .have d1:decide ((k:Int)<(t:Int))=true:=by rw[kql];omega
   have d1n:decide (k<t)=true:=by rw[kql];exact m
   have d2:decide ((t:Int)<=(k:Int))=false:=by rw[kqc];omega
   have d2n:decide (t<=k)=false:=by rw[kqc];omega
   cases B:bE x y
   .have D:=hid (s.out (by rw[f.out,if_pos m,B]));have H:ei x y=50:=by unfold ei;rw[B];rfl
    have Fq:bc x y=[]:=by unfold bc;rw[B];rfl
    unfold lu at d;rw[H,Fq] at d;clear B H Fq f s u o J m;go_wp2_with fail
    go_region_held3 (λX:World=>X.cell? ⟨b,g+p,none⟩=some (.int .u64 (x:Int))/\X.cell? ⟨b,g+q,none⟩=some (.int .u64 (y:Int))) (go_keep) (fail)
    go_wp2_with fail;refine (d.out _).mono ?_;rintro e U ⟨⟨A3,c3,rfl,-⟩,a⟩;have I:=Z.out.drew.trans (a.mono T);clear a;go_wp2;go_ret2;exact⟨⟨.slice none 0 0,[],by rw[D.out];rfl,λh=>by rw[D.out] at h;cases h⟩,I⟩
   have D:=hid (u.out (by rw[f.out,if_pos m,B]));have K:=hid (o.out m);have H:ei x y=0:=by unfold ei;rw[B];rfl
   unfold lu at d;rw[H] at d;obtain⟨l,hl⟩:=xq (bc x y);rw[hl] at d K;clear B H hl f s u o J m;go_wp2_with fail
   go_region_held3 (λX:World=>X.cell? ⟨b,g+p,none⟩=some (.int .u64 (x:Int))/\X.cell? ⟨b,g+q,none⟩=some (.int .u64 (y:Int))) (go_keep) (fail)
   go_wp2_with fail;refine (d.out _).mono ?_;rintro e U ⟨⟨A3,c3,rfl,F⟩,a⟩;have I:=Z.out.drew.trans (a.mono T);have Fp:=I.size;have G:=ae (show wr.drew.ownsRow _ _ _ _ _ _ from C.out.1) a (kqb _);have Fv:Hid (∀y∈L,U.ownsRow w.heap.size 5 1 (.slice y.A y.l.length y.c) y.l.length (y.l.flatMap aZ)):=hid λy S=>ae (show wr.drew.ownsRow _ _ _ _ _ _ from C.out.2 y S) a (kqb _);have Fw:=hid (ar F (show w.heap.size<=wr.drew.heap.size from T));have Fo:=hid G;have z:=hid I;clear a F I C;go_wp2_with (at_builtin;refine kq9 _ rfl _ _ 69 rfl w.heap.size 113 i2 _ 1 24 underlying69 HJ.out Ft.out Ga.out Fu.out rfl (by decide) _ _ _ rfl (G.alloc _) ⟨_,0,none⟩ 1 1 [.slice A3 l.length c3] rfl rfl (bn _ _ _) (by simp[Value.oneCell']) (by unfold maxLen;omega) (by omega) (aH Fp) ?_;intro v1 w6 E M _;have Fy:=hid (am z.out Fp G M);have Fz:=hid (rv (x:=⟨A3,c3,l⟩) Fv.out Fw.out (Fo.out.alloc _) (λh=>h.alloc _) M E);clear E M);go_roundw
   case rel=>exact⟨k+1,L++[⟨A3,c3,l⟩],by omega,by go_num,D,hid (by rw[kxu,O.out,K.out];rfl),by simp;omega,Fz,Fy.out⟩
   case measure=>simp[intOf];omega
  have d1:decide ((k:Int)<(t:Int))=false:=by rw[kqc];omega
  have d1n:decide (k<t)=false:=by rw[kqc];exact m
  have d2:decide ((t:Int)<=(k:Int))=true:=by rw[kql];omega
  have d2n:decide (t<=k)=true:=by rw[kql];omega
  have K:=hid (J.out (by omega));have j:Hid (Ai ws t k=(x==0&&y==0)):=hid (by rw[f.out,if_neg m]);have P:=hid (λW=>(d.out W).mono (R':=λe w'=>(∃v r,e=.returned (.tuple #[v,.int .i64 r]))/\Below W.heap.size W w') (by rintro e w' ⟨⟨A,c,rfl,-⟩,R⟩;exact⟨⟨_,_,rfl⟩,R⟩));clear d f o J m;by_cases N:x=0
  .subst N;by_cases Q:y=0
   .subst Q;have D:=hid (u.out (by rw[j.out];rfl));clear s u j;go_wp2_with fail
    go_region_held3 (λX:World=>X.cell? ⟨b,g+p,none⟩=some (.int .u64 ((0:Nat):Int))/\X.cell? ⟨b,g+q,none⟩=some (.int .u64 ((0:Nat):Int))) (go_keep) (fail)
    go_wp2_with fail;refine (P.out _).mono ?_;rintro e U ⟨⟨v3,r3,rfl⟩,a⟩;have z:=hid (Z.out.drew.trans (a.mono T));have Fs:Hid (te U w.heap.size u6 L):=hid ⟨ae (show wr.drew.ownsRow _ _ _ _ _ _ from C.out.1) a (kqb _),λy S=>ae (show wr.drew.ownsRow _ _ _ _ _ _ from C.out.2 y S) a (kqb _)⟩;clear a;go_wp2;go_roundw
    case rel=>exact⟨k+1,L,by omega,by go_num,D,hid (by rw[O.out,K.out]),by omega,Fs,z.out⟩
    case measure=>simp[intOf];omega
   have D:=hid (s.out (by rw[j.out,show (y==0)=false by rw[kqi];exact Q];rfl));have d3:decide ((0:Int)<(y:Int))=true:=by rw[kql];omega
   have d3n:decide (0<y)=true:=by rw[kql];omega
   clear s u j Q;go_wp2_with fail
   go_region_held3 (λX:World=>X.cell? ⟨b,g+p,none⟩=some (.int .u64 ((0:Nat):Int))/\X.cell? ⟨b,g+q,none⟩=some (.int .u64 (y:Int))) (go_keep) (fail)
   go_wp2_with fail;refine (P.out _).mono ?_;rintro e U ⟨⟨v3,r3,rfl⟩,a⟩;have z:=hid (Z.out.drew.trans (a.mono T));clear a;go_wp2;go_ret2;exact⟨⟨.slice none 0 0,[],by rw[D.out];rfl,λh=>by rw[D.out] at h;cases h⟩,z.out⟩
  have D:=hid (s.out (by rw[j.out,show (x==0)=false by rw[kqi];exact N];rfl));have d3:decide ((0:Int)<(x:Int))=true:=by rw[kql];omega
  have d3n:decide (0<x)=true:=by rw[kql];omega
  clear s u j N;go_wp2_with fail
  go_region_held3 (λX:World=>X.cell? ⟨b,g+p,none⟩=some (.int .u64 (x:Int))/\X.cell? ⟨b,g+q,none⟩=some (.int .u64 (y:Int))) (go_keep) (fail)
  go_wp2_with fail;refine (P.out _).mono ?_;rintro e U ⟨⟨v3,r3,rfl⟩,a⟩;have z:=hid (Z.out.drew.trans (a.mono T));clear a;go_wp2;go_ret2;exact⟨⟨.slice none 0 0,[],by rw[D.out];rfl,λh=>by rw[D.out] at h;cases h⟩,z.out⟩
 obtain rfl:k=8:=by omega
 have HT:Hid (gH ws t=true):=hid ((i9 ws t).2 Eq.out);go_wp2;go_ret2;exact⟨⟨_,L,by rw[HT.out];rfl,λ_=>⟨C.out,O.out⟩⟩,R⟩
def nI (l:List Bk) (j:Nat):Bool:=!(j==0)&&((gk l (j-1)).kind==2&&(gk l j).kind==2)
def jY (l:List Bk):Bool:=(List.range l.length).all λj=>!nI l j
def nH (l:List Bk) (k:Nat):Prop:=∀j,j<k->nI l j=false
theorem mV(l:List Bk):jY l=true↔nH l l.length:=by
 unfold jY nH;rw[kzq];constructor
 .intro h j a;have:=h j (kzh.2 a)
  simpa using this
 intro h j a;have:=h j (kzh.1 a)
 simpa using this
theorem oe(l:List Bk):nH l 0:=λj h=>absurd h (by omega)
theorem kV(h:nH l k)(h1:nI l k=false):nH l (k+1):=λj hj=>by
 rcases kq6 j k with a|a
 .exact h j a
 .have:j=k:=by omega
  subst this;exact h1
theorem ql(hk:k<l.length)(h:nI l k=true):jY l=false:=by
 cases a:jY l with
 | false=>rfl
 | true=>have:=(mV l).1 a k hk;rw[h] at this;cases this
def uz (ws:List Nat):Bool:=match blocks ws 128 with | none=>false | some l=>jY l
theorem gU(h:blocks ws 128=some l):uz ws=jY l:=by unfold uz;rw[h]
theorem mq(h:blocks ws 128=none):uz ws=false:=by unfold uz;rw[h]
theorem wY(A:Option Addr)(ws:List Nat)(c n:Nat)(w:World)(hn:ws.length=n)(hs:ak (n:Int)=true)(hr:RdW w w.heap.size A ws)(ho:∀x∈ws,x<18446744073709551616):
 Calls prog 153 #[.slice A n c] w λe w'=>(∃A k c,e=.returned (.tuple #[.slice A k c,.bool (uz ws)])/\(uz ws=true->∃l,blocks ws 128=some l/\k=l.length/\k<=c/\RdB w' w'.heap.size A l))/\Below w.heap.size w w':=by
 subst hn;have N:=(af _).1 hs;have o:=hid (lS A ws c ws.length 128 w rfl (by omega) (by omega) (by omega) (by omega) hr ho);unfold rW nw at o;have f:∀l,blocks ws 128=some l->l.length<=1024:=λl h=>by
  have:=(a9 (by omega) _ _ h (by omega) (by omega) (by omega)).1;omega
 cases u:blocks ws 128 with
 | none =>
  rw[u] at o;simp only[kki,kj8,kxc] at o;have I:=hid (mq u);clear u hr ho hs N f;go_enter func153,ntmps153;go_wp2_with fail;refine o.out.mono ?_;rintro e Q ⟨⟨Y,U,rfl,-,-⟩,g⟩;go_wp2_with fail;go_loopw [5,6] (λv i wr=>v=.bool false/\i=.int .i64 1/\wr=Q) (λ_ _ _=>0)
  case atStart=>exact⟨rfl,rfl,rfl⟩
  obtain⟨rfl,rfl,rfl⟩:=hrel;go_wp2;go_ret2;exact⟨⟨none,0,0,by rw[I.out];rfl,λh=>by rw[I.out] at h;cases h⟩,g⟩
 | some l =>
  have hl24:=f l u;rw[u] at o;simp only[kq4,kxk] at o;have I:=hid (gU u);clear u hr ho hs N f;have R:=hid (λk L h=>ql (l:=l) (k:=k) L h);have S:=hid (mV l);go_enter func153,ntmps153;go_wp2_with fail;refine o.out.mono ?_;rintro e Q ⟨⟨Y,U,rfl,D,z⟩,g⟩;have p:=hid D;have H:=hid g;have O:=hid z;clear D g z;go_wp2_with fail;go_loopw [5,6] (λv i wr=>∃(k:Nat) (q:Bool),1<=k/\(k<=l.length\/k=1)/\v=.bool q/\i=.int .i64 k/\wr=Q/\Hid ((q=true->nH l k)/\(q=false->jY l=false))) (λ_ i _=>l.length-(intOf i).toNat)
  case atStart =>
   refine⟨1,true,kqb _,.inr rfl,rfl,rfl,rfl,hid ⟨λ_=>kV (oe l) rfl,λh=>by cases h⟩⟩
  obtain⟨k,q,J,L,rfl,rfl,rfl,r⟩:=hrel;by_cases d:k<l.length
  .obtain ⟨b,off,rfl,N,-,-,p2,-⟩:=RdB.at_ p.out d;obtain⟨b',off',e',-,-,-,X,-⟩:=RdB.at_ p.out (show k-1<l.length by omega);cases e';have G:=hid (λh=>kV (r.out.1 h));have T:=hid (R.out k d);have a:nI l k=((l[k-1].kind==2)&&(l[k].kind==2)):=by unfold nI;rw[bo l k d,bo l (k-1) (by omega),show (k==0)=false by rw[kqi];omega];rfl
   have E:=hid r.out.2;obtain⟨x,V⟩:=xq (l[k].kind);obtain⟨y,W⟩:=xq (l[k-1].kind);rw[V] at p2 a;rw[W] at X a;have i1:IntKind.i64.wrap ((k:Int)-1)=((k-1:Nat):Int):=by rw[kqo _ (by omega)];omega
   have hki:(k:Int)<(l.length:Int):=by omega
   have hk0:(0:Int)<=(k:Int):=by omega
   have B:((k-1:Nat):Int)<(l.length:Int):=by omega
   have F:(0:Int)<=((k-1:Nat):Int):=by omega
   obtain⟨m,Z⟩:=xq (k-1);rw[Z] at i1 B F X;have P:=hid a;clear V W r Z a;by_cases t:y=2
   .subst t;by_cases s:x=2
    .subst s;have C:=hid (T.out (by rw[P.out];rfl));go_wp2;go_roundw
     case rel=>exact⟨k+1,false,by omega,by omega,rfl,by go_num,trivial,hid ⟨λh=>(by cases h),λ_=>C.out⟩⟩
     case measure=>simp[intOf];omega
    have M:(x==2)=false:=by rw[kqi];exact s
    have C:Hid (nI l k=false):=hid (by rw[P.out,M];rfl);clear s;go_wp2;go_roundw
    case rel=>exact⟨k+1,q,by omega,by omega,rfl,by go_num,trivial,hid ⟨λh=>G.out h C.out,E.out⟩⟩
    case measure=>simp[intOf];omega
   have M:(y==2)=false:=by rw[kqi];exact t
   have C:Hid (nI l k=false):=hid (by rw[P.out,M];rfl);clear t;go_wp2;go_roundw
   case rel=>exact⟨k+1,q,by omega,by omega,rfl,by go_num,trivial,hid ⟨λh=>G.out h C.out,E.out⟩⟩
   case measure=>simp[intOf];omega
  have hend:decide ((k:Int)<(l.length:Int))=false:=by rw[kqc];omega
  have hendn:decide (k<l.length)=false:=by rw[kqc];exact d
  cases q with
  | true =>
   have K:Hid (uz ws=true):=hid (by
    rw[I.out];refine S.out.2 λj hj=>r.out.1 rfl j (by omega))
   clear r J L d;go_wp2;go_ret2;exact⟨⟨Y,l.length,U,by rw[K.out];rfl,λ_=>⟨l,rfl,rfl,O.out,p.out⟩⟩,H.out⟩
  | false =>have K:Hid (uz ws=false):=hid (by rw[I.out];exact r.out.2 rfl);clear r J L d;go_wp2;go_ret2;exact⟨⟨none,0,0,by rw[K.out];rfl,λh=>by rw[K.out] at h;cases h⟩,H.out⟩
def yW (s:Sl):Int:=if mP s=true then 0 else 8
theorem vA(g:Int)(u:Bool)(a:Int)(w:World)(h1:0<=g)(h2:g<=2147483647):
 Calls prog 262 #[.agg #[.int .i64 g,.bool u,.int .i64 a]] w λe w'=>e=.returned (.int .i64 (yW ⟨g,u,a⟩))/\Below w.heap.size w w':=by
 have d:=(kqk w.heap.size w).alloc (kqb _) (.cells #[.int .i64 g,.bool u,.int .i64 a] 52);have f:=hid d;have d1:decide (0<=g)=true:=by rw[kql];omega
 have d2:decide (g<=2147483647)=true:=by rw[kql];omega
 clear d;cases u
 .have H:Hid (yW ⟨g,false,a⟩=if (a==0)=true then 0 else 8):=hid rfl;obtain⟨b,h⟩:=xq ((a==0));rw[h] at H;cases b
  all_goals
   go_enter func262,ntmps262;go_wp2;go_ret;exact⟨by rw[H.out];rfl,f.out⟩
 have H:Hid (yW ⟨g,true,a⟩=if (decide (0<g)&&(decide (128<=a)&&decide (a<2048)))=true then 0 else 8):=hid rfl;have m:decide (1<=g)=decide (0<g):=by rw[decide_eq_decide];omega
 obtain⟨n,c⟩:=xq (decide (0<g));obtain⟨k,l⟩:=xq (decide (128<=a));obtain⟨i,j⟩:=xq (decide (a<2048));rw[c] at m;rw[c,l,j] at H;clear h1 h2 c;cases n<;>cases k<;>cases i
 all_goals
  go_enter func262,ntmps262;go_wp2;go_ret;exact⟨by rw[H.out];rfl,f.out⟩
theorem uZ(x:Nat)(w:World)(hx:x<18446744073709551616):
 Calls prog 212 #[.int .u64 (x:Int)] w λe w'=>e=.returned (.tuple #[(slB x).val,.int .i64 (vr x)])/\Below w.heap.size w w':=by
 obtain⟨D,A,L,E⟩:=gw x;have i:=hid (λh=>wo (x:=x) h);have k:=hid (λh=>ul (x:=x) h);have f:=hid (λW=>jg x 32 31 W hx (by omega));have m:=hid (λW=>jg x 63 1 W hx (by omega));have d:=hid (λW=>jg x 0 32 W hx (by omega));have G:((bD x 32 31:Nat):Int)=(dD x).gen:=by unfold bD dD;rfl
 have C:(((bD x 63 1:Nat):Int)==1)=(dD x).used:=by
  have:bD x 63 1=x/9223372036854775808:=by unfold bD;omega
  rw[this];show _=(x/9223372036854775808==1);rw[kzk,kqu,kqu];omega
 have H:((bD x 0 32:Nat):Int)=(dD x).at_:=by unfold bD dD;simp
 rw[G] at f;rw[H] at d;obtain⟨q,M⟩:∃q:Int,((bD x 63 1:Nat):Int)=q:=⟨_,rfl⟩;rw[M] at m C;have l:=hid (λW=>vA (dD x).gen (dD x).used (dD x).at_ W D A);obtain⟨s,I⟩:=xq (dD x);rw[I] at C D A L E i k f d l;obtain⟨g,u,a⟩:=s;dsimp only at C D A L E f d l;have w1:IntKind.i64.wrap g=g:=kqo _ (by omega);have w2:IntKind.i64.wrap a=a:=kqo _ (by omega);clear G H M I hx;have F:=Bx.new w 52 #[.int .i64 0,.bool false,.int .i64 0];have p:=(kqk w.heap.size w).alloc (kqb _) (.cells #[.int .i64 0,.bool false,.int .i64 0] 52);have y:=hid (F.alloc (.cells #[.int .i64 g,.bool u,.int .i64 a] 52));have j:=hid (p.alloc (by simp) (.cells #[.int .i64 g,.bool u,.int .i64 a] 52));have B:=Bx.new (w.alloc (.cells #[.int .i64 0,.bool false,.int .i64 0] 52)) 52 #[.int .i64 g,.bool u,.int .i64 a];rw[kqn] at B;have J:=hid B;clear F p B;cases c:mP ⟨g,u,a⟩
 .have t:=hid (k.out c);unfold yW at l;rw[c] at l;clear c i k;go_enter func212,ntmps212;go_wp2_with fail;refine (f.out _).mono ?_;rintro e r ⟨rfl,rfl⟩;go_wp2_with fail;refine (m.out _).mono ?_;rintro e r ⟨rfl,rfl⟩;go_wp2_with fail;refine (d.out _).mono ?_;rintro e r ⟨rfl,rfl⟩;go_wp2_with fail;refine (l.out _).mono ?_;rintro e O ⟨rfl,b⟩;have o:=y.out.up b y.out.lt;have n:=hid (j.out.trans (b.mono j.out.size));obtain⟨T,R,P,Q,U,N,S⟩:=o.c3;have z:=hid o;clear o b;go_wp2_with fail;exact kqr (v:=.tuple #[.agg #[.int .i64 0,.bool false,.int .i64 0],.int .i64 50]) (jF results212 _ (((z.out.set_ 0 _).set_ 1 _).set_ 2 _) rfl rfl) rfl ⟨by rw[t.out.1,t.out.2];rfl,(((n.out.setCell (kqb _) _).setCell (kqb _) _).setCell (kqb _) _)⟩
 have t:=hid (i.out c);unfold yW at l;rw[c] at l;clear c i k;go_enter func212,ntmps212;go_wp2_with fail;refine (f.out _).mono ?_;rintro e r ⟨rfl,rfl⟩;go_wp2_with fail;refine (m.out _).mono ?_;rintro e r ⟨rfl,rfl⟩;go_wp2_with fail;refine (d.out _).mono ?_;rintro e r ⟨rfl,rfl⟩;go_wp2_with fail;refine (l.out _).mono ?_;rintro e O ⟨rfl,b⟩;have o:=y.out.up b y.out.lt;have K:=J.out.up b J.out.lt;have n:=hid (j.out.trans (b.mono j.out.size));obtain⟨T,R,P,Q,U,N,S⟩:=o.c3;obtain⟨q0,q1,q2,-,-,-,hg2⟩:=K.c3;have z:=hid o;clear o K b;go_wp2_with fail;exact kqr (v:=.tuple #[.agg #[.int .i64 g,.bool u,.int .i64 a],.int .i64 0]) (jF results212 _ (((z.out.set_ 0 _).set_ 1 _).set_ 2 _) rfl rfl) rfl ⟨by rw[t.out.1,t.out.2];rfl,(((n.out.setCell (kqb _) _).setCell (kqb _) _).setCell (kqb _) _)⟩
theorem BE:(prog.info? 52).map (λi=>(i.zero,i.size,i.bytes))=some (some (.agg #[.int .i64 0,.bool false,.int .i64 0]),3,24):=by kernel_rfl
def yr (H:Nat) (ws:List Nat) (e:Ending) (w':World):Prop:=∃A n c,e=.returned (.tuple #[.slice A n c,.bool (slsOk ws)])/\(slsOk ws=true->n=16/\n<=c/\w'.ownsRow H 52 3 (.slice A n c) n ((slL ws).flatMap Sl.cells))
def TlRes (ws:List Nat) (e:Ending) (w':World):Prop:=∃A n c,e=.returned (.tuple #[.slice A n c,.bool (slsOk ws)])/\(slsOk ws=true->n=16/\n<=c/\RdS w' w'.heap.size A (slL ws))
theorem li(A:Option Addr)(ws:List Nat)(c n:Nat)(w:World)(hn:ws.length=n)(O:256<=n)(hm:n<=2048)(hr:RdW w w.heap.size A ws)(ho:∀x∈ws,x<18446744073709551616):
 Calls prog 152 #[.slice A n c] w λe w'=>yr w.heap.size ws e w'/\Below w.heap.size w w':=by
 subst hn;have HR:=hid hr;have S:Hid (∀k,wd ws k<18446744073709551616):=hid (eX ho);clear hr ho;obtain⟨i2,hi,u,z,y⟩:=kze BE;have HJ:=hid hi;have P:=hid u;have T:=hid z;have Q:=hid y;clear hi u z y;go_enter func152,ntmps152;go_wp2_with fail;go_loopw [4,5] (λv i wr=>∃k:Nat,k<=16/\i=.int .i64 k/\Hid (nC ws k)/\wr.ownsRow w.heap.size 52 3 v k (((slL ws).take k).flatMap Sl.cells)/\Below w.heap.size w wr) (λ_ i _=>16-(intOf i).toNat)
 case atStart=>exact⟨0,kqx _,rfl,nU ws,kq1 _ _ _ _,kqk _ _⟩
 obtain⟨k,hk,rfl,D,a,C⟩:=hrel;have Z:=C.size;by_cases B:k<16
 .obtain ⟨b,off,rfl,hb,h0⟩:=RdW.at_ (Rd.below HR.out C) (show 112+k<ws.length by omega);rw[<-bI] at h0;have d:=hid (λW=>uZ (wd ws (112+k)) W (S.out _));have o:=hid (λh=>nN D.out h);have q:=hid (λh=>qG (ws:=ws) B h);have j:dD (wd ws (112+k))=slAt ws k:=rfl;have L:k<(slL ws).length:=by rw[el];exact B
  have G:=hid (show ((slL ws).take (k+1)).flatMap Sl.cells=((slL ws).take k).flatMap Sl.cells++(slAt ws k).cells by
   rw[kqq L,b9,lk])
  have i1:(0:Int)<=112+(k:Int):=by omega
  have i2':(112:Int)+(k:Int)<(ws.length:Int):=by omega
  have n1:((112:Int)+(k:Int)).toNat=112+k:=by omega
  have hk1:(k:Int)<16:=by omega
  have hk0:(0:Int)<=(k:Int):=by omega
  obtain⟨x,I⟩:=xq (wd ws (112+k));rw[I] at h0 d j;cases f:mP (slAt ws k)
  .have HV:=hid (q.out f);rw[<-j] at f;rw[(ul f).1,(ul f).2] at d;unfold Sl.val at d;dsimp only at d;clear I f j q o a;go_wp2_with fail;refine (d.out _).mono ?_;rintro e w3 ⟨rfl,l⟩;have E:=C.trans (l.mono Z);have M:=E.size;clear l;go_wp2;go_ret2;exact⟨⟨none,0,0,by rw[HV.out];rfl,λh=>by rw[HV.out] at h;cases h⟩,E.alloc M _⟩
  have F:=hid (o.out f);rw[<-j] at f;rw[(wo f).1,(wo f).2,j] at d;obtain⟨s,t⟩:=xq (slAt ws k);rw[t] at d G;obtain⟨sg,V,Y⟩:=s;unfold Sl.val at d;dsimp only at d;clear I f j t q o;go_wp2_with fail;refine (d.out _).mono ?_;rintro e w3 ⟨rfl,l⟩;have r:=C.trans (l.mono Z);have R:=r.size;have m:=ae a l (kqb _);clear l a;go_wp2_with (at_builtin;refine kq9 _ rfl _ _ 45 rfl w.heap.size 52 i2 _ 3 24 underlying45 HJ.out P.out T.out Q.out rfl (by decide) _ _ _ rfl ((m.alloc _).alloc _) ⟨_,0,none⟩ 1 1 [.int .i64 sg,.bool V,.int .i64 Y] rfl rfl (kX _ _ _ (kqn _ _)) (by simp[Value.oneCell']) (by unfold maxLen;omega) (by omega) (by simp;omega) ?_;intro v1 w6 p J _;have N:=am (r.alloc R (.cells #[.int .i64 sg,.bool V,.int .i64 Y] 52)) (by simp;omega) (m.alloc _) J);go_roundw
  case rel=>exact⟨k+1,by omega,by go_num,F.out,by rw[G.out];exact p,N⟩
  case measure=>simp[intOf];omega
 obtain rfl:k=16:=by omega
 have X:slsOk ws=true:=(cw ws).2 D.out;have HT:=hid X;rw[kzb (by rw[el];exact kqb _)] at a;obtain⟨A1,U,rfl⟩:=ap a;have K:16<=U:=by
  rcases a.2 with⟨h1,O⟩|⟨g,cap,cur,h1,-,-,O,-⟩
  .cases O
  simp only[Value.slice.injEq] at h1;omega
 have H:=hid a;clear X a;go_wp2;go_ret2;exact⟨⟨A1,16,U,by rw[HT.out];rfl,λ_=>⟨rfl,K,H.out⟩⟩,C⟩
theorem yb(A:Option Addr)(ws:List Nat)(c n:Nat)(w:World)(hn:ws.length=n)(h2:256<=n)(hm:n<=2048)(hr:RdW w w.heap.size A ws)(ho:∀x∈ws,x<18446744073709551616):
 Calls prog 152 #[.slice A n c] w λe w'=>TlRes ws e w'/\Below w.heap.size w w':=(li A ws c n w hn h2 hm hr ho).mono λ_ _ ⟨⟨A,n,c,e,h⟩,b⟩=>⟨⟨A,n,c,e,λa=>⟨(h a).1,(h a).2.1,Rd.of_own (h a).2.2⟩⟩,b⟩
def sU (v:Nat):Bool:=v==9221120237041090561||decide (v%9223372036854775808<=9218868437227405312)
def aK (l:List Bk):List Bk:=l.filter λb=>b.kind==1
def lK (O:List Bk) (v:Nat):Bool:=O.any λb=>b.at_==(v:Int)
def wrF (ws F:List Nat) (O:List Bk) (m r i:Nat):Bool:=if r=10 then F[i]? == some 2 && !sU (wd ws (m+2+i)) else F[i]? == some 3&&(decide (0<wd ws (m+2+i)) && !lK O (wd ws (m+2+i)))
def wrB (ws:List Nat) (T:List (List Nat)) (O:List Bk) (m z ty:Nat) (mk:Bool) (nx r:Nat):Bool:=
 if r=7 then mk||decide (0<nx)
 else if r=8 then !decide (ty<T.length)||aX (T[ty]?.getD []).length != z
 else if r=9 then decide ((T[ty]?.getD []).length+2<z)&&wd ws (m+2+(T[ty]?.getD []).length) != 0
 else (List.range (T[ty]?.getD []).length).any λi=>wrF ws (T[ty]?.getD []) O m r i
def wrK (ws:List Nat) (T:List (List Nat)) (O:List Bk) (r:Nat) (b:Bk):Bool:=wrB ws T O b.at_.toNat b.size.toNat b.typ.toNat b.mark b.next r
def eY (ws:List Nat) (a:Nat):Bool:=(List.range 8).all λi=>wd ws (a+i)==0
def oq (ws:List Nat) (a k:Nat):Prop:=∀i,i<k->wd ws (a+i)=0
theorem mX(ws:List Nat)(a:Nat):eY ws a=true↔oq ws a 8:=by
 unfold eY oq;rw[kzq];constructor
 .intro h i b;have:=h i (kzh.2 b);simpa using this
 intro h i b;have:=h i (kzh.1 b);simpa using this
def jI (O:List Bk) (s:Sl):Bool:=!s.used||lK O s.at_.toNat
def lay (ws:List Nat):Bool:=match tyN ws,blocks ws 128 with
 | some t,some l=>eY ws 16&&(eY ws 24&&(gH ws t&&(slsOk ws&&(jY l&&((List.range 5).all (λr=>(aK l).all λb => !wrK ws (gx ws t 8) (aK l) (7+r) b)&&(slL ws).all (jI (aK l)))))))
 | _,_=>false
def bv (ws:List Nat):Int:=if ak (ws.length:Int)=true then (if lay ws=true then 0 else 50) else 8
theorem D3(h:v≠9221120237041090561):sU v=decide (v%9223372036854775808<=9218868437227405312):=by unfold sU;rw[show (v==9221120237041090561)=false by rw[kqi];exact h];rfl
theorem qz(hk:k<l.length):aK (l.take (k+1))=aK (l.take k)++(if l[k].kind=1 then [l[k]] else []):=by
 unfold aK;rw[kqq hk,kxj];congr 1;by_cases h:l[k].kind=1
 .rw[if_pos h];simp[h]
 rw[if_neg h];simp[h]
theorem Dq(hk:k<O.length)(h:O[k].at_=(v:Int)):lK O v=true:=by unfold lK;rw[kxn];exact⟨_,kqs hk,by rw[kqu];exact h⟩
theorem EF(h:∀k (a:k<O.length),O[k].at_≠(v:Int)):lK O v=false:=by unfold lK;rw[kj0];intro b c;obtain⟨k,a,rfl⟩:=kqv c;rw[kqu];exact h k a
theorem uo(v:Nat)(w:World):Calls prog 215 #[.int .u64 (v:Int)] w λe w'=>e=.returned (.bool (sU v))/\w=w':=by
 have h0:(0:Int)<=(v:Int):=by omega
 by_cases h:v=9221120237041090561
 .subst h;go_enter func215,ntmps215;go_wp2;go_ret;exact⟨rfl,rfl⟩
 have b:=hid (D3 h);have e1:((v:Int)==9221120237041090561)=false:=by rw[kqi];omega
 have c:decide ((v:Int)%9223372036854775808<=9218868437227405312)=decide (v%9223372036854775808<=9218868437227405312):=by rw[decide_eq_decide];omega
 obtain⟨q,a⟩:=xq (decide (v%9223372036854775808<=9218868437227405312));rw[a] at b c;clear h a;go_enter func215,ntmps215;go_wp2;go_ret;exact⟨by rw[b.out];rfl,rfl⟩
theorem we(n:Nat)(w:World)(hn:n<=1000000):Calls prog 214 #[.int .i64 (n:Int)] w λe w'=>e=.returned (.int .i64 ((aX n:Nat):Int))/\w=w':=by
 by_cases h:n%2=1
 .have b:((n:Int)%2==1)=true:=by rw[kqu];omega
  have a:=hid (show ((aX n:Nat):Int)=(n:Int)+1+2 by unfold aX;omega);have w1:IntKind.i64.wrap ((n:Int)+1)=(n:Int)+1:=kqo _ (by omega);have c:IntKind.i64.wrap ((n:Int)+1+2)=(n:Int)+1+2:=kqo _ (by omega);clear h;go_enter func214,ntmps214;go_wp2;go_ret;exact⟨by rw[a.out];go_num,rfl⟩
 have b:((n:Int)%2==1)=false:=by rw[kqi];omega
 have a:=hid (show ((aX n:Nat):Int)=(n:Int)+2 by unfold aX;omega);have c:IntKind.i64.wrap ((n:Int)+2)=(n:Int)+2:=kqo _ (by omega);clear h;go_enter func214,ntmps214;go_wp2;go_ret;exact⟨by rw[a.out];go_num,rfl⟩
theorem v6(A:Option Addr)(ws:List Nat)(c n a:Nat)(w:World)(hn:ws.length=n)(ha:a+8<=n)(hm:n<=2048)(hr:RdW w w.heap.size A ws):
 Calls prog 150 #[.slice A n c,.int .i64 (a:Int)] w λe w'=>e=.returned (.bool (eY ws a))/\w=w':=by
 subst hn;have z:=hid hr;have t:=hid (mX ws a);go_enter func150,ntmps150;go_wp2_with fail
 go_loop [5] (λi=>∃k:Nat,k<=8/\i=.int .i64 k/\Hid (oq ws a k)) (λi=>8-(intOf i).toNat)
 case atStart=>exact⟨0,kqx _,rfl,hid λi h=>absurd h (by omega)⟩
 obtain⟨k,hk,rfl,s⟩:=hrel;by_cases j:k<8
 .obtain ⟨b,off,rfl,hb,l⟩:=RdW.at_ z.out (show a+k<ws.length by omega);rw[<-bI] at l;have f:Hid (wd ws (a+k)=0->oq ws a (k+1)):=hid λh i C=>by
   rcases kq6 i k with u|u
   .exact s.out i u
   have:i=k:=by omega
   subst this;exact h
  have g:Hid (wd ws (a+k)≠0->eY ws a=false):=hid λh=>by
   cases D:eY ws a with
   | false=>rfl
   | true=>exact absurd (t.out.1 D k j) h
  have y:IntKind.i64.wrap ((a:Int)+(k:Int))=((a+k:Nat):Int):=by rw[kqo _ (by omega)];omega
  have v:((a+k:Nat):Int)<(ws.length:Int):=by omega
  have B:(0:Int)<=((a+k:Nat):Int):=by omega
  obtain⟨p,q⟩:=xq (a+k);rw[q] at l f g y v B;obtain⟨x,r⟩:=xq (wd ws p);rw[r] at l f g;clear q r;by_cases d:x=0
  .have o:=hid (f.out d);subst d;go_wp2_with fail
   go_round
   case rel=>exact⟨k+1,by omega,by go_num,o⟩
   case measure=>simp[intOf];omega
  have m:=hid (g.out d);have e1:((x:Int) != 0)=true:=by rw[kqt];omega
  have e1n:(x != 0)=true:=by rw[kqt];exact d
  clear d;go_wp2;go_ret;exact⟨by rw[m.out];rfl,rfl⟩
 have m:Hid (eY ws a=true):=hid (t.out.2 λi C=>s.out i (by omega));obtain rfl:k=8:=by omega
 go_wp2;go_ret;exact⟨by rw[m.out];rfl,rfl⟩
theorem nZ(A:Option Addr)(O:List Bk)(c n v:Nat)(w:World)(hn:O.length=n)(hm:n<=1000000)(hr:RdB w w.heap.size A O)(ho:∀b∈O,0<=b.at_/\b.at_<=1000000):
 Calls prog 156 #[.slice A n c,.int .u64 (v:Int)] w λe w'=>(∃r:Int,e=.returned (.int .i64 r)/\decide (r<0) = !lK O v)/\w=w':=by
 subst hn;have z:=hid hr;have u:=hid ho;clear hr ho;go_enter func156,ntmps156;go_wp2_with fail
 go_loop [5] (λi=>∃k:Nat,k<=O.length/\i=.int .i64 k/\Hid (∀j (f:j<O.length),j<k->O[j].at_≠(v:Int))) (λi=>O.length-(intOf i).toNat)
 case atStart=>exact⟨0,kqx _,rfl,hid λj f h=>absurd h (by omega)⟩
 obtain⟨k,hk,rfl,p⟩:=hrel;by_cases d:k<O.length
 .obtain ⟨b,off,rfl,hb,B,-⟩:=RdB.at_ z.out d;obtain⟨C,y⟩:=u.out _ (kqs d);have g:Hid (O[k].at_≠(v:Int)->∀j (f:j<O.length),j<k+1->O[j].at_≠(v:Int)):=hid λh j f h2=>by
   rcases kq6 j k with s|s
   .exact p.out j f s
   have:j=k:=by omega
   subst this;exact h
  have q:=hid (λh=>Dq (v:=v) d h);obtain⟨x,o⟩:=xq (O[k].at_);rw[o] at B g q C y;have i1:IntKind.u64.wrap x=x:=kzi _ (by omega);have hki:(k:Int)<(O.length:Int):=by omega
  have hk0:(0:Int)<=(k:Int):=by omega
  clear o;by_cases a:x=(v:Int)
  .have l:=hid (q.out a);have t:(x==(v:Int))=true:=by rw[kqu];exact a
   clear a g;go_wp2;go_ret;exact⟨⟨k,rfl,by rw[l.out];rw[decide_eq_false];rfl;omega⟩,rfl⟩
  have m:=hid (g.out a);have t:(x==(v:Int))=false:=by rw[kqi];exact a
  clear a g;go_wp2_with fail
  go_round
  case rel=>exact⟨k+1,by omega,by go_num,m⟩
  case measure=>simp[intOf];omega
 have l:Hid (lK O v=false):=hid (EF λj f=>p.out j f (by omega));obtain rfl:k=O.length:=by omega
 go_wp2;go_ret;exact⟨⟨-1,rfl,by rw[l.out];rfl⟩,rfl⟩
theorem rj(A:Option Addr)(l:List Bk)(c n:Nat)(w:World)(hn:l.length=n)(hm:n<=1000000)(hr:RdB w w.heap.size A l):
 Calls prog 154 #[.slice A n c] w λe w'=>(∃A k c,e=.returned (.slice A k c)/\k=(aK l).length/\k<=c/\RdB w' w'.heap.size A (aK l))/\Below w.heap.size w w':=by
 subst hn;have HR:=hid hr;clear hr;obtain⟨Y,V,p,r,q⟩:=kze kp;have X:=hid V;have z:=hid p;have F:=hid r;have B:=hid q;clear V p r q;go_enter func154,ntmps154;go_wp2_with fail;go_loopw [3,4] (λv i wr=>∃k:Nat,k<=l.length/\i=.int .i64 k/\wr.ownsRow w.heap.size 55 6 v (aK (l.take k)).length ((aK (l.take k)).flatMap Bk.cells)/\Below w.heap.size w wr) (λ_ i _=>l.length-(intOf i).toNat)
 case atStart=>exact⟨0,kqx _,rfl,kq1 _ _ _ _,kqk _ _⟩
 obtain⟨k,hk,rfl,a,t⟩:=hrel;have U:=t.size;by_cases s:k<l.length
 .obtain ⟨b,off,rfl,hb,W,T,O,M,R,P⟩:=RdB.at_ (Rd.below HR.out t) s;have d:=hid (qz s);have m:(aK (l.take k)).length<=k:=by unfold aK;have:=kxm (λb:Bk=>b.kind==1) (l.take k);rw[kzd] at this;omega
  obtain⟨x,J⟩:=xq (l[k]);rw[J] at W T O M R P d;obtain⟨H,xs,G,K,N,S⟩:=x;dsimp only at W T O M R P d;obtain⟨L,Q⟩:=xq (aK (l.take k));rw[Q] at a d m;have hki:(k:Int)<(l.length:Int):=by omega
  have hk0:(0:Int)<=(k:Int):=by omega
  clear J Q;by_cases h:G=1
  .have j:Hid (aK (l.take (k+1))=L++[⟨H,xs,G,K,N,S⟩]):=hid (by rw[d.out,if_pos h]);subst h;clear d;go_wp2_with (at_builtin;refine kq9 _ rfl _ _ 48 rfl w.heap.size 55 Y _ 6 48 underlying48 X.out z.out F.out B.out rfl (by decide) _ _ _ rfl (a.alloc _) ⟨_,0,none⟩ 1 1 [.int .i64 H,.int .i64 xs,.int .i64 1,.int .i64 K,.bool N,.int .u64 (S:Int)] rfl rfl (bn _ _ _) (by simp[Value.oneCell']) (by unfold maxLen;omega) (by omega) (aH U) ?_;intro v1 w6 f o _;have C:=hid (am t U a o);have D:=hid f;clear f o);go_roundw
   case rel=>exact⟨k+1,by omega,by go_num,by rw[j.out,b9,kqz];exact D.out,C.out⟩
   case measure=>simp[intOf];omega
  have j:Hid (aK (l.take (k+1))=L):=hid (by rw[d.out,if_neg h,kzm]);have e1:(G==1)=false:=by rw[kqi];exact h
  clear d h;go_wp2;go_roundw
  case rel=>exact⟨k+1,by omega,by go_num,by rw[j.out];exact a,t⟩
  case measure=>simp[intOf];omega
 obtain rfl:k=l.length:=by omega
 rw[kzj] at a;obtain⟨A1,I,rfl⟩:=ap a;have u:=hid (show (aK l).length<=I by
  rcases a.2 with⟨E,Z⟩|⟨g,cap,cur,E,-,-,Z,-⟩
  .simp only[Value.slice.injEq] at E;omega
  simp only[Value.slice.injEq] at E;omega)
 have y:=hid (Rd.of_own a);clear a;go_wp2;go_ret;exact⟨⟨A1,_,I,rfl,rfl,u.out,y.out⟩,t⟩
def mY:Op->Bool
 | .move _ | .assign _ | .pick _ _ _ | .load _ _ | .build _ _ | .binOp _ _ _ _ _ | .unOp _ _ _ | .convert _ _ _ | .slice _ _ _ _ _ | .fieldAddr _ _ _ | .field _ _ _ | .indexAddr _ _ _ | .index _ _ _ | .extract _ _=>true
 | _=>false
structure SW (S:World->Prop) where
 w:World
 ok:S w
theorem cls_of{S:World->Prop}(h:S w):∃g:SW S,w=g.w:=⟨⟨w,h⟩,rfl⟩
theorem cI{α:Type}(f:α->Value)(s:Sem α):∀w,(∃u w',(s.bind λx=>Sem.pure (Next.value (f x))).run P w=.ok (.value u) w')\/∃h w',(s.bind λx=>Sem.pure (Next.value (f x))).run P w=.halt h w':=by
 induction s with
 | pure a=>intro w;exact .inl ⟨f a,w,rfl⟩
 | load m a k ih =>
  intro w;simp only[Sem.bind,Sem.run];split
  .exact ih _ w
  split
  .exact ih _ w
  exact .inr ⟨_,_,rfl⟩
 | store m a v k ih =>
  intro w;cases v<;>simp only[Sem.bind,Sem.run]<;>first
   | exact .inr ⟨_,_,rfl⟩
   | (
    split
    .split
     .exact .inr ⟨_,_,rfl⟩
     exact ih _
    split
    .exact ih _
    exact .inr ⟨_,_,rfl⟩)
 | new o k ih=>intro w;exact ih _ _
 | shape r k ih=>intro w;exact ih _ _
 | freeze a n k ih=>intro w;exact ih _
 | frozen a k ih=>intro w;exact ih _ _
 | getObj r k ih =>
  intro w;simp only[Sem.bind,Sem.run];split
  .exact .inr ⟨_,_,rfl⟩
  .exact ih _ w
  exact .inr ⟨_,_,rfl⟩
 | setObj r o k ih =>
  intro w;simp only[Sem.bind,Sem.run];split
  .exact .inr ⟨_,_,rfl⟩
  .exact ih _
  exact .inr ⟨_,_,rfl⟩
 | choose q k ih =>
  intro w;simp only[Sem.bind,Sem.run];split
  .exact ih _ _
  exact ih _ _
 | sys c k ih=>intro w;exact ih _ _
 | program k ih=>intro w;exact ih _ _
 | mark m k ih=>intro w;exact ih _
 | halt h=>intro w;exact .inr ⟨h,w,rfl⟩
theorem vO{ρ:Operand->Value}(h:mY o.op=true)(w:World):(∃u w',(execOp ρ o).run P w=.ok (.value u) w')\/∃h w',(execOp ρ o).run P w=.halt h w':=by
 unfold execOp;unfold mY at h;split at h
 .rename_i x e;rw[e];exact .inl ⟨_,w,rfl⟩
 .rename_i x e;rw[e];exact .inl ⟨_,w,rfl⟩
 .rename_i c a b e;rw[e];exact cI _ _ w
 .rename_i e;rw[e];exact cI id _ w
 .rename_i e;rw[e];exact cI id _ w
 .rename_i e;rw[e];exact cI id _ w
 .rename_i e;rw[e];exact cI id _ w
 .rename_i e;rw[e];exact cI id _ w
 .rename_i e;rw[e];exact cI id _ w
 .rename_i e;rw[e];exact cI id _ w
 .rename_i e;rw[e];exact cI id _ w
 .rename_i e;rw[e];exact cI id _ w
 .rename_i e;rw[e];exact cI id _ w
 .rename_i e;rw[e];exact cI id _ w
 cases h
theorem sC{C:World->Prop}{a:Act}{v:Value}(h:mY o.op=true)(hq:o.quietAt P a C w v):(execOp a.eval o).run P w=.ok (.value v) w:=by
 unfold Oper.quietAt at hq;rcases vO (P:=P) (ρ:=a.eval) h w with⟨u,w',e⟩|⟨h',w',e⟩
 .rw[e] at hq |-;obtain⟨rfl,rfl⟩:=hq;rfl
 rw[e] at hq;exact False.elim hq
inductive It where
 | one (o:Oper) (tk:Bool) (gd:Option (Option Tmp × Bool))
 | two (o1 o2:Oper) (gd:Option (Option Tmp × Bool))
def gOk (gd:Option (Option Tmp × Bool)) (tmps:Array Value):Bool:=match gd with
 | none=>true
 | some (d,b)=>(match d.bind (tmps[·]?) with
  | some (.bool x)=>some x
  | _=>none)==some b
def rH (ops:Array Oper) (o:Oper):Option (Option Tmp × Bool):=match o.guard with
 | none=>none
 | some (g,b)=>some ((ops.toList[g]?).bind (·.dst),b)
theorem eH(ops:Array Oper)(o:Oper)(tmps:Array Value):Region.wanted o (yielded ops tmps)=gOk (rH ops o) tmps:=by
 unfold Region.wanted rH gOk;split
 .rename_i h;rw[h]
 rename_i j b h;rw[h];simp only[kk1];rfl
def AR (ops:Array Oper):List (Nat × Nat × Nat)->List It
 | []=>[]
 | (k,i,j)::r=>match ops.toList[i]? with
  | none=>[]
  | some o=>match k with
   | 0=>.one o true (rH ops o)::AR ops r
   | 2=>(match ops.toList[j]? with
    | none=>[]
    | some o2=>.two o o2 (rH ops o)::AR ops r)
   | _=>.one o false (rH ops o)::AR ops r
def lq:List (Nat × Nat × Nat)->Nat
 | []=>0
 | (k,_,_)::r=>(if k=2 then 2 else 1)+lq r
def lF (md:Region.Mode) (ops:Array Oper):List (Nat × Nat × Nat)->Array Bool->Bool
 | [],listed=>(Region.ready md ops listed).isEmpty
 | (k,i,j)::r,listed=>if k=2 then
  (match ops[i]?,ops[j]? with
   | some o1,some o2=>rH ops o1==rH ops o2
   | _,_=>false)&&(Region.ready md ops listed==[i,j]&&(Region.ready md ops (listed.setIfInBounds i true)==[j]&&(Region.ready md ops (listed.setIfInBounds j true)==[i]&&(i != j&&lF md ops r ((listed.setIfInBounds i true).setIfInBounds j true)))))
  else (ops[i]?).any (λo=>if k=0 then mY o.op&&(Region.free md ops listed i&&(Region.ready md ops listed).contains i) else Region.ready md ops listed==[i])&&lF md ops r (listed.setIfInBounds i true)
def nj (md:Region.Mode) (ops:Array Oper):List (Nat × Nat × Nat)->Array Bool->Bool
 | [],_=>true
 | (k,i,j)::r,listed=>if k=2 then
  (match ops[i]?,ops[j]? with
   | some o1,some o2=>rH ops o1==rH ops o2
   | _,_=>false)&&(Region.ready md ops listed==[i,j]&&(Region.ready md ops (listed.setIfInBounds i true)==[j]&&(Region.ready md ops (listed.setIfInBounds j true)==[i]&&(i != j&&nj md ops r ((listed.setIfInBounds i true).setIfInBounds j true)))))
  else (ops[i]?).any (λo=>if k=0 then mY o.op&&(Region.free md ops listed i&&(Region.ready md ops listed).contains i) else Region.ready md ops listed==[i])&&nj md ops r (listed.setIfInBounds i true)
def km:List (Nat × Nat × Nat)->Array Bool->Array Bool
 | [],listed=>listed
 | (k,i,j)::r,listed=>km r (if k=2 then (listed.setIfInBounds i true).setIfInBounds j true else listed.setIfInBounds i true)
theorem zx{md:Region.Mode}{l2:List (Nat × Nat × Nat)}:∀(b:List (Nat × Nat × Nat)) {a:Array Bool},nj md ops b a=true->lF md ops l2 (km b a)=true->lF md ops (b++l2) a=true:=by
 intro b
 induction b with
 | nil=>intro a _ h;exact h
 | cons x b ih =>
  intro a c e;obtain⟨k,i,j⟩:=x;by_cases d:k=2
  .subst d;simp only[nj,if_true,kqw] at c;simp only[km,if_true] at e;obtain⟨l,f,o,g,n,m⟩:=c;rw[kzr];simp only[lF,if_true,kqw];exact⟨l,f,o,g,n,ih m e⟩
  simp only[nj,d,if_false,kqw] at c;simp only[km,d,if_false] at e;rw[kzr];simp only[lF,d,if_false,kqw];exact⟨c.1,ih c.2 e⟩
def gJ (P:Program) (Q:Exit->Act->World->Prop) (S:World->Prop):List It->Act->World->Prop
 | [],a,w=>Q .normal a w
 | .one o t g::r,a,w=>if gOk g a.tmps=true then (if t=true then o.quiet P a (λX=>∃g:SW S,X=g.w) (λa'=>gJ P Q S r a' w) else o.wp P a w (λa' w'=>S w'/\gJ P Q S r a' w') Q) else gJ P Q S r (a.put o.dst undef) w
 | .two o1 o2 g::r,a,w=>if gOk g a.tmps=true then
  (
   o1.wp P a w (λa1 w1=>S w1/\gOk g a1.tmps=true/\o2.wp P a1 w1 (λa2 w2=>S w2/\gJ P Q S r a2 w2) Q) Q /\
   o2.wp P a w (λa1 w1=>S w1/\gOk g a1.tmps=true/\o1.wp P a1 w1 (λa2 w2=>S w2/\gJ P Q S r a2 w2) Q) Q) else False
section
variable {P:Program} {Q:Exit->Act->World->Prop} {S:World->Prop} {r:List It} {a:Act} {w:World} {o o1 o2:Oper} {g:Option (Option Tmp × Bool)}
theorem Bo(hg:gOk g a.tmps=true)(h:∀K:Act->Prop,(∀a',gJ P Q S r a' w->K a')->o.quiet P a (λX=>∃g:SW S,X=g.w) K):gJ P Q S (.one o true g::r) a w:=by unfold gJ;rw[if_pos hg,if_pos rfl];exact h _ λ_ h=>h
theorem seq_do(hg:gOk g a.tmps=true)(h:∀K:Act->World->Prop,(∀a' w',S w'->gJ P Q S r a' w'->K a' w')->o.wp P a w K Q):gJ P Q S (.one o false g::r) a w:=by unfold gJ;rw[if_pos hg,if_neg (by decide)];exact h _ λ_ _ b c=>⟨b,c⟩
theorem AH{t:Bool}(hg:gOk g a.tmps=false)(h:gJ P Q S r (a.put o.dst undef) w):gJ P Q S (.one o t g::r) a w:=by unfold gJ;rw[if_neg (by rw[hg];decide)];exact h
theorem zR(hs:Region.noSelect ops=true)(hQ:∀c a d v w,Q (.panic c) (a.put d v) w->Q (.panic c) a w):∀(l:List (Nat × Nat × Nat)) (b:Nat) (e:Array Bool) (a:Act) (w:World),lq l<=b->lF .any ops l e=true->S w->gJ P Q S (AR ops l) a w->wpAnyH P .any ops Q S b e a w:=by
 intro l
 induction l with
 | nil =>intro b e a w _ p _ h;exact kjd (List.isEmpty_iff.1 p) h b
 | cons x l ih =>
  intro b e a w I p z h;obtain⟨k,i,j⟩:=x;by_cases D:k=2
  .subst D;simp only[lq,if_true] at I;obtain⟨b,rfl⟩:∃f,b=f+1+1:=⟨b-2,by omega⟩;have y:lq l<=b:=by omega
   simp only[lF,if_true,kqw] at p;obtain⟨g,B,h3,O,W,M⟩:=p;cases n:ops[i]? with
   | none=>rw[n] at g;cases g
   | some o1 =>
    cases r:ops[j]? with
    | none=>rw[n,r] at g;cases g
    | some o2 =>
     rw[n,r] at g;have C:rH ops o1=rH ops o2:=by simpa using g
     simp only[AR,kk1,n,r] at h;unfold gJ at h;cases m:gOk (rH ops o1) a.tmps with
     | false=>rw[if_neg (by rw[m];decide)] at h;exact h.elim
     | true =>
      rw[if_pos m] at h;refine wpAnyH_all (rs:=[i,j]) (by simpa using B) (by simp) λq F=>?_;have H:i≠j:=by simpa using W
      rcases kq0.1 F with rfl|F
      .unfold wpOp;simp only[n];rw[eH,m,if_pos rfl];refine .inl (Oper.wp_mono (λR U u=>⟨u.1,?_⟩) h.1);refine wpAnyH_all (rs:=[j]) (by simpa using h3) (by simp) λG s=>?_;rw[kq7] at s;subst s;unfold wpOp;simp only[r];rw[eH,<-C,u.2.1,if_pos rfl];exact .inl (Oper.wp_mono (λV T t=>⟨t.1,ih b _ _ _ y M t.1 t.2⟩) u.2.2)
      rw[kq7] at F;subst F;unfold wpOp;simp only[r];rw[eH,<-C,m,if_pos rfl];refine .inl (Oper.wp_mono (λR U u=>⟨u.1,?_⟩) h.2);refine wpAnyH_all (rs:=[i]) (by simpa using O) (by simp) λG s=>?_;rw[kq7] at s;subst s;unfold wpOp;simp only[n];rw[eH,u.2.1,if_pos rfl];refine .inl (Oper.wp_mono (λV T t=>⟨t.1,?_⟩) u.2.2);rw[Array.setIfInBounds_comm _ _ (Ne.symm H)];exact ih b _ _ _ y M t.1 t.2
  simp only[lq,D,if_false] at I;obtain⟨b,rfl⟩:∃f,b=f+1:=⟨b-1,by omega⟩;have y:lq l<=b:=by omega
  simp only[lF,D,if_false,kqw] at p;obtain⟨g,B⟩:=p;cases A:ops[i]? with
  | none=>rw[A] at g;simp at g
  | some o =>
   rw[A] at g;simp only[Option.any_some] at g;simp only[AR,kk1,A] at h;by_cases E:k=0
   .subst E;unfold gJ at h;simp only[if_true] at g h;simp only[kqw] at g;obtain⟨Y,L,J⟩:=g;cases m:gOk (rH ops o) a.tmps with
    | true =>rw[if_pos m] at h;obtain⟨v,Z,G⟩:=h;exact kkn A hs L J (λc a w=>hQ c a _ v w) (.inl ⟨by rw[eH];exact m,λX N=>sC Y (Z X (cls_of N))⟩) z (ih b _ _ _ y B z G)
    | false =>rw[if_neg (by rw[m];decide)] at h;exact kkn A hs L J (λc a w=>hQ c a _ undef w) (.inr ⟨by rw[eH];exact m,rfl⟩) z (ih b _ _ _ y B z h)
   have hkb:(k==0)=false:=by rw[kqi];exact E
   simp only[E,if_false] at g;have h:gJ P Q S (.one o false (rH ops o)::AR ops l) a w:=by
    match k,D,E,h with
    | 1,_,_,h=>exact h
    | k+3,_,_,h=>exact h
   unfold gJ at h;refine wpAnyH_all (rs:=[i]) (by simpa using g) (by simp) λj K=>?_;rw[kq7] at K;subst K;unfold wpOp;simp only[A];cases m:gOk (rH ops o) a.tmps with
   | true =>rw[if_pos m,if_neg (by decide)] at h;rw[eH,m,if_pos rfl];exact .inl (Oper.wp_mono (λa' w' h=>⟨h.1,ih b _ _ _ y B h.1 h.2⟩) h)
   | false =>rw[if_neg (by rw[m];decide)] at h;rw[eH,m,if_neg (by decide)];exact⟨z,ih b _ _ _ y B z h⟩
theorem pa(l:List (Nat × Nat × Nat))(L:List It)(hm:P.follows .mixedOrders=true)(hs:Region.noSelect ops=true)(hl:lq l<=ops.size)(hok:lF .any ops l (Array.replicate ops.size false)=true)(hL:AR ops l=L)(hQ:∀c a d v w,Q (.panic c) (a.put d v) w->Q (.panic c) a w)(hS:S w.drew)(h:gJ P Q S L a w.drew):(Code.region id ops true).wp P Q a w:=by subst hL;exact wp_region_held hm (zR hs hQ l ops.size _ a w.drew hl hok hS h)
structure SqG (P:Program) (Q:Exit->Act->World->Prop) (S:World->Prop) (l:List It) (a:Act) (w:World):Prop where
 out:gJ P Q S l a w
theorem CU(h:Q .normal a w):SqG P Q S [] a w:=⟨h⟩
theorem mJ(hg:gOk g a.tmps=true)(h:∀K:Act->Prop,(∀b,SqG P Q S r b w->K b)->o.quiet P a (λX=>∃g:SW S,X=g.w) K):SqG P Q S (.one o true g::r) a w:=⟨Bo hg λK c=>h K λb d=>c b d.out⟩
theorem sq_do(hg:gOk g a.tmps=true)(h:∀K:Act->World->Prop,(∀b w',S w'->SqG P Q S r b w'->K b w')->o.wp P a w K Q):SqG P Q S (.one o false g::r) a w:=⟨seq_do hg λK d=>h K λb w' c e=>d b w' c e.out⟩
theorem iy{t:Bool}(hg:gOk g a.tmps=false)(h:SqG P Q S r (a.put o.dst undef) w):SqG P Q S (.one o t g::r) a w:=⟨AH hg h.out⟩
theorem ro(l:List (Nat × Nat × Nat))(L:List It)(hm:P.follows .mixedOrders=true)(hs:Region.noSelect ops=true)(hl:lq l<=ops.size)(hok:lF .any ops l (Array.replicate ops.size false)=true)(hL:AR ops l=L)(hQ:∀c a d v w,Q (.panic c) (a.put d v) w->Q (.panic c) a w)(hS:S w.drew)(h:SqG P Q S L a w.drew):(Code.region id ops true).wp P Q a w:=pa l L hm hs hl hok hL hQ hS h.out
end
def RdL (w:World) (B:Nat) (A:Option Addr) (L:List Ty):Prop:=Rd w B A (L.flatMap Ty.cells)/\∀x∈L,RdY w B x.A x.l
theorem RdL.up{B':Nat}(h:RdL w B A L)(hb:Below B w w')(hB:B<=B'):RdL w' B' A L:=⟨h.1.up hb hB,λx a=>(h.2 x a).up hb hB⟩
theorem RdL.of_own{n c:Nat}(h:te w H (.slice A n c) L)(hn:L.length=n):RdL w w.heap.size A L:=by subst hn;exact⟨Rd.of_own h.1,λx a=>Rd.of_own (h.2 x a)⟩
theorem rb(A TA OA:Option Addr)(ws:List Nat)(L:List Ty)(O:List Bk)(c n tc tn oc on m z ty nx r:Nat)(xk:Int)(mk:Bool)(w:World)(ht:L.length=tn)(hl8:∀x∈L,x.l.length<=8)(hr:r=7\/r=8)(hL:RdL w w.heap.size TA L):
 Calls prog 155 #[.slice A n c,.slice TA tn tc,.slice OA on oc,.agg #[.int .i64 (m:Int),.int .i64 (z:Int),.int .i64 xk,.int .i64 (ty:Int),.bool mk,.int .u64 (nx:Int)],.int .i64 (r:Int)] w λe w'=>e=.returned (.bool (wrB ws (L.map Ty.l) O m z ty mk nx r))/\Below w.heap.size w w':=by
 subst ht;have E:=hid (hL.up ((kqk w.heap.size w).alloc (kqb _) (.cells #[.int .i64 (m:Int),.int .i64 (z:Int),.int .i64 xk,.int .i64 (ty:Int),.bool mk,.int .u64 (nx:Int)] 55)) (kqb _));have u:=hid ((kqk w.heap.size w).alloc (kqb _) (.cells #[.int .i64 (m:Int),.int .i64 (z:Int),.int .i64 xk,.int .i64 (ty:Int),.bool mk,.int .u64 (nx:Int)] 55));have xb:=Bx.new w 55 #[.int .i64 (m:Int),.int .i64 (z:Int),.int .i64 xk,.int .i64 (ty:Int),.bool mk,.int .u64 (nx:Int)];have D:=hid xb;clear hL xb;rcases hr with rfl|rfl
 .have k:Hid (wrB ws (L.map Ty.l) O m z ty mk nx 7=(mk||decide (0<nx))):=hid rfl;have C:decide ((0:Int)<(nx:Int))=decide (0<nx):=by rw[decide_eq_decide];omega
  obtain⟨q,G⟩:=xq (decide (0<nx));rw[G] at k C;clear E;(try simp only[kqy]);cases mk
  all_goals
   go_enter func155,ntmps155;go_wp2;go_ret;exact⟨by rw[k.out];rfl,u.out⟩
 by_cases a:ty<L.length
 .obtain ⟨b,T,rfl,hb,F⟩:=oj E.out.1 a;have Z:=hl8 _ (kqs a);have k:Hid (wrB ws (L.map Ty.l) O m z ty mk nx 8=(aX L[ty].l.length != z)):=hid (by
   show (!decide (ty<(L.map Ty.l).length)||aX (((L.map Ty.l)[ty]?).getD []).length != z)=_;rw[kzl,decide_eq_true a,kxd,kqm a];rfl)
  obtain⟨x,U⟩:=xq (L[ty]);rw[U] at F Z k;obtain⟨xA,xc,v⟩:=x;dsimp only at F Z k;have V:=hid (λW=>we v.length W (by omega));have P:aX v.length<=10:=by unfold aX;omega
  have C:(((aX v.length:Nat):Int) != (z:Int))=(aX v.length != z):=by rw[kzk,kqt,kqt];omega
  obtain⟨o,Y⟩:=xq (aX v.length);rw[Y] at k V P C;obtain⟨q,G⟩:=xq ((o != z));rw[G] at k C;have d1:decide ((L.length:Int)<=(ty:Int))=false:=by rw[kqc];omega
  have Q:decide (L.length<=ty)=false:=by rw[kqc];omega
  have j1:(ty:Int)<(L.length:Int):=by omega
  have j0:(0:Int)<=(ty:Int):=by omega
  (try simp only[kqy]);clear U Y G hl8 a;obtain⟨I,H,J,y,M,N,R,s⟩:=D.out.c6;obtain⟨f,j⟩:∃f,w.alloc (.cells #[.int .i64 (m:Int),.int .i64 (z:Int),.int .i64 xk,.int .i64 (ty:Int),.bool mk,.int .u64 (nx:Int)] 55)=f:=⟨_,rfl⟩;go_enter func155,ntmps155;go_wp2_with fail;rw[j] at u H y F;clear j I J M N R D E s
  go_region_held3 (λX:World=>X.cell? ⟨w.heap.size,1,none⟩=some (.int .i64 (z:Int))/\X.cell? ⟨w.heap.size,3,none⟩=some (.int .i64 (ty:Int))/\X.cell? ⟨b,T+ty,none⟩=some (.slice xA v.length xc)) (go_keep)
   (first | (go_at_call 214;refine (V.out _).mono ?_;rintro e w5 ⟨rfl,rfl⟩;have m0:=H;have m1:=y;have m2:=F))
  clear m0 m1 m2;go_wp2;go_ret;exact⟨by rw[k.out];rfl,u.out.drew⟩
 have k:Hid (wrB ws (L.map Ty.l) O m z ty mk nx 8=true):=hid (by
  show (!decide (ty<(L.map Ty.l).length)||aX (((L.map Ty.l)[ty]?).getD []).length != z)=_;rw[kzl,decide_eq_false a];rfl)
 have d1:decide ((L.length:Int)<=(ty:Int))=true:=by rw[kql];omega
 have Q:decide (L.length<=ty)=true:=by rw[kql];omega
 obtain⟨I,H,J,y,M,N,R,s⟩:=D.out.c6;(try simp only[kqy]);clear a;go_enter func155,ntmps155;go_wp2_with fail;obtain⟨f,j⟩:∃f,w.alloc (.cells #[.int .i64 (m:Int),.int .i64 (z:Int),.int .i64 xk,.int .i64 (ty:Int),.bool mk,.int .u64 (nx:Int)] 55)=f:=⟨_,rfl⟩;rw[j] at u y s |-;clear j I H J M N R D E;have ct3:∀g:SW (λX:World=>Below f.heap.size f X),g.w.cell? ⟨w.heap.size,3,none⟩=some (.int .i64 (ty:Int)):=λg=>(g.ok.cell (p:=⟨w.heap.size,3,none⟩) s).trans y
 refine ro (S:=λX:World=>Below f.heap.size f X) ((0,0,0)::(0,1,0)::(0,2,0)::(1,3,0)::(0,4,0)::(0,5,0)::(0,6,0)::(0,7,0)::(0,8,0)::(0,9,0)::(0,10,0)::(0,13,0)::(0,14,0)::(1,11,0)::(1,12,0)::(0,15,0)::(0,16,0)::(0,17,0)::[]) (.one _ true (none)::.one _ true (none)::.one _ true (none)::.one _ false (none)::.one _ true (none)::.one _ true (none)::.one _ true (some (some 30,false))::.one _ true (some (some 30,false))::.one _ true (some (some 30,false))::.one _ true (some (some 30,false))::.one _ true (some (some 30,false))::.one _ true (some (some 30,false))::.one _ true (some (some 30,false))::.one _ false (some (some 30,false))::.one _ false (some (some 30,false))::.one _ true (some (some 30,false))::.one _ true (none)::.one _ true (none)::[]) (by kernel_rfl) (by kernel_rfl) (by decide) (by show lF _ _ (((0,0,0)::(0,1,0)::(0,2,0)::(1,3,0)::(0,4,0)::(0,5,0)::(0,6,0)::(0,7,0)::(0,8,0)::(0,9,0)::[])++(((0,10,0)::(0,13,0)::(0,14,0)::(1,11,0)::(1,12,0)::(0,15,0)::(0,16,0)::(0,17,0)::[]))) _=true;refine zx _ (by as_aux_lemma=>kernel_rfl) ?_;(as_aux_lemma=>kernel_rfl)) (by rfl) (λ_ _ d _ _ h=>by cases d<;>exact h) (kqk _ _).drew ?_;have i:=hid ((kqk f.heap.size f).drew);obtain⟨X0,B⟩:=xq f.drew
 rw[B] at i |-;clear B;have hne:Nonempty (SW (λX:World=>Below f.heap.size f X)):=⟨⟨X0,i.out⟩⟩
 iterate 3 (first | (refine iy (by rfl) ?_;(try simp only[Act.put,kqa,kqg,kqf])) | (refine mJ (by rfl) ?_;intro K t;go_big_quiet_op;go_big_quiet_on))
 (first | (refine iy (by rfl) ?_;(try simp only[Act.put,kqa,kqg,kqf])) | (refine sq_do (by rfl) ?_;intro K t;go_big_op;refine t _ _ i.out ?_;clear t K;(try simp only[Act.put,kqa,kqg,kqf])))
 iterate 9 (first | (refine iy (by rfl) ?_;(try simp only[Act.put,kqa,kqg,kqf])) | (refine mJ (by rfl) ?_;intro K t;go_big_quiet_op;go_big_quiet_on))
 (first | (refine iy (by rfl) ?_;(try simp only[Act.put,kqa,kqg,kqf])) | (refine sq_do (by rfl) ?_;intro K t;go_big_op;refine t _ _ i.out ?_;clear t K;(try simp only[Act.put,kqa,kqg,kqf])))
 (refine iy (by rfl) ?_;(try simp only[Act.put,kqa,kqg,kqf]))
 iterate 3 (first | (refine iy (by rfl) ?_;(try simp only[Act.put,kqa,kqg,kqf])) | (refine mJ (by rfl) ?_;intro K t;go_big_quiet_op;go_big_quiet_on))
 refine CU ?_;go_wp2;go_ret;exact⟨by rw[k.out];rfl,u.out.trans (i.out.mono u.out.size)⟩
theorem rM(A TA OA:Option Addr)(ws:List Nat)(L:List Ty)(O:List Bk)(c n tc tn oc on m z ty nx r:Nat)(xk:Int)(mk:Bool)(w:World)(hn:ws.length=n)(hon:O.length=on)(hm:n<=2048)(ho1:on<=2048)(ht:L.length=tn)(hty:ty<L.length)(hl8:L[ty].l.length<=8)(R:z=aX L[ty].l.length)(hmz:m+z<=n)(T:r=9\/r=10\/r=11)(hL:RdL w w.heap.size TA L)(hR:RdW w w.heap.size A ws)(hO:RdB w w.heap.size OA O)(hOb:∀b∈O,0<=b.at_/\b.at_<=1000000):
 Calls prog 155 #[.slice A n c,.slice TA tn tc,.slice OA on oc,.agg #[.int .i64 (m:Int),.int .i64 (z:Int),.int .i64 xk,.int .i64 (ty:Int),.bool mk,.int .u64 (nx:Int)],.int .i64 (r:Int)] w λe w'=>e=.returned (.bool (wrB ws (L.map Ty.l) O m z ty mk nx r))/\Below w.heap.size w w':=by
 subst ht hn hon;have E:=(kqk w.heap.size w).alloc (kqb _) (.cells #[.int .i64 (m:Int),.int .i64 (z:Int),.int .i64 xk,.int .i64 (ty:Int),.bool mk,.int .u64 (nx:Int)] 55);have X:=hL.up E (kqb _);have H:=hid (hR.up E E.size);have I:=hid (hO.up E E.size);have U:=hid hOb;have C:=hid E;have u:aX L[ty].l.length<=10/\L[ty].l.length+2<=aX L[ty].l.length:=by unfold aX;omega
 obtain⟨q0,q1,q2,q3,q4,q5,qf,K⟩:=(Bx.new w 55 #[.int .i64 (m:Int),.int .i64 (z:Int),.int .i64 xk,.int .i64 (ty:Int),.bool mk,.int .u64 (nx:Int)]).c6;obtain⟨b,off,rfl,hb,p0⟩:=oj X.1 hty;have M:=X.2 _ (kqs hty);have P:Hid (∀F,L[ty].l=F->wrB ws (L.map Ty.l) O m z ty mk nx r=(if r=7 then mk||decide (0<nx) else if r=8 then !decide (ty<(L.map Ty.l).length)||aX F.length != z else if r=9 then decide (F.length+2<z)&&wd ws (m+2+F.length) != 0 else (List.range F.length).any λi=>wrF ws F O m r i)):=hid λF hF=>by
  unfold wrB;rw[kxd,kqm hty];simp only[kzp,kq4,hF]
 obtain⟨x,hx⟩:=xq (L[ty]);rw[hx] at p0 hl8 R u M P;obtain⟨xA,xc,F⟩:=x;dsimp only at p0 hl8 R u M P;have V:=hid (P.out F rfl);have HF:=hid M;rw[<-R] at u;have j1:(ty:Int)<(L.length:Int):=by omega
 have j0:(0:Int)<=(ty:Int):=by omega
 have HZ:=hid R;clear hx P X hL hR hO hOb M R q2 q4 q5 qf;rcases T with rfl|rfl|rfl
 .have B:Hid (wrB ws (L.map Ty.l) O m z ty mk nx 9=(decide (F.length+2<z)&&wd ws (m+2+F.length) != 0)):=hid V.out;have w1:IntKind.i64.wrap ((z:Int)-2)=(z:Int)-2:=kqo _ (by omega);have w2:IntKind.i64.wrap ((m:Int)+2)=(m:Int)+2:=kqo _ (by omega);have w3:IntKind.i64.wrap ((m:Int)+2+(F.length:Int))=((m+2+F.length:Nat):Int):=by rw[kqo _ (by omega)];omega
  (try simp only[kqy]);by_cases hp:F.length+2<z
  .obtain ⟨bw,ow,rfl,Fv,G⟩:=RdW.at_ H.out (show m+2+F.length<ws.length by omega);rw[<-bI] at G;have d1:decide ((F.length:Int)<(z:Int)-2)=true:=by rw[kql];omega
   rw[decide_eq_true hp] at B;have k1:((m+2+F.length:Nat):Int)<(ws.length:Int):=by omega
   have k0:(0:Int)<=((m+2+F.length:Nat):Int):=by omega
   obtain⟨p,t⟩:=xq (m+2+F.length);rw[t] at G B w3 k1 k0;have e0:((wd ws p:Int) != 0)=(wd ws p != 0):=by rw[kzk,kqt,kqt];omega
   obtain⟨v,Q⟩:=xq (wd ws p);rw[Q] at G B e0;obtain⟨q,S⟩:=xq ((v != 0));rw[S] at B e0;clear t Q S V HF I U hp HZ u;go_enter func155,ntmps155;go_wp2;go_ret;exact⟨by rw[B.out];rfl,C.out⟩
  have d1:decide ((F.length:Int)<(z:Int)-2)=false:=by rw[kqc];omega
  rw[decide_eq_false hp] at B;clear V HF I U hp HZ u;go_enter func155,ntmps155;go_wp2;go_ret;exact⟨by rw[B.out];rfl,C.out⟩
 .have B:Hid (wrB ws (L.map Ty.l) O m z ty mk nx 10=(List.range F.length).any λi=>wrF ws F O m 10 i):=hid V.out;have w2:IntKind.i64.wrap ((m:Int)+2)=(m:Int)+2:=kqo _ (by omega);have Z:Hid (∀k,k<F.length->wrF ws F O m 10 k=true->wrB ws (L.map Ty.l) O m z ty mk nx 10=true):=hid λk J h=>by
   rw[B.out,kxn];exact⟨k,kzh.2 J,h⟩
  have Fr:Hid ((∀k,k<F.length->wrF ws F O m 10 k=false)->wrB ws (L.map Ty.l) O m z ty mk nx 10=false):=hid λh=>by
   rw[B.out,kj0];intro k J;rw[h k (kzh.1 J)];decide
  obtain⟨N,Fs⟩:∃N,w.alloc (.cells #[.int .i64 (m:Int),.int .i64 (z:Int),.int .i64 xk,.int .i64 (ty:Int),.bool mk,.int .u64 (nx:Int)] 55)=N:=⟨_,rfl⟩;rw[Fs] at H I HF C q0 q1 q3 p0 K;obtain⟨Fu,Ft⟩:=u;(try simp only[kqy]);clear V B HZ q1;go_enter func155,ntmps155;go_wp2_with fail;go_loopw [12] (λi wr=>∃k:Nat,k<=F.length/\i=.int .i64 k/\Hid (∀j,j<k->wrF ws F O m 10 j=false)/\Below N.heap.size N wr) (λi _=>F.length-(intOf i).toNat)
  case atStart=>exact⟨0,kqx _,rfl,hid λj h=>absurd h (by omega),kqk _ _⟩
  obtain⟨k,J,rfl,HP,D⟩:=hrel;have R:=D.size;by_cases y:k<F.length
  .have q0':=(D.cell (p:=⟨w.heap.size,0,none⟩) K).trans q0;obtain⟨bw,ow,rfl,Fv,G⟩:=RdW.at_ (Rd.below H.out D) (show m+2+k<ws.length by omega);rw[<-bI] at G;obtain⟨bf,of,rfl,Fy,y0⟩:=RdY.at_ (Rd.below HF.out (D.mono C.out.size)) y;have HS:Hid (wrF ws F O m 10 k=false->∀j,j<k+1->wrF ws F O m 10 j=false):=hid λh j hj=>by
    rcases kq6 j k with h2|h2
    .exact HP.out j h2
    have:j=k:=by omega
    subst this;exact h
   have HY:=hid (Z.out k y);have d:Hid (wrF ws F O m 10 k=(F[k]==2 && !sU (wd ws (m+2+k)))):=hid (by
    unfold wrF;rw[kqm y]
    first | rw[if_pos rfl] | rw[if_neg (by decide)]
    rw[show ∀a b:Nat,(some a==some b)=(a==b) from λa b=>rfl])
   have w3:IntKind.i64.wrap ((m:Int)+2+(k:Int))=((m+2+k:Nat):Int):=by rw[kqo _ (by omega)];omega
   have k1:((m+2+k:Nat):Int)<(ws.length:Int):=by omega
   have k0:(0:Int)<=((m+2+k:Nat):Int):=by omega
   have Fz:(k:Int)<(F.length:Int):=by omega
   have Fx:(0:Int)<=(k:Int):=by omega
   obtain⟨p,t⟩:=xq (m+2+k);rw[t] at G d w3 k1 k0;obtain⟨v,Q⟩:=xq (wd ws p);rw[Q] at G d;obtain⟨f,hf⟩:=xq (F[k]);rw[hf] at y0 d;have s:=hid D;clear t Q hf;have Fo:=hid (λW=>uo v W);by_cases Eq:f=2
   .subst Eq;have g:Hid (wrF ws F O m 10 k = !sU v):=hid (by rw[d.out];rfl);obtain⟨q,S⟩:=xq (sU v);rw[S] at Fo g;clear S d;cases q
    .have o:=hid (HY.out (by rw[g.out];rfl));go_wp2_with fail;refine (Fo.out _).mono ?_;rintro e w5 ⟨rfl,rfl⟩;go_wp2;go_ret;exact⟨by rw[o.out];rfl,C.out.trans (s.out.mono C.out.size)⟩
    have o:=hid (HS.out (by rw[g.out];rfl));go_wp2_with fail;refine (Fo.out _).mono ?_;rintro e w5 ⟨rfl,rfl⟩;go_wp2;go_roundw
    case rel=>exact⟨k+1,by omega,by go_num,o,s.out⟩
    case measure=>simp[intOf];omega
   have e1:((f:Int)==2)=false:=by rw[kqi];omega
   have o:=hid (HS.out (by rw[d.out,show (f==2)=false by rw[kqi];exact Eq];rfl));clear Eq d;go_wp2;go_roundw
   case rel=>exact⟨k+1,by omega,by go_num,o,s.out⟩
   case measure=>simp[intOf];omega
  have o:=hid (Fr.out λj hj=>HP.out j (by omega));obtain rfl:k=F.length:=by omega
  go_wp2;go_ret;exact⟨by rw[o.out];rfl,C.out.trans (D.mono C.out.size)⟩
 have B:Hid (wrB ws (L.map Ty.l) O m z ty mk nx 11=(List.range F.length).any λi=>wrF ws F O m 11 i):=hid V.out;have w2:IntKind.i64.wrap ((m:Int)+2)=(m:Int)+2:=kqo _ (by omega);have Z:Hid (∀k,k<F.length->wrF ws F O m 11 k=true->wrB ws (L.map Ty.l) O m z ty mk nx 11=true):=hid λk J h=>by
  rw[B.out,kxn];exact⟨k,kzh.2 J,h⟩
 have Fr:Hid ((∀k,k<F.length->wrF ws F O m 11 k=false)->wrB ws (L.map Ty.l) O m z ty mk nx 11=false):=hid λh=>by
  rw[B.out,kj0];intro k J;rw[h k (kzh.1 J)];decide
 obtain⟨N,Fs⟩:∃N,w.alloc (.cells #[.int .i64 (m:Int),.int .i64 (z:Int),.int .i64 xk,.int .i64 (ty:Int),.bool mk,.int .u64 (nx:Int)] 55)=N:=⟨_,rfl⟩;rw[Fs] at H I HF C q0 q1 q3 p0 K;obtain⟨Fu,Ft⟩:=u;(try simp only[kqy]);clear V B HZ q1;go_enter func155,ntmps155;go_wp2_with fail;go_loopw [12] (λi wr=>∃k:Nat,k<=F.length/\i=.int .i64 k/\Hid (∀j,j<k->wrF ws F O m 11 j=false)/\Below N.heap.size N wr) (λi _=>F.length-(intOf i).toNat)
 case atStart=>exact⟨0,kqx _,rfl,hid λj h=>absurd h (by omega),kqk _ _⟩
 obtain⟨k,J,rfl,HP,D⟩:=hrel;have R:=D.size;by_cases y:k<F.length
 .have q0':=(D.cell (p:=⟨w.heap.size,0,none⟩) K).trans q0;obtain⟨bw,ow,rfl,Fv,G⟩:=RdW.at_ (Rd.below H.out D) (show m+2+k<ws.length by omega);rw[<-bI] at G;obtain⟨bf,of,rfl,Fy,y0⟩:=RdY.at_ (Rd.below HF.out (D.mono C.out.size)) y;have HS:Hid (wrF ws F O m 11 k=false->∀j,j<k+1->wrF ws F O m 11 j=false):=hid λh j hj=>by
   rcases kq6 j k with h2|h2
   .exact HP.out j h2
   have:j=k:=by omega
   subst this;exact h
  have HY:=hid (Z.out k y);have d:Hid (wrF ws F O m 11 k=(F[k]==3&&(decide (0<wd ws (m+2+k)) && !lK O (wd ws (m+2+k))))):=hid (by
   unfold wrF;rw[kqm y]
   first | rw[if_pos rfl] | rw[if_neg (by decide)]
   rw[show ∀a b:Nat,(some a==some b)=(a==b) from λa b=>rfl])
  have w3:IntKind.i64.wrap ((m:Int)+2+(k:Int))=((m+2+k:Nat):Int):=by rw[kqo _ (by omega)];omega
  have k1:((m+2+k:Nat):Int)<(ws.length:Int):=by omega
  have k0:(0:Int)<=((m+2+k:Nat):Int):=by omega
  have Fz:(k:Int)<(F.length:Int):=by omega
  have Fx:(0:Int)<=(k:Int):=by omega
  obtain⟨p,t⟩:=xq (m+2+k);rw[t] at G d w3 k1 k0;obtain⟨v,Q⟩:=xq (wd ws p);rw[Q] at G d;obtain⟨f,hf⟩:=xq (F[k]);rw[hf] at y0 d;have s:=hid D;clear t Q hf;by_cases Fp:f=3
  .subst Fp;have g:Hid (wrF ws F O m 11 k=(decide (0<v) && !lK O v)):=hid (by rw[d.out];rfl);by_cases Y:0<v
   .have d1:decide ((0:Int)<(v:Int))=true:=by rw[kql];omega
    have Fq:=hid (λW (T:RdB W W.heap.size OA O)=>nZ OA O oc O.length v W rfl (by omega) T U.out);have Fw:=hid (I.out.up D R);rw[decide_eq_true Y] at g;obtain⟨q,S⟩:=xq (lK O v);rw[S] at Fq g;clear S d;cases q
    .have o:=hid (HY.out (by rw[g.out];rfl));go_wp2_with fail;refine (Fq.out _ Fw.out).mono ?_;rintro e w5 ⟨⟨r,rfl,T⟩,rfl⟩;simp only[kky] at T;go_wp2;go_ret;exact⟨by rw[o.out];rfl,C.out.trans (s.out.mono C.out.size)⟩
    have o:=hid (HS.out (by rw[g.out];rfl));go_wp2_with fail;refine (Fq.out _ Fw.out).mono ?_;rintro e w5 ⟨⟨r,rfl,T⟩,rfl⟩;simp only[kvd] at T;go_wp2;go_roundw
    case rel=>exact⟨k+1,by omega,by go_num,o,s.out⟩
    case measure=>simp[intOf];omega
   have o:=hid (HS.out (by rw[g.out,decide_eq_false Y];rfl));obtain rfl:v=0:=by omega
   clear d g Y;go_wp2;go_roundw
   case rel=>exact⟨k+1,by omega,by go_num,o,s.out⟩
   case measure=>simp[intOf];omega
  have e1:((f:Int)==3)=false:=by rw[kqi];omega
  have o:=hid (HS.out (by rw[d.out,show (f==3)=false by rw[kqi];exact Fp];rfl));clear Fp d;go_wp2;go_roundw
  case rel=>exact⟨k+1,by omega,by go_num,o,s.out⟩
  case measure=>simp[intOf];omega
 have o:=hid (Fr.out λj hj=>HP.out j (by omega));obtain rfl:k=F.length:=by omega
 go_wp2;go_ret;exact⟨by rw[o.out];rfl,C.out.trans (D.mono C.out.size)⟩
theorem uI(A:Option Addr)(ws:List Nat)(c n t:Nat)(w:World)(hn:ws.length=n)(hs:ak (n:Int)=true)(ht:tyN ws=some t)(hc:n<=c)(g:RdW w w.heap.size A ws)(ho:∀x∈ws,x<18446744073709551616):
 Calls prog 151 #[.slice A n c] w λe w'=>DQ ws t w.heap.size e w'/\Below w.heap.size w w':=by subst hn;have y:=(af _).1 hs;have j:=hid (qw A ws c ws.length w rfl (by omega) hc g);have s:jk ws=0:=zK.2 ⟨hs,by rw[ht];rfl⟩;unfold yj at j;rw[s,ht] at j;have z:=hid (λW (g:RdW W W.heap.size A ws)=>vJ A ws c ws.length t W rfl (by omega) (by omega) g ho);have B:=hid g;clear hs y s ht g ho;go_enter func151,ntmps151;go_wp2_with fail;refine j.out.mono ?_;rintro e C ⟨⟨a,o,p,rfl⟩,d⟩;simp only[kq4];have l:=d.size;have b:=hid ((d.alloc l (.cells #[.int .i64 a,.int .i64 (t:Int)] 126)).alloc (by simp;omega) (.cells #[.bool o,.bool p] 127));clear d;go_wp2_with fail;refine (z.out _ (B.out.up b.out b.out.size)).mono ?_;rintro e r ⟨⟨v,L,rfl,q⟩,i⟩;have k:=hid (b.out.trans (i.mono b.out.size));have f:=hid q;have hz2:=b.out.size;have m:Hid (∀L v,te r ((C.alloc (.cells #[.int .i64 a,.int .i64 (t:Int)] 126)).alloc (.cells #[.bool o,.bool p] 127)).heap.size v L->te r w.heap.size v L):=hid λL v h=>⟨ar h.1 b.out.size,λx u=>ar (h.2 x u) b.out.size⟩;clear q i;go_wp2;go_ret2;exact⟨⟨v,L,rfl,λh=>⟨m.out _ _ (f.out h).1,(f.out h).2⟩⟩,k.out⟩
theorem pJ(ht:tyN ws=some t)(hl:blocks ws 128=some l):lay ws=true↔eY ws 16=true/\eY ws 24=true/\gH ws t=true/\slsOk ws=true/\jY l=true/\(∀r,7<=r->r<12->∀b∈aK l,wrK ws (gx ws t 8) (aK l) r b=false)/\∀s∈slL ws,jI (aK l) s=true:=by
 unfold lay;rw[ht,hl];simp only[kqw,kzq,kzh,kxo];constructor
 .rintro ⟨g,d,c,e,i,h,f⟩;refine⟨g,d,c,e,i,λr h1 h2 b a=>?_,f⟩;have:=h (r-7) (by omega) b a;rwa [show 7+(r-7)=r by omega] at this
 rintro ⟨g,d,c,e,i,h,f⟩;exact⟨g,d,c,e,i,λr hr b a=>h (7+r) (by omega) (by omega) b a,f⟩
theorem oG(h:tyN ws=none\/blocks ws 128=none):lay ws=false:=by
 unfold lay;rcases h with h|h
 .rw[h]
 rw[h];cases tyN ws<;>rfl
theorem gv(hl:blocks ws 128=some l){b:Bk}(hb:b∈aK l):∃a z ty nx:Nat,∃mk,b=⟨(a:Int),(z:Int),1,(ty:Int),mk,nx⟩/\128<=a/\a+z<=ws.length/\2<=z/\b=bkAt ws a/\stands ws a=true:=by
 unfold aK at hb;obtain⟨j,c⟩:=kzu.1 hb;rw[kqu] at c;obtain⟨k,g,rfl⟩:=kqv j;obtain⟨a,e,a1,h,a3,d,-⟩:=bC _ _ hl (by omega) k g;have f:=ax d;rw[e] at c;have m:bkAt ws a=⟨(a:Int),((szAt ws a:Nat):Int),1,(((ah (wd ws a)).typ.toNat:Nat):Int),(ah (wd ws a)).mark,wd ws (a+1)⟩:=by
  have i:(ah (wd ws a)).typ=(((ah (wd ws a)).typ.toNat:Nat):Int):=by unfold ah;dsimp only;omega
  rw[<-i,<-c];rfl
 exact⟨a,szAt ws a,(ah (wd ws a)).typ.toNat,wd ws (a+1),(ah (wd ws a)).mark,by rw[e,m],h,f.2.2,f.1,e,d⟩
theorem BY(l:List Bk):(aK l).length<=l.length:=by unfold aK;exact kxm _ _
def AG (ws:List Nat) (e:Ending):Prop:=∃r:Int,e=.returned (.int .i64 r)/\0<=r/\(r=0↔lay ws=true)
theorem ls{r:Int}(h:lay ws=false)(hr:0<r):AG ws (.returned (.int .i64 r)):=⟨r,rfl,by omega,by rw[h];constructor<;>intro h;omega;cases h⟩
theorem wy_ok(h:lay ws=true):AG ws (.returned (.int .i64 0)):=⟨0,rfl,by omega,by rw[h];simp⟩
theorem Co(A:Option Addr)(ws:List Nat)(c n:Nat)(w:World)(hn:ws.length=n)(hs:ak (n:Int)=true)(hc:n<=c)(p:RdW w w.heap.size A ws)(ho:∀x∈ws,x<18446744073709551616):
 Calls prog 93 #[.slice A n c] w λe w'=>AG ws e/\Below w.heap.size w w':=by
 subst hn;have hb:=(af _).1 hs;have HC:=hid (qw A ws c ws.length w rfl (by omega) hc p);have HR:=hid p;have M:jk ws=if (tyN ws).isSome=true then 0 else 50:=by unfold jk;rw[if_pos hs]
 unfold yj at HC;have HZ:=hid (λa ha W (p:RdW W W.heap.size A ws)=>v6 A ws c ws.length a W rfl ha (by omega) p);have Fo:=hid (λW (p:RdW W W.heap.size A ws)=>(show Calls prog 150 #[.slice A ws.length c,.int .i64 16] W λe w'=>e=.returned (.bool (eY ws 16))/\W=w' from HZ.out 16 (by omega) W p));have X:=hid (λW (p:RdW W W.heap.size A ws)=>(show Calls prog 150 #[.slice A ws.length c,.int .i64 24] W λe w'=>e=.returned (.bool (eY ws 24))/\W=w' from HZ.out 24 (by omega) W p));have Fp:=hid (λW (p:RdW W W.heap.size A ws)=>yb A ws c ws.length W rfl (by omega) (by omega) p ho);have Gh:=hid (λW (p:RdW W W.heap.size A ws)=>wY A ws c ws.length W rfl hs p ho);unfold TlRes at Fp;cases ht:tyN ws with
 | none =>rw[ht] at HC M;rw[M] at HC;have F:=hid (oG (.inl ht));simp only[kki,kj8,kzn,if_false] at HC;clear M ht hs hb p ho HZ Fo X Fp Gh;go_enter func93,ntmps93;go_wp2_with fail;refine HC.out.mono ?_;rintro e w1 ⟨⟨a,b0,b1,rfl⟩,P⟩;have Gt:=P.size;go_wp2;go_ret;exact⟨ls F.out (by decide),(P.alloc Gt _).alloc (by simp;omega) _⟩
 | some t =>
  have Kh:=uc ht;rw[ht] at HC M;rw[M] at HC;simp only[kq4,kxk,if_true] at HC;have Gq:=hid (λW (p:RdW W W.heap.size A ws)=>uI A ws c ws.length t W rfl hs ht hc p ho);unfold DQ at Gq;have Gf:=hid (λl G=>pJ (ws:=ws) (t:=t) (l:=l) ht G);have Ji:=hid (λh=>oG (ws:=ws) (.inr h));have R:Hid ((eY ws 16=false\/eY ws 24=false\/gH ws t=false\/slsOk ws=false\/uz ws=false)->lay ws=false):=hid λh=>by
   cases y:lay ws with
   | false=>rfl
   | true =>
    cases G:blocks ws 128 with
    | none=>rw[Ji.out G] at y;cases y
    | some l =>obtain⟨a1,a2,a3,a4,a5,-⟩:=(Gf.out l G).1 y;rw[a1,a2,a3,a4,gU G,a5] at h;simp at h
  have Jw:=hid (λl G=>gU (ws:=ws) (l:=l) G);have Gv:=hid (λl (G:blocks ws 128=some l)=>(a9 (by omega) _ _ G (by omega) (by omega) (by omega)).1);have HO:=hid ho;have Gg:256<=ws.length:=by omega
  have I:ws.length<=2048:=by omega
  clear M hs hb p ho HZ ht;go_enter func93,ntmps93;go_wp2_with fail;refine HC.out.mono ?_;rintro e w1 ⟨⟨a,b0,b1,rfl⟩,P⟩;have Gt:=P.size;have m:=hid ((P.alloc Gt (.cells #[.int .i64 a,.int .i64 (t:Int)] 126)).alloc (by simp;omega) (.cells #[.bool b0,.bool b1] 127));clear P;go_wp2_with fail;refine (Fo.out _ (HR.out.up m.out m.out.size)).mono ?_;rintro e w2 ⟨rfl,rfl⟩;cases Ft:eY ws 16
  .have F:=hid (R.out (.inl Ft));clear Ft;go_wp2;go_ret;exact⟨ls F.out (by decide),m.out⟩
  have Jo:=hid Ft;clear Ft;go_wp2_with fail;refine (X.out _ (HR.out.up m.out m.out.size)).mono ?_;rintro e w2 ⟨rfl,rfl⟩;cases Fq:eY ws 24
  .have F:=hid (R.out (.inr (.inl Fq)));clear Fq;go_wp2;go_ret;exact⟨ls F.out (by decide),m.out⟩
  have Jv:=hid Fq;clear Fq;go_wp2_with fail;refine (Gq.out _ (HR.out.up m.out m.out.size)).mono ?_;rintro e w3 ⟨⟨v,L,rfl,hT⟩,Gz⟩;have Q:=hid (m.out.trans (Gz.mono m.out.size));have Jc:=hid hT;have Jr:=hid (HR.out.up Q.out Q.out.size);clear hT Gz;cases D:gH ws t
  .have F:=hid (R.out (.inr (.inr (.inl D))));clear D;go_wp2;go_ret;exact⟨ls F.out (by decide),Q.out⟩
  have Ju:=hid D;obtain⟨Gj,Gr⟩:=Jc.out D;obtain⟨TA,tc,rfl⟩:=ap Gj.1;have Gx:=hid (RdL.of_own Gj rfl);have Gy:=hid Gr;have Js:∀x∈L,x.l.length<=8:=λx hx=>by
   have:x.l∈L.map Ty.l:=kjb hx;rw[Gr] at this;unfold gx at this;obtain⟨i,-,e⟩:=kzy.1 this;rw[<-e];exact jA _ _
  have Gn:=hid Js;clear D Gj Gr Js Jc;go_wp2_with fail;refine (Fp.out _ Jr.out).mono ?_;rintro e w4 ⟨⟨SA,sn,sc,rfl,hS⟩,Fu⟩;have J:=hid (Q.out.trans (Fu.mono Q.out.size));have Jn:=hid hS;have Jb:=hid (HR.out.up J.out J.out.size);have Gb:=hid (Gx.out.up Fu Fu.size);clear hS Fu;cases U:slsOk ws
  .have F:=hid (R.out (.inr (.inr (.inr (.inl U)))));clear U;go_wp2;go_ret;exact⟨ls F.out (by decide),J.out⟩
  have Jt:=hid U;obtain⟨Jk,Kq,Je⟩:=Jn.out U;have Fx:=hid Jk;have Jq:=hid Je;clear U Je Jn Jk;go_wp2_with fail;refine (Gh.out _ Jb.out).mono ?_;rintro e w5 ⟨⟨PA,pn,pc,rfl,hP⟩,N⟩;have Fw:=hid (J.out.trans (N.mono J.out.size));have Jg:=hid hP;have Ga:=hid (Gb.out.up N N.size);have Gc:=hid (show RdS w5 w5.heap.size SA (slL ws) from Rd.up Jq.out N N.size);clear hP N;cases Y:uz ws
  .have F:=hid (R.out (.inr (.inr (.inr (.inr Y)))));clear Y;go_wp2;go_ret;exact⟨ls F.out (by decide),Fw.out⟩
  obtain⟨l,G,rfl,Ke,Jz⟩:=Jg.out Y;have Kj:=Gv.out l G;have Ge:=hid (Gf.out l G);have Jy:Hid (jY l=true):=hid (by rw[<-Jw.out l G];exact Y);have Gu:=hid (rj PA l pc l.length w5 rfl (by omega) Jz);have Jj:=BY l;have Gk:=hid (λb hb=>gv (b:=b) G hb);obtain⟨O,hO⟩:=xq (aK l);rw[hO] at Gu Ge Jj Gk;clear Y G Jz hO Jg Gf Ji Gv Jw;go_wp2_with fail;refine Gu.out.mono ?_;rintro e w6 ⟨⟨OA,on,oc,rfl,rfl,Ki,Jp⟩,K⟩;have E:=hid (Fw.out.trans (K.mono Fw.out.size));have V:=hid (Ga.out.up K K.size);have Ka:=hid (show RdS w6 w6.heap.size SA (slL ws) from Rd.up Gc.out K K.size);have Gd:=hid Jp;have Kr:=hid (HR.out.up E.out E.out.size);clear K Jp;have Fz:Hid (∀b∈O,0<=b.at_/\b.at_<=1000000):=hid λb hb=>by
   obtain⟨a,z,S,nx,mk,rfl,a1,a2,-⟩:=Gk.out b hb;dsimp only;omega
  have Gp:Hid (∀(r j a z S nx:Nat) (mk:Bool) (hj:j<O.length),O[j]=⟨(a:Int),(z:Int),1,(S:Int),mk,nx⟩->7<=r->r<=11->(9<=r->wrK ws (L.map Ty.l) O 8 O[j]=false)->a+z<=ws.length->∀W,Below w6.heap.size w6 W->Calls prog 155 #[.slice A ws.length c,.slice TA L.length tc,.slice OA O.length oc,.agg #[.int .i64 (a:Int),.int .i64 (z:Int),.int .i64 1,.int .i64 (S:Int),.bool mk,.int .u64 (nx:Int)],.int .i64 (r:Int)] W λe w'=>e=.returned (.bool (wrK ws (L.map Ty.l) O r O[j]))/\Below W.heap.size W w'):=hid λr j a z S nx mk hj e h7 h11 h8 Ko W hW=>by
   have ek:∀r,wrK ws (L.map Ty.l) O r O[j]=wrB ws (L.map Ty.l) O a z S mk nx r:=λr=>by
    rw[e];unfold wrK;simp only[kqj]
   rw[ek r];by_cases h9:9<=r
   .have h8:=h8 h9;rw[ek 8] at h8;have h8:(!decide (S<(L.map Ty.l).length)||aX (((L.map Ty.l)[S]?).getD []).length != z)=false:=h8;rw[kzo] at h8;have D:S<L.length:=by
     have:=h8.1;rw[kzl] at this
     simpa using this
    have hz:=h8.2;rw[kxd,kqm D,kqp] at hz;exact rM A TA OA ws L O c ws.length tc L.length oc O.length a z S nx r 1 mk W rfl rfl I (by omega) rfl D (Gn.out _ (kqs D)) hz.symm Ko (by omega) (V.out.up hW hW.size) (Kr.out.up hW hW.size) (Gd.out.up hW hW.size) Fz.out
   exact rb A TA OA ws L O c ws.length tc L.length oc O.length a z S nx r 1 mk W rfl Gn.out (by omega) (V.out.up hW hW.size)
  rw[Gy.out] at Gp;have Fy:Hid (lay ws=true↔(∀r,7<=r->r<12->∀b∈O,wrK ws (gx ws t 8) O r b=false)/\∀s∈slL ws,jI O s=true):=hid (by
   rw[Ge.out];exact⟨λh=>h.2.2.2.2.2,λh=>⟨Jo.out,Jv.out,Ju.out,Jt.out,Jy.out,h⟩⟩)
  have Kd:O.length<=1000000:=by omega
  have Km:=hid (λW (p:RdB W W.heap.size OA O) v=>nZ OA O oc O.length v W rfl Kd p Fz.out);obtain⟨T,Jf⟩:=xq (gx ws t 8);rw[Jf] at Gp Fy;have Kc:O.length<=2048:=by omega
  clear Jf Ge Jy Ju Jt Jo Jv Gy V Ga Gb Gx Gn Kj Jj Ke Kq Ki Gu Jr Jb Jq Gc Q J Fw m R Gq Fp Gh Fo X HC Kc Gg I Kh;go_wp2_with fail;go_loopw [11] (λi wr=>∃k:Nat,7<=k/\k<=12/\i=.int .i64 k/\Hid (∀r,7<=r->r<k->∀b∈O,wrK ws T O r b=false)/\Below w6.heap.size w6 wr) (λi _=>12-(intOf i).toNat)
  case atStart=>exact⟨7,kqb _,by omega,rfl,hid λr h1 h2=>absurd h2 (by omega),kqk _ _⟩
  obtain⟨k,Gm,hk,rfl,HP,hB⟩:=hrel;have hz:=hB.size;by_cases Fr:k<=11
  .have hki:decide ((k:Int)<=11)=true:=by rw[kql];omega
   have hkn:decide (k<=11)=true:=by rw[kql];exact Fr
   have Kn:=hid hB;have Kp:Hid ((∀b∈O,wrK ws T O k b=false)->∀r,7<=r->r<k+1->∀b∈O,wrK ws T O r b=false):=hid λh r h1 h2=>by
    rcases kq6 r k with h3|h3
    .exact HP.out r h1 h3
    have:r=k:=by omega
    subst this;exact h
   obtain⟨wk,Kb⟩:=xq wr;rw[Kb] at hB Kn hz |-;clear Kb;go_wp2_with fail;go_loopw [12] (λi wr=>∃j:Nat,j<=O.length/\i=.int .i64 j/\Hid (∀q (h:q<O.length),q<j->wrK ws T O k O[q]=false)/\Below wk.heap.size wk wr) (λi _=>O.length-(intOf i).toNat)
   case atStart=>exact⟨0,kqx _,rfl,hid λq h h2=>absurd h2 (by omega),kqk _ _⟩
   obtain⟨j,hj,rfl,HQ,Z⟩:=hrel;have Kf:=Z.size;have C:=hB.trans (Z.mono hz);by_cases f:j<O.length
   .obtain ⟨a,z,S,nx,mk,ej,a1,a2,-⟩:=Gk.out O[j] (kqs f);have Gl:=hid (Gp.out k j a z S nx mk f ej Gm Fr (λh9=>HP.out 8 (by omega) (by omega) _ (kqs f)) a2 wr C);obtain⟨b,off,rfl,hb,p0,p1,p2,p3,p4,p5⟩:=RdB.at_ (Rd.below Gd.out C) f;rw[ej] at p0 p1 p2 p3 p4 p5;dsimp only at p0 p1 p2 p3 p4 p5;have o:Hid (wrK ws T O k O[j]=false->∀q (h:q<O.length),q<j+1->wrK ws T O k O[q]=false):=hid λh q y h2=>by
     rcases kq6 q j with h3|h3
     .exact HQ.out q y h3
     have:q=j:=by omega
     subst this;exact h
    have B:Hid (wrK ws T O k O[j]=true->lay ws=false):=hid λh=>by
     cases y:lay ws with
     | false=>rfl
     | true=>rw[(Fy.out.1 y).1 k Gm (by omega) _ (kqs f)] at h;cases h
    obtain⟨q,y⟩:=xq (wrK ws T O k O[j]);rw[y] at Gl o B;have Jl:(j:Int)<(O.length:Int):=by omega
    have Kk:(0:Int)<=(j:Int):=by omega
    have Ja:(0:Int)<(k:Int):=by omega
    have Jm:=hid Z;have H:=hid C;clear y ej a1 a2 C;cases q
    .have HN:=hid (o.out rfl);clear o B;go_wp2_with fail;refine Gl.out.mono ?_;rintro e w8 ⟨rfl,Eq⟩;have Gs:=hid (Jm.out.trans (Eq.mono Kf));clear Eq;go_wp2;go_roundw
     case rel=>exact⟨j+1,by omega,by go_num,HN,Gs.out⟩
     case measure=>simp[intOf];omega
    have F:=hid (B.out rfl);clear o B;go_wp2_with fail;refine Gl.out.mono ?_;rintro e w8 ⟨rfl,Eq⟩;have Gs:=hid (E.out.trans ((H.out.trans (Eq.mono (by have:=H.out.size;omega))).mono E.out.size));have Kl:=hid Ja;clear Eq Ja;go_wp2;go_ret;exact⟨ls F.out Kl.out,Gs.out⟩
   have HN:=hid (Kp.out λb hb=>by
    obtain⟨q,y,rfl⟩:=kqv hb;exact HQ.out q y (by omega))
   have hjn:decide ((j:Int)<(O.length:Int))=false:=by rw[kqc];omega
   have hjnn:decide (j<O.length)=false:=by rw[kqc];exact f
   have H:=hid C;clear f C;go_wp2;go_roundw
   case rel=>exact⟨k+1,by omega,by omega,by go_num,HN,H.out⟩
   case measure=>simp[intOf];omega
  have Jd:Hid (∀r,7<=r->r<12->∀b∈O,wrK ws T O r b=false):=hid λr h1 h2=>HP.out r h1 (by omega);have d:=hid hB;have hkd:decide ((k:Int)<=11)=false:=by rw[kqc];omega
  have hkdn:decide (k<=11)=false:=by rw[kqc];exact Fr
  clear HP Fr hk Gm;go_wp2_with fail;go_loopw [13] (λi wr2=>∃j:Nat,j<=16/\i=.int .i64 j/\Hid (∀q (h:q<(slL ws).length),q<j->jI O (slL ws)[q]=true)/\Below w6.heap.size w6 wr2) (λi _=>16-(intOf i).toNat)
  case atStart=>exact⟨0,kqx _,rfl,hid λq h h2=>absurd h2 (by omega),d.out⟩
  obtain⟨j,hj,rfl,HQ,Z⟩:=hrel;have d:=hid Z
  rename World=>wq
  by_cases f:j<16
  .have Jh:j<(slL ws).length:=by rw[el];exact f
   obtain⟨b,off,rfl,hb,p0,p1,p2⟩:=RdS.at_ (Rd.below Ka.out d.out) Jh;have o:Hid (jI O (slL ws)[j]=true->∀q (h:q<(slL ws).length),q<j+1->jI O (slL ws)[q]=true):=hid λh q y h2=>by
    rcases kq6 q j with h3|h3
    .exact HQ.out q y h3
    have:q=j:=by omega
    subst this;exact h
   have B:Hid (jI O (slL ws)[j]=false->lay ws=false):=hid λh=>by
    cases y:lay ws with
    | false=>rfl
    | true=>rw[(Fy.out.1 y).2 _ (kqs Jh)] at h;cases h
   have Fs:0<=(slL ws)[j].at_/\(slL ws)[j].at_<=4294967295:=by rw[lk];exact⟨(gw (wd ws (112+j))).2.2.1,(gw (wd ws (112+j))).2.2.2⟩
   obtain⟨x,hx⟩:=xq ((slL ws)[j]);rw[hx] at p0 p1 p2 o B Fs;obtain⟨g,u,at_⟩:=x;dsimp only at p0 p1 p2 Fs;obtain⟨v,rfl⟩:=kq2 Fs.1;have Fv:Hid (jI O ⟨g,u,((v:Nat):Int)⟩=(!u||lK O v)):=hid (by unfold jI;rw[kqj]);have w9:IntKind.u64.wrap (v:Int)=(v:Int):=kzi _ (by omega);have Jl:(j:Int)<(sn:Int):=by rw[Fx.out];omega
   have Kg:decide ((j:Int)<(sn:Int))=true:=by rw[kql];exact Jl
   have Gw:decide (j<sn)=true:=by rw[kql,Fx.out];exact f
   have Kk:(0:Int)<=(j:Int):=by omega
   have Gi:=hid (Km.out wq (Gd.out.up d.out d.out.size) v);clear hx Fs;cases u
   .have HN:=hid (o.out (by rw[Fv.out];rfl));clear o B;go_wp2;go_roundw
    case rel=>exact⟨j+1,by omega,by go_num,HN,d.out⟩
    case measure=>simp[intOf];omega
   obtain⟨q,y⟩:=xq (lK O v);rw[y] at Gi Fv;clear y;cases q
   .have F:=hid (B.out (by rw[Fv.out];rfl));clear o B;go_wp2_with fail;refine Gi.out.mono ?_;rintro e w8 ⟨⟨r,rfl,p⟩,rfl⟩;simp only[kky] at p;go_wp2;go_ret;exact⟨ls F.out (by decide),E.out.trans (d.out.mono E.out.size)⟩
   have HN:=hid (o.out (by rw[Fv.out];rfl));clear o B;go_wp2_with fail;refine Gi.out.mono ?_;rintro e w8 ⟨⟨r,rfl,p⟩,rfl⟩;simp only[kvd] at p;go_wp2;go_roundw
   case rel=>exact⟨j+1,by omega,by go_num,HN,d.out⟩
   case measure=>simp[intOf];omega
  have F:Hid (lay ws=true):=hid (Fy.out.2 ⟨Jd.out,λs hs=>by
   obtain⟨q,y,rfl⟩:=kqv hs;exact HQ.out q y (by rw[el] at y;omega)⟩)
  have Kg:decide ((j:Int)<(sn:Int))=false:=by rw[kqc,Fx.out];omega
  have Gw:decide (j<sn)=false:=by rw[kqc,Fx.out];exact f
  go_wp2;go_ret;exact⟨wy_ok F.out,E.out.trans (d.out.mono E.out.size)⟩
theorem n9(A:Option Addr)(ws:List Nat)(c n:Nat)(w:World)(hn:ws.length=n)(hm:n<=9223372036854775807)(hc:n<=c)(d:RdW w w.heap.size A ws)(ho:∀x∈ws,x<18446744073709551616):
 Calls prog 13 #[.slice A n c] w λe w'=>e=.returned (.int .i64 (bv ws))/\Below w.heap.size w w':=by
 subst hn;have f:=hid (λW=>fv A ws.length c W hm);have m:Calls prog 49 #[.slice A ws.length c] w λe w'=>(∃r:Int,e=.returned (.tuple #[.int .i64 r,.int .i64 (kh ws.length)])/\0<=r/\(ak (ws.length:Int)=true->(r=0↔lay ws=true)))/\Below w.heap.size w w':=by
  cases b:ak (ws.length:Int)
  .have q:=hid (bJ b);rw[bJ b] at f;have t:Hid (∀ {p:Prop},false=true->p):=hid λh=>by cases h
   clear d ho hc b;go_enter func49,ntmps49;go_wp2_with fail;refine (f.out _).mono ?_;rintro e k ⟨rfl,rfl⟩;go_wp2;go_ret2;exact⟨⟨0,by rw[q.out];rfl,by omega,λh=>t.out h⟩,kqk _ _⟩
  have q:=hid (aW b);rw[aW b] at f;have l:=hid (Co A ws c ws.length w rfl b hc d ho);unfold AG at l;clear d ho hc b;go_enter func49,ntmps49;go_wp2_with fail;refine (f.out _).mono ?_;rintro e k ⟨rfl,rfl⟩;go_wp2_with fail;refine l.out.mono ?_;rintro e k ⟨⟨r,rfl,j,d⟩,g⟩;have u:=hid (And.intro j d);clear j d;go_wp2;go_ret2;exact⟨⟨r,by rw[q.out];rfl,u.out.1,λ_=>u.out.2⟩,g⟩
 have i:=hid m;have a:Hid (bv ws=if ak (ws.length:Int)=true then (if lay ws=true then 0 else 50) else 8):=hid rfl;clear m d ho hc f;cases b:ak (ws.length:Int)
 .rw[bJ b] at i;rw[b] at a;simp only[kzn,if_false] at a;clear b;go_enter func13,ntmps13;go_wp2_with fail;refine i.out.mono ?_;rintro e k ⟨⟨r,rfl,-,-⟩,g⟩;go_wp2;go_ret;exact⟨by rw[a.out];rfl,g⟩
 rw[aW b,b] at i;rw[b] at a;simp only[if_true] at a;clear b;cases o:lay ws
 .rw[o] at i a;clear o;go_enter func13,ntmps13;go_wp2_with fail;refine i.out.mono ?_;rintro e k ⟨⟨r,rfl,j,d⟩,g⟩;have s:r≠0:=λh=>by have:=(d trivial).1 h;cases this
  have d1:decide (0<r)=true:=by rw[kql];omega
  clear d s j;go_wp2;go_ret;exact⟨by rw[a.out];rfl,g⟩
 rw[o] at i a;clear o;go_enter func13,ntmps13;go_wp2_with fail;refine i.out.mono ?_;rintro e k ⟨⟨r,rfl,j,d⟩,g⟩;obtain rfl:r=0:=(d trivial).2 (by first|exact trivial|rfl);clear d j;go_wp2;go_ret;exact⟨by rw[a.out];rfl,g⟩
end Go.Proofs.YtpcajamacpbjcaaGreat
