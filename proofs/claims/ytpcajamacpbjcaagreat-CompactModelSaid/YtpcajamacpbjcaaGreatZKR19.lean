/- Texts laid together: Tys WaP R18 LyP R19A Seq R19B R19C. -/
import Derived.Test.YtpcajamacpbjcaaGreatZGH
import Derived.Test.YtpcajamacpbjcaaGreatZKStg2
import Derived.Test.YtpcajamacpbjcaaGreatZKRef15
import Derived.Test.YtpcajamacpbjcaaGreatZKImage
import Derived.Test.YtpcajamacpbjcaaGreatZKRch
import Derived.Test.YtpcajamacpbjcaaGreatZKRefs
import Derived.Test.YtpcajamacpbjcaaGreatZKHead
import Derived.Test.YtpcajamacpbjcaaGreatZKSup
import Derived.RowKit
import Derived.OrdersHeld
import Derived.Deep.RegionHeld
import Derived.BigQuiet
set_option maxHeartbeats 16000000
set_option maxRecDepth 100000
set_option linter.all false
namespace Go.Proofs.YtpcajamacpbjcaaGreat
open Lib (hid)
open Go.RowKit
variable {ops:Array Oper}{O l:List Bk}{ws:List Nat}{L:List Ty}{B H id k t v:Nat}{o:Oper}{A:Option Addr}{P:Program}{w w':World}
open Go.Proofs.Tryz
theorem fE{l:List Ty}(h:Rd w B A (l.flatMap Ty.cells))(hk:k<l.length):
 ∃b a,A=some ⟨b,a,none⟩/\b<B/\w.cell? ⟨b,a+k,none⟩=some (.slice l[k].A l[k].l.length l[k].c):=by obtain⟨b,a,e,d,f⟩:=Rd.at_flat Ty.len h (by omega) hk;have:=f 0 (by omega);simp only[kxn,kxd] at this;exact⟨b,a,e,d,this⟩
def km (w:World) (H:Nat) (v:Value) (L:List Ty):Prop:=w.ownsRow H 113 1 v L.length (L.flatMap Ty.cells)/\∀x∈L,w.ownsRow H 5 1 (.slice x.A x.l.length x.c) x.l.length (x.l.flatMap aJ)
theorem By:(prog.info? 113).map (λi=>(i.zero,i.size,i.bytes))=some (some (.slice none 0 0),1,24):=by kernel_rfl
def Au (ws:List Nat) (t i:Nat):Bool:=if i<t then bN (wd ws (96+2*i)) (wd ws (96+2*i+1)) else wd ws (96+2*i)==0&&wd ws (96+2*i+1)==0
def wF (ws:List Nat) (t k:Nat):Prop:=∀i,i<k->Au ws t i=true
def ga (ws:List Nat) (t:Nat):Bool:=(List.range 8).all λi=>Au ws t i
theorem fI(ws:List Nat)(t:Nat):ga ws t=true↔wF ws t 8:=by unfold ga wF;rw[kzq];exact⟨λh i a=>h i (kq8.2 a),λh i a=>h i (kq8.1 a)⟩
theorem oI(h:wF ws t k)(h1:Au ws t k=true):wF ws t (k+1):=λi hi=>by
 rcases kq9 i k with a|a
 .exact h i a
 .have:i=k:=by omega
  subst this;exact h1
theorem qC(hk:k<8)(h:Au ws t k=false):ga ws t=false:=by
 cases a:ga ws t with
 | false=>rfl
 | true=>rw[(fI ws t).1 a k hk] at h;cases h
def eB (ws:List Nat) (t k:Nat):List (List Nat):=(List.range (min t k)).map λi=>aX (wd ws (96+2*i)) (wd ws (96+2*i+1))
theorem zV(h:k<t):eB ws t (k+1)=eB ws t k++[aX (wd ws (96+2*k)) (wd ws (96+2*k+1))]:=by unfold eB;rw[kvd (by omega),kvd (by omega),kj7,kxa];rfl
theorem AH(h:t<=k):eB ws t (k+1)=eB ws t k:=by unfold eB;rw[kxb (by omega),kxb (by omega)]
theorem jZ(ws:List Nat)(t k:Nat):(eB ws t k).length=min t k:=by simp[eB]
theorem rq{wb:World}{v v1:Value}{x:Ty}(h:∀y∈L,w.ownsRow H 5 1 (.slice y.A y.l.length y.c) y.l.length (y.l.flatMap aJ))(hx:w.ownsRow H 5 1 (.slice x.A x.l.length x.c) x.l.length (x.l.flatMap aJ))(hrow:wb.ownsRow H 113 1 v L.length (L.flatMap Ty.cells))(hwb:∀ {A:Option Addr} {n c:Nat} {xs:List Value},w.ownsRow H 5 1 (.slice A n c) n xs->wb.ownsRow H 5 1 (.slice A n c) n xs)(hg:wb.grownBy w' v.ownBlock)(h1:w'.ownsRow H 113 1 v1 (L.length+1) (L.flatMap Ty.cells++x.cells)):km w' H v1 (L++[x]):=by
 refine⟨by rw[bP,kqw];exact h1,λy a=>?_⟩;rcases kzo.1 a with a|a
 .exact aU (hwb (h y a)) hg (eQ (hwb (h y a)) hrow (by decide))
 rw[kq1] at a;subst a;exact aU (hwb hx) hg (eQ (hwb hx) hrow (by decide))
def Gv (ws:List Nat) (t H:Nat) (e:Ending) (w':World):Prop:=∃v L,e=.returned (.tuple #[v,.bool (ga ws t)])/\(ga ws t=true->km w' H v L/\L.map Ty.l=eB ws t 8)
theorem vA(A:Option Addr)(ws:List Nat)(c n t:Nat)(w:World)(hn:ws.length=n)(h2:256<=n)(hm:n<=2048)(hr:RdW w w.heap.size A ws)(ho:∀x∈ws,x<18446744073709551616):
 Calls prog 211 #[.slice A n c,.int .i64 (t:Int)] w λe w'=>Gv ws t w.heap.size e w'/\Below w.heap.size w w':=by
 subst hn;have HR:=hid hr;have Jk:Hid (∀k,wd ws k<18446744073709551616):=hid (fd ho);clear hr ho;obtain⟨i2,hi,Y,Jd,Z⟩:=kzt By;have HJ:=hid hi;have Jn:=hid Y;have Ji:=hid Jd;have Jl:=hid Z;clear hi Y Jd Z;go_enter func211,ntmps211;go_wp2_with fail;go_loopw [6,7] (λv i wr=>∃(k:Nat) (L:List Ty),k<=8/\i=.int .i64 k/\Hid (wF ws t k)/\Hid (L.map Ty.l=eB ws t k)/\L.length<=k/\Hid (km wr w.heap.size v L)/\Below w.heap.size w wr) (λ_ i _=>8-(intOf i).toNat)
 case atStart=>exact⟨0,[],kqy _,rfl,hid (λi h=>absurd h (by omega)),hid (by simp[eB]),kqg _,hid ⟨kq3 _ _ _ _,λx hx=>absurd hx (by simp)⟩,kql _ _⟩
 obtain⟨k,L,hk,rfl,Ja,Q,hLk,C,N⟩:=hrel;have U:=N.size;by_cases Jh:k<8
 .obtain ⟨b,g,rfl,hb,h0⟩:=RdW.at_ (Rd.below HR.out N) (show 96+2*k<ws.length by omega);obtain⟨b',off',e',-,h1⟩:=RdW.at_ (Rd.below HR.out N) (show 96+2*k+1<ws.length by omega);cases e';rw[<-ce] at h0 h1;have d:=hid (λW=>wM (wd ws (96+2*k)) (wd ws (96+2*k+1)) W (Jk.out _));have u:=hid (λh=>oI Ja.out h);have s:=hid (λh=>qC (ws:=ws) (t:=t) Jh h);have f:Hid (Au ws t k=if k<t then bN (wd ws (96+2*k)) (wd ws (96+2*k+1)) else wd ws (96+2*k)==0&&wd ws (96+2*k+1)==0):=hid rfl;have o:=hid (λh=>zV (ws:=ws) (t:=t) (k:=k) h);have J:=hid (λh=>AH (ws:=ws) (t:=t) (k:=k) h);have i1:IntKind.i64.wrap ((2:Int)*(k:Int))=2*(k:Int):=kqr _ (by omega);have i2':IntKind.i64.wrap ((96:Int)+2*(k:Int))=((96+2*k:Nat):Int):=by rw[kqr _ (by omega)];omega
  have i3:IntKind.i64.wrap (((96+2*k:Nat):Int)+1)=((96+2*k+1:Nat):Int):=by rw[kqr _ (by omega)];omega
  have j1:((96+2*k:Nat):Int)<(ws.length:Int):=by omega
  have j2:(0:Int)<=((96+2*k:Nat):Int):=by omega
  have j3:((96+2*k+1:Nat):Int)<(ws.length:Int):=by omega
  have j4:(0:Int)<=((96+2*k+1:Nat):Int):=by omega
  have hk1:(k:Int)<8:=by omega
  obtain⟨p,hp⟩:=xq (96+2*k);rw[hp] at h0 h1 d f o i2' i3 j1 j2 j3 j4;obtain⟨q,hq⟩:=xq (p+1);rw[hq] at h1 d f o i3 j3 j4;obtain⟨x,hx⟩:=xq (wd ws p);obtain⟨y,S⟩:=xq (wd ws q);rw[hx] at h0 d f o;rw[S] at h1 d f o;have V:=hid N;clear hx S hp hq;by_cases m:k<t
  .have d1:decide ((k:Int)<(t:Int))=true:=by rw[kqo];omega
   have d1n:decide (k<t)=true:=by rw[kqo];exact m
   have d2:decide ((t:Int)<=(k:Int))=false:=by rw[kqh];omega
   have d2n:decide (t<=k)=false:=by rw[kqh];omega
   cases z:bN x y
   .have D:=hid (s.out (by rw[f.out,if_pos m,z]));have G:dJ x y=50:=by unfold dJ;rw[z];rfl
    have Jb:aX x y=[]:=by unfold aX;rw[z];rfl
    unfold lF at d;rw[G,Jb] at d;clear z G Jb f s u o J m;go_wp2_with fail
    go_region_held3 (λX:World=>X.cell? ⟨b,g+p,none⟩=some (.int .u64 (x:Int))/\X.cell? ⟨b,g+q,none⟩=some (.int .u64 (y:Int))) (go_keep) (fail)
    go_wp2_with fail;refine (d.out _).mono ?_;rintro e T ⟨⟨A3,c3,rfl,-⟩,a⟩;have H:=V.out.drew.trans (a.mono U);clear a;go_wp2;go_ret2;exact⟨⟨.slice none 0 0,[],by rw[D.out];rfl,λh=>by rw[D.out] at h;cases h⟩,H⟩
   have D:=hid (u.out (by rw[f.out,if_pos m,z]));have K:=hid (o.out m);have G:dJ x y=0:=by unfold dJ;rw[z];rfl
   unfold lF at d;rw[G] at d;obtain⟨l,hl⟩:=xq (aX x y);rw[hl] at d K;clear z G hl f s u o J m;go_wp2_with fail
   go_region_held3 (λX:World=>X.cell? ⟨b,g+p,none⟩=some (.int .u64 (x:Int))/\X.cell? ⟨b,g+q,none⟩=some (.int .u64 (y:Int))) (go_keep) (fail)
   go_wp2_with fail;refine (d.out _).mono ?_;rintro e T ⟨⟨A3,c3,rfl,F⟩,a⟩;have H:=V.out.drew.trans (a.mono U);have Jc:=H.size;have E:=aj (show wr.drew.ownsRow _ _ _ _ _ _ from C.out.1) a (kqg _);have Je:Hid (∀y∈L,T.ownsRow w.heap.size 5 1 (.slice y.A y.l.length y.c) y.l.length (y.l.flatMap aJ)):=hid λy S=>aj (show wr.drew.ownsRow _ _ _ _ _ _ from C.out.2 y S) a (kqg _);have Jm:=hid (aB F (show w.heap.size<=wr.drew.heap.size from U));have Eq:=hid E;have B:=hid H;clear a F H C;go_wp2_with (at_builtin;refine kzn _ rfl _ _ 69 rfl w.heap.size 113 i2 _ 1 24 underlying69 HJ.out Jn.out Ji.out Jl.out rfl (by decide) _ _ _ rfl (E.alloc _) ⟨_,0,none⟩ 1 1 [.slice A3 l.length c3] rfl rfl (bY _ _ _) (by simp[Value.oneCell']) (by unfold maxLen;omega) (by omega) (bM Jc) ?_;intro v1 w6 I M _;have Jf:=hid (aw B.out Jc E M);have Jg:=hid (rq (x:=⟨A3,c3,l⟩) Je.out Jm.out (Eq.out.alloc _) (λh=>h.alloc _) M I);clear I M);go_roundw
   case rel=>exact⟨k+1,L++[⟨A3,c3,l⟩],by omega,by go_num,D,hid (by rw[kxa,Q.out,K.out];rfl),by simp;omega,Jg,Jf.out⟩
   case measure=>simp[intOf];omega
  have d1:decide ((k:Int)<(t:Int))=false:=by rw[kqh];omega
  have d1n:decide (k<t)=false:=by rw[kqh];exact m
  have d2:decide ((t:Int)<=(k:Int))=true:=by rw[kqo];omega
  have d2n:decide (t<=k)=true:=by rw[kqo];omega
  have K:=hid (J.out (by omega));have j:Hid (Au ws t k=(x==0&&y==0)):=hid (by rw[f.out,if_neg m]);have O:=hid (λW=>(d.out W).mono (R':=λe w'=>(∃v r,e=.returned (.tuple #[v,.int .i64 r]))/\Below W.heap.size W w') (by rintro e w' ⟨⟨A,c,rfl,-⟩,N⟩;exact⟨⟨_,_,rfl⟩,N⟩));clear d f o J m;by_cases R:x=0
  .subst R;by_cases P:y=0
   .subst P;have D:=hid (u.out (by rw[j.out];rfl));clear s u j;go_wp2_with fail
    go_region_held3 (λX:World=>X.cell? ⟨b,g+p,none⟩=some (.int .u64 ((0:Nat):Int))/\X.cell? ⟨b,g+q,none⟩=some (.int .u64 ((0:Nat):Int))) (go_keep) (fail)
    go_wp2_with fail;refine (O.out _).mono ?_;rintro e T ⟨⟨v3,r3,rfl⟩,a⟩;have B:=hid (V.out.drew.trans (a.mono U));have Jj:Hid (km T w.heap.size u6 L):=hid ⟨aj (show wr.drew.ownsRow _ _ _ _ _ _ from C.out.1) a (kqg _),λy S=>aj (show wr.drew.ownsRow _ _ _ _ _ _ from C.out.2 y S) a (kqg _)⟩;clear a;go_wp2;go_roundw
    case rel=>exact⟨k+1,L,by omega,by go_num,D,hid (by rw[Q.out,K.out]),by omega,Jj,B.out⟩
    case measure=>simp[intOf];omega
   have D:=hid (s.out (by rw[j.out,show (y==0)=false by rw[kqi];exact P];rfl));have d3:decide ((0:Int)<(y:Int))=true:=by rw[kqo];omega
   have d3n:decide (0<y)=true:=by rw[kqo];omega
   clear s u j P;go_wp2_with fail
   go_region_held3 (λX:World=>X.cell? ⟨b,g+p,none⟩=some (.int .u64 ((0:Nat):Int))/\X.cell? ⟨b,g+q,none⟩=some (.int .u64 (y:Int))) (go_keep) (fail)
   go_wp2_with fail;refine (O.out _).mono ?_;rintro e T ⟨⟨v3,r3,rfl⟩,a⟩;have B:=hid (V.out.drew.trans (a.mono U));clear a;go_wp2;go_ret2;exact⟨⟨.slice none 0 0,[],by rw[D.out];rfl,λh=>by rw[D.out] at h;cases h⟩,B.out⟩
  have D:=hid (s.out (by rw[j.out,show (x==0)=false by rw[kqi];exact R];rfl));have d3:decide ((0:Int)<(x:Int))=true:=by rw[kqo];omega
  have d3n:decide (0<x)=true:=by rw[kqo];omega
  clear s u j R;go_wp2_with fail
  go_region_held3 (λX:World=>X.cell? ⟨b,g+p,none⟩=some (.int .u64 (x:Int))/\X.cell? ⟨b,g+q,none⟩=some (.int .u64 (y:Int))) (go_keep) (fail)
  go_wp2_with fail;refine (O.out _).mono ?_;rintro e T ⟨⟨v3,r3,rfl⟩,a⟩;have B:=hid (V.out.drew.trans (a.mono U));clear a;go_wp2;go_ret2;exact⟨⟨.slice none 0 0,[],by rw[D.out];rfl,λh=>by rw[D.out] at h;cases h⟩,B.out⟩
 obtain rfl:k=8:=by omega
 have HT:Hid (ga ws t=true):=hid ((fI ws t).2 Ja.out);go_wp2;go_ret2;exact⟨⟨_,L,by rw[HT.out];rfl,λ_=>⟨C.out,Q.out⟩⟩,N⟩
def mL (l:List Bk) (j:Nat):Bool:=!(j==0)&&((gk l (j-1)).kind==2&&(gk l j).kind==2)
def js (l:List Bk):Bool:=(List.range l.length).all λj=>!mL l j
def nM (l:List Bk) (k:Nat):Prop:=∀j,j<k->mL l j=false
theorem jQ(l:List Bk):js l=true↔nM l l.length:=by
 unfold js nM;rw[kzq];constructor
 .intro h j a;have:=h j (kq8.2 a)
  simpa using this
 intro h j a;have:=h j (kq8.1 a)
 simpa using this
theorem og(l:List Bk):nM l 0:=λj h=>absurd h (by omega)
theorem lm(h:nM l k)(h1:mL l k=false):nM l (k+1):=λj hj=>by
 rcases kq9 j k with a|a
 .exact h j a
 .have:j=k:=by omega
  subst this;exact h1
theorem qU(hk:k<l.length)(h:mL l k=true):js l=false:=by
 cases a:js l with
 | false=>rfl
 | true=>have:=(jQ l).1 a k hk;rw[h] at this;cases this
def xx (ws:List Nat):Bool:=match blocks ws 128 with | none=>false | some l=>js l
theorem fF(h:blocks ws 128=some l):xx ws=js l:=by unfold xx;rw[h]
theorem mY(h:blocks ws 128=none):xx ws=false:=by unfold xx;rw[h]
theorem xW(A:Option Addr)(ws:List Nat)(c n:Nat)(w:World)(hn:ws.length=n)(hs:al (n:Int)=true)(hr:RdW w w.heap.size A ws)(ho:∀x∈ws,x<18446744073709551616):
 Calls prog 153 #[.slice A n c] w λe w'=>(∃A k c,e=.returned (.tuple #[.slice A k c,.bool (xx ws)])/\(xx ws=true->∃l,blocks ws 128=some l/\k=l.length/\k<=c/\RdB w' w'.heap.size A l))/\Below w.heap.size w w':=by
 subst hn;have Q:=(ac _).1 hs;have o:=hid (Cx A ws c ws.length 128 w rfl (by omega) (by omega) (by omega) (by omega) hr ho);unfold Ct rH at o;have f:∀l,blocks ws 128=some l->l.length<=1024:=λl h=>by
  have:=(bq (by omega) _ _ h (by omega) (by omega) (by omega)).1;omega
 cases s:blocks ws 128 with
 | none =>
  rw[s] at o;simp only[kkp,kkd,kxx] at o;have z:=hid (mY s);clear s hr ho hs Q f;go_enter func153,ntmps153;go_wp2_with fail;refine o.out.mono ?_;rintro e R ⟨⟨Z,W,rfl,-,-⟩,g⟩;go_wp2_with fail;go_loopw [5,6] (λv i wr=>v=.bool false/\i=.int .i64 1/\wr=R) (λ_ _ _=>0)
  case atStart=>exact⟨rfl,rfl,rfl⟩
  obtain⟨rfl,rfl,rfl⟩:=hrel;go_wp2;go_ret2;exact⟨⟨none,0,0,by rw[z.out];rfl,λh=>by rw[z.out] at h;cases h⟩,g⟩
 | some l =>
  have hl24:=f l s;rw[s] at o;simp only[kq2,kke] at o;have z:=hid (fF s);clear s hr ho hs Q f;have T:=hid (λk L h=>qU (l:=l) (k:=k) L h);have N:=hid (jQ l);go_enter func153,ntmps153;go_wp2_with fail;refine o.out.mono ?_;rintro e R ⟨⟨Z,W,rfl,F,E⟩,g⟩;have u:=hid F;have B:=hid g;have S:=hid E;clear F g E;go_wp2_with fail;go_loopw [5,6] (λv i wr=>∃(k:Nat) (q:Bool),1<=k/\(k<=l.length\/k=1)/\v=.bool q/\i=.int .i64 k/\wr=R/\Hid ((q=true->nM l k)/\(q=false->js l=false))) (λ_ i _=>l.length-(intOf i).toNat)
  case atStart =>
   refine⟨1,true,kqg _,.inr rfl,rfl,rfl,rfl,hid ⟨λ_=>lm (og l) rfl,λh=>by cases h⟩⟩
  obtain⟨k,q,H,L,rfl,rfl,rfl,p⟩:=hrel;by_cases d:k<l.length
  .obtain ⟨b,off,rfl,Q,-,-,p2,-⟩:=RdB.at_ u.out d;obtain⟨b',off',e',-,-,-,Y,-⟩:=RdB.at_ u.out (show k-1<l.length by omega);cases e';have D:=hid (λh=>lm (p.out.1 h));have P:=hid (T.out k d);have a:mL l k=((l[k-1].kind==2)&&(l[k].kind==2)):=by unfold mL;rw[bB l k d,bB l (k-1) (by omega),show (k==0)=false by rw[kqi];omega];rfl
   have G:=hid p.out.2;obtain⟨x,V⟩:=xq (l[k].kind);obtain⟨y,X⟩:=xq (l[k-1].kind);rw[V] at p2 a;rw[X] at Y a;have i1:IntKind.i64.wrap ((k:Int)-1)=((k-1:Nat):Int):=by rw[kqr _ (by omega)];omega
   have hki:(k:Int)<(l.length:Int):=by omega
   have hk0:(0:Int)<=(k:Int):=by omega
   have J:((k-1:Nat):Int)<(l.length:Int):=by omega
   have C:(0:Int)<=((k-1:Nat):Int):=by omega
   obtain⟨m,U⟩:=xq (k-1);rw[U] at i1 J C Y;have O:=hid a;clear V X p U a;by_cases r:y=2
   .subst r;by_cases t:x=2
    .subst t;have I:=hid (P.out (by rw[O.out];rfl));go_wp2;go_roundw
     case rel=>exact⟨k+1,false,by omega,by omega,rfl,by go_num,trivial,hid ⟨λh=>(by cases h),λ_=>I.out⟩⟩
     case measure=>simp[intOf];omega
    have M:(x==2)=false:=by rw[kqi];exact t
    have I:Hid (mL l k=false):=hid (by rw[O.out,M];rfl);clear t;go_wp2;go_roundw
    case rel=>exact⟨k+1,q,by omega,by omega,rfl,by go_num,trivial,hid ⟨λh=>D.out h I.out,G.out⟩⟩
    case measure=>simp[intOf];omega
   have M:(y==2)=false:=by rw[kqi];exact r
   have I:Hid (mL l k=false):=hid (by rw[O.out,M];rfl);clear r;go_wp2;go_roundw
   case rel=>exact⟨k+1,q,by omega,by omega,rfl,by go_num,trivial,hid ⟨λh=>D.out h I.out,G.out⟩⟩
   case measure=>simp[intOf];omega
  have hend:decide ((k:Int)<(l.length:Int))=false:=by rw[kqh];omega
  have hendn:decide (k<l.length)=false:=by rw[kqh];exact d
  cases q with
  | true =>
   have K:Hid (xx ws=true):=hid (by
    rw[z.out];refine N.out.2 λj hj=>p.out.1 rfl j (by omega))
   clear p H L d;go_wp2;go_ret2;exact⟨⟨Z,l.length,W,by rw[K.out];rfl,λ_=>⟨l,rfl,rfl,S.out,u.out⟩⟩,B.out⟩
  | false =>have K:Hid (xx ws=false):=hid (by rw[z.out];exact p.out.2 rfl);clear p H L d;go_wp2;go_ret2;exact⟨⟨none,0,0,by rw[K.out];rfl,λh=>by rw[K.out] at h;cases h⟩,B.out⟩
def yj (s:Sl):Int:=if lL s=true then 0 else 8
theorem wl(g:Int)(u:Bool)(a:Int)(w:World)(h1:0<=g)(h2:g<=2147483647):
 Calls prog 262 #[.agg #[.int .i64 g,.bool u,.int .i64 a]] w λe w'=>e=.returned (.int .i64 (yj ⟨g,u,a⟩))/\Below w.heap.size w w':=by
 have f:=(kql w.heap.size w).alloc (kqg _) (.cells #[.int .i64 g,.bool u,.int .i64 a] 52);have d:=hid f;have d1:decide (0<=g)=true:=by rw[kqo];omega
 have d2:decide (g<=2147483647)=true:=by rw[kqo];omega
 clear f;cases u
 .have H:Hid (yj ⟨g,false,a⟩=if (a==0)=true then 0 else 8):=hid rfl;obtain⟨b,i⟩:=xq ((a==0));rw[i] at H;cases b
  all_goals
   go_enter func262,ntmps262;go_wp2;go_ret;exact⟨by rw[H.out];rfl,d.out⟩
 have H:Hid (yj ⟨g,true,a⟩=if (decide (0<g)&&(decide (128<=a)&&decide (a<2048)))=true then 0 else 8):=hid rfl;have h:decide (1<=g)=decide (0<g):=by rw[decide_eq_decide];omega
 obtain⟨k,c⟩:=xq (decide (0<g));obtain⟨m,j⟩:=xq (decide (128<=a));obtain⟨l,n⟩:=xq (decide (a<2048));rw[c] at h;rw[c,j,n] at H;clear h1 h2 c;cases k<;>cases m<;>cases l
 all_goals
  go_enter func262,ntmps262;go_wp2;go_ret;exact⟨by rw[H.out];rfl,d.out⟩
theorem v7(x:Nat)(w:World)(hx:x<18446744073709551616):
 Calls prog 212 #[.int .u64 (x:Int)] w λe w'=>e=.returned (.tuple #[(slB x).val,.int .i64 (wi x)])/\Below w.heap.size w w':=by
 obtain⟨D,C,G,J⟩:=dt x;have j:=hid (λh=>we (x:=x) h);have k:=hid (λh=>wz (x:=x) h);have d:=hid (λW=>iM x 32 31 W hx (by omega));have o:=hid (λW=>iM x 63 1 W hx (by omega));have f:=hid (λW=>iM x 0 32 W hx (by omega));have E:((bp x 32 31:Nat):Int)=(dc x).gen:=by unfold bp dc;rfl
 have A:(((bp x 63 1:Nat):Int)==1)=(dc x).used:=by
  have:bp x 63 1=x/9223372036854775808:=by unfold bp;omega
  rw[this];show _=(x/9223372036854775808==1);rw[kzr,kqx,kqx];omega
 have M:((bp x 0 32:Nat):Int)=(dc x).at_:=by unfold bp dc;simp
 rw[E] at d;rw[M] at f;obtain⟨q,L⟩:∃q:Int,((bp x 63 1:Nat):Int)=q:=⟨_,rfl⟩;rw[L] at o A;have l:=hid (λW=>wl (dc x).gen (dc x).used (dc x).at_ W D C);obtain⟨s,H⟩:=xq (dc x);rw[H] at A D C G J j k d f l;obtain⟨g,u,a⟩:=s;dsimp only at A D C G J d f l;have w1:IntKind.i64.wrap g=g:=kqr _ (by omega);have w2:IntKind.i64.wrap a=a:=kqr _ (by omega);clear E M L H hx;have I:=Bx.new w 52 #[.int .i64 0,.bool false,.int .i64 0];have r:=(kql w.heap.size w).alloc (kqg _) (.cells #[.int .i64 0,.bool false,.int .i64 0] 52);have y:=hid (I.alloc (.cells #[.int .i64 g,.bool u,.int .i64 a] 52));have i:=hid (r.alloc (by simp) (.cells #[.int .i64 g,.bool u,.int .i64 a] 52));have z:=Bx.new (w.alloc (.cells #[.int .i64 0,.bool false,.int .i64 0] 52)) 52 #[.int .i64 g,.bool u,.int .i64 a];rw[kqn] at z;have F:=hid z;clear I r z;cases c:lL ⟨g,u,a⟩
 .have p:=hid (k.out c);unfold yj at l;rw[c] at l;clear c j k;go_enter func212,ntmps212;go_wp2_with fail;refine (d.out _).mono ?_;rintro e t ⟨rfl,rfl⟩;go_wp2_with fail;refine (o.out _).mono ?_;rintro e t ⟨rfl,rfl⟩;go_wp2_with fail;refine (f.out _).mono ?_;rintro e t ⟨rfl,rfl⟩;go_wp2_with fail;refine (l.out _).mono ?_;rintro e T ⟨rfl,b⟩;have n:=y.out.up b y.out.lt;have m:=hid (i.out.trans (b.mono i.out.size));obtain⟨U,R,N,Q,P,O,S⟩:=n.c3;have B:=hid n;clear n b;go_wp2_with fail;exact kqv (v:=.tuple #[.agg #[.int .i64 0,.bool false,.int .i64 0],.int .i64 50]) (jm results212 _ (((B.out.set_ 0 _).set_ 1 _).set_ 2 _) rfl rfl) rfl ⟨by rw[p.out.1,p.out.2];rfl,(((m.out.setCell (kqg _) _).setCell (kqg _) _).setCell (kqg _) _)⟩
 have p:=hid (j.out c);unfold yj at l;rw[c] at l;clear c j k;go_enter func212,ntmps212;go_wp2_with fail;refine (d.out _).mono ?_;rintro e t ⟨rfl,rfl⟩;go_wp2_with fail;refine (o.out _).mono ?_;rintro e t ⟨rfl,rfl⟩;go_wp2_with fail;refine (f.out _).mono ?_;rintro e t ⟨rfl,rfl⟩;go_wp2_with fail;refine (l.out _).mono ?_;rintro e T ⟨rfl,b⟩;have n:=y.out.up b y.out.lt;have K:=F.out.up b F.out.lt;have m:=hid (i.out.trans (b.mono i.out.size));obtain⟨U,R,N,Q,P,O,S⟩:=n.c3;obtain⟨q0,q1,q2,-,-,-,hg2⟩:=K.c3;have B:=hid n;clear n K b;go_wp2_with fail;exact kqv (v:=.tuple #[.agg #[.int .i64 g,.bool u,.int .i64 a],.int .i64 0]) (jm results212 _ (((B.out.set_ 0 _).set_ 1 _).set_ 2 _) rfl rfl) rfl ⟨by rw[p.out.1,p.out.2];rfl,(((m.out.setCell (kqg _) _).setCell (kqg _) _).setCell (kqg _) _)⟩
theorem uD:(prog.info? 52).map (λi=>(i.zero,i.size,i.bytes))=some (some (.agg #[.int .i64 0,.bool false,.int .i64 0]),3,24):=by kernel_rfl
def TlResF (H:Nat) (ws:List Nat) (e:Ending) (w':World):Prop:=∃A n c,e=.returned (.tuple #[.slice A n c,.bool (slsOk ws)])/\(slsOk ws=true->n=16/\n<=c/\w'.ownsRow H 52 3 (.slice A n c) n ((slL ws).flatMap Sl.cells))
def TlRes (ws:List Nat) (e:Ending) (w':World):Prop:=∃A n c,e=.returned (.tuple #[.slice A n c,.bool (slsOk ws)])/\(slsOk ws=true->n=16/\n<=c/\RdS w' w'.heap.size A (slL ws))
theorem vu(A:Option Addr)(ws:List Nat)(c n:Nat)(w:World)(hn:ws.length=n)(I:256<=n)(hm:n<=2048)(hr:RdW w w.heap.size A ws)(ho:∀x∈ws,x<18446744073709551616):
 Calls prog 152 #[.slice A n c] w λe w'=>TlResF w.heap.size ws e w'/\Below w.heap.size w w':=by
 subst hn;have HR:=hid hr;have S:Hid (∀k,wd ws k<18446744073709551616):=hid (fd ho);clear hr ho;obtain⟨i2,hi,t,F,D⟩:=kzt uD;have HJ:=hid hi;have P:=hid t;have L:=hid F;have J:=hid D;clear hi t F D;go_enter func152,ntmps152;go_wp2_with fail;go_loopw [4,5] (λv i wr=>∃k:Nat,k<=16/\i=.int .i64 k/\Hid (nK ws k)/\wr.ownsRow w.heap.size 52 3 v k (((slL ws).take k).flatMap Sl.cells)/\Below w.heap.size w wr) (λ_ i _=>16-(intOf i).toNat)
 case atStart=>exact⟨0,kqy _,rfl,oD ws,kq3 _ _ _ _,kql _ _⟩
 obtain⟨k,hk,rfl,u,a,z⟩:=hrel;have hz:=z.size;by_cases r:k<16
 .obtain ⟨b,off,rfl,hb,h0⟩:=RdW.at_ (Rd.below HR.out z) (show 112+k<ws.length by omega);rw[<-ce] at h0;have f:=hid (λW=>v7 (wd ws (112+k)) W (S.out _));have o:=hid (λh=>oM u.out h);have q:=hid (λh=>rQ (ws:=ws) r h);have j:dc (wd ws (112+k))=slAt ws k:=rfl;have K:k<(slL ws).length:=by rw[eg];exact r
  have C:=hid (show ((slL ws).take (k+1)).flatMap Sl.cells=((slL ws).take k).flatMap Sl.cells++(slAt ws k).cells by
   rw[kqp K,bP,mt])
  have i1:(0:Int)<=112+(k:Int):=by omega
  have i2':(112:Int)+(k:Int)<(ws.length:Int):=by omega
  have n1:((112:Int)+(k:Int)).toNat=112+k:=by omega
  have hk1:(k:Int)<16:=by omega
  have hk0:(0:Int)<=(k:Int):=by omega
  obtain⟨x,H⟩:=xq (wd ws (112+k));rw[H] at h0 f j;cases d:lL (slAt ws k)
  .have V:=hid (q.out d);rw[<-j] at d;rw[(wz d).1,(wz d).2] at f;unfold Sl.val at f;dsimp only at f;clear H d j q o a;go_wp2_with fail;refine (f.out _).mono ?_;rintro e w3 ⟨rfl,l⟩;have y:=z.trans (l.mono hz);have M:=y.size;clear l;go_wp2;go_ret2;exact⟨⟨none,0,0,by rw[V.out];rfl,λh=>by rw[V.out] at h;cases h⟩,y.alloc M _⟩
  have G:=hid (o.out d);rw[<-j] at d;rw[(we d).1,(we d).2,j] at f;obtain⟨s,B⟩:=xq (slAt ws k);rw[B] at f C;obtain⟨sg,su,Z⟩:=s;unfold Sl.val at f;dsimp only at f;clear H d j B q o;go_wp2_with fail;refine (f.out _).mono ?_;rintro e w3 ⟨rfl,l⟩;have E:=z.trans (l.mono hz);have O:=E.size;have m:=aj a l (kqg _);clear l a;go_wp2_with (at_builtin;refine kzn _ rfl _ _ 45 rfl w.heap.size 52 i2 _ 3 24 underlying45 HJ.out P.out L.out J.out rfl (by decide) _ _ _ rfl ((m.alloc _).alloc _) ⟨_,0,none⟩ 1 1 [.int .i64 sg,.bool su,.int .i64 Z] rfl rfl (kU _ _ _ (kqn _ _)) (by simp[Value.oneCell']) (by unfold maxLen;omega) (by omega) (by simp;omega) ?_;intro v1 w6 p T _;have N:=aw (E.alloc O (.cells #[.int .i64 sg,.bool su,.int .i64 Z] 52)) (by simp;omega) (m.alloc _) T);go_roundw
  case rel=>exact⟨k+1,by omega,by go_num,G.out,by rw[C.out];exact p,N⟩
  case measure=>simp[intOf];omega
 obtain rfl:k=16:=by omega
 have U:slsOk ws=true:=(bQ ws).2 u.out;have HT:=hid U;rw[kzg (by rw[eg];exact kqg _)] at a;obtain⟨A1,Y,rfl⟩:=aE a;have R:16<=Y:=by
  rcases a.2 with⟨X,I⟩|⟨g,cap,cur,X,-,-,I,-⟩
  .cases I
  simp only[Value.slice.injEq] at X;omega
 have Q:=hid a;clear U a;go_wp2;go_ret2;exact⟨⟨A1,16,Y,by rw[HT.out];rfl,λ_=>⟨rfl,R,Q.out⟩⟩,z⟩
theorem ye(A:Option Addr)(ws:List Nat)(c n:Nat)(w:World)(hn:ws.length=n)(h2:256<=n)(hm:n<=2048)(hr:RdW w w.heap.size A ws)(ho:∀x∈ws,x<18446744073709551616):
 Calls prog 152 #[.slice A n c] w λe w'=>TlRes ws e w'/\Below w.heap.size w w':=(vu A ws c n w hn h2 hm hr ho).mono λ_ _ ⟨⟨A,n,c,e,h⟩,b⟩=>⟨⟨A,n,c,e,λa=>⟨(h a).1,(h a).2.1,Rd.of_own (h a).2.2⟩⟩,b⟩
def nE (v:Nat):Bool:=v==9221120237041090561||decide (v%9223372036854775808<=9218868437227405312)
def objs (l:List Bk):List Bk:=l.filter λb=>b.kind==1
def lU (O:List Bk) (v:Nat):Bool:=O.any λb=>b.at_==(v:Int)
def wrF (ws F:List Nat) (O:List Bk) (m r i:Nat):Bool:=if r=10 then F[i]? == some 2 && !nE (wd ws (m+2+i)) else F[i]? == some 3&&(decide (0<wd ws (m+2+i)) && !lU O (wd ws (m+2+i)))
def wrB (ws:List Nat) (T:List (List Nat)) (O:List Bk) (m z ty:Nat) (mk:Bool) (nx r:Nat):Bool:=
 if r=7 then mk||decide (0<nx)
 else if r=8 then !decide (ty<T.length)||aP (T[ty]?.getD []).length != z
 else if r=9 then decide ((T[ty]?.getD []).length+2<z)&&wd ws (m+2+(T[ty]?.getD []).length) != 0
 else (List.range (T[ty]?.getD []).length).any λi=>wrF ws (T[ty]?.getD []) O m r i
def wrK (ws:List Nat) (T:List (List Nat)) (O:List Bk) (r:Nat) (b:Bk):Bool:=wrB ws T O b.at_.toNat b.size.toNat b.typ.toNat b.mark b.next r
def eD (ws:List Nat) (a:Nat):Bool:=(List.range 8).all λi=>wd ws (a+i)==0
def o8 (ws:List Nat) (a k:Nat):Prop:=∀i,i<k->wd ws (a+i)=0
theorem iN(ws:List Nat)(a:Nat):eD ws a=true↔o8 ws a 8:=by
 unfold eD o8;rw[kzq];constructor
 .intro h i b;have:=h i (kq8.2 b);simpa using this
 intro h i b;have:=h i (kq8.1 b);simpa using this
def iH (O:List Bk) (s:Sl):Bool:=!s.used||lU O s.at_.toNat
def lay (ws:List Nat):Bool:=match tyN ws,blocks ws 128 with
 | some t,some l=>eD ws 16&&(eD ws 24&&(ga ws t&&(slsOk ws&&(js l&&((List.range 5).all (λr=>(objs l).all λb => !wrK ws (eB ws t 8) (objs l) (7+r) b)&&(slL ws).all (iH (objs l)))))))
 | _,_=>false
def cH (ws:List Nat):Int:=if al (ws.length:Int)=true then (if lay ws=true then 0 else 50) else 8
theorem GL(h:v≠9221120237041090561):nE v=decide (v%9223372036854775808<=9218868437227405312):=by unfold nE;rw[show (v==9221120237041090561)=false by rw[kqi];exact h];rfl
theorem ni(hk:k<l.length):objs (l.take (k+1))=objs (l.take k)++(if l[k].kind=1 then [l[k]] else []):=by
 unfold objs;rw[kqp hk,kjl];congr 1;by_cases h:l[k].kind=1
 .rw[if_pos h];simp[h]
 rw[if_neg h];simp[h]
theorem Fy(hk:k<O.length)(h:O[k].at_=(v:Int)):lU O v=true:=by unfold lU;rw[kx1];exact⟨_,kqm hk,by rw[kqx];exact h⟩
theorem Fw(h:∀k (a:k<O.length),O[k].at_≠(v:Int)):lU O v=false:=by unfold lU;rw[kx5];intro b c;obtain⟨k,a,rfl⟩:=kqu c;rw[kqx];exact h k a
theorem vI(v:Nat)(w:World):Calls prog 215 #[.int .u64 (v:Int)] w λe w'=>e=.returned (.bool (nE v))/\w=w':=by
 have h0:(0:Int)<=(v:Int):=by omega
 by_cases h:v=9221120237041090561
 .subst h;go_enter func215,ntmps215;go_wp2;go_ret;exact⟨rfl,rfl⟩
 have a:=hid (GL h);have e1:((v:Int)==9221120237041090561)=false:=by rw[kqi];omega
 have c:decide ((v:Int)%9223372036854775808<=9218868437227405312)=decide (v%9223372036854775808<=9218868437227405312):=by rw[decide_eq_decide];omega
 obtain⟨q,b⟩:=xq (decide (v%9223372036854775808<=9218868437227405312));rw[b] at a c;clear h b;go_enter func215,ntmps215;go_wp2;go_ret;exact⟨by rw[a.out];rfl,rfl⟩
theorem xC(n:Nat)(w:World)(hn:n<=1000000):Calls prog 214 #[.int .i64 (n:Int)] w λe w'=>e=.returned (.int .i64 ((aP n:Nat):Int))/\w=w':=by
 by_cases h:n%2=1
 .have b:((n:Int)%2==1)=true:=by rw[kqx];omega
  have a:=hid (show ((aP n:Nat):Int)=(n:Int)+1+2 by unfold aP;omega);have w1:IntKind.i64.wrap ((n:Int)+1)=(n:Int)+1:=kqr _ (by omega);have c:IntKind.i64.wrap ((n:Int)+1+2)=(n:Int)+1+2:=kqr _ (by omega);clear h;go_enter func214,ntmps214;go_wp2;go_ret;exact⟨by rw[a.out];go_num,rfl⟩
 have b:((n:Int)%2==1)=false:=by rw[kqi];omega
 have a:=hid (show ((aP n:Nat):Int)=(n:Int)+2 by unfold aP;omega);have c:IntKind.i64.wrap ((n:Int)+2)=(n:Int)+2:=kqr _ (by omega);clear h;go_enter func214,ntmps214;go_wp2;go_ret;exact⟨by rw[a.out];go_num,rfl⟩
theorem vB(A:Option Addr)(ws:List Nat)(c n a:Nat)(w:World)(hn:ws.length=n)(ha:a+8<=n)(hm:n<=2048)(hr:RdW w w.heap.size A ws):
 Calls prog 150 #[.slice A n c,.int .i64 (a:Int)] w λe w'=>e=.returned (.bool (eD ws a))/\w=w':=by
 subst hn;have C:=hid hr;have u:=hid (iN ws a);go_enter func150,ntmps150;go_wp2_with fail
 go_loop [5] (λi=>∃k:Nat,k<=8/\i=.int .i64 k/\Hid (o8 ws a k)) (λi=>8-(intOf i).toNat)
 case atStart=>exact⟨0,kqy _,rfl,hid λi h=>absurd h (by omega)⟩
 obtain⟨k,hk,rfl,t⟩:=hrel;by_cases g:k<8
 .obtain ⟨b,off,rfl,hb,o⟩:=RdW.at_ C.out (show a+k<ws.length by omega);rw[<-ce] at o;have f:Hid (wd ws (a+k)=0->o8 ws a (k+1)):=hid λh i z=>by
   rcases kq9 i k with r|r
   .exact t.out i r
   have:i=k:=by omega
   subst this;exact h
  have j:Hid (wd ws (a+k)≠0->eD ws a=false):=hid λh=>by
   cases D:eD ws a with
   | false=>rfl
   | true=>exact absurd (u.out.1 D k g) h
  have B:IntKind.i64.wrap ((a:Int)+(k:Int))=((a+k:Nat):Int):=by rw[kqr _ (by omega)];omega
  have y:((a+k:Nat):Int)<(ws.length:Int):=by omega
  have v:(0:Int)<=((a+k:Nat):Int):=by omega
  obtain⟨p,s⟩:=xq (a+k);rw[s] at o f j B y v;obtain⟨x,q⟩:=xq (wd ws p);rw[q] at o f j;clear s q;by_cases d:x=0
  .have m:=hid (f.out d);subst d;go_wp2_with fail
   go_round
   case rel=>exact⟨k+1,by omega,by go_num,m⟩
   case measure=>simp[intOf];omega
  have l:=hid (j.out d);have e1:((x:Int) != 0)=true:=by rw[kqt];omega
  have e1n:(x != 0)=true:=by rw[kqt];exact d
  clear d;go_wp2;go_ret;exact⟨by rw[l.out];rfl,rfl⟩
 have l:Hid (eD ws a=true):=hid (u.out.2 λi z=>t.out i (by omega));obtain rfl:k=8:=by omega
 go_wp2;go_ret;exact⟨by rw[l.out];rfl,rfl⟩
theorem o0(A:Option Addr)(O:List Bk)(c n v:Nat)(w:World)(hn:O.length=n)(hm:n<=1000000)(hr:RdB w w.heap.size A O)(ho:∀b∈O,0<=b.at_/\b.at_<=1000000):
 Calls prog 156 #[.slice A n c,.int .u64 (v:Int)] w λe w'=>(∃r:Int,e=.returned (.int .i64 r)/\decide (r<0) = !lU O v)/\w=w':=by
 subst hn;have y:=hid hr;have z:=hid ho;clear hr ho;go_enter func156,ntmps156;go_wp2_with fail
 go_loop [5] (λi=>∃k:Nat,k<=O.length/\i=.int .i64 k/\Hid (∀j (f:j<O.length),j<k->O[j].at_≠(v:Int))) (λi=>O.length-(intOf i).toNat)
 case atStart=>exact⟨0,kqy _,rfl,hid λj f h=>absurd h (by omega)⟩
 obtain⟨k,hk,rfl,s⟩:=hrel;by_cases d:k<O.length
 .obtain ⟨b,off,rfl,hb,C,-⟩:=RdB.at_ y.out d;obtain⟨B,u⟩:=z.out _ (kqm d);have g:Hid (O[k].at_≠(v:Int)->∀j (f:j<O.length),j<k+1->O[j].at_≠(v:Int)):=hid λh j f h2=>by
   rcases kq9 j k with p|p
   .exact s.out j f p
   have:j=k:=by omega
   subst this;exact h
  have q:=hid (λh=>Fy (v:=v) d h);obtain⟨x,o⟩:=xq (O[k].at_);rw[o] at C g q B u;have i1:IntKind.u64.wrap x=x:=kzs _ (by omega);have hki:(k:Int)<(O.length:Int):=by omega
  have hk0:(0:Int)<=(k:Int):=by omega
  clear o;by_cases a:x=(v:Int)
  .have l:=hid (q.out a);have t:(x==(v:Int))=true:=by rw[kqx];exact a
   clear a g;go_wp2;go_ret;exact⟨⟨k,rfl,by rw[l.out];rw[decide_eq_false];rfl;omega⟩,rfl⟩
  have m:=hid (g.out a);have t:(x==(v:Int))=false:=by rw[kqi];exact a
  clear a g;go_wp2_with fail
  go_round
  case rel=>exact⟨k+1,by omega,by go_num,m⟩
  case measure=>simp[intOf];omega
 have l:Hid (lU O v=false):=hid (Fw λj f=>s.out j f (by omega));obtain rfl:k=O.length:=by omega
 go_wp2;go_ret;exact⟨⟨-1,rfl,by rw[l.out];rfl⟩,rfl⟩
theorem rh(A:Option Addr)(l:List Bk)(c n:Nat)(w:World)(hn:l.length=n)(hm:n<=1000000)(hr:RdB w w.heap.size A l):
 Calls prog 154 #[.slice A n c] w λe w'=>(∃A k c,e=.returned (.slice A k c)/\k=(objs l).length/\k<=c/\RdB w' w'.heap.size A (objs l))/\Below w.heap.size w w':=by
 subst hn;have HR:=hid hr;clear hr;obtain⟨i2,P,p,s,r⟩:=kzt kL;have Y:=hid P;have F:=hid p;have C:=hid s;have B:=hid r;clear P p s r;go_enter func154,ntmps154;go_wp2_with fail;go_loopw [3,4] (λv i wr=>∃k:Nat,k<=l.length/\i=.int .i64 k/\wr.ownsRow w.heap.size 55 6 v (objs (l.take k)).length ((objs (l.take k)).flatMap Bk.cells)/\Below w.heap.size w wr) (λ_ i _=>l.length-(intOf i).toNat)
 case atStart=>exact⟨0,kqy _,rfl,kq3 _ _ _ _,kql _ _⟩
 obtain⟨k,hk,rfl,a,q⟩:=hrel;have W:=q.size;by_cases m:k<l.length
 .obtain ⟨b,off,rfl,hb,T,R,H,I,Q,U⟩:=RdB.at_ (Rd.below HR.out q) m;have d:=hid (ni m);have o:(objs (l.take k)).length<=k:=by unfold objs;have:=kxi (λb:Bk=>b.kind==1) (l.take k);rw[kq6] at this;omega
  obtain⟨x,K⟩:=xq (l[k]);rw[K] at T R H I Q U d;obtain⟨O,xs,u,V,J,S⟩:=x;dsimp only at T R H I Q U d;obtain⟨L,M⟩:=xq (objs (l.take k));rw[M] at a d o;have hki:(k:Int)<(l.length:Int):=by omega
  have hk0:(0:Int)<=(k:Int):=by omega
  clear K M;by_cases h:u=1
  .have j:Hid (objs (l.take (k+1))=L++[⟨O,xs,u,V,J,S⟩]):=hid (by rw[d.out,if_pos h]);subst h;clear d;go_wp2_with (at_builtin;refine kzn _ rfl _ _ 48 rfl w.heap.size 55 i2 _ 6 48 underlying48 Y.out F.out C.out B.out rfl (by decide) _ _ _ rfl (a.alloc _) ⟨_,0,none⟩ 1 1 [.int .i64 O,.int .i64 xs,.int .i64 1,.int .i64 V,.bool J,.int .u64 (S:Int)] rfl rfl (bY _ _ _) (by simp[Value.oneCell']) (by unfold maxLen;omega) (by omega) (bM W) ?_;intro v1 w6 f t _;have y:=hid (aw q W a t);have E:=hid f;clear f t);go_roundw
   case rel=>exact⟨k+1,by omega,by go_num,by rw[j.out,bP,kqw];exact E.out,y.out⟩
   case measure=>simp[intOf];omega
  have j:Hid (objs (l.take (k+1))=L):=hid (by rw[d.out,if_neg h,kz1]);have e1:(u==1)=false:=by rw[kqi];exact h
  clear d h;go_wp2;go_roundw
  case rel=>exact⟨k+1,by omega,by go_num,by rw[j.out];exact a,q⟩
  case measure=>simp[intOf];omega
 obtain rfl:k=l.length:=by omega
 rw[kz2] at a;obtain⟨Z,N,rfl⟩:=aE a;have D:=hid (show (objs l).length<=N by
  rcases a.2 with⟨z,X⟩|⟨g,cap,cur,z,-,-,X,-⟩
  .simp only[Value.slice.injEq] at z;omega
  simp only[Value.slice.injEq] at z;omega)
 have G:=hid (Rd.of_own a);clear a;go_wp2;go_ret;exact⟨⟨Z,_,N,rfl,rfl,D.out,G.out⟩,q⟩
def mE:Op->Bool
 | .move _ | .assign _ | .pick _ _ _ | .load _ _ | .build _ _ | .binOp _ _ _ _ _ | .unOp _ _ _ | .convert _ _ _ | .slice _ _ _ _ _ | .fieldAddr _ _ _ | .field _ _ _ | .indexAddr _ _ _ | .index _ _ _ | .extract _ _=>true
 | _=>false
structure SW (S:World->Prop) where
 w:World
 ok:S w
theorem cls_of{S:World->Prop}(h:S w):∃g:SW S,w=g.w:=⟨⟨w,h⟩,rfl⟩
theorem ch{α:Type}(f:α->Value)(s:Sem α):∀w,(∃u w',(s.bind λx=>Sem.pure (Next.value (f x))).run P w=.ok (.value u) w')\/∃h w',(s.bind λx=>Sem.pure (Next.value (f x))).run P w=.halt h w':=by
 induction s with
 | pure a=>intro w;exact .inl ⟨f a,w,rfl⟩
 | load m a k ih =>
  intro w;simp only[Sem.bind,Sem.run];split
  .exact ih _ w
  split
  .exact ih _ w
  exact .inr ⟨_,_,rfl⟩
 | store m a v k ih =>
  intro w;cases v<;>simp only[Sem.bind,Sem.run]<;>first
   | exact .inr ⟨_,_,rfl⟩
   | (
    split
    .split
     .exact .inr ⟨_,_,rfl⟩
     exact ih _
    split
    .exact ih _
    exact .inr ⟨_,_,rfl⟩)
 | new o k ih=>intro w;exact ih _ _
 | shape r k ih=>intro w;exact ih _ _
 | freeze a n k ih=>intro w;exact ih _
 | frozen a k ih=>intro w;exact ih _ _
 | getObj r k ih =>
  intro w;simp only[Sem.bind,Sem.run];split
  .exact .inr ⟨_,_,rfl⟩
  .exact ih _ w
  exact .inr ⟨_,_,rfl⟩
 | setObj r o k ih =>
  intro w;simp only[Sem.bind,Sem.run];split
  .exact .inr ⟨_,_,rfl⟩
  .exact ih _
  exact .inr ⟨_,_,rfl⟩
 | choose q k ih =>
  intro w;simp only[Sem.bind,Sem.run];split
  .exact ih _ _
  exact ih _ _
 | sys c k ih=>intro w;exact ih _ _
 | program k ih=>intro w;exact ih _ _
 | mark m k ih=>intro w;exact ih _
 | halt h=>intro w;exact .inr ⟨h,w,rfl⟩
theorem xQ{ρ:Operand->Value}(h:mE o.op=true)(w:World):(∃u w',(execOp ρ o).run P w=.ok (.value u) w')\/∃h w',(execOp ρ o).run P w=.halt h w':=by
 unfold execOp;unfold mE at h;split at h
 .rename_i x e;rw[e];exact .inl ⟨_,w,rfl⟩
 .rename_i x e;rw[e];exact .inl ⟨_,w,rfl⟩
 .rename_i c a b e;rw[e];exact ch _ _ w
 .rename_i e;rw[e];exact ch id _ w
 .rename_i e;rw[e];exact ch id _ w
 .rename_i e;rw[e];exact ch id _ w
 .rename_i e;rw[e];exact ch id _ w
 .rename_i e;rw[e];exact ch id _ w
 .rename_i e;rw[e];exact ch id _ w
 .rename_i e;rw[e];exact ch id _ w
 .rename_i e;rw[e];exact ch id _ w
 .rename_i e;rw[e];exact ch id _ w
 .rename_i e;rw[e];exact ch id _ w
 .rename_i e;rw[e];exact ch id _ w
 cases h
theorem tK{C:World->Prop}{a:Act}{v:Value}(h:mE o.op=true)(hq:o.quietAt P a C w v):(execOp a.eval o).run P w=.ok (.value v) w:=by
 unfold Oper.quietAt at hq;rcases xQ (P:=P) (ρ:=a.eval) h w with⟨u,w',e⟩|⟨h',w',e⟩
 .rw[e] at hq |-;obtain⟨rfl,rfl⟩:=hq;rfl
 rw[e] at hq;exact False.elim hq
inductive It where
 | one (o:Oper) (tk:Bool) (gd:Option (Option Tmp × Bool))
 | two (o1 o2:Oper) (gd:Option (Option Tmp × Bool))
def gOk (gd:Option (Option Tmp × Bool)) (tmps:Array Value):Bool:=match gd with
 | none=>true
 | some (d,b)=>(match d.bind (tmps[·]?) with
  | some (.bool x)=>some x
  | _=>none)==some b
def ta (ops:Array Oper) (o:Oper):Option (Option Tmp × Bool):=match o.guard with
 | none=>none
 | some (g,b)=>some ((ops.toList[g]?).bind (·.dst),b)
theorem dY(ops:Array Oper)(o:Oper)(tmps:Array Value):Region.wanted o (yielded ops tmps)=gOk (ta ops o) tmps:=by
 unfold Region.wanted ta gOk;split
 .rename_i h;rw[h]
 rename_i j b h;rw[h];simp only[kki];rfl
def C9 (ops:Array Oper):List (Nat × Nat × Nat)->List It
 | []=>[]
 | (k,i,j)::r=>match ops.toList[i]? with
  | none=>[]
  | some o=>match k with
   | 0=>.one o true (ta ops o)::C9 ops r
   | 2=>(match ops.toList[j]? with
    | none=>[]
    | some o2=>.two o o2 (ta ops o)::C9 ops r)
   | _=>.one o false (ta ops o)::C9 ops r
def lI:List (Nat × Nat × Nat)->Nat
 | []=>0
 | (k,_,_)::r=>(if k=2 then 2 else 1)+lI r
def k9 (md:Region.Mode) (ops:Array Oper):List (Nat × Nat × Nat)->Array Bool->Bool
 | [],listed=>(Region.ready md ops listed).isEmpty
 | (k,i,j)::r,listed=>if k=2 then
  (match ops[i]?,ops[j]? with
   | some o1,some o2=>ta ops o1==ta ops o2
   | _,_=>false)&&(Region.ready md ops listed==[i,j]&&(Region.ready md ops (listed.setIfInBounds i true)==[j]&&(Region.ready md ops (listed.setIfInBounds j true)==[i]&&(i != j&&k9 md ops r ((listed.setIfInBounds i true).setIfInBounds j true)))))
  else (ops[i]?).any (λo=>if k=0 then mE o.op&&(Region.free md ops listed i&&(Region.ready md ops listed).contains i) else Region.ready md ops listed==[i])&&k9 md ops r (listed.setIfInBounds i true)
def mJ (md:Region.Mode) (ops:Array Oper):List (Nat × Nat × Nat)->Array Bool->Bool
 | [],_=>true
 | (k,i,j)::r,listed=>if k=2 then
  (match ops[i]?,ops[j]? with
   | some o1,some o2=>ta ops o1==ta ops o2
   | _,_=>false)&&(Region.ready md ops listed==[i,j]&&(Region.ready md ops (listed.setIfInBounds i true)==[j]&&(Region.ready md ops (listed.setIfInBounds j true)==[i]&&(i != j&&mJ md ops r ((listed.setIfInBounds i true).setIfInBounds j true)))))
  else (ops[i]?).any (λo=>if k=0 then mE o.op&&(Region.free md ops listed i&&(Region.ready md ops listed).contains i) else Region.ready md ops listed==[i])&&mJ md ops r (listed.setIfInBounds i true)
def j9:List (Nat × Nat × Nat)->Array Bool->Array Bool
 | [],listed=>listed
 | (k,i,j)::r,listed=>j9 r (if k=2 then (listed.setIfInBounds i true).setIfInBounds j true else listed.setIfInBounds i true)
theorem nv{md:Region.Mode}{l2:List (Nat × Nat × Nat)}:∀(b:List (Nat × Nat × Nat)) {a:Array Bool},mJ md ops b a=true->k9 md ops l2 (j9 b a)=true->k9 md ops (b++l2) a=true:=by
 intro b
 induction b with
 | nil=>intro a _ h;exact h
 | cons x b ih =>
  intro a c d;obtain⟨k,i,j⟩:=x;by_cases e:k=2
  .subst e;simp only[mJ,if_true,kqz] at c;simp only[j9,if_true] at d;obtain⟨g,m,f,l,n,o⟩:=c;rw[kz0];simp only[k9,if_true,kqz];exact⟨g,m,f,l,n,ih o d⟩
  simp only[mJ,e,if_false,kqz] at c;simp only[j9,e,if_false] at d;rw[kz0];simp only[k9,e,if_false,kqz];exact⟨c.1,ih c.2 d⟩
def f9 (P:Program) (Q:Exit->Act->World->Prop) (S:World->Prop):List It->Act->World->Prop
 | [],a,w=>Q .normal a w
 | .one o t g::r,a,w=>if gOk g a.tmps=true then (if t=true then o.quiet P a (λX=>∃g:SW S,X=g.w) (λa'=>f9 P Q S r a' w) else o.wp P a w (λa' w'=>S w'/\f9 P Q S r a' w') Q) else f9 P Q S r (a.put o.dst undef) w
 | .two o1 o2 g::r,a,w=>if gOk g a.tmps=true then
  (
   o1.wp P a w (λa1 w1=>S w1/\gOk g a1.tmps=true/\o2.wp P a1 w1 (λa2 w2=>S w2/\f9 P Q S r a2 w2) Q) Q /\
   o2.wp P a w (λa1 w1=>S w1/\gOk g a1.tmps=true/\o1.wp P a1 w1 (λa2 w2=>S w2/\f9 P Q S r a2 w2) Q) Q) else False
section
variable {P:Program} {Q:Exit->Act->World->Prop} {S:World->Prop} {r:List It} {a:Act} {w:World} {o o1 o2:Oper} {g:Option (Option Tmp × Bool)}
theorem EA(hg:gOk g a.tmps=true)(h:∀K:Act->Prop,(∀a',f9 P Q S r a' w->K a')->o.quiet P a (λX=>∃g:SW S,X=g.w) K):f9 P Q S (.one o true g::r) a w:=by unfold f9;rw[if_pos hg,if_pos rfl];exact h _ λ_ h=>h
theorem seq_do(hg:gOk g a.tmps=true)(h:∀K:Act->World->Prop,(∀a' w',S w'->f9 P Q S r a' w'->K a' w')->o.wp P a w K Q):f9 P Q S (.one o false g::r) a w:=by unfold f9;rw[if_pos hg,if_neg (by decide)];exact h _ λ_ _ b c=>⟨b,c⟩
theorem CC{t:Bool}(hg:gOk g a.tmps=false)(h:f9 P Q S r (a.put o.dst undef) w):f9 P Q S (.one o t g::r) a w:=by unfold f9;rw[if_neg (by rw[hg];decide)];exact h
theorem Bq(hs:Region.noSelect ops=true)(hQ:∀c a d v w,Q (.panic c) (a.put d v) w->Q (.panic c) a w):∀(l:List (Nat × Nat × Nat)) (b:Nat) (e:Array Bool) (a:Act) (w:World),lI l<=b->k9 .any ops l e=true->S w->f9 P Q S (C9 ops l) a w->wpAnyH P .any ops Q S b e a w:=by
 intro l
 induction l with
 | nil =>intro b e a w _ n _ h;exact kx3 (List.isEmpty_iff.1 n) h b
 | cons x l ih =>
  intro b e a w I n z h;obtain⟨k,i,j⟩:=x;by_cases D:k=2
  .subst D;simp only[lI,if_true] at I;obtain⟨b,rfl⟩:∃f,b=f+1+1:=⟨b-2,by omega⟩;have y:lI l<=b:=by omega
   simp only[k9,if_true,kqz] at n;obtain⟨g,A,T,Y,h5,J⟩:=n;cases p:ops[i]? with
   | none=>rw[p] at g;cases g
   | some o1 =>
    cases r:ops[j]? with
    | none=>rw[p,r] at g;cases g
    | some o2 =>
     rw[p,r] at g;have C:ta ops o1=ta ops o2:=by simpa using g
     simp only[C9,kki,p,r] at h;unfold f9 at h;cases m:gOk (ta ops o1) a.tmps with
     | false=>rw[if_neg (by rw[m];decide)] at h;exact h.elim
     | true =>
      rw[if_pos m] at h;refine wpAnyH_all (rs:=[i,j]) (by simpa using A) (by simp) λq E=>?_;have G:i≠j:=by simpa using h5
      rcases kq0.1 E with rfl|E
      .unfold wpOp;simp only[p];rw[dY,m,if_pos rfl];refine .inl (Oper.wp_mono (λV Z u=>⟨u.1,?_⟩) h.1);refine wpAnyH_all (rs:=[j]) (by simpa using T) (by simp) λH s=>?_;rw[kq1] at s;subst s;unfold wpOp;simp only[r];rw[dY,<-C,u.2.1,if_pos rfl];exact .inl (Oper.wp_mono (λO N t=>⟨t.1,ih b _ _ _ y J t.1 t.2⟩) u.2.2)
      rw[kq1] at E;subst E;unfold wpOp;simp only[r];rw[dY,<-C,m,if_pos rfl];refine .inl (Oper.wp_mono (λV Z u=>⟨u.1,?_⟩) h.2);refine wpAnyH_all (rs:=[i]) (by simpa using Y) (by simp) λH s=>?_;rw[kq1] at s;subst s;unfold wpOp;simp only[p];rw[dY,u.2.1,if_pos rfl];refine .inl (Oper.wp_mono (λO N t=>⟨t.1,?_⟩) u.2.2);rw[Array.setIfInBounds_comm _ _ (Ne.symm G)];exact ih b _ _ _ y J t.1 t.2
  simp only[lI,D,if_false] at I;obtain⟨b,rfl⟩:∃f,b=f+1:=⟨b-1,by omega⟩;have y:lI l<=b:=by omega
  simp only[k9,D,if_false,kqz] at n;obtain⟨g,A⟩:=n;cases B:ops[i]? with
  | none=>rw[B] at g;simp at g
  | some o =>
   rw[B] at g;simp only[Option.any_some] at g;simp only[C9,kki,B] at h;by_cases F:k=0
   .subst F;unfold f9 at h;simp only[if_true] at g h;simp only[kqz] at g;obtain⟨W,M,K⟩:=g;cases m:gOk (ta ops o) a.tmps with
    | true =>rw[if_pos m] at h;obtain⟨v,U,H⟩:=h;exact kkt B hs M K (λc a w=>hQ c a _ v w) (.inl ⟨by rw[dY];exact m,λX R=>tK W (U X (cls_of R))⟩) z (ih b _ _ _ y A z H)
    | false =>rw[if_neg (by rw[m];decide)] at h;exact kkt B hs M K (λc a w=>hQ c a _ undef w) (.inr ⟨by rw[dY];exact m,rfl⟩) z (ih b _ _ _ y A z h)
   have hkb:(k==0)=false:=by rw[kqi];exact F
   simp only[F,if_false] at g;have h:f9 P Q S (.one o false (ta ops o)::C9 ops l) a w:=by
    match k,D,F,h with
    | 1,_,_,h=>exact h
    | k+3,_,_,h=>exact h
   unfold f9 at h;refine wpAnyH_all (rs:=[i]) (by simpa using g) (by simp) λj L=>?_;rw[kq1] at L;subst L;unfold wpOp;simp only[B];cases m:gOk (ta ops o) a.tmps with
   | true =>rw[if_pos m,if_neg (by decide)] at h;rw[dY,m,if_pos rfl];exact .inl (Oper.wp_mono (λa' w' h=>⟨h.1,ih b _ _ _ y A h.1 h.2⟩) h)
   | false =>rw[if_neg (by rw[m];decide)] at h;rw[dY,m,if_neg (by decide)];exact⟨z,ih b _ _ _ y A z h⟩
theorem pt(l:List (Nat × Nat × Nat))(L:List It)(hm:P.follows .mixedOrders=true)(hs:Region.noSelect ops=true)(hl:lI l<=ops.size)(hok:k9 .any ops l (Array.replicate ops.size false)=true)(hL:C9 ops l=L)(hQ:∀c a d v w,Q (.panic c) (a.put d v) w->Q (.panic c) a w)(hS:S w.drew)(h:f9 P Q S L a w.drew):(Code.region id ops true).wp P Q a w:=by subst hL;exact wp_region_held hm (Bq hs hQ l ops.size _ a w.drew hl hok hS h)
structure SqG (P:Program) (Q:Exit->Act->World->Prop) (S:World->Prop) (l:List It) (a:Act) (w:World):Prop where
 out:f9 P Q S l a w
theorem Af(h:Q .normal a w):SqG P Q S [] a w:=⟨h⟩
theorem ic(hg:gOk g a.tmps=true)(h:∀K:Act->Prop,(∀b,SqG P Q S r b w->K b)->o.quiet P a (λX=>∃g:SW S,X=g.w) K):SqG P Q S (.one o true g::r) a w:=⟨EA hg λK c=>h K λb d=>c b d.out⟩
theorem sU(hg:gOk g a.tmps=true)(h:∀K:Act->World->Prop,(∀b w',S w'->SqG P Q S r b w'->K b w')->o.wp P a w K Q):SqG P Q S (.one o false g::r) a w:=⟨seq_do hg λK c=>h K λb w' d e=>c b w' d e.out⟩
theorem dP{t:Bool}(hg:gOk g a.tmps=false)(h:SqG P Q S r (a.put o.dst undef) w):SqG P Q S (.one o t g::r) a w:=⟨CC hg h.out⟩
theorem nw(l:List (Nat × Nat × Nat))(L:List It)(hm:P.follows .mixedOrders=true)(hs:Region.noSelect ops=true)(hl:lI l<=ops.size)(hok:k9 .any ops l (Array.replicate ops.size false)=true)(hL:C9 ops l=L)(hQ:∀c a d v w,Q (.panic c) (a.put d v) w->Q (.panic c) a w)(hS:S w.drew)(h:SqG P Q S L a w.drew):(Code.region id ops true).wp P Q a w:=pt l L hm hs hl hok hL hQ hS h.out
end
def RdL (w:World) (B:Nat) (A:Option Addr) (L:List Ty):Prop:=Rd w B A (L.flatMap Ty.cells)/\∀x∈L,RdY w B x.A x.l
theorem RdL.up{B':Nat}(h:RdL w B A L)(hb:Below B w w')(hB:B<=B'):RdL w' B' A L:=⟨h.1.up hb hB,λx a=>(h.2 x a).up hb hB⟩
theorem RdL.of_own{n c:Nat}(h:km w H (.slice A n c) L)(hn:L.length=n):RdL w w.heap.size A L:=by subst hn;exact⟨Rd.of_own h.1,λx a=>Rd.of_own (h.2 x a)⟩
theorem qD(A TA OA:Option Addr)(ws:List Nat)(L:List Ty)(O:List Bk)(c n tc tn oc on m z ty nx r:Nat)(xk:Int)(mk:Bool)(w:World)(ht:L.length=tn)(hl8:∀x∈L,x.l.length<=8)(hr:r=7\/r=8)(hL:RdL w w.heap.size TA L):
 Calls prog 155 #[.slice A n c,.slice TA tn tc,.slice OA on oc,.agg #[.int .i64 (m:Int),.int .i64 (z:Int),.int .i64 xk,.int .i64 (ty:Int),.bool mk,.int .u64 (nx:Int)],.int .i64 (r:Int)] w λe w'=>e=.returned (.bool (wrB ws (L.map Ty.l) O m z ty mk nx r))/\Below w.heap.size w w':=by
 subst ht;have G:=hid (hL.up ((kql w.heap.size w).alloc (kqg _) (.cells #[.int .i64 (m:Int),.int .i64 (z:Int),.int .i64 xk,.int .i64 (ty:Int),.bool mk,.int .u64 (nx:Int)] 55)) (kqg _));have u:=hid ((kql w.heap.size w).alloc (kqg _) (.cells #[.int .i64 (m:Int),.int .i64 (z:Int),.int .i64 xk,.int .i64 (ty:Int),.bool mk,.int .u64 (nx:Int)] 55));have Z:=Bx.new w 55 #[.int .i64 (m:Int),.int .i64 (z:Int),.int .i64 xk,.int .i64 (ty:Int),.bool mk,.int .u64 (nx:Int)];have E:=hid Z;clear hL Z;rcases hr with rfl|rfl
 .have k:Hid (wrB ws (L.map Ty.l) O m z ty mk nx 7=(mk||decide (0<nx))):=hid rfl;have C:decide ((0:Int)<(nx:Int))=decide (0<nx):=by rw[decide_eq_decide];omega
  obtain⟨q,H⟩:=xq (decide (0<nx));rw[H] at k C;clear G;(try simp only[kzb]);cases mk
  all_goals
   go_enter func155,ntmps155;go_wp2;go_ret;exact⟨by rw[k.out];rfl,u.out⟩
 by_cases a:ty<L.length
 .obtain ⟨b,N,rfl,hb,F⟩:=fE G.out.1 a;have hl:=hl8 _ (kqm a);have k:Hid (wrB ws (L.map Ty.l) O m z ty mk nx 8=(aP L[ty].l.length != z)):=hid (by
   show (!decide (ty<(L.map Ty.l).length)||aP (((L.map Ty.l)[ty]?).getD []).length != z)=_;rw[kqs,decide_eq_true a,kzh,kqj a];rfl)
  obtain⟨x,U⟩:=xq (L[ty]);rw[U] at F hl k;obtain⟨xA,xc,v⟩:=x;dsimp only at F hl k;have V:=hid (λW=>xC v.length W (by omega));have P:aP v.length<=10:=by unfold aP;omega
  have C:(((aP v.length:Nat):Int) != (z:Int))=(aP v.length != z):=by rw[kzr,kqt,kqt];omega
  obtain⟨o,Y⟩:=xq (aP v.length);rw[Y] at k V P C;obtain⟨q,H⟩:=xq ((o != z));rw[H] at k C;have d1:decide ((L.length:Int)<=(ty:Int))=false:=by rw[kqh];omega
  have I:decide (L.length<=ty)=false:=by rw[kqh];omega
  have j1:(ty:Int)<(L.length:Int):=by omega
  have j0:(0:Int)<=(ty:Int):=by omega
  (try simp only[kzb]);clear U Y H hl8 a;obtain⟨Q,D,J,B,T,M,R,s⟩:=E.out.c6;obtain⟨f,j⟩:∃f,w.alloc (.cells #[.int .i64 (m:Int),.int .i64 (z:Int),.int .i64 xk,.int .i64 (ty:Int),.bool mk,.int .u64 (nx:Int)] 55)=f:=⟨_,rfl⟩;go_enter func155,ntmps155;go_wp2_with fail;rw[j] at u D B F;clear j Q J T M R E G s
  go_region_held3 (λX:World=>X.cell? ⟨w.heap.size,1,none⟩=some (.int .i64 (z:Int))/\X.cell? ⟨w.heap.size,3,none⟩=some (.int .i64 (ty:Int))/\X.cell? ⟨b,N+ty,none⟩=some (.slice xA v.length xc)) (go_keep)
   (first | (go_at_call 214;refine (V.out _).mono ?_;rintro e w5 ⟨rfl,rfl⟩;have m0:=D;have m1:=B;have m2:=F))
  clear m0 m1 m2;go_wp2;go_ret;exact⟨by rw[k.out];rfl,u.out.drew⟩
 have k:Hid (wrB ws (L.map Ty.l) O m z ty mk nx 8=true):=hid (by
  show (!decide (ty<(L.map Ty.l).length)||aP (((L.map Ty.l)[ty]?).getD []).length != z)=_;rw[kqs,decide_eq_false a];rfl)
 have d1:decide ((L.length:Int)<=(ty:Int))=true:=by rw[kqo];omega
 have I:decide (L.length<=ty)=true:=by rw[kqo];omega
 obtain⟨Q,D,J,B,T,M,R,s⟩:=E.out.c6;(try simp only[kzb]);clear a;go_enter func155,ntmps155;go_wp2_with fail;obtain⟨f,j⟩:∃f,w.alloc (.cells #[.int .i64 (m:Int),.int .i64 (z:Int),.int .i64 xk,.int .i64 (ty:Int),.bool mk,.int .u64 (nx:Int)] 55)=f:=⟨_,rfl⟩;rw[j] at u B s |-;clear j Q D J T M R E G;have ct3:∀g:SW (λX:World=>Below f.heap.size f X),g.w.cell? ⟨w.heap.size,3,none⟩=some (.int .i64 (ty:Int)):=λg=>(g.ok.cell (p:=⟨w.heap.size,3,none⟩) s).trans B
 refine nw (S:=λX:World=>Below f.heap.size f X) ((0,0,0)::(0,1,0)::(0,2,0)::(1,3,0)::(0,4,0)::(0,5,0)::(0,6,0)::(0,7,0)::(0,8,0)::(0,9,0)::(0,10,0)::(0,13,0)::(0,14,0)::(1,11,0)::(1,12,0)::(0,15,0)::(0,16,0)::(0,17,0)::[]) (.one _ true (none)::.one _ true (none)::.one _ true (none)::.one _ false (none)::.one _ true (none)::.one _ true (none)::.one _ true (some (some 30,false))::.one _ true (some (some 30,false))::.one _ true (some (some 30,false))::.one _ true (some (some 30,false))::.one _ true (some (some 30,false))::.one _ true (some (some 30,false))::.one _ true (some (some 30,false))::.one _ false (some (some 30,false))::.one _ false (some (some 30,false))::.one _ true (some (some 30,false))::.one _ true (none)::.one _ true (none)::[]) (by kernel_rfl) (by kernel_rfl) (by decide) (by show k9 _ _ (((0,0,0)::(0,1,0)::(0,2,0)::(1,3,0)::(0,4,0)::(0,5,0)::(0,6,0)::(0,7,0)::(0,8,0)::(0,9,0)::[])++(((0,10,0)::(0,13,0)::(0,14,0)::(1,11,0)::(1,12,0)::(0,15,0)::(0,16,0)::(0,17,0)::[]))) _=true;refine nv _ (by as_aux_lemma=>kernel_rfl) ?_;(as_aux_lemma=>kernel_rfl)) (by rfl) (λ_ _ d _ _ h=>by cases d<;>exact h) (kql _ _).drew ?_;have i:=hid ((kql f.heap.size f).drew);obtain⟨X0,y⟩:=xq f.drew
 rw[y] at i |-;clear y;have hne:Nonempty (SW (λX:World=>Below f.heap.size f X)):=⟨⟨X0,i.out⟩⟩
 iterate 3 (first | (refine dP (by rfl) ?_;(try simp only[Act.put,kqa,kqf,kqd])) | (refine ic (by rfl) ?_;intro K t;go_big_quiet_op;go_big_quiet_on))
 (first | (refine dP (by rfl) ?_;(try simp only[Act.put,kqa,kqf,kqd])) | (refine sU (by rfl) ?_;intro K t;go_big_op;refine t _ _ i.out ?_;clear t K;(try simp only[Act.put,kqa,kqf,kqd])))
 iterate 9 (first | (refine dP (by rfl) ?_;(try simp only[Act.put,kqa,kqf,kqd])) | (refine ic (by rfl) ?_;intro K t;go_big_quiet_op;go_big_quiet_on))
 (first | (refine dP (by rfl) ?_;(try simp only[Act.put,kqa,kqf,kqd])) | (refine sU (by rfl) ?_;intro K t;go_big_op;refine t _ _ i.out ?_;clear t K;(try simp only[Act.put,kqa,kqf,kqd])))
 (refine dP (by rfl) ?_;(try simp only[Act.put,kqa,kqf,kqd]))
 iterate 3 (first | (refine dP (by rfl) ?_;(try simp only[Act.put,kqa,kqf,kqd])) | (refine ic (by rfl) ?_;intro K t;go_big_quiet_op;go_big_quiet_on))
 refine Af ?_;go_wp2;go_ret;exact⟨by rw[k.out];rfl,u.out.trans (i.out.mono u.out.size)⟩
theorem tA(A TA OA:Option Addr)(ws:List Nat)(L:List Ty)(O:List Bk)(c n tc tn oc on m z ty nx r:Nat)(xk:Int)(mk:Bool)(w:World)(hn:ws.length=n)(hon:O.length=on)(hm:n<=2048)(ho1:on<=2048)(ht:L.length=tn)(hty:ty<L.length)(hl8:L[ty].l.length<=8)(Q:z=aP L[ty].l.length)(hmz:m+z<=n)(Y:r=9\/r=10\/r=11)(hL:RdL w w.heap.size TA L)(hR:RdW w w.heap.size A ws)(hO:RdB w w.heap.size OA O)(hOb:∀b∈O,0<=b.at_/\b.at_<=1000000):
 Calls prog 155 #[.slice A n c,.slice TA tn tc,.slice OA on oc,.agg #[.int .i64 (m:Int),.int .i64 (z:Int),.int .i64 xk,.int .i64 (ty:Int),.bool mk,.int .u64 (nx:Int)],.int .i64 (r:Int)] w λe w'=>e=.returned (.bool (wrB ws (L.map Ty.l) O m z ty mk nx r))/\Below w.heap.size w w':=by
 subst ht hn hon;have E:=(kql w.heap.size w).alloc (kqg _) (.cells #[.int .i64 (m:Int),.int .i64 (z:Int),.int .i64 xk,.int .i64 (ty:Int),.bool mk,.int .u64 (nx:Int)] 55);have Z:=hL.up E (kqg _);have G:=hid (hR.up E E.size);have H:=hid (hO.up E E.size);have Jb:=hid hOb;have C:=hid E;have B:aP L[ty].l.length<=10/\L[ty].l.length+2<=aP L[ty].l.length:=by unfold aP;omega
 obtain⟨q0,q1,q2,q3,q4,q5,qf,M⟩:=(Bx.new w 55 #[.int .i64 (m:Int),.int .i64 (z:Int),.int .i64 xk,.int .i64 (ty:Int),.bool mk,.int .u64 (nx:Int)]).c6;obtain⟨b,off,rfl,hb,p0⟩:=fE Z.1 hty;have J:=Z.2 _ (kqm hty);have N:Hid (∀F,L[ty].l=F->wrB ws (L.map Ty.l) O m z ty mk nx r=(if r=7 then mk||decide (0<nx) else if r=8 then !decide (ty<(L.map Ty.l).length)||aP F.length != z else if r=9 then decide (F.length+2<z)&&wd ws (m+2+F.length) != 0 else (List.range F.length).any λi=>wrF ws F O m r i)):=hid λF hF=>by
  unfold wrB;rw[kzh,kqj hty];simp only[kzk,kq2,hF]
 obtain⟨x,hx⟩:=xq (L[ty]);rw[hx] at p0 hl8 Q B J N;obtain⟨xA,xc,F⟩:=x;dsimp only at p0 hl8 Q B J N;have X:=hid (N.out F rfl);have HF:=hid J;rw[<-Q] at B;have j1:(ty:Int)<(L.length:Int):=by omega
 have j0:(0:Int)<=(ty:Int):=by omega
 have HZ:=hid Q;clear hx N Z hL hR hO hOb J Q q2 q4 q5 qf;rcases Y with rfl|rfl|rfl
 .have y:Hid (wrB ws (L.map Ty.l) O m z ty mk nx 9=(decide (F.length+2<z)&&wd ws (m+2+F.length) != 0)):=hid X.out;have w1:IntKind.i64.wrap ((z:Int)-2)=(z:Int)-2:=kqr _ (by omega);have w2:IntKind.i64.wrap ((m:Int)+2)=(m:Int)+2:=kqr _ (by omega);have w3:IntKind.i64.wrap ((m:Int)+2+(F.length:Int))=((m+2+F.length:Nat):Int):=by rw[kqr _ (by omega)];omega
  (try simp only[kzb]);by_cases hp:F.length+2<z
  .obtain ⟨bw,ow,rfl,Jf,I⟩:=RdW.at_ G.out (show m+2+F.length<ws.length by omega);rw[<-ce] at I;have d1:decide ((F.length:Int)<(z:Int)-2)=true:=by rw[kqo];omega
   rw[decide_eq_true hp] at y;have k1:((m+2+F.length:Nat):Int)<(ws.length:Int):=by omega
   have k0:(0:Int)<=((m+2+F.length:Nat):Int):=by omega
   obtain⟨p,t⟩:=xq (m+2+F.length);rw[t] at I y w3 k1 k0;have e0:((wd ws p:Int) != 0)=(wd ws p != 0):=by rw[kzr,kqt,kqt];omega
   obtain⟨v,R⟩:=xq (wd ws p);rw[R] at I y e0;obtain⟨q,S⟩:=xq ((v != 0));rw[S] at y e0;clear t R S X HF H Jb hp HZ B;go_enter func155,ntmps155;go_wp2;go_ret;exact⟨by rw[y.out];rfl,C.out⟩
  have d1:decide ((F.length:Int)<(z:Int)-2)=false:=by rw[kqh];omega
  rw[decide_eq_false hp] at y;clear X HF H Jb hp HZ B;go_enter func155,ntmps155;go_wp2;go_ret;exact⟨by rw[y.out];rfl,C.out⟩
 .have y:Hid (wrB ws (L.map Ty.l) O m z ty mk nx 10=(List.range F.length).any λi=>wrF ws F O m 10 i):=hid X.out;have w2:IntKind.i64.wrap ((m:Int)+2)=(m:Int)+2:=kqr _ (by omega);have U:Hid (∀k,k<F.length->wrF ws F O m 10 k=true->wrB ws (L.map Ty.l) O m z ty mk nx 10=true):=hid λk P h=>by
   rw[y.out,kx1];exact⟨k,kq8.2 P,h⟩
  have Jc:Hid ((∀k,k<F.length->wrF ws F O m 10 k=false)->wrB ws (L.map Ty.l) O m z ty mk nx 10=false):=hid λh=>by
   rw[y.out,kx5];intro k P;rw[h k (kq8.1 P)];decide
  obtain⟨K,Jd⟩:∃K,w.alloc (.cells #[.int .i64 (m:Int),.int .i64 (z:Int),.int .i64 xk,.int .i64 (ty:Int),.bool mk,.int .u64 (nx:Int)] 55)=K:=⟨_,rfl⟩;rw[Jd] at G H HF C q0 q1 q3 p0 M;obtain⟨Jh,Jg⟩:=B;(try simp only[kzb]);clear X y HZ q1;go_enter func155,ntmps155;go_wp2_with fail;go_loopw [12] (λi wr=>∃k:Nat,k<=F.length/\i=.int .i64 k/\Hid (∀j,j<k->wrF ws F O m 10 j=false)/\Below K.heap.size K wr) (λi _=>F.length-(intOf i).toNat)
  case atStart=>exact⟨0,kqy _,rfl,hid λj h=>absurd h (by omega),kql _ _⟩
  obtain⟨k,P,rfl,HP,D⟩:=hrel;have Q:=D.size;by_cases u:k<F.length
  .have q0':=(D.cell (p:=⟨w.heap.size,0,none⟩) M).trans q0;obtain⟨bw,ow,rfl,Jf,I⟩:=RdW.at_ (Rd.below G.out D) (show m+2+k<ws.length by omega);rw[<-ce] at I;obtain⟨bf,of,rfl,Jl,y0⟩:=RdY.at_ (Rd.below HF.out (D.mono C.out.size)) u;have HS:Hid (wrF ws F O m 10 k=false->∀j,j<k+1->wrF ws F O m 10 j=false):=hid λh j hj=>by
    rcases kq9 j k with h2|h2
    .exact HP.out j h2
    have:j=k:=by omega
    subst this;exact h
   have HY:=hid (U.out k u);have d:Hid (wrF ws F O m 10 k=(F[k]==2 && !nE (wd ws (m+2+k)))):=hid (by
    unfold wrF;rw[kqj u]
    first | rw[if_pos rfl] | rw[if_neg (by decide)]
    rw[show ∀a b:Nat,(some a==some b)=(a==b) from λa b=>rfl])
   have w3:IntKind.i64.wrap ((m:Int)+2+(k:Int))=((m+2+k:Nat):Int):=by rw[kqr _ (by omega)];omega
   have k1:((m+2+k:Nat):Int)<(ws.length:Int):=by omega
   have k0:(0:Int)<=((m+2+k:Nat):Int):=by omega
   have Jj:(k:Int)<(F.length:Int):=by omega
   have Jk:(0:Int)<=(k:Int):=by omega
   obtain⟨p,t⟩:=xq (m+2+k);rw[t] at I d w3 k1 k0;obtain⟨v,R⟩:=xq (wd ws p);rw[R] at I d;obtain⟨f,hf⟩:=xq (F[k]);rw[hf] at y0 d;have s:=hid D;clear t R hf;have Ja:=hid (λW=>vI v W);by_cases Je:f=2
   .subst Je;have g:Hid (wrF ws F O m 10 k = !nE v):=hid (by rw[d.out];rfl);obtain⟨q,S⟩:=xq (nE v);rw[S] at Ja g;clear S d;cases q
    .have o:=hid (HY.out (by rw[g.out];rfl));go_wp2_with fail;refine (Ja.out _).mono ?_;rintro e w5 ⟨rfl,rfl⟩;go_wp2;go_ret;exact⟨by rw[o.out];rfl,C.out.trans (s.out.mono C.out.size)⟩
    have o:=hid (HS.out (by rw[g.out];rfl));go_wp2_with fail;refine (Ja.out _).mono ?_;rintro e w5 ⟨rfl,rfl⟩;go_wp2;go_roundw
    case rel=>exact⟨k+1,by omega,by go_num,o,s.out⟩
    case measure=>simp[intOf];omega
   have e1:((f:Int)==2)=false:=by rw[kqi];omega
   have o:=hid (HS.out (by rw[d.out,show (f==2)=false by rw[kqi];exact Je];rfl));clear Je d;go_wp2;go_roundw
   case rel=>exact⟨k+1,by omega,by go_num,o,s.out⟩
   case measure=>simp[intOf];omega
  have o:=hid (Jc.out λj hj=>HP.out j (by omega));obtain rfl:k=F.length:=by omega
  go_wp2;go_ret;exact⟨by rw[o.out];rfl,C.out.trans (D.mono C.out.size)⟩
 have y:Hid (wrB ws (L.map Ty.l) O m z ty mk nx 11=(List.range F.length).any λi=>wrF ws F O m 11 i):=hid X.out;have w2:IntKind.i64.wrap ((m:Int)+2)=(m:Int)+2:=kqr _ (by omega);have U:Hid (∀k,k<F.length->wrF ws F O m 11 k=true->wrB ws (L.map Ty.l) O m z ty mk nx 11=true):=hid λk P h=>by
  rw[y.out,kx1];exact⟨k,kq8.2 P,h⟩
 have Jc:Hid ((∀k,k<F.length->wrF ws F O m 11 k=false)->wrB ws (L.map Ty.l) O m z ty mk nx 11=false):=hid λh=>by
  rw[y.out,kx5];intro k P;rw[h k (kq8.1 P)];decide
 obtain⟨K,Jd⟩:∃K,w.alloc (.cells #[.int .i64 (m:Int),.int .i64 (z:Int),.int .i64 xk,.int .i64 (ty:Int),.bool mk,.int .u64 (nx:Int)] 55)=K:=⟨_,rfl⟩;rw[Jd] at G H HF C q0 q1 q3 p0 M;obtain⟨Jh,Jg⟩:=B;(try simp only[kzb]);clear X y HZ q1;go_enter func155,ntmps155;go_wp2_with fail;go_loopw [12] (λi wr=>∃k:Nat,k<=F.length/\i=.int .i64 k/\Hid (∀j,j<k->wrF ws F O m 11 j=false)/\Below K.heap.size K wr) (λi _=>F.length-(intOf i).toNat)
 case atStart=>exact⟨0,kqy _,rfl,hid λj h=>absurd h (by omega),kql _ _⟩
 obtain⟨k,P,rfl,HP,D⟩:=hrel;have Q:=D.size;by_cases u:k<F.length
 .have q0':=(D.cell (p:=⟨w.heap.size,0,none⟩) M).trans q0;obtain⟨bw,ow,rfl,Jf,I⟩:=RdW.at_ (Rd.below G.out D) (show m+2+k<ws.length by omega);rw[<-ce] at I;obtain⟨bf,of,rfl,Jl,y0⟩:=RdY.at_ (Rd.below HF.out (D.mono C.out.size)) u;have HS:Hid (wrF ws F O m 11 k=false->∀j,j<k+1->wrF ws F O m 11 j=false):=hid λh j hj=>by
   rcases kq9 j k with h2|h2
   .exact HP.out j h2
   have:j=k:=by omega
   subst this;exact h
  have HY:=hid (U.out k u);have d:Hid (wrF ws F O m 11 k=(F[k]==3&&(decide (0<wd ws (m+2+k)) && !lU O (wd ws (m+2+k))))):=hid (by
   unfold wrF;rw[kqj u]
   first | rw[if_pos rfl] | rw[if_neg (by decide)]
   rw[show ∀a b:Nat,(some a==some b)=(a==b) from λa b=>rfl])
  have w3:IntKind.i64.wrap ((m:Int)+2+(k:Int))=((m+2+k:Nat):Int):=by rw[kqr _ (by omega)];omega
  have k1:((m+2+k:Nat):Int)<(ws.length:Int):=by omega
  have k0:(0:Int)<=((m+2+k:Nat):Int):=by omega
  have Jj:(k:Int)<(F.length:Int):=by omega
  have Jk:(0:Int)<=(k:Int):=by omega
  obtain⟨p,t⟩:=xq (m+2+k);rw[t] at I d w3 k1 k0;obtain⟨v,R⟩:=xq (wd ws p);rw[R] at I d;obtain⟨f,hf⟩:=xq (F[k]);rw[hf] at y0 d;have s:=hid D;clear t R hf;by_cases T:f=3
  .subst T;have g:Hid (wrF ws F O m 11 k=(decide (0<v) && !lU O v)):=hid (by rw[d.out];rfl);by_cases V:0<v
   .have d1:decide ((0:Int)<(v:Int))=true:=by rw[kqo];omega
    have Eq:=hid (λW (Y:RdB W W.heap.size OA O)=>o0 OA O oc O.length v W rfl (by omega) Y Jb.out);have Ji:=hid (H.out.up D Q);rw[decide_eq_true V] at g;obtain⟨q,S⟩:=xq (lU O v);rw[S] at Eq g;clear S d;cases q
    .have o:=hid (HY.out (by rw[g.out];rfl));go_wp2_with fail;refine (Eq.out _ Ji.out).mono ?_;rintro e w5 ⟨⟨r,rfl,Y⟩,rfl⟩;simp only[kvm] at Y;go_wp2;go_ret;exact⟨by rw[o.out];rfl,C.out.trans (s.out.mono C.out.size)⟩
    have o:=hid (HS.out (by rw[g.out];rfl));go_wp2_with fail;refine (Eq.out _ Ji.out).mono ?_;rintro e w5 ⟨⟨r,rfl,Y⟩,rfl⟩;simp only[kvo] at Y;go_wp2;go_roundw
    case rel=>exact⟨k+1,by omega,by go_num,o,s.out⟩
    case measure=>simp[intOf];omega
   have o:=hid (HS.out (by rw[g.out,decide_eq_false V];rfl));obtain rfl:v=0:=by omega
   clear d g V;go_wp2;go_roundw
   case rel=>exact⟨k+1,by omega,by go_num,o,s.out⟩
   case measure=>simp[intOf];omega
  have e1:((f:Int)==3)=false:=by rw[kqi];omega
  have o:=hid (HS.out (by rw[d.out,show (f==3)=false by rw[kqi];exact T];rfl));clear T d;go_wp2;go_roundw
  case rel=>exact⟨k+1,by omega,by go_num,o,s.out⟩
  case measure=>simp[intOf];omega
 have o:=hid (Jc.out λj hj=>HP.out j (by omega));obtain rfl:k=F.length:=by omega
 go_wp2;go_ret;exact⟨by rw[o.out];rfl,C.out.trans (D.mono C.out.size)⟩
theorem wt(A:Option Addr)(ws:List Nat)(c n t:Nat)(w:World)(hn:ws.length=n)(hs:al (n:Int)=true)(ht:tyN ws=some t)(hc:n<=c)(f:RdW w w.heap.size A ws)(ho:∀x∈ws,x<18446744073709551616):
 Calls prog 151 #[.slice A n c] w λe w'=>Gv ws t w.heap.size e w'/\Below w.heap.size w w':=by subst hn;have B:=(ac _).1 hs;have j:=hid (ru A ws c ws.length w rfl (by omega) hc f);have s:ir ws=0:=zq.2 ⟨hs,by rw[ht];rfl⟩;unfold vW at j;rw[s,ht] at j;have C:=hid (λW (f:RdW W W.heap.size A ws)=>vA A ws c ws.length t W rfl (by omega) (by omega) f ho);have y:=hid f;clear hs B s ht f ho;go_enter func151,ntmps151;go_wp2_with fail;refine j.out.mono ?_;rintro e z ⟨⟨a,p,q,rfl⟩,d⟩;simp only[kq2];have l:=d.size;have b:=hid ((d.alloc l (.cells #[.int .i64 a,.int .i64 (t:Int)] 126)).alloc (by simp;omega) (.cells #[.bool p,.bool q] 127));clear d;go_wp2_with fail;refine (C.out _ (y.out.up b.out b.out.size)).mono ?_;rintro e r ⟨⟨v,L,rfl,o⟩,i⟩;have k:=hid (b.out.trans (i.mono b.out.size));have g:=hid o;have hz2:=b.out.size;have m:Hid (∀L v,km r ((z.alloc (.cells #[.int .i64 a,.int .i64 (t:Int)] 126)).alloc (.cells #[.bool p,.bool q] 127)).heap.size v L->km r w.heap.size v L):=hid λL v h=>⟨aB h.1 b.out.size,λx u=>aB (h.2 x u) b.out.size⟩;clear o i;go_wp2;go_ret2;exact⟨⟨v,L,rfl,λh=>⟨m.out _ _ (g.out h).1,(g.out h).2⟩⟩,k.out⟩
theorem nB(ht:tyN ws=some t)(hl:blocks ws 128=some l):lay ws=true↔eD ws 16=true/\eD ws 24=true/\ga ws t=true/\slsOk ws=true/\js l=true/\(∀r,7<=r->r<12->∀b∈objs l,wrK ws (eB ws t 8) (objs l) r b=false)/\∀s∈slL ws,iH (objs l) s=true:=by
 unfold lay;rw[ht,hl];simp only[kqz,kzq,kq8,kjf];constructor
 .rintro ⟨e,g,d,f,h,i,a⟩;refine⟨e,g,d,f,h,λr h1 h2 b c=>?_,a⟩;have:=i (r-7) (by omega) b c;rwa [show 7+(r-7)=r by omega] at this
 rintro ⟨e,g,d,f,h,i,a⟩;exact⟨e,g,d,f,h,λr hr b c=>i (7+r) (by omega) (by omega) b c,a⟩
theorem oN(h:tyN ws=none\/blocks ws 128=none):lay ws=false:=by
 unfold lay;rcases h with h|h
 .rw[h]
 rw[h];cases tyN ws<;>rfl
theorem fW(hl:blocks ws 128=some l){b:Bk}(hb:b∈objs l):∃a z ty nx:Nat,∃mk,b=⟨(a:Int),(z:Int),1,(ty:Int),mk,nx⟩/\128<=a/\a+z<=ws.length/\2<=z/\b=bkAt ws a/\stands ws a=true:=by
 unfold objs at hb;obtain⟨g,c⟩:=kzv.1 hb;rw[kqx] at c;obtain⟨k,m,rfl⟩:=kqu g;obtain⟨a,e,a1,j,a3,d,-⟩:=bH _ _ hl (by omega) k m;have f:=aC d;rw[e] at c;have i:bkAt ws a=⟨(a:Int),((szAt ws a:Nat):Int),1,(((ah (wd ws a)).typ.toNat:Nat):Int),(ah (wd ws a)).mark,wd ws (a+1)⟩:=by
  have h:(ah (wd ws a)).typ=(((ah (wd ws a)).typ.toNat:Nat):Int):=by unfold ah;dsimp only;omega
  rw[<-h,<-c];rfl
 exact⟨a,szAt ws a,(ah (wd ws a)).typ.toNat,wd ws (a+1),(ah (wd ws a)).mark,by rw[e,i],j,f.2.2,f.1,e,d⟩
theorem pF(l:List Bk):(objs l).length<=l.length:=by unfold objs;exact kxi _ _
def CM (ws:List Nat) (e:Ending):Prop:=∃r:Int,e=.returned (.int .i64 r)/\0<=r/\(r=0↔lay ws=true)
theorem lH{r:Int}(h:lay ws=false)(hr:0<r):CM ws (.returned (.int .i64 r)):=⟨r,rfl,by omega,by rw[h];constructor<;>intro h;omega;cases h⟩
theorem wy_ok(h:lay ws=true):CM ws (.returned (.int .i64 0)):=⟨0,rfl,by omega,by rw[h];simp⟩
theorem DV(A:Option Addr)(ws:List Nat)(c n:Nat)(w:World)(hn:ws.length=n)(hs:al (n:Int)=true)(hc:n<=c)(p:RdW w w.heap.size A ws)(ho:∀x∈ws,x<18446744073709551616):
 Calls prog 93 #[.slice A n c] w λe w'=>CM ws e/\Below w.heap.size w w':=by
 subst hn;have hb:=(ac _).1 hs;have HC:=hid (ru A ws c ws.length w rfl (by omega) hc p);have HR:=hid p;have M:ir ws=if (tyN ws).isSome=true then 0 else 50:=by unfold ir;rw[if_pos hs]
 unfold vW at HC;have HZ:=hid (λa ha W (p:RdW W W.heap.size A ws)=>vB A ws c ws.length a W rfl ha (by omega) p);have Z:=hid (λW (p:RdW W W.heap.size A ws)=>(show Calls prog 150 #[.slice A ws.length c,.int .i64 16] W λe w'=>e=.returned (.bool (eD ws 16))/\W=w' from HZ.out 16 (by omega) W p));have U:=hid (λW (p:RdW W W.heap.size A ws)=>(show Calls prog 150 #[.slice A ws.length c,.int .i64 24] W λe w'=>e=.returned (.bool (eD ws 24))/\W=w' from HZ.out 24 (by omega) W p));have Jg:=hid (λW (p:RdW W W.heap.size A ws)=>ye A ws c ws.length W rfl (by omega) (by omega) p ho);have Ke:=hid (λW (p:RdW W W.heap.size A ws)=>xW A ws c ws.length W rfl hs p ho);unfold TlRes at Jg;cases ht:tyN ws with
 | none =>rw[ht] at HC M;rw[M] at HC;have F:=hid (oN (.inl ht));simp only[kkp,kkd,kzp,if_false] at HC;clear M ht hs hb p ho HZ Z U Jg Ke;go_enter func93,ntmps93;go_wp2_with fail;refine HC.out.mono ?_;rintro e w1 ⟨⟨a,b0,b1,rfl⟩,P⟩;have Kg:=P.size;go_wp2;go_ret;exact⟨lH F.out (by decide),(P.alloc Kg _).alloc (by simp;omega) _⟩
 | some t =>
  have Mc:=m9 ht;rw[ht] at HC M;rw[M] at HC;simp only[kq2,kke,if_true] at HC;have Kf:=hid (λW (p:RdW W W.heap.size A ws)=>wt A ws c ws.length t W rfl hs ht hc p ho);unfold Gv at Kf;have Kb:=hid (λl G=>nB (ws:=ws) (t:=t) (l:=l) ht G);have Kx:=hid (λh=>oN (ws:=ws) (.inr h));have N:Hid ((eD ws 16=false\/eD ws 24=false\/ga ws t=false\/slsOk ws=false\/xx ws=false)->lay ws=false):=hid λh=>by
   cases y:lay ws with
   | false=>rfl
   | true =>
    cases G:blocks ws 128 with
    | none=>rw[Kx.out G] at y;cases y
    | some l =>obtain⟨a1,a2,a3,a4,a5,-⟩:=(Kb.out l G).1 y;rw[a1,a2,a3,a4,fF G,a5] at h;simp at h
  have Kz:=hid (λl G=>fF (ws:=ws) (l:=l) G);have Kl:=hid (λl (G:blocks ws 128=some l)=>(bq (by omega) _ _ G (by omega) (by omega) (by omega)).1);have HO:=hid ho;have Jt:256<=ws.length:=by omega
  have H:ws.length<=2048:=by omega
  clear M hs hb p ho HZ ht;go_enter func93,ntmps93;go_wp2_with fail;refine HC.out.mono ?_;rintro e w1 ⟨⟨a,b0,b1,rfl⟩,P⟩;have Kg:=P.size;have m:=hid ((P.alloc Kg (.cells #[.int .i64 a,.int .i64 (t:Int)] 126)).alloc (by simp;omega) (.cells #[.bool b0,.bool b1] 127));clear P;go_wp2_with fail;refine (Z.out _ (HR.out.up m.out m.out.size)).mono ?_;rintro e w2 ⟨rfl,rfl⟩;cases Jj:eD ws 16
  .have F:=hid (N.out (.inl Jj));clear Jj;go_wp2;go_ret;exact⟨lH F.out (by decide),m.out⟩
  have Ld:=hid Jj;clear Jj;go_wp2_with fail;refine (U.out _ (HR.out.up m.out m.out.size)).mono ?_;rintro e w2 ⟨rfl,rfl⟩;cases Jk:eD ws 24
  .have F:=hid (N.out (.inr (.inl Jk)));clear Jk;go_wp2;go_ret;exact⟨lH F.out (by decide),m.out⟩
  have Kk:=hid Jk;clear Jk;go_wp2_with fail;refine (Kf.out _ (HR.out.up m.out m.out.size)).mono ?_;rintro e w3 ⟨⟨v,L,rfl,hT⟩,Kn⟩;have Q:=hid (m.out.trans (Kn.mono m.out.size));have Ki:=hid hT;have Ll:=hid (HR.out.up Q.out Q.out.size);clear hT Kn;cases D:ga ws t
  .have F:=hid (N.out (.inr (.inr (.inl D))));clear D;go_wp2;go_ret;exact⟨lH F.out (by decide),Q.out⟩
  have Lj:=hid D;obtain⟨Jy,Kc⟩:=Ki.out D;obtain⟨TA,tc,rfl⟩:=aE Jy.1;have Le:=hid (RdL.of_own Jy rfl);have Kt:=hid Kc;have Ky:∀x∈L,x.l.length<=8:=λx hx=>by
   have:x.l∈L.map Ty.l:=kz9 hx;rw[Kc] at this;unfold eB at this;obtain⟨i,-,e⟩:=kzi.1 this;rw[<-e];exact kb _ _
  have Jw:=hid Ky;clear D Jy Kc Ky Ki;go_wp2_with fail;refine (Jg.out _ Ll.out).mono ?_;rintro e w4 ⟨⟨SA,sn,sc,rfl,hS⟩,Jd⟩;have J:=hid (Q.out.trans (Jd.mono Q.out.size));have Ks:=hid hS;have La:=hid (HR.out.up J.out J.out.size);have Jo:=hid (Le.out.up Jd Jd.size);clear hS Jd;cases V:slsOk ws
  .have F:=hid (N.out (.inr (.inr (.inr (.inl V)))));clear V;go_wp2;go_ret;exact⟨lH F.out (by decide),J.out⟩
  have Km:=hid V;obtain⟨Lk,Ls,Kj⟩:=Ks.out V;have Ji:=hid Lk;have Lf:=hid Kj;clear V Kj Ks Lk;go_wp2_with fail;refine (Ke.out _ La.out).mono ?_;rintro e w5 ⟨⟨PA,pn,pc,rfl,hP⟩,K⟩;have Je:=hid (J.out.trans (K.mono J.out.size));have Lm:=hid hP;have Jl:=hid (Jo.out.up K K.size);have Jn:=hid (show RdS w5 w5.heap.size SA (slL ws) from Rd.up Lf.out K K.size);clear hP K;cases Eq:xx ws
  .have F:=hid (N.out (.inr (.inr (.inr (.inr Eq)))));clear Eq;go_wp2;go_ret;exact⟨lH F.out (by decide),Je.out⟩
  obtain⟨l,G,rfl,Lq,Kv⟩:=Lm.out Eq;have Ly:=Kl.out l G;have Jr:=hid (Kb.out l G);have Lg:Hid (js l=true):=hid (by rw[<-Kz.out l G];exact Eq);have Jz:=hid (rh PA l pc l.length w5 rfl (by omega) Kv);have Lh:=pF l;have Kd:=hid (λb hb=>fW (b:=b) G hb);obtain⟨O,hO⟩:=xq (objs l);rw[hO] at Jz Jr Lh Kd;clear Eq G Kv hO Lm Kb Kx Kl Kz;go_wp2_with fail;refine Jz.out.mono ?_;rintro e w6 ⟨⟨OA,on,oc,rfl,rfl,Lz,Kr⟩,R⟩;have E:=hid (Je.out.trans (R.mono Je.out.size));have X:=hid (Jl.out.up R R.size);have Kh:=hid (show RdS w6 w6.heap.size SA (slL ws) from Rd.up Jn.out R R.size);have Jp:=hid Kr;have Lr:=hid (HR.out.up E.out E.out.size);clear R Kr;have Jm:Hid (∀b∈O,0<=b.at_/\b.at_<=1000000):=hid λb hb=>by
   obtain⟨a,z,S,nx,mk,rfl,a1,a2,-⟩:=Kd.out b hb;dsimp only;omega
  have Ka:Hid (∀(r j a z S nx:Nat) (mk:Bool) (hj:j<O.length),O[j]=⟨(a:Int),(z:Int),1,(S:Int),mk,nx⟩->7<=r->r<=11->(9<=r->wrK ws (L.map Ty.l) O 8 O[j]=false)->a+z<=ws.length->∀W,Below w6.heap.size w6 W->Calls prog 155 #[.slice A ws.length c,.slice TA L.length tc,.slice OA O.length oc,.agg #[.int .i64 (a:Int),.int .i64 (z:Int),.int .i64 1,.int .i64 (S:Int),.bool mk,.int .u64 (nx:Int)],.int .i64 (r:Int)] W λe w'=>e=.returned (.bool (wrK ws (L.map Ty.l) O r O[j]))/\Below W.heap.size W w'):=hid λr j a z S nx mk hj e h7 h11 h8 Lv W hW=>by
   have ek:∀r,wrK ws (L.map Ty.l) O r O[j]=wrB ws (L.map Ty.l) O a z S mk nx r:=λr=>by
    rw[e];unfold wrK;simp only[kqk]
   rw[ek r];by_cases h9:9<=r
   .have h8:=h8 h9;rw[ek 8] at h8;have h8:(!decide (S<(L.map Ty.l).length)||aP (((L.map Ty.l)[S]?).getD []).length != z)=false:=h8;rw[kzw] at h8;have D:S<L.length:=by
     have:=h8.1;rw[kqs] at this
     simpa using this
    have hz:=h8.2;rw[kzh,kqj D,kqq] at hz;exact tA A TA OA ws L O c ws.length tc L.length oc O.length a z S nx r 1 mk W rfl rfl H (by omega) rfl D (Jw.out _ (kqm D)) hz.symm Lv (by omega) (X.out.up hW hW.size) (Lr.out.up hW hW.size) (Jp.out.up hW hW.size) Jm.out
   exact qD A TA OA ws L O c ws.length tc L.length oc O.length a z S nx r 1 mk W rfl Jw.out (by omega) (X.out.up hW hW.size)
  rw[Kt.out] at Ka;have Jb:Hid (lay ws=true↔(∀r,7<=r->r<12->∀b∈O,wrK ws (eB ws t 8) O r b=false)/\∀s∈slL ws,iH O s=true):=hid (by
   rw[Jr.out];exact⟨λh=>h.2.2.2.2.2,λh=>⟨Ld.out,Kk.out,Lj.out,Km.out,Lg.out,h⟩⟩)
  have Lx:O.length<=1000000:=by omega
  have Lu:=hid (λW (p:RdB W W.heap.size OA O) v=>o0 OA O oc O.length v W rfl Lx p Jm.out);obtain⟨T,Ko⟩:=xq (eB ws t 8);rw[Ko] at Ka Jb;have Kp:O.length<=2048:=by omega
  clear Ko Jr Lg Lj Km Ld Kk Kt X Jl Jo Le Jw Ly Lh Lq Ls Lz Jz Ll La Lf Jn Q J Je m N Kf Jg Ke Z U HC Kp Jt H Mc;go_wp2_with fail;go_loopw [11] (λi wr=>∃k:Nat,7<=k/\k<=12/\i=.int .i64 k/\Hid (∀r,7<=r->r<k->∀b∈O,wrK ws T O r b=false)/\Below w6.heap.size w6 wr) (λi _=>12-(intOf i).toNat)
  case atStart=>exact⟨7,kqg _,by omega,rfl,hid λr h1 h2=>absurd h2 (by omega),kql _ _⟩
  obtain⟨k,Ju,hk,rfl,HP,hB⟩:=hrel;have hz:=hB.size;by_cases Jf:k<=11
  .have hki:decide ((k:Int)<=11)=true:=by rw[kqo];omega
   have hkn:decide (k<=11)=true:=by rw[kqo];exact Jf
   have Lw:=hid hB;have Mb:Hid ((∀b∈O,wrK ws T O k b=false)->∀r,7<=r->r<k+1->∀b∈O,wrK ws T O r b=false):=hid λh r h1 h2=>by
    rcases kq9 r k with h3|h3
    .exact HP.out r h1 h3
    have:r=k:=by omega
    subst this;exact h
   obtain⟨wk,Lc⟩:=xq wr;rw[Lc] at hB Lw hz |-;clear Lc;go_wp2_with fail;go_loopw [12] (λi wr=>∃j:Nat,j<=O.length/\i=.int .i64 j/\Hid (∀q (h:q<O.length),q<j->wrK ws T O k O[q]=false)/\Below wk.heap.size wk wr) (λi _=>O.length-(intOf i).toNat)
   case atStart=>exact⟨0,kqy _,rfl,hid λq h h2=>absurd h2 (by omega),kql _ _⟩
   obtain⟨j,hj,rfl,HQ,Y⟩:=hrel;have Lp:=Y.size;have C:=hB.trans (Y.mono hz);by_cases o:j<O.length
   .obtain ⟨a,z,S,nx,mk,ej,a1,a2,-⟩:=Kd.out O[j] (kqm o);have Jv:=hid (Ka.out k j a z S nx mk o ej Ju Jf (λh9=>HP.out 8 (by omega) (by omega) _ (kqm o)) a2 wr C);obtain⟨b,off,rfl,hb,p0,p1,p2,p3,p4,p5⟩:=RdB.at_ (Rd.below Jp.out C) o;rw[ej] at p0 p1 p2 p3 p4 p5;dsimp only at p0 p1 p2 p3 p4 p5;have f:Hid (wrK ws T O k O[j]=false->∀q (h:q<O.length),q<j+1->wrK ws T O k O[q]=false):=hid λh q y h2=>by
     rcases kq9 q j with h3|h3
     .exact HQ.out q y h3
     have:q=j:=by omega
     subst this;exact h
    have B:Hid (wrK ws T O k O[j]=true->lay ws=false):=hid λh=>by
     cases y:lay ws with
     | false=>rfl
     | true=>rw[(Jb.out.1 y).1 k Ju (by omega) _ (kqm o)] at h;cases h
    obtain⟨q,y⟩:=xq (wrK ws T O k O[j]);rw[y] at Jv f B;have Kw:(j:Int)<(O.length:Int):=by omega
    have Ma:(0:Int)<=(j:Int):=by omega
    have Kq:(0:Int)<(k:Int):=by omega
    have Li:=hid Y;have I:=hid C;clear y ej a1 a2 C;cases q
    .have HN:=hid (f.out rfl);clear f B;go_wp2_with fail;refine Jv.out.mono ?_;rintro e w8 ⟨rfl,Ja⟩;have Js:=hid (Li.out.trans (Ja.mono Lp));clear Ja;go_wp2;go_roundw
     case rel=>exact⟨j+1,by omega,by go_num,HN,Js.out⟩
     case measure=>simp[intOf];omega
    have F:=hid (B.out rfl);clear f B;go_wp2_with fail;refine Jv.out.mono ?_;rintro e w8 ⟨rfl,Ja⟩;have Js:=hid (E.out.trans ((I.out.trans (Ja.mono (by have:=I.out.size;omega))).mono E.out.size));have Lt:=hid Kq;clear Ja Kq;go_wp2;go_ret;exact⟨lH F.out Lt.out,Js.out⟩
   have HN:=hid (Mb.out λb hb=>by
    obtain⟨q,y,rfl⟩:=kqu hb;exact HQ.out q y (by omega))
   have hjn:decide ((j:Int)<(O.length:Int))=false:=by rw[kqh];omega
   have hjnn:decide (j<O.length)=false:=by rw[kqh];exact o
   have I:=hid C;clear o C;go_wp2;go_roundw
   case rel=>exact⟨k+1,by omega,by omega,by go_num,HN,I.out⟩
   case measure=>simp[intOf];omega
  have Ku:Hid (∀r,7<=r->r<12->∀b∈O,wrK ws T O r b=false):=hid λr h1 h2=>HP.out r h1 (by omega);have d:=hid hB;have hkd:decide ((k:Int)<=11)=false:=by rw[kqh];omega
  have hkdn:decide (k<=11)=false:=by rw[kqh];exact Jf
  clear HP Jf hk Ju;go_wp2_with fail;go_loopw [13] (λi wr2=>∃j:Nat,j<=16/\i=.int .i64 j/\Hid (∀q (h:q<(slL ws).length),q<j->iH O (slL ws)[q]=true)/\Below w6.heap.size w6 wr2) (λi _=>16-(intOf i).toNat)
  case atStart=>exact⟨0,kqy _,rfl,hid λq h h2=>absurd h2 (by omega),d.out⟩
  obtain⟨j,hj,rfl,HQ,Y⟩:=hrel;have d:=hid Y
  rename World=>wq
  by_cases o:j<16
  .have Ln:j<(slL ws).length:=by rw[eg];exact o
   obtain⟨b,off,rfl,hb,p0,p1,p2⟩:=RdS.at_ (Rd.below Kh.out d.out) Ln;have f:Hid (iH O (slL ws)[j]=true->∀q (h:q<(slL ws).length),q<j+1->iH O (slL ws)[q]=true):=hid λh q y h2=>by
    rcases kq9 q j with h3|h3
    .exact HQ.out q y h3
    have:q=j:=by omega
    subst this;exact h
   have B:Hid (iH O (slL ws)[j]=false->lay ws=false):=hid λh=>by
    cases y:lay ws with
    | false=>rfl
    | true=>rw[(Jb.out.1 y).2 _ (kqm Ln)] at h;cases h
   have Jc:0<=(slL ws)[j].at_/\(slL ws)[j].at_<=4294967295:=by rw[mt];exact⟨(dt (wd ws (112+j))).2.2.1,(dt (wd ws (112+j))).2.2.2⟩
   obtain⟨x,hx⟩:=xq ((slL ws)[j]);rw[hx] at p0 p1 p2 f B Jc;obtain⟨g,u,at_⟩:=x;dsimp only at p0 p1 p2 Jc;obtain⟨v,rfl⟩:=kq5 Jc.1;have Jh:Hid (iH O ⟨g,u,((v:Nat):Int)⟩=(!u||lU O v)):=hid (by unfold iH;rw[kqk]);have w9:IntKind.u64.wrap (v:Int)=(v:Int):=kzs _ (by omega);have Kw:(j:Int)<(sn:Int):=by rw[Ji.out];omega
   have Lo:decide ((j:Int)<(sn:Int))=true:=by rw[kqo];exact Kw
   have Lb:decide (j<sn)=true:=by rw[kqo,Ji.out];exact o
   have Ma:(0:Int)<=(j:Int):=by omega
   have Jq:=hid (Lu.out wq (Jp.out.up d.out d.out.size) v);clear hx Jc;cases u
   .have HN:=hid (f.out (by rw[Jh.out];rfl));clear f B;go_wp2;go_roundw
    case rel=>exact⟨j+1,by omega,by go_num,HN,d.out⟩
    case measure=>simp[intOf];omega
   obtain⟨q,y⟩:=xq (lU O v);rw[y] at Jq Jh;clear y;cases q
   .have F:=hid (B.out (by rw[Jh.out];rfl));clear f B;go_wp2_with fail;refine Jq.out.mono ?_;rintro e w8 ⟨⟨r,rfl,p⟩,rfl⟩;simp only[kvm] at p;go_wp2;go_ret;exact⟨lH F.out (by decide),E.out.trans (d.out.mono E.out.size)⟩
   have HN:=hid (f.out (by rw[Jh.out];rfl));clear f B;go_wp2_with fail;refine Jq.out.mono ?_;rintro e w8 ⟨⟨r,rfl,p⟩,rfl⟩;simp only[kvo] at p;go_wp2;go_roundw
   case rel=>exact⟨j+1,by omega,by go_num,HN,d.out⟩
   case measure=>simp[intOf];omega
  have F:Hid (lay ws=true):=hid (Jb.out.2 ⟨Ku.out,λs hs=>by
   obtain⟨q,y,rfl⟩:=kqu hs;exact HQ.out q y (by rw[eg] at y;omega)⟩)
  have Lo:decide ((j:Int)<(sn:Int))=false:=by rw[kqh,Ji.out];omega
  have Lb:decide (j<sn)=false:=by rw[kqh,Ji.out];exact o
  go_wp2;go_ret;exact⟨wy_ok F.out,E.out.trans (d.out.mono E.out.size)⟩
theorem n9(A:Option Addr)(ws:List Nat)(c n:Nat)(w:World)(hn:ws.length=n)(hm:n<=9223372036854775807)(hc:n<=c)(d:RdW w w.heap.size A ws)(ho:∀x∈ws,x<18446744073709551616):
 Calls prog 13 #[.slice A n c] w λe w'=>e=.returned (.int .i64 (cH ws))/\Below w.heap.size w w':=by
 subst hn;have f:=hid (λW=>lz A ws.length c W hm);have l:Calls prog 49 #[.slice A ws.length c] w λe w'=>(∃r:Int,e=.returned (.tuple #[.int .i64 r,.int .i64 (jX ws.length)])/\0<=r/\(al (ws.length:Int)=true->(r=0↔lay ws=true)))/\Below w.heap.size w w':=by
  cases b:al (ws.length:Int)
  .have q:=hid (bA b);rw[bA b] at f;have t:Hid (∀ {p:Prop},false=true->p):=hid λh=>by cases h
   clear d ho hc b;go_enter func49,ntmps49;go_wp2_with fail;refine (f.out _).mono ?_;rintro e m ⟨rfl,rfl⟩;go_wp2;go_ret2;exact⟨⟨0,by rw[q.out];rfl,by omega,λh=>t.out h⟩,kql _ _⟩
  have q:=hid (aW b);rw[aW b] at f;have k:=hid (DV A ws c ws.length w rfl b hc d ho);unfold CM at k;clear d ho hc b;go_enter func49,ntmps49;go_wp2_with fail;refine (f.out _).mono ?_;rintro e m ⟨rfl,rfl⟩;go_wp2_with fail;refine k.out.mono ?_;rintro e m ⟨⟨r,rfl,j,d⟩,g⟩;have u:=hid (And.intro j d);clear j d;go_wp2;go_ret2;exact⟨⟨r,by rw[q.out];rfl,u.out.1,λ_=>u.out.2⟩,g⟩
 have i:=hid l;have a:Hid (cH ws=if al (ws.length:Int)=true then (if lay ws=true then 0 else 50) else 8):=hid rfl;clear l d ho hc f;cases b:al (ws.length:Int)
 .rw[bA b] at i;rw[b] at a;simp only[kzp,if_false] at a;clear b;go_enter func13,ntmps13;go_wp2_with fail;refine i.out.mono ?_;rintro e m ⟨⟨r,rfl,-,-⟩,g⟩;go_wp2;go_ret;exact⟨by rw[a.out];rfl,g⟩
 rw[aW b,b] at i;rw[b] at a;simp only[if_true] at a;clear b;cases o:lay ws
 .rw[o] at i a;clear o;go_enter func13,ntmps13;go_wp2_with fail;refine i.out.mono ?_;rintro e m ⟨⟨r,rfl,j,d⟩,g⟩;have s:r≠0:=λh=>by have:=(d trivial).1 h;cases this
  have d1:decide (0<r)=true:=by rw[kqo];omega
  clear d s j;go_wp2;go_ret;exact⟨by rw[a.out];rfl,g⟩
 rw[o] at i a;clear o;go_enter func13,ntmps13;go_wp2_with fail;refine i.out.mono ?_;rintro e m ⟨⟨r,rfl,j,d⟩,g⟩;obtain rfl:r=0:=(d trivial).2 (by first|exact trivial|rfl);clear d j;go_wp2;go_ret;exact⟨by rw[a.out];rfl,g⟩
end Go.Proofs.YtpcajamacpbjcaaGreat
