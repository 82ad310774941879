/- Texts laid together: Tys WaP R18 LyP R19A Seq R19B R19C. -/
import Derived.Test.YtpcajamacpbjcaaGreatZGH
import Derived.Test.YtpcajamacpbjcaaGreatZKStg2
import Derived.Test.YtpcajamacpbjcaaGreatZKRef15
import Derived.Test.YtpcajamacpbjcaaGreatZKImage
import Derived.Test.YtpcajamacpbjcaaGreatZKRch
import Derived.Test.YtpcajamacpbjcaaGreatZKRefs
import Derived.Test.YtpcajamacpbjcaaGreatZKHead
import Derived.Test.YtpcajamacpbjcaaGreatZKSup
import Derived.RowKit
import Derived.OrdersHeld
import Derived.Deep.RegionHeld
import Derived.BigQuiet
set_option maxHeartbeats 16000000
set_option maxRecDepth 100000
set_option linter.all false
namespace Go.Proofs.YtpcajamacpbjcaaGreat
open Lib (hid)
open Go.RowKit
variable {ops:Array Oper}{O l:List Bk}{ws:List Nat}{L:List Ty}{B H id k t v:Nat}{o:Oper}{A:Option Addr}{P:Program}{w w':World}
open Go.Proofs.Tryz
theorem oQ{l:List Ty}(h:Rd w B A (l.flatMap Ty.cells))(hk:k<l.length):
 ∃b a,A=some ⟨b,a,none⟩/\b<B/\w.cell? ⟨b,a+k,none⟩=some (.slice l[k].A l[k].l.length l[k].c):=by obtain⟨b,a,e,d,f⟩:=Rd.at_flat Ty.len h (by omega) hk;have:=f 0 (by omega);simp only[kxo,kz8] at this;exact⟨b,a,e,d,this⟩
def ub (w:World) (H:Nat) (v:Value) (L:List Ty):Prop:=w.ownsRow H 113 1 v L.length (L.flatMap Ty.cells)/\∀x∈L,w.ownsRow H 5 1 (.slice x.A x.l.length x.c) x.l.length (x.l.flatMap bi)
theorem Bn:(prog.info? 113).map (λi=>(i.zero,i.size,i.bytes))=some (some (.slice none 0 0),1,24):=by kernel_rfl
def Ct (ws:List Nat) (t i:Nat):Bool:=if i<t then ch (wd ws (96+2*i)) (wd ws (96+2*i+1)) else wd ws (96+2*i)==0&&wd ws (96+2*i+1)==0
def vL (ws:List Nat) (t k:Nat):Prop:=∀i,i<k->Ct ws t i=true
def gK (ws:List Nat) (t:Nat):Bool:=(List.range 8).all λi=>Ct ws t i
theorem js(ws:List Nat)(t:Nat):gK ws t=true↔vL ws t 8:=by unfold gK vL;rw[kzu];exact⟨λh i a=>h i (kzh.2 a),λh i a=>h i (kzh.1 a)⟩
theorem oA(h:vL ws t k)(h1:Ct ws t k=true):vL ws t (k+1):=λi hi=>by
 rcases kq6 i k with a|a
 .exact h i a
 .have:i=k:=by omega
  subst this;exact h1
theorem rx(hk:k<8)(h:Ct ws t k=false):gK ws t=false:=by
 cases a:gK ws t with
 | false=>rfl
 | true=>rw[(js ws t).1 a k hk] at h;cases h
def gn (ws:List Nat) (t k:Nat):List (List Nat):=(List.range (min t k)).map λi=>a8 (wd ws (96+2*i)) (wd ws (96+2*i+1))
theorem Cp(h:k<t):gn ws t (k+1)=gn ws t k++[a8 (wd ws (96+2*k)) (wd ws (96+2*k+1))]:=by unfold gn;rw[kva (by omega),kva (by omega),kkv,kjj];rfl
theorem zu(h:t<=k):gn ws t (k+1)=gn ws t k:=by unfold gn;rw[kxc (by omega),kxc (by omega)]
theorem uu(ws:List Nat)(t k:Nat):(gn ws t k).length=min t k:=by simp[gn]
theorem qO{wb:World}{v v1:Value}{x:Ty}(h:∀y∈L,w.ownsRow H 5 1 (.slice y.A y.l.length y.c) y.l.length (y.l.flatMap bi))(hx:w.ownsRow H 5 1 (.slice x.A x.l.length x.c) x.l.length (x.l.flatMap bi))(hrow:wb.ownsRow H 113 1 v L.length (L.flatMap Ty.cells))(hwb:∀ {A:Option Addr} {n c:Nat} {xs:List Value},w.ownsRow H 5 1 (.slice A n c) n xs->wb.ownsRow H 5 1 (.slice A n c) n xs)(hg:wb.grownBy w' v.ownBlock)(h1:w'.ownsRow H 113 1 v1 (L.length+1) (L.flatMap Ty.cells++x.cells)):ub w' H v1 (L++[x]):=by
 refine⟨by rw[ce,kqu];exact h1,λy a=>?_⟩;rcases kz1.1 a with a|a
 .exact bu (hwb (h y a)) hg (fE (hwb (h y a)) hrow (by decide))
 rw[kq0] at a;subst a;exact bu (hwb hx) hg (fE (hwb hx) hrow (by decide))
def Gl (ws:List Nat) (t H:Nat) (e:Ending) (w':World):Prop:=∃v L,e=.returned (.tuple #[v,.bool (gK ws t)])/\(gK ws t=true->ub w' H v L/\L.map Ty.l=gn ws t 8)
theorem v6(A:Option Addr)(ws:List Nat)(c n t:Nat)(w:World)(hn:ws.length=n)(h2:256<=n)(hm:n<=2048)(hr:RdW w w.heap.size A ws)(ho:∀x∈ws,x<18446744073709551616):
 Calls prog 211 #[.slice A n c,.int .i64 (t:Int)] w λe w'=>Gl ws t w.heap.size e w'/\Below w.heap.size w w':=by
 subst hn;have HR:=hid hr;have Ji:Hid (∀k,wd ws k<18446744073709551616):=hid (fF ho);clear hr ho;obtain⟨i2,hi,Z,Y,Eq⟩:=kzv Bn;have HJ:=hid hi;have Jk:=hid Z;have Jh:=hid Y;have Jg:=hid Eq;clear hi Z Y Eq;go_enter func211,ntmps211;go_wp2_with fail;go_loopw [6,7] (λv i wr=>∃(k:Nat) (L:List Ty),k<=8/\i=.int .i64 k/\Hid (vL ws t k)/\Hid (L.map Ty.l=gn ws t k)/\L.length<=k/\Hid (ub wr w.heap.size v L)/\Below w.heap.size w wr) (λ_ i _=>8-(intOf i).toNat)
 case atStart=>exact⟨0,[],kqy _,rfl,hid (λi h=>absurd h (by omega)),hid (by simp[gn]),kqd _,hid ⟨kq8 _ _ _ _,λx hx=>absurd hx (by simp)⟩,kql _ _⟩
 obtain⟨k,L,hk,rfl,Ja,M,hLk,C,P⟩:=hrel;have T:=P.size;by_cases Jf:k<8
 .obtain ⟨b,g,rfl,hb,h0⟩:=RdW.at_ (Rd.below HR.out P) (show 96+2*k<ws.length by omega);obtain⟨b',off',e',-,h1⟩:=RdW.at_ (Rd.below HR.out P) (show 96+2*k+1<ws.length by omega);cases e';rw[<-cq] at h0 h1;have d:=hid (λW=>vr (wd ws (96+2*k)) (wd ws (96+2*k+1)) W (Ji.out _));have u:=hid (λh=>oA Ja.out h);have o:=hid (λh=>rx (ws:=ws) (t:=t) Jf h);have f:Hid (Ct ws t k=if k<t then ch (wd ws (96+2*k)) (wd ws (96+2*k+1)) else wd ws (96+2*k)==0&&wd ws (96+2*k+1)==0):=hid rfl;have s:=hid (λh=>Cp (ws:=ws) (t:=t) (k:=k) h);have J:=hid (λh=>zu (ws:=ws) (t:=t) (k:=k) h);have i1:IntKind.i64.wrap ((2:Int)*(k:Int))=2*(k:Int):=kqs _ (by omega);have i2':IntKind.i64.wrap ((96:Int)+2*(k:Int))=((96+2*k:Nat):Int):=by rw[kqs _ (by omega)];omega
  have i3:IntKind.i64.wrap (((96+2*k:Nat):Int)+1)=((96+2*k+1:Nat):Int):=by rw[kqs _ (by omega)];omega
  have j1:((96+2*k:Nat):Int)<(ws.length:Int):=by omega
  have j2:(0:Int)<=((96+2*k:Nat):Int):=by omega
  have j3:((96+2*k+1:Nat):Int)<(ws.length:Int):=by omega
  have j4:(0:Int)<=((96+2*k+1:Nat):Int):=by omega
  have hk1:(k:Int)<8:=by omega
  obtain⟨p,hp⟩:=xq (96+2*k);rw[hp] at h0 h1 d f s i2' i3 j1 j2 j3 j4;obtain⟨q,hq⟩:=xq (p+1);rw[hq] at h1 d f s i3 j3 j4;obtain⟨x,hx⟩:=xq (wd ws p);obtain⟨y,U⟩:=xq (wd ws q);rw[hx] at h0 d f s;rw[U] at h1 d f s;have HB:=hid P;clear hx U hp hq;by_cases m:k<t
  .have d1:decide ((k:Int)<(t:Int))=true:=by rw[kqn];omega
   have d1n:decide (k<t)=true:=by rw[kqn];exact m
   have d2:decide ((t:Int)<=(k:Int))=false:=by rw[kqh];omega
   have d2n:decide (t<=k)=false:=by rw[kqh];omega
   cases z:ch x y
   .have D:=hid (o.out (by rw[f.out,if_pos m,z]));have G:eJ x y=50:=by unfold eJ;rw[z];rfl
    have V:a8 x y=[]:=by unfold a8;rw[z];rfl
    unfold lV at d;rw[G,V] at d;clear z G V f o u s J m;go_wp2_with fail
    go_region_held3 (λX:World=>X.cell? ⟨b,g+p,none⟩=some (.int .u64 (x:Int))/\X.cell? ⟨b,g+q,none⟩=some (.int .u64 (y:Int))) (go_keep) (fail)
    go_wp2_with fail;refine (d.out _).mono ?_;rintro e S ⟨⟨A3,c3,rfl,-⟩,a⟩;have F:=HB.out.drew.trans (a.mono T);clear a;go_wp2;go_ret2;exact⟨⟨.slice none 0 0,[],by rw[D.out];rfl,λh=>by rw[D.out] at h;cases h⟩,F⟩
   have D:=hid (u.out (by rw[f.out,if_pos m,z]));have K:=hid (s.out m);have G:eJ x y=0:=by unfold eJ;rw[z];rfl
   unfold lV at d;rw[G] at d;obtain⟨l,hl⟩:=xq (a8 x y);rw[hl] at d K;clear z G hl f o u s J m;go_wp2_with fail
   go_region_held3 (λX:World=>X.cell? ⟨b,g+p,none⟩=some (.int .u64 (x:Int))/\X.cell? ⟨b,g+q,none⟩=some (.int .u64 (y:Int))) (go_keep) (fail)
   go_wp2_with fail;refine (d.out _).mono ?_;rintro e S ⟨⟨A3,c3,rfl,I⟩,a⟩;have F:=HB.out.drew.trans (a.mono T);have Jc:=F.size;have H:=ai (show wr.drew.ownsRow _ _ _ _ _ _ from C.out.1) a (kqd _);have Je:Hid (∀y∈L,S.ownsRow w.heap.size 5 1 (.slice y.A y.l.length y.c) y.l.length (y.l.flatMap bi)):=hid λy U=>ai (show wr.drew.ownsRow _ _ _ _ _ _ from C.out.2 y U) a (kqd _);have Jl:=hid (ao I (show w.heap.size<=wr.drew.heap.size from T));have Jb:=hid H;have B:=hid F;clear a I F C;go_wp2_with (at_builtin;refine kzd _ rfl _ _ 69 rfl w.heap.size 113 i2 _ 1 24 underlying69 HJ.out Jk.out Jh.out Jg.out rfl (by decide) _ _ _ rfl (H.alloc _) ⟨_,0,none⟩ 1 1 [.slice A3 l.length c3] rfl rfl (cC _ _ _) (by simp[Value.oneCell']) (by unfold maxLen;omega) (by omega) (cB Jc) ?_;intro v1 w6 E Q _;have Jj:=hid (aC B.out Jc H Q);have Jm:=hid (qO (x:=⟨A3,c3,l⟩) Je.out Jl.out (Jb.out.alloc _) (λh=>h.alloc _) Q E);clear E Q);go_roundw
   case rel=>exact⟨k+1,L++[⟨A3,c3,l⟩],by omega,by go_num,D,hid (by rw[kjj,M.out,K.out];rfl),by simp;omega,Jm,Jj.out⟩
   case measure=>simp[intOf];omega
  have d1:decide ((k:Int)<(t:Int))=false:=by rw[kqh];omega
  have d1n:decide (k<t)=false:=by rw[kqh];exact m
  have d2:decide ((t:Int)<=(k:Int))=true:=by rw[kqn];omega
  have d2n:decide (t<=k)=true:=by rw[kqn];omega
  have K:=hid (J.out (by omega));have j:Hid (Ct ws t k=(x==0&&y==0)):=hid (by rw[f.out,if_neg m]);have R:=hid (λW=>(d.out W).mono (R':=λe w'=>(∃v r,e=.returned (.tuple #[v,.int .i64 r]))/\Below W.heap.size W w') (by rintro e w' ⟨⟨A,c,rfl,-⟩,P⟩;exact⟨⟨_,_,rfl⟩,P⟩));clear d f s J m;by_cases O:x=0
  .subst O;by_cases N:y=0
   .subst N;have D:=hid (u.out (by rw[j.out];rfl));clear o u j;go_wp2_with fail
    go_region_held3 (λX:World=>X.cell? ⟨b,g+p,none⟩=some (.int .u64 ((0:Nat):Int))/\X.cell? ⟨b,g+q,none⟩=some (.int .u64 ((0:Nat):Int))) (go_keep) (fail)
    go_wp2_with fail;refine (R.out _).mono ?_;rintro e S ⟨⟨v3,r3,rfl⟩,a⟩;have B:=hid (HB.out.drew.trans (a.mono T));have Jd:Hid (ub S w.heap.size u6 L):=hid ⟨ai (show wr.drew.ownsRow _ _ _ _ _ _ from C.out.1) a (kqd _),λy U=>ai (show wr.drew.ownsRow _ _ _ _ _ _ from C.out.2 y U) a (kqd _)⟩;clear a;go_wp2;go_roundw
    case rel=>exact⟨k+1,L,by omega,by go_num,D,hid (by rw[M.out,K.out]),by omega,Jd,B.out⟩
    case measure=>simp[intOf];omega
   have D:=hid (o.out (by rw[j.out,show (y==0)=false by rw[kqi];exact N];rfl));have d3:decide ((0:Int)<(y:Int))=true:=by rw[kqn];omega
   have d3n:decide (0<y)=true:=by rw[kqn];omega
   clear o u j N;go_wp2_with fail
   go_region_held3 (λX:World=>X.cell? ⟨b,g+p,none⟩=some (.int .u64 ((0:Nat):Int))/\X.cell? ⟨b,g+q,none⟩=some (.int .u64 (y:Int))) (go_keep) (fail)
   go_wp2_with fail;refine (R.out _).mono ?_;rintro e S ⟨⟨v3,r3,rfl⟩,a⟩;have B:=hid (HB.out.drew.trans (a.mono T));clear a;go_wp2;go_ret2;exact⟨⟨.slice none 0 0,[],by rw[D.out];rfl,λh=>by rw[D.out] at h;cases h⟩,B.out⟩
  have D:=hid (o.out (by rw[j.out,show (x==0)=false by rw[kqi];exact O];rfl));have d3:decide ((0:Int)<(x:Int))=true:=by rw[kqn];omega
  have d3n:decide (0<x)=true:=by rw[kqn];omega
  clear o u j O;go_wp2_with fail
  go_region_held3 (λX:World=>X.cell? ⟨b,g+p,none⟩=some (.int .u64 (x:Int))/\X.cell? ⟨b,g+q,none⟩=some (.int .u64 (y:Int))) (go_keep) (fail)
  go_wp2_with fail;refine (R.out _).mono ?_;rintro e S ⟨⟨v3,r3,rfl⟩,a⟩;have B:=hid (HB.out.drew.trans (a.mono T));clear a;go_wp2;go_ret2;exact⟨⟨.slice none 0 0,[],by rw[D.out];rfl,λh=>by rw[D.out] at h;cases h⟩,B.out⟩
 obtain rfl:k=8:=by omega
 have HT:Hid (gK ws t=true):=hid ((js ws t).2 Ja.out);go_wp2;go_ret2;exact⟨⟨_,L,by rw[HT.out];rfl,λ_=>⟨C.out,M.out⟩⟩,P⟩
def nS (l:List Bk) (j:Nat):Bool:=!(j==0)&&((gk l (j-1)).kind==2&&(gk l j).kind==2)
def jX (l:List Bk):Bool:=(List.range l.length).all λj=>!nS l j
def oa (l:List Bk) (k:Nat):Prop:=∀j,j<k->nS l j=false
theorem nG(l:List Bk):jX l=true↔oa l l.length:=by
 unfold jX oa;rw[kzu];constructor
 .intro h j a;have:=h j (kzh.2 a)
  simpa using this
 intro h j a;have:=h j (kzh.1 a)
 simpa using this
theorem oh(l:List Bk):oa l 0:=λj h=>absurd h (by omega)
theorem lF(h:oa l k)(h1:nS l k=false):oa l (k+1):=λj hj=>by
 rcases kq6 j k with a|a
 .exact h j a
 .have:j=k:=by omega
  subst this;exact h1
theorem qK(hk:k<l.length)(h:nS l k=true):jX l=false:=by
 cases a:jX l with
 | false=>rfl
 | true=>have:=(nG l).1 a k hk;rw[h] at this;cases this
def xe (ws:List Nat):Bool:=match blocks ws 128 with | none=>false | some l=>jX l
theorem iw(h:blocks ws 128=some l):xe ws=jX l:=by unfold xe;rw[h]
theorem nb(h:blocks ws 128=none):xe ws=false:=by unfold xe;rw[h]
theorem AP(A:Option Addr)(ws:List Nat)(c n:Nat)(w:World)(hn:ws.length=n)(hs:aj (n:Int)=true)(hr:RdW w w.heap.size A ws)(ho:∀x∈ws,x<18446744073709551616):
 Calls prog 153 #[.slice A n c] w λe w'=>(∃A k c,e=.returned (.tuple #[.slice A k c,.bool (xe ws)])/\(xe ws=true->∃l,blocks ws 128=some l/\k=l.length/\k<=c/\RdB w' w'.heap.size A l))/\Below w.heap.size w w':=by
 subst hn;have R:=(aa _).1 hs;have t:=hid (Ew A ws c ws.length 128 w rfl (by omega) (by omega) (by omega) (by omega) hr ho);unfold EN rS at t;have f:∀l,blocks ws 128=some l->l.length<=1024:=λl h=>by
  have:=(bG (by omega) _ _ h (by omega) (by omega) (by omega)).1;omega
 cases p:blocks ws 128 with
 | none =>
  rw[p] at t;simp only[kkk,kjy,kxk] at t;have z:=hid (nb p);clear p hr ho hs R f;go_enter func153,ntmps153;go_wp2_with fail;refine t.out.mono ?_;rintro e T ⟨⟨X,W,rfl,-,-⟩,g⟩;go_wp2_with fail;go_loopw [5,6] (λv i wr=>v=.bool false/\i=.int .i64 1/\wr=T) (λ_ _ _=>0)
  case atStart=>exact⟨rfl,rfl,rfl⟩
  obtain⟨rfl,rfl,rfl⟩:=hrel;go_wp2;go_ret2;exact⟨⟨none,0,0,by rw[z.out];rfl,λh=>by rw[z.out] at h;cases h⟩,g⟩
 | some l =>
  have hl24:=f l p;rw[p] at t;simp only[kq9,kkd] at t;have z:=hid (iw p);clear p hr ho hs R f;have P:=hid (λk K h=>qK (l:=l) (k:=k) K h);have M:=hid (nG l);go_enter func153,ntmps153;go_wp2_with fail;refine t.out.mono ?_;rintro e T ⟨⟨X,W,rfl,E,J⟩,g⟩;have u:=hid E;have I:=hid g;have S:=hid J;clear E g J;go_wp2_with fail;go_loopw [5,6] (λv i wr=>∃(k:Nat) (q:Bool),1<=k/\(k<=l.length\/k=1)/\v=.bool q/\i=.int .i64 k/\wr=T/\Hid ((q=true->oa l k)/\(q=false->jX l=false))) (λ_ i _=>l.length-(intOf i).toNat)
  case atStart =>
   refine⟨1,true,kqd _,.inr rfl,rfl,rfl,rfl,hid ⟨λ_=>lF (oh l) rfl,λh=>by cases h⟩⟩
  obtain⟨k,q,G,K,rfl,rfl,rfl,r⟩:=hrel;by_cases d:k<l.length
  .obtain ⟨b,off,rfl,R,-,-,p2,-⟩:=RdB.at_ u.out d;obtain⟨b',off',e',-,-,-,V,-⟩:=RdB.at_ u.out (show k-1<l.length by omega);cases e';have B:=hid (λh=>lF (r.out.1 h));have Q:=hid (P.out k d);have a:nS l k=((l[k-1].kind==2)&&(l[k].kind==2)):=by unfold nS;rw[bN l k d,bN l (k-1) (by omega),show (k==0)=false by rw[kqi];omega];rfl
   have H:=hid r.out.2;obtain⟨x,Z⟩:=xq (l[k].kind);obtain⟨y,Y⟩:=xq (l[k-1].kind);rw[Z] at p2 a;rw[Y] at V a;have i1:IntKind.i64.wrap ((k:Int)-1)=((k-1:Nat):Int):=by rw[kqs _ (by omega)];omega
   have hki:(k:Int)<(l.length:Int):=by omega
   have hk0:(0:Int)<=(k:Int):=by omega
   have C:((k-1:Nat):Int)<(l.length:Int):=by omega
   have D:(0:Int)<=((k-1:Nat):Int):=by omega
   obtain⟨m,U⟩:=xq (k-1);rw[U] at i1 C D V;have N:=hid a;clear Z Y r U a;by_cases s:y=2
   .subst s;by_cases o:x=2
    .subst o;have F:=hid (Q.out (by rw[N.out];rfl));go_wp2;go_roundw
     case rel=>exact⟨k+1,false,by omega,by omega,rfl,by go_num,trivial,hid ⟨λh=>(by cases h),λ_=>F.out⟩⟩
     case measure=>simp[intOf];omega
    have O:(x==2)=false:=by rw[kqi];exact o
    have F:Hid (nS l k=false):=hid (by rw[N.out,O];rfl);clear o;go_wp2;go_roundw
    case rel=>exact⟨k+1,q,by omega,by omega,rfl,by go_num,trivial,hid ⟨λh=>B.out h F.out,H.out⟩⟩
    case measure=>simp[intOf];omega
   have O:(y==2)=false:=by rw[kqi];exact s
   have F:Hid (nS l k=false):=hid (by rw[N.out,O];rfl);clear s;go_wp2;go_roundw
   case rel=>exact⟨k+1,q,by omega,by omega,rfl,by go_num,trivial,hid ⟨λh=>B.out h F.out,H.out⟩⟩
   case measure=>simp[intOf];omega
  have hend:decide ((k:Int)<(l.length:Int))=false:=by rw[kqh];omega
  have hendn:decide (k<l.length)=false:=by rw[kqh];exact d
  cases q with
  | true =>
   have L:Hid (xe ws=true):=hid (by
    rw[z.out];refine M.out.2 λj hj=>r.out.1 rfl j (by omega))
   clear r G K d;go_wp2;go_ret2;exact⟨⟨X,l.length,W,by rw[L.out];rfl,λ_=>⟨l,rfl,rfl,S.out,u.out⟩⟩,I.out⟩
  | false =>have L:Hid (xe ws=false):=hid (by rw[z.out];exact r.out.2 rfl);clear r G K d;go_wp2;go_ret2;exact⟨⟨none,0,0,by rw[L.out];rfl,λh=>by rw[L.out] at h;cases h⟩,I.out⟩
def Bt (s:Sl):Int:=if mA s=true then 0 else 8
theorem vM(g:Int)(u:Bool)(a:Int)(w:World)(h1:0<=g)(h2:g<=2147483647):
 Calls prog 262 #[.agg #[.int .i64 g,.bool u,.int .i64 a]] w λe w'=>e=.returned (.int .i64 (Bt ⟨g,u,a⟩))/\Below w.heap.size w w':=by
 have d:=(kql w.heap.size w).alloc (kqd _) (.cells #[.int .i64 g,.bool u,.int .i64 a] 52);have f:=hid d;have d1:decide (0<=g)=true:=by rw[kqn];omega
 have d2:decide (g<=2147483647)=true:=by rw[kqn];omega
 clear d;cases u
 .have H:Hid (Bt ⟨g,false,a⟩=if (a==0)=true then 0 else 8):=hid rfl;obtain⟨b,h⟩:=xq ((a==0));rw[h] at H;cases b
  all_goals
   go_enter func262,ntmps262;go_wp2;go_ret;exact⟨by rw[H.out];rfl,f.out⟩
 have H:Hid (Bt ⟨g,true,a⟩=if (decide (0<g)&&(decide (128<=a)&&decide (a<2048)))=true then 0 else 8):=hid rfl;have i:decide (1<=g)=decide (0<g):=by rw[decide_eq_decide];omega
 obtain⟨j,c⟩:=xq (decide (0<g));obtain⟨k,l⟩:=xq (decide (128<=a));obtain⟨n,m⟩:=xq (decide (a<2048));rw[c] at i;rw[c,l,m] at H;clear h1 h2 c;cases j<;>cases k<;>cases n
 all_goals
  go_enter func262,ntmps262;go_wp2;go_ret;exact⟨by rw[H.out];rfl,f.out⟩
theorem xy(x:Nat)(w:World)(hx:x<18446744073709551616):
 Calls prog 212 #[.int .u64 (x:Int)] w λe w'=>e=.returned (.tuple #[(slB x).val,.int .i64 (xN x)])/\Below w.heap.size w w':=by
 obtain⟨C,z,L,E⟩:=gA x;have i:=hid (λh=>wT (x:=x) h);have j:=hid (λh=>v9 (x:=x) h);have d:=hid (λW=>jo x 32 31 W hx (by omega));have n:=hid (λW=>jo x 63 1 W hx (by omega));have f:=hid (λW=>jo x 0 32 W hx (by omega));have H:((bB x 32 31:Nat):Int)=(dB x).gen:=by unfold bB dB;rfl
 have B:(((bB x 63 1:Nat):Int)==1)=(dB x).used:=by
  have:bB x 63 1=x/9223372036854775808:=by unfold bB;omega
  rw[this];show _=(x/9223372036854775808==1);rw[kzg,kqw,kqw];omega
 have J:((bB x 0 32:Nat):Int)=(dB x).at_:=by unfold bB dB;simp
 rw[H] at d;rw[J] at f;obtain⟨q,M⟩:∃q:Int,((bB x 63 1:Nat):Int)=q:=⟨_,rfl⟩;rw[M] at n B;have l:=hid (λW=>vM (dB x).gen (dB x).used (dB x).at_ W C z);obtain⟨s,G⟩:=xq (dB x);rw[G] at B C z L E i j d f l;obtain⟨g,u,a⟩:=s;dsimp only at B C z L E d f l;have w1:IntKind.i64.wrap g=g:=kqs _ (by omega);have w2:IntKind.i64.wrap a=a:=kqs _ (by omega);clear H J M G hx;have F:=Bx.new w 52 #[.int .i64 0,.bool false,.int .i64 0];have r:=(kql w.heap.size w).alloc (kqd _) (.cells #[.int .i64 0,.bool false,.int .i64 0] 52);have y:=hid (F.alloc (.cells #[.int .i64 g,.bool u,.int .i64 a] 52));have k:=hid (r.alloc (by simp) (.cells #[.int .i64 g,.bool u,.int .i64 a] 52));have A:=Bx.new (w.alloc (.cells #[.int .i64 0,.bool false,.int .i64 0] 52)) 52 #[.int .i64 g,.bool u,.int .i64 a];rw[kqm] at A;have I:=hid A;clear F r A;cases c:mA ⟨g,u,a⟩
 .have p:=hid (j.out c);unfold Bt at l;rw[c] at l;clear c i j;go_enter func212,ntmps212;go_wp2_with fail;refine (d.out _).mono ?_;rintro e t ⟨rfl,rfl⟩;go_wp2_with fail;refine (n.out _).mono ?_;rintro e t ⟨rfl,rfl⟩;go_wp2_with fail;refine (f.out _).mono ?_;rintro e t ⟨rfl,rfl⟩;go_wp2_with fail;refine (l.out _).mono ?_;rintro e R ⟨rfl,b⟩;have o:=y.out.up b y.out.lt;have m:=hid (k.out.trans (b.mono k.out.size));obtain⟨S,Q,N,P,U,T,O⟩:=o.c3;have D:=hid o;clear o b;go_wp2_with fail;exact kqr (v:=.tuple #[.agg #[.int .i64 0,.bool false,.int .i64 0],.int .i64 50]) (jL results212 _ (((D.out.set_ 0 _).set_ 1 _).set_ 2 _) rfl rfl) rfl ⟨by rw[p.out.1,p.out.2];rfl,(((m.out.setCell (kqd _) _).setCell (kqd _) _).setCell (kqd _) _)⟩
 have p:=hid (i.out c);unfold Bt at l;rw[c] at l;clear c i j;go_enter func212,ntmps212;go_wp2_with fail;refine (d.out _).mono ?_;rintro e t ⟨rfl,rfl⟩;go_wp2_with fail;refine (n.out _).mono ?_;rintro e t ⟨rfl,rfl⟩;go_wp2_with fail;refine (f.out _).mono ?_;rintro e t ⟨rfl,rfl⟩;go_wp2_with fail;refine (l.out _).mono ?_;rintro e R ⟨rfl,b⟩;have o:=y.out.up b y.out.lt;have K:=I.out.up b I.out.lt;have m:=hid (k.out.trans (b.mono k.out.size));obtain⟨S,Q,N,P,U,T,O⟩:=o.c3;obtain⟨q0,q1,q2,-,-,-,hg2⟩:=K.c3;have D:=hid o;clear o K b;go_wp2_with fail;exact kqr (v:=.tuple #[.agg #[.int .i64 g,.bool u,.int .i64 a],.int .i64 0]) (jL results212 _ (((D.out.set_ 0 _).set_ 1 _).set_ 2 _) rfl rfl) rfl ⟨by rw[p.out.1,p.out.2];rfl,(((m.out.setCell (kqd _) _).setCell (kqd _) _).setCell (kqd _) _)⟩
theorem Dr:(prog.info? 52).map (λi=>(i.zero,i.size,i.bytes))=some (some (.agg #[.int .i64 0,.bool false,.int .i64 0]),3,24):=by kernel_rfl
def TlRes (ws:List Nat) (e:Ending) (w':World):Prop:=∃A n c,e=.returned (.tuple #[.slice A n c,.bool (slsOk ws)])/\(slsOk ws=true->n=16/\n<=c/\RdS w' w'.heap.size A (slL ws))
theorem BJ(A:Option Addr)(ws:List Nat)(c n:Nat)(w:World)(hn:ws.length=n)(Q:256<=n)(hm:n<=2048)(hr:RdW w w.heap.size A ws)(ho:∀x∈ws,x<18446744073709551616):
 Calls prog 152 #[.slice A n c] w λe w'=>TlRes ws e w'/\Below w.heap.size w w':=by
 subst hn;have HR:=hid hr;have K:Hid (∀k,wd ws k<18446744073709551616):=hid (fF ho);clear hr ho;obtain⟨i2,Z,z,E,G⟩:=kzv Dr;have HJ:=hid Z;have L:=hid z;have R:=hid E;have H:=hid G;clear Z z E G;go_enter func152,ntmps152;go_wp2_with fail;go_loopw [4,5] (λv i wr=>∃k:Nat,k<=16/\i=.int .i64 k/\Hid (nY ws k)/\wr.ownsRow w.heap.size 52 3 v k (((slL ws).take k).flatMap Sl.cells)/\Below w.heap.size w wr) (λ_ i _=>16-(intOf i).toNat)
 case atStart=>exact⟨0,kqy _,rfl,o8 ws,kq8 _ _ _ _,kql _ _⟩
 obtain⟨k,hk,rfl,t,a,r⟩:=hrel;have hz:=r.size;by_cases D:k<16
 .obtain ⟨b,off,rfl,hb,h0⟩:=RdW.at_ (Rd.below HR.out r) (show 112+k<ws.length by omega);rw[<-cq] at h0;have f:=hid (λW=>xy (wd ws (112+k)) W (K.out _));have p:=hid (λh=>od t.out h);have q:=hid (λh=>rR (ws:=ws) D h);have l:dB (wd ws (112+k))=slAt ws k:=rfl;have S:k<(slL ws).length:=by rw[eZ];exact D
  have F:=hid (show ((slL ws).take (k+1)).flatMap Sl.cells=((slL ws).take k).flatMap Sl.cells++(slAt ws k).cells by
   rw[kqo S,ce,mR])
  have i1:(0:Int)<=112+(k:Int):=by omega
  have i2':(112:Int)+(k:Int)<(ws.length:Int):=by omega
  have n1:((112:Int)+(k:Int)).toNat=112+k:=by omega
  have hk1:(k:Int)<16:=by omega
  have hk0:(0:Int)<=(k:Int):=by omega
  obtain⟨x,T⟩:=xq (wd ws (112+k));rw[T] at h0 f l;cases d:mA (slAt ws k)
  .have U:=hid (q.out d);rw[<-l] at d;rw[(v9 d).1,(v9 d).2] at f;unfold Sl.val at f;dsimp only at f;clear T d l q p a;go_wp2_with fail;refine (f.out _).mono ?_;rintro e w3 ⟨rfl,j⟩;have B:=r.trans (j.mono hz);have P:=B.size;clear j;go_wp2;go_ret2;exact⟨⟨none,0,0,by rw[U.out];rfl,λh=>by rw[U.out] at h;cases h⟩,B.alloc P _⟩
  have y:=hid (p.out d);rw[<-l] at d;rw[(wT d).1,(wT d).2,l] at f;obtain⟨s,u⟩:=xq (slAt ws k);rw[u] at f F;obtain⟨sg,X,sa⟩:=s;unfold Sl.val at f;dsimp only at f;clear T d l u q p;go_wp2_with fail;refine (f.out _).mono ?_;rintro e w3 ⟨rfl,j⟩;have C:=r.trans (j.mono hz);have J:=C.size;have m:=ai a j (kqd _);clear j a;go_wp2_with (at_builtin;refine kzd _ rfl _ _ 45 rfl w.heap.size 52 i2 _ 3 24 underlying45 HJ.out L.out R.out H.out rfl (by decide) _ _ _ rfl ((m.alloc _).alloc _) ⟨_,0,none⟩ 1 1 [.int .i64 sg,.bool X,.int .i64 sa] rfl rfl (ld _ _ _ (kqm _ _)) (by simp[Value.oneCell']) (by unfold maxLen;omega) (by omega) (by simp;omega) ?_;intro v1 w6 o N _;have M:=aC (C.alloc J (.cells #[.int .i64 sg,.bool X,.int .i64 sa] 52)) (by simp;omega) (m.alloc _) N);go_roundw
  case rel=>exact⟨k+1,by omega,by go_num,y.out,by rw[F.out];exact o,M⟩
  case measure=>simp[intOf];omega
 obtain rfl:k=16:=by omega
 have hT:slsOk ws=true:=(cN ws).2 t.out;have HT:=hid hT;rw[kq5 (by rw[eZ];exact kqd _)] at a;obtain⟨A1,Y,rfl⟩:=aJ a;have I:16<=Y:=by
  rcases a.2 with⟨V,Q⟩|⟨g,cap,cur,V,-,-,Q,-⟩
  .cases Q
  simp only[Value.slice.injEq] at V;omega
 have O:=hid (Rd.of_own a);clear hT a;go_wp2;go_ret2;exact⟨⟨A1,16,Y,by rw[HT.out];rfl,λ_=>⟨rfl,I,O.out⟩⟩,r⟩
def ui (v:Nat):Bool:=v==9221120237041090561||decide (v%9223372036854775808<=9218868437227405312)
def aI (l:List Bk):List Bk:=l.filter λb=>b.kind==1
def mg (O:List Bk) (v:Nat):Bool:=O.any λb=>b.at_==(v:Int)
def wrF (ws F:List Nat) (O:List Bk) (m r i:Nat):Bool:=if r=10 then F[i]? == some 2 && !ui (wd ws (m+2+i)) else F[i]? == some 3&&(decide (0<wd ws (m+2+i)) && !mg O (wd ws (m+2+i)))
def wrB (ws:List Nat) (T:List (List Nat)) (O:List Bk) (m z ty:Nat) (mk:Bool) (nx r:Nat):Bool:=
 if r=7 then mk||decide (0<nx)
 else if r=8 then !decide (ty<T.length)||aY (T[ty]?.getD []).length != z
 else if r=9 then decide ((T[ty]?.getD []).length+2<z)&&wd ws (m+2+(T[ty]?.getD []).length) != 0
 else (List.range (T[ty]?.getD []).length).any λi=>wrF ws (T[ty]?.getD []) O m r i
def wrK (ws:List Nat) (T:List (List Nat)) (O:List Bk) (r:Nat) (b:Bk):Bool:=wrB ws T O b.at_.toNat b.size.toNat b.typ.toNat b.mark b.next r
def fe (ws:List Nat) (a:Nat):Bool:=(List.range 8).all λi=>wd ws (a+i)==0
def o7 (ws:List Nat) (a k:Nat):Prop:=∀i,i<k->wd ws (a+i)=0
theorem jx(ws:List Nat)(a:Nat):fe ws a=true↔o7 ws a 8:=by
 unfold fe o7;rw[kzu];constructor
 .intro h i b;have:=h i (kzh.2 b);simpa using this
 intro h i b;have:=h i (kzh.1 b);simpa using this
def jO (O:List Bk) (s:Sl):Bool:=!s.used||mg O s.at_.toNat
def lay (ws:List Nat):Bool:=match tyN ws,blocks ws 128 with
 | some t,some l=>fe ws 16&&(fe ws 24&&(gK ws t&&(slsOk ws&&(jX l&&((List.range 5).all (λr=>(aI l).all λb => !wrK ws (gn ws t 8) (aI l) (7+r) b)&&(slL ws).all (jO (aI l)))))))
 | _,_=>false
def cc (ws:List Nat):Int:=if aj (ws.length:Int)=true then (if lay ws=true then 0 else 50) else 8
theorem Gd(h:v≠9221120237041090561):ui v=decide (v%9223372036854775808<=9218868437227405312):=by unfold ui;rw[show (v==9221120237041090561)=false by rw[kqi];exact h];rfl
theorem qF(hk:k<l.length):aI (l.take (k+1))=aI (l.take k)++(if l[k].kind=1 then [l[k]] else []):=by
 unfold aI;rw[kqo hk,kx8];congr 1;by_cases h:l[k].kind=1
 .rw[if_pos h];simp[h]
 rw[if_neg h];simp[h]
theorem Ha(hk:k<O.length)(h:O[k].at_=(v:Int)):mg O v=true:=by unfold mg;rw[kx1];exact⟨_,kqp hk,by rw[kqw];exact h⟩
theorem GE(h:∀k (a:k<O.length),O[k].at_≠(v:Int)):mg O v=false:=by unfold mg;rw[kj5];intro b c;obtain⟨k,a,rfl⟩:=kqz c;rw[kqw];exact h k a
theorem xF(v:Nat)(w:World):Calls prog 215 #[.int .u64 (v:Int)] w λe w'=>e=.returned (.bool (ui v))/\w=w':=by
 have h0:(0:Int)<=(v:Int):=by omega
 by_cases h:v=9221120237041090561
 .subst h;go_enter func215,ntmps215;go_wp2;go_ret;exact⟨rfl,rfl⟩
 have a:=hid (Gd h);have e1:((v:Int)==9221120237041090561)=false:=by rw[kqi];omega
 have c:decide ((v:Int)%9223372036854775808<=9218868437227405312)=decide (v%9223372036854775808<=9218868437227405312):=by rw[decide_eq_decide];omega
 obtain⟨q,b⟩:=xq (decide (v%9223372036854775808<=9218868437227405312));rw[b] at a c;clear h b;go_enter func215,ntmps215;go_wp2;go_ret;exact⟨by rw[a.out];rfl,rfl⟩
theorem xw(n:Nat)(w:World)(hn:n<=1000000):Calls prog 214 #[.int .i64 (n:Int)] w λe w'=>e=.returned (.int .i64 ((aY n:Nat):Int))/\w=w':=by
 by_cases h:n%2=1
 .have b:((n:Int)%2==1)=true:=by rw[kqw];omega
  have a:=hid (show ((aY n:Nat):Int)=(n:Int)+1+2 by unfold aY;omega);have w1:IntKind.i64.wrap ((n:Int)+1)=(n:Int)+1:=kqs _ (by omega);have c:IntKind.i64.wrap ((n:Int)+1+2)=(n:Int)+1+2:=kqs _ (by omega);clear h;go_enter func214,ntmps214;go_wp2;go_ret;exact⟨by rw[a.out];go_num,rfl⟩
 have b:((n:Int)%2==1)=false:=by rw[kqi];omega
 have a:=hid (show ((aY n:Nat):Int)=(n:Int)+2 by unfold aY;omega);have c:IntKind.i64.wrap ((n:Int)+2)=(n:Int)+2:=kqs _ (by omega);clear h;go_enter func214,ntmps214;go_wp2;go_ret;exact⟨by rw[a.out];go_num,rfl⟩
theorem vT(A:Option Addr)(ws:List Nat)(c n a:Nat)(w:World)(hn:ws.length=n)(ha:a+8<=n)(hm:n<=2048)(hr:RdW w w.heap.size A ws):
 Calls prog 150 #[.slice A n c,.int .i64 (a:Int)] w λe w'=>e=.returned (.bool (fe ws a))/\w=w':=by
 subst hn;have z:=hid hr;have r:=hid (jx ws a);go_enter func150,ntmps150;go_wp2_with fail
 go_loop [5] (λi=>∃k:Nat,k<=8/\i=.int .i64 k/\Hid (o7 ws a k)) (λi=>8-(intOf i).toNat)
 case atStart=>exact⟨0,kqy _,rfl,hid λi h=>absurd h (by omega)⟩
 obtain⟨k,hk,rfl,q⟩:=hrel;by_cases g:k<8
 .obtain ⟨b,off,rfl,hb,l⟩:=RdW.at_ z.out (show a+k<ws.length by omega);rw[<-cq] at l;have m:Hid (wd ws (a+k)=0->o7 ws a (k+1)):=hid λh i y=>by
   rcases kq6 i k with s|s
   .exact q.out i s
   have:i=k:=by omega
   subst this;exact h
  have j:Hid (wd ws (a+k)≠0->fe ws a=false):=hid λh=>by
   cases D:fe ws a with
   | false=>rfl
   | true=>exact absurd (r.out.1 D k g) h
  have v:IntKind.i64.wrap ((a:Int)+(k:Int))=((a+k:Nat):Int):=by rw[kqs _ (by omega)];omega
  have C:((a+k:Nat):Int)<(ws.length:Int):=by omega
  have B:(0:Int)<=((a+k:Nat):Int):=by omega
  obtain⟨p,u⟩:=xq (a+k);rw[u] at l m j v C B;obtain⟨x,t⟩:=xq (wd ws p);rw[t] at l m j;clear u t;by_cases d:x=0
  .have o:=hid (m.out d);subst d;go_wp2_with fail
   go_round
   case rel=>exact⟨k+1,by omega,by go_num,o⟩
   case measure=>simp[intOf];omega
  have f:=hid (j.out d);have e1:((x:Int) != 0)=true:=by rw[kqv];omega
  have e1n:(x != 0)=true:=by rw[kqv];exact d
  clear d;go_wp2;go_ret;exact⟨by rw[f.out];rfl,rfl⟩
 have f:Hid (fe ws a=true):=hid (r.out.2 λi y=>q.out i (by omega));obtain rfl:k=8:=by omega
 go_wp2;go_ret;exact⟨by rw[f.out];rfl,rfl⟩
theorem oL(A:Option Addr)(O:List Bk)(c n v:Nat)(w:World)(hn:O.length=n)(hm:n<=1000000)(hr:RdB w w.heap.size A O)(ho:∀b∈O,0<=b.at_/\b.at_<=1000000):
 Calls prog 156 #[.slice A n c,.int .u64 (v:Int)] w λe w'=>(∃r:Int,e=.returned (.int .i64 r)/\decide (r<0) = !mg O v)/\w=w':=by
 subst hn;have B:=hid hr;have C:=hid ho;clear hr ho;go_enter func156,ntmps156;go_wp2_with fail
 go_loop [5] (λi=>∃k:Nat,k<=O.length/\i=.int .i64 k/\Hid (∀j (f:j<O.length),j<k->O[j].at_≠(v:Int))) (λi=>O.length-(intOf i).toNat)
 case atStart=>exact⟨0,kqy _,rfl,hid λj f h=>absurd h (by omega)⟩
 obtain⟨k,hk,rfl,o⟩:=hrel;by_cases d:k<O.length
 .obtain ⟨b,off,rfl,hb,z,-⟩:=RdB.at_ B.out d;obtain⟨t,y⟩:=C.out _ (kqp d);have g:Hid (O[k].at_≠(v:Int)->∀j (f:j<O.length),j<k+1->O[j].at_≠(v:Int)):=hid λh j f h2=>by
   rcases kq6 j k with p|p
   .exact o.out j f p
   have:j=k:=by omega
   subst this;exact h
  have q:=hid (λh=>Ha (v:=v) d h);obtain⟨x,s⟩:=xq (O[k].at_);rw[s] at z g q t y;have i1:IntKind.u64.wrap x=x:=kzt _ (by omega);have hki:(k:Int)<(O.length:Int):=by omega
  have hk0:(0:Int)<=(k:Int):=by omega
  clear s;by_cases a:x=(v:Int)
  .have l:=hid (q.out a);have u:(x==(v:Int))=true:=by rw[kqw];exact a
   clear a g;go_wp2;go_ret;exact⟨⟨k,rfl,by rw[l.out];rw[decide_eq_false];rfl;omega⟩,rfl⟩
  have m:=hid (g.out a);have u:(x==(v:Int))=false:=by rw[kqi];exact a
  clear a g;go_wp2_with fail
  go_round
  case rel=>exact⟨k+1,by omega,by go_num,m⟩
  case measure=>simp[intOf];omega
 have l:Hid (mg O v=false):=hid (GE λj f=>o.out j f (by omega));obtain rfl:k=O.length:=by omega
 go_wp2;go_ret;exact⟨⟨-1,rfl,by rw[l.out];rfl⟩,rfl⟩
theorem rP(A:Option Addr)(l:List Bk)(c n:Nat)(w:World)(hn:l.length=n)(hm:n<=1000000)(hr:RdB w w.heap.size A l):
 Calls prog 154 #[.slice A n c] w λe w'=>(∃A k c,e=.returned (.slice A k c)/\k=(aI l).length/\k<=c/\RdB w' w'.heap.size A (aI l))/\Below w.heap.size w w':=by
 subst hn;have HR:=hid hr;clear hr;obtain⟨X,S,o,q,s⟩:=kzv kz;have Z:=hid S;have C:=hid o;have G:=hid q;have y:=hid s;clear S o q s;go_enter func154,ntmps154;go_wp2_with fail;go_loopw [3,4] (λv i wr=>∃k:Nat,k<=l.length/\i=.int .i64 k/\wr.ownsRow w.heap.size 55 6 v (aI (l.take k)).length ((aI (l.take k)).flatMap Bk.cells)/\Below w.heap.size w wr) (λ_ i _=>l.length-(intOf i).toNat)
 case atStart=>exact⟨0,kqy _,rfl,kq8 _ _ _ _,kql _ _⟩
 obtain⟨k,hk,rfl,a,m⟩:=hrel;have V:=m.size;by_cases p:k<l.length
 .obtain ⟨b,off,rfl,hb,Q,N,I,R,H,T⟩:=RdB.at_ (Rd.below HR.out m) p;have d:=hid (qF p);have t:(aI (l.take k)).length<=k:=by unfold aI;have:=kjk (λb:Bk=>b.kind==1) (l.take k);rw[kq3] at this;omega
  obtain⟨x,W⟩:=xq (l[k]);rw[W] at Q N I R H T d;obtain⟨U,xs,D,J,P,K⟩:=x;dsimp only at Q N I R H T d;obtain⟨L,M⟩:=xq (aI (l.take k));rw[M] at a d t;have hki:(k:Int)<(l.length:Int):=by omega
  have hk0:(0:Int)<=(k:Int):=by omega
  clear W M;by_cases h:D=1
  .have j:Hid (aI (l.take (k+1))=L++[⟨U,xs,D,J,P,K⟩]):=hid (by rw[d.out,if_pos h]);subst h;clear d;go_wp2_with (at_builtin;refine kzd _ rfl _ _ 48 rfl w.heap.size 55 X _ 6 48 underlying48 Z.out C.out G.out y.out rfl (by decide) _ _ _ rfl (a.alloc _) ⟨_,0,none⟩ 1 1 [.int .i64 U,.int .i64 xs,.int .i64 1,.int .i64 J,.bool P,.int .u64 (K:Int)] rfl rfl (cC _ _ _) (by simp[Value.oneCell']) (by unfold maxLen;omega) (by omega) (cB V) ?_;intro v1 w6 f r _;have u:=hid (aC m V a r);have E:=hid f;clear f r);go_roundw
   case rel=>exact⟨k+1,by omega,by go_num,by rw[j.out,ce,kqu];exact E.out,u.out⟩
   case measure=>simp[intOf];omega
  have j:Hid (aI (l.take (k+1))=L):=hid (by rw[d.out,if_neg h,kzs]);have e1:(D==1)=false:=by rw[kqi];exact h
  clear d h;go_wp2;go_roundw
  case rel=>exact⟨k+1,by omega,by go_num,by rw[j.out];exact a,m⟩
  case measure=>simp[intOf];omega
 obtain rfl:k=l.length:=by omega
 rw[kzn] at a;obtain⟨Y,O,rfl⟩:=aJ a;have z:=hid (show (aI l).length<=O by
  rcases a.2 with⟨B,h2⟩|⟨g,cap,cur,B,-,-,h2,-⟩
  .simp only[Value.slice.injEq] at B;omega
  simp only[Value.slice.injEq] at B;omega)
 have F:=hid (Rd.of_own a);clear a;go_wp2;go_ret;exact⟨⟨Y,_,O,rfl,rfl,z.out,F.out⟩,m⟩
def nN:Op->Bool
 | .move _ | .assign _ | .pick _ _ _ | .load _ _ | .build _ _ | .binOp _ _ _ _ _ | .unOp _ _ _ | .convert _ _ _ | .slice _ _ _ _ _ | .fieldAddr _ _ _ | .field _ _ _ | .indexAddr _ _ _ | .index _ _ _ | .extract _ _=>true
 | _=>false
structure SW (S:World->Prop) where
 w:World
 ok:S w
theorem cls_of{S:World->Prop}(h:S w):∃g:SW S,w=g.w:=⟨⟨w,h⟩,rfl⟩
theorem cH{α:Type}(f:α->Value)(s:Sem α):∀w,(∃u w',(s.bind λx=>Sem.pure (Next.value (f x))).run P w=.ok (.value u) w')\/∃h w',(s.bind λx=>Sem.pure (Next.value (f x))).run P w=.halt h w':=by
 induction s with
 | pure a=>intro w;exact .inl ⟨f a,w,rfl⟩
 | load m a k ih =>
  intro w;simp only[Sem.bind,Sem.run];split
  .exact ih _ w
  split
  .exact ih _ w
  exact .inr ⟨_,_,rfl⟩
 | store m a v k ih =>
  intro w;cases v<;>simp only[Sem.bind,Sem.run]<;>first
   | exact .inr ⟨_,_,rfl⟩
   | (
    split
    .split
     .exact .inr ⟨_,_,rfl⟩
     exact ih _
    split
    .exact ih _
    exact .inr ⟨_,_,rfl⟩)
 | new o k ih=>intro w;exact ih _ _
 | shape r k ih=>intro w;exact ih _ _
 | freeze a n k ih=>intro w;exact ih _
 | frozen a k ih=>intro w;exact ih _ _
 | getObj r k ih =>
  intro w;simp only[Sem.bind,Sem.run];split
  .exact .inr ⟨_,_,rfl⟩
  .exact ih _ w
  exact .inr ⟨_,_,rfl⟩
 | setObj r o k ih =>
  intro w;simp only[Sem.bind,Sem.run];split
  .exact .inr ⟨_,_,rfl⟩
  .exact ih _
  exact .inr ⟨_,_,rfl⟩
 | choose q k ih =>
  intro w;simp only[Sem.bind,Sem.run];split
  .exact ih _ _
  exact ih _ _
 | sys c k ih=>intro w;exact ih _ _
 | program k ih=>intro w;exact ih _ _
 | mark m k ih=>intro w;exact ih _
 | halt h=>intro w;exact .inr ⟨h,w,rfl⟩
theorem wJ{ρ:Operand->Value}(h:nN o.op=true)(w:World):(∃u w',(execOp ρ o).run P w=.ok (.value u) w')\/∃h w',(execOp ρ o).run P w=.halt h w':=by
 unfold execOp;unfold nN at h;split at h
 .rename_i x e;rw[e];exact .inl ⟨_,w,rfl⟩
 .rename_i x e;rw[e];exact .inl ⟨_,w,rfl⟩
 .rename_i c a b e;rw[e];exact cH _ _ w
 .rename_i e;rw[e];exact cH id _ w
 .rename_i e;rw[e];exact cH id _ w
 .rename_i e;rw[e];exact cH id _ w
 .rename_i e;rw[e];exact cH id _ w
 .rename_i e;rw[e];exact cH id _ w
 .rename_i e;rw[e];exact cH id _ w
 .rename_i e;rw[e];exact cH id _ w
 .rename_i e;rw[e];exact cH id _ w
 .rename_i e;rw[e];exact cH id _ w
 .rename_i e;rw[e];exact cH id _ w
 .rename_i e;rw[e];exact cH id _ w
 cases h
theorem r9{C:World->Prop}{a:Act}{v:Value}(h:nN o.op=true)(hq:o.quietAt P a C w v):(execOp a.eval o).run P w=.ok (.value v) w:=by
 unfold Oper.quietAt at hq;rcases wJ (P:=P) (ρ:=a.eval) h w with⟨u,w',e⟩|⟨h',w',e⟩
 .rw[e] at hq |-;obtain⟨rfl,rfl⟩:=hq;rfl
 rw[e] at hq;exact False.elim hq
inductive It where
 | one (o:Oper) (tk:Bool) (gd:Option (Option Tmp × Bool))
 | two (o1 o2:Oper) (gd:Option (Option Tmp × Bool))
def gOk (gd:Option (Option Tmp × Bool)) (tmps:Array Value):Bool:=match gd with
 | none=>true
 | some (d,b)=>(match d.bind (tmps[·]?) with
  | some (.bool x)=>some x
  | _=>none)==some b
def tE (ops:Array Oper) (o:Oper):Option (Option Tmp × Bool):=match o.guard with
 | none=>none
 | some (g,b)=>some ((ops.toList[g]?).bind (·.dst),b)
theorem eT(ops:Array Oper)(o:Oper)(tmps:Array Value):Region.wanted o (yielded ops tmps)=gOk (tE ops o) tmps:=by
 unfold Region.wanted tE gOk;split
 .rename_i h;rw[h]
 rename_i j b h;rw[h];simp only[kk7];rfl
def Ds (ops:Array Oper):List (Nat × Nat × Nat)->List It
 | []=>[]
 | (k,i,j)::r=>match ops.toList[i]? with
  | none=>[]
  | some o=>match k with
   | 0=>.one o true (tE ops o)::Ds ops r
   | 2=>(match ops.toList[j]? with
    | none=>[]
    | some o2=>.two o o2 (tE ops o)::Ds ops r)
   | _=>.one o false (tE ops o)::Ds ops r
def l5:List (Nat × Nat × Nat)->Nat
 | []=>0
 | (k,_,_)::r=>(if k=2 then 2 else 1)+l5 r
def lu (md:Region.Mode) (ops:Array Oper):List (Nat × Nat × Nat)->Array Bool->Bool
 | [],listed=>(Region.ready md ops listed).isEmpty
 | (k,i,j)::r,listed=>if k=2 then
  (match ops[i]?,ops[j]? with
   | some o1,some o2=>tE ops o1==tE ops o2
   | _,_=>false)&&(Region.ready md ops listed==[i,j]&&(Region.ready md ops (listed.setIfInBounds i true)==[j]&&(Region.ready md ops (listed.setIfInBounds j true)==[i]&&(i != j&&lu md ops r ((listed.setIfInBounds i true).setIfInBounds j true)))))
  else (ops[i]?).any (λo=>if k=0 then nN o.op&&(Region.free md ops listed i&&(Region.ready md ops listed).contains i) else Region.ready md ops listed==[i])&&lu md ops r (listed.setIfInBounds i true)
def mT (md:Region.Mode) (ops:Array Oper):List (Nat × Nat × Nat)->Array Bool->Bool
 | [],_=>true
 | (k,i,j)::r,listed=>if k=2 then
  (match ops[i]?,ops[j]? with
   | some o1,some o2=>tE ops o1==tE ops o2
   | _,_=>false)&&(Region.ready md ops listed==[i,j]&&(Region.ready md ops (listed.setIfInBounds i true)==[j]&&(Region.ready md ops (listed.setIfInBounds j true)==[i]&&(i != j&&mT md ops r ((listed.setIfInBounds i true).setIfInBounds j true)))))
  else (ops[i]?).any (λo=>if k=0 then nN o.op&&(Region.free md ops listed i&&(Region.ready md ops listed).contains i) else Region.ready md ops listed==[i])&&mT md ops r (listed.setIfInBounds i true)
def kX:List (Nat × Nat × Nat)->Array Bool->Array Bool
 | [],listed=>listed
 | (k,i,j)::r,listed=>kX r (if k=2 then (listed.setIfInBounds i true).setIfInBounds j true else listed.setIfInBounds i true)
theorem nl{md:Region.Mode}{l2:List (Nat × Nat × Nat)}:∀(b:List (Nat × Nat × Nat)) {a:Array Bool},mT md ops b a=true->lu md ops l2 (kX b a)=true->lu md ops (b++l2) a=true:=by
 intro b
 induction b with
 | nil=>intro a _ h;exact h
 | cons x b ih =>
  intro a c d;obtain⟨k,i,j⟩:=x;by_cases e:k=2
  .subst e;simp only[mT,if_true,kqt] at c;simp only[kX,if_true] at d;obtain⟨o,g,f,n,l,m⟩:=c;rw[kzq];simp only[lu,if_true,kqt];exact⟨o,g,f,n,l,ih m d⟩
  simp only[mT,e,if_false,kqt] at c;simp only[kX,e,if_false] at d;rw[kzq];simp only[lu,e,if_false,kqt];exact⟨c.1,ih c.2 d⟩
def gH (P:Program) (Q:Exit->Act->World->Prop) (S:World->Prop):List It->Act->World->Prop
 | [],a,w=>Q .normal a w
 | .one o t g::r,a,w=>if gOk g a.tmps=true then (if t=true then o.quiet P a (λX=>∃g:SW S,X=g.w) (λa'=>gH P Q S r a' w) else o.wp P a w (λa' w'=>S w'/\gH P Q S r a' w') Q) else gH P Q S r (a.put o.dst undef) w
 | .two o1 o2 g::r,a,w=>if gOk g a.tmps=true then
  (
   o1.wp P a w (λa1 w1=>S w1/\gOk g a1.tmps=true/\o2.wp P a1 w1 (λa2 w2=>S w2/\gH P Q S r a2 w2) Q) Q /\
   o2.wp P a w (λa1 w1=>S w1/\gOk g a1.tmps=true/\o1.wp P a1 w1 (λa2 w2=>S w2/\gH P Q S r a2 w2) Q) Q) else False
section
variable {P:Program} {Q:Exit->Act->World->Prop} {S:World->Prop} {r:List It} {a:Act} {w:World} {o o1 o2:Oper} {g:Option (Option Tmp × Bool)}
theorem C8(hg:gOk g a.tmps=true)(h:∀K:Act->Prop,(∀a',gH P Q S r a' w->K a')->o.quiet P a (λX=>∃g:SW S,X=g.w) K):gH P Q S (.one o true g::r) a w:=by unfold gH;rw[if_pos hg,if_pos rfl];exact h _ λ_ h=>h
theorem seq_do(hg:gOk g a.tmps=true)(h:∀K:Act->World->Prop,(∀a' w',S w'->gH P Q S r a' w'->K a' w')->o.wp P a w K Q):gH P Q S (.one o false g::r) a w:=by unfold gH;rw[if_pos hg,if_neg (by decide)];exact h _ λ_ _ b c=>⟨b,c⟩
theorem Eu{t:Bool}(hg:gOk g a.tmps=false)(h:gH P Q S r (a.put o.dst undef) w):gH P Q S (.one o t g::r) a w:=by unfold gH;rw[if_neg (by rw[hg];decide)];exact h
theorem AM(hs:Region.noSelect ops=true)(hQ:∀c a d v w,Q (.panic c) (a.put d v) w->Q (.panic c) a w):∀(l:List (Nat × Nat × Nat)) (b:Nat) (e:Array Bool) (a:Act) (w:World),l5 l<=b->lu .any ops l e=true->S w->gH P Q S (Ds ops l) a w->wpAnyH P .any ops Q S b e a w:=by
 intro l
 induction l with
 | nil =>intro b e a w _ n _ h;exact kxj (List.isEmpty_iff.1 n) h b
 | cons x l ih =>
  intro b e a w M n A h;obtain⟨k,i,j⟩:=x;by_cases E:k=2
  .subst E;simp only[l5,if_true] at M;obtain⟨b,rfl⟩:∃f,b=f+1+1:=⟨b-2,by omega⟩;have t:l5 l<=b:=by omega
   simp only[lu,if_true,kqt] at n;obtain⟨g,B,U,O,h5,K⟩:=n;cases p:ops[i]? with
   | none=>rw[p] at g;cases g
   | some o1 =>
    cases r:ops[j]? with
    | none=>rw[p,r] at g;cases g
    | some o2 =>
     rw[p,r] at g;have C:tE ops o1=tE ops o2:=by simpa using g
     simp only[Ds,kk7,p,r] at h;unfold gH at h;cases m:gOk (tE ops o1) a.tmps with
     | false=>rw[if_neg (by rw[m];decide)] at h;exact h.elim
     | true =>
      rw[if_pos m] at h;refine wpAnyH_all (rs:=[i,j]) (by simpa using B) (by simp) λq F=>?_;have H:i≠j:=by simpa using h5
      rcases kqx.1 F with rfl|F
      .unfold wpOp;simp only[p];rw[eT,m,if_pos rfl];refine .inl (Oper.wp_mono (λT Y y=>⟨y.1,?_⟩) h.1);refine wpAnyH_all (rs:=[j]) (by simpa using U) (by simp) λG s=>?_;rw[kq0] at s;subst s;unfold wpOp;simp only[r];rw[eT,<-C,y.2.1,if_pos rfl];exact .inl (Oper.wp_mono (λW R u=>⟨u.1,ih b _ _ _ t K u.1 u.2⟩) y.2.2)
      rw[kq0] at F;subst F;unfold wpOp;simp only[r];rw[eT,<-C,m,if_pos rfl];refine .inl (Oper.wp_mono (λT Y y=>⟨y.1,?_⟩) h.2);refine wpAnyH_all (rs:=[i]) (by simpa using O) (by simp) λG s=>?_;rw[kq0] at s;subst s;unfold wpOp;simp only[p];rw[eT,y.2.1,if_pos rfl];refine .inl (Oper.wp_mono (λW R u=>⟨u.1,?_⟩) y.2.2);rw[Array.setIfInBounds_comm _ _ (Ne.symm H)];exact ih b _ _ _ t K u.1 u.2
  simp only[l5,E,if_false] at M;obtain⟨b,rfl⟩:∃f,b=f+1:=⟨b-1,by omega⟩;have t:l5 l<=b:=by omega
  simp only[lu,E,if_false,kqt] at n;obtain⟨g,B⟩:=n;cases z:ops[i]? with
  | none=>rw[z] at g;simp at g
  | some o =>
   rw[z] at g;simp only[Option.any_some] at g;simp only[Ds,kk7,z] at h;by_cases D:k=0
   .subst D;unfold gH at h;simp only[if_true] at g h;simp only[kqt] at g;obtain⟨N,J,I⟩:=g;cases m:gOk (tE ops o) a.tmps with
    | true =>rw[if_pos m] at h;obtain⟨v,V,G⟩:=h;exact kkn z hs J I (λc a w=>hQ c a _ v w) (.inl ⟨by rw[eT];exact m,λX Z=>r9 N (V X (cls_of Z))⟩) A (ih b _ _ _ t B A G)
    | false =>rw[if_neg (by rw[m];decide)] at h;exact kkn z hs J I (λc a w=>hQ c a _ undef w) (.inr ⟨by rw[eT];exact m,rfl⟩) A (ih b _ _ _ t B A h)
   have hkb:(k==0)=false:=by rw[kqi];exact D
   simp only[D,if_false] at g;have h:gH P Q S (.one o false (tE ops o)::Ds ops l) a w:=by
    match k,E,D,h with
    | 1,_,_,h=>exact h
    | k+3,_,_,h=>exact h
   unfold gH at h;refine wpAnyH_all (rs:=[i]) (by simpa using g) (by simp) λj L=>?_;rw[kq0] at L;subst L;unfold wpOp;simp only[z];cases m:gOk (tE ops o) a.tmps with
   | true =>rw[if_pos m,if_neg (by decide)] at h;rw[eT,m,if_pos rfl];exact .inl (Oper.wp_mono (λa' w' h=>⟨h.1,ih b _ _ _ t B h.1 h.2⟩) h)
   | false =>rw[if_neg (by rw[m];decide)] at h;rw[eT,m,if_neg (by decide)];exact⟨A,ih b _ _ _ t B A h⟩
theorem pq(l:List (Nat × Nat × Nat))(L:List It)(hm:P.follows .mixedOrders=true)(hs:Region.noSelect ops=true)(hl:l5 l<=ops.size)(hok:lu .any ops l (Array.replicate ops.size false)=true)(hL:Ds ops l=L)(hQ:∀c a d v w,Q (.panic c) (a.put d v) w->Q (.panic c) a w)(hS:S w.drew)(h:gH P Q S L a w.drew):(Code.region id ops true).wp P Q a w:=by subst hL;exact wp_region_held hm (AM hs hQ l ops.size _ a w.drew hl hok hS h)
structure SqG (P:Program) (Q:Exit->Act->World->Prop) (S:World->Prop) (l:List It) (a:Act) (w:World):Prop where
 out:gH P Q S l a w
theorem Af(h:Q .normal a w):SqG P Q S [] a w:=⟨h⟩
theorem iN(hg:gOk g a.tmps=true)(h:∀K:Act->Prop,(∀b,SqG P Q S r b w->K b)->o.quiet P a (λX=>∃g:SW S,X=g.w) K):SqG P Q S (.one o true g::r) a w:=⟨C8 hg λK c=>h K λb d=>c b d.out⟩
theorem sy(hg:gOk g a.tmps=true)(h:∀K:Act->World->Prop,(∀b w',S w'->SqG P Q S r b w'->K b w')->o.wp P a w K Q):SqG P Q S (.one o false g::r) a w:=⟨seq_do hg λK d=>h K λb w' c e=>d b w' c e.out⟩
theorem eK{t:Bool}(hg:gOk g a.tmps=false)(h:SqG P Q S r (a.put o.dst undef) w):SqG P Q S (.one o t g::r) a w:=⟨Eu hg h.out⟩
theorem nD(l:List (Nat × Nat × Nat))(L:List It)(hm:P.follows .mixedOrders=true)(hs:Region.noSelect ops=true)(hl:l5 l<=ops.size)(hok:lu .any ops l (Array.replicate ops.size false)=true)(hL:Ds ops l=L)(hQ:∀c a d v w,Q (.panic c) (a.put d v) w->Q (.panic c) a w)(hS:S w.drew)(h:SqG P Q S L a w.drew):(Code.region id ops true).wp P Q a w:=pq l L hm hs hl hok hL hQ hS h.out
end
def RdL (w:World) (B:Nat) (A:Option Addr) (L:List Ty):Prop:=Rd w B A (L.flatMap Ty.cells)/\∀x∈L,RdY w B x.A x.l
theorem RdL.up{B':Nat}(h:RdL w B A L)(hb:Below B w w')(hB:B<=B'):RdL w' B' A L:=⟨h.1.up hb hB,λx a=>(h.2 x a).up hb hB⟩
theorem RdL.of_own{n c:Nat}(h:ub w H (.slice A n c) L)(hn:L.length=n):RdL w w.heap.size A L:=by subst hn;exact⟨Rd.of_own h.1,λx a=>Rd.of_own (h.2 x a)⟩
theorem rX(A TA OA:Option Addr)(ws:List Nat)(L:List Ty)(O:List Bk)(c n tc tn oc on m z ty nx r:Nat)(xk:Int)(mk:Bool)(w:World)(ht:L.length=tn)(hl8:∀x∈L,x.l.length<=8)(hr:r=7\/r=8)(hL:RdL w w.heap.size TA L):
 Calls prog 155 #[.slice A n c,.slice TA tn tc,.slice OA on oc,.agg #[.int .i64 (m:Int),.int .i64 (z:Int),.int .i64 xk,.int .i64 (ty:Int),.bool mk,.int .u64 (nx:Int)],.int .i64 (r:Int)] w λe w'=>e=.returned (.bool (wrB ws (L.map Ty.l) O m z ty mk nx r))/\Below w.heap.size w w':=by
 subst ht;have C:=hid (hL.up ((kql w.heap.size w).alloc (kqd _) (.cells #[.int .i64 (m:Int),.int .i64 (z:Int),.int .i64 xk,.int .i64 (ty:Int),.bool mk,.int .u64 (nx:Int)] 55)) (kqd _));have u:=hid ((kql w.heap.size w).alloc (kqd _) (.cells #[.int .i64 (m:Int),.int .i64 (z:Int),.int .i64 xk,.int .i64 (ty:Int),.bool mk,.int .u64 (nx:Int)] 55));have xb:=Bx.new w 55 #[.int .i64 (m:Int),.int .i64 (z:Int),.int .i64 xk,.int .i64 (ty:Int),.bool mk,.int .u64 (nx:Int)];have G:=hid xb;clear hL xb;rcases hr with rfl|rfl
 .have k:Hid (wrB ws (L.map Ty.l) O m z ty mk nx 7=(mk||decide (0<nx))):=hid rfl;have F:decide ((0:Int)<(nx:Int))=decide (0<nx):=by rw[decide_eq_decide];omega
  obtain⟨q,H⟩:=xq (decide (0<nx));rw[H] at k F;clear C;(try simp only[kq7]);cases mk
  all_goals
   go_enter func155,ntmps155;go_wp2;go_ret;exact⟨by rw[k.out];rfl,u.out⟩
 by_cases a:ty<L.length
 .obtain ⟨b,T,rfl,hb,E⟩:=oQ C.out.1 a;have U:=hl8 _ (kqp a);have k:Hid (wrB ws (L.map Ty.l) O m z ty mk nx 8=(aY L[ty].l.length != z)):=hid (by
   show (!decide (ty<(L.map Ty.l).length)||aY (((L.map Ty.l)[ty]?).getD []).length != z)=_;rw[kz3,decide_eq_true a,kxl,kqk a];rfl)
  obtain⟨x,Z⟩:=xq (L[ty]);rw[Z] at E U k;obtain⟨xA,xc,v⟩:=x;dsimp only at E U k;have Y:=hid (λW=>xw v.length W (by omega));have R:aY v.length<=10:=by unfold aY;omega
  have F:(((aY v.length:Nat):Int) != (z:Int))=(aY v.length != z):=by rw[kzg,kqv,kqv];omega
  obtain⟨o,V⟩:=xq (aY v.length);rw[V] at k Y R F;obtain⟨q,H⟩:=xq ((o != z));rw[H] at k F;have d1:decide ((L.length:Int)<=(ty:Int))=false:=by rw[kqh];omega
  have J:decide (L.length<=ty)=false:=by rw[kqh];omega
  have j1:(ty:Int)<(L.length:Int):=by omega
  have j0:(0:Int)<=(ty:Int):=by omega
  (try simp only[kq7]);clear Z V H hl8 a;obtain⟨N,D,I,B,P,M,Q,s⟩:=G.out.c6;obtain⟨f,i⟩:∃f,w.alloc (.cells #[.int .i64 (m:Int),.int .i64 (z:Int),.int .i64 xk,.int .i64 (ty:Int),.bool mk,.int .u64 (nx:Int)] 55)=f:=⟨_,rfl⟩;go_enter func155,ntmps155;go_wp2_with fail;rw[i] at u D B E;clear i N I P M Q G C s
  go_region_held3 (λX:World=>X.cell? ⟨w.heap.size,1,none⟩=some (.int .i64 (z:Int))/\X.cell? ⟨w.heap.size,3,none⟩=some (.int .i64 (ty:Int))/\X.cell? ⟨b,T+ty,none⟩=some (.slice xA v.length xc)) (go_keep)
   (first | (go_at_call 214;refine (Y.out _).mono ?_;rintro e w5 ⟨rfl,rfl⟩;have m0:=D;have m1:=B;have m2:=E))
  clear m0 m1 m2;go_wp2;go_ret;exact⟨by rw[k.out];rfl,u.out.drew⟩
 have k:Hid (wrB ws (L.map Ty.l) O m z ty mk nx 8=true):=hid (by
  show (!decide (ty<(L.map Ty.l).length)||aY (((L.map Ty.l)[ty]?).getD []).length != z)=_;rw[kz3,decide_eq_false a];rfl)
 have d1:decide ((L.length:Int)<=(ty:Int))=true:=by rw[kqn];omega
 have J:decide (L.length<=ty)=true:=by rw[kqn];omega
 obtain⟨N,D,I,B,P,M,Q,s⟩:=G.out.c6;(try simp only[kq7]);clear a;go_enter func155,ntmps155;go_wp2_with fail;obtain⟨f,i⟩:∃f,w.alloc (.cells #[.int .i64 (m:Int),.int .i64 (z:Int),.int .i64 xk,.int .i64 (ty:Int),.bool mk,.int .u64 (nx:Int)] 55)=f:=⟨_,rfl⟩;rw[i] at u B s |-;clear i N D I P M Q G C;have ct3:∀g:SW (λX:World=>Below f.heap.size f X),g.w.cell? ⟨w.heap.size,3,none⟩=some (.int .i64 (ty:Int)):=λg=>(g.ok.cell (p:=⟨w.heap.size,3,none⟩) s).trans B
 refine nD (S:=λX:World=>Below f.heap.size f X) ((0,0,0)::(0,1,0)::(0,2,0)::(1,3,0)::(0,4,0)::(0,5,0)::(0,6,0)::(0,7,0)::(0,8,0)::(0,9,0)::(0,10,0)::(0,13,0)::(0,14,0)::(1,11,0)::(1,12,0)::(0,15,0)::(0,16,0)::(0,17,0)::[]) (.one _ true (none)::.one _ true (none)::.one _ true (none)::.one _ false (none)::.one _ true (none)::.one _ true (none)::.one _ true (some (some 30,false))::.one _ true (some (some 30,false))::.one _ true (some (some 30,false))::.one _ true (some (some 30,false))::.one _ true (some (some 30,false))::.one _ true (some (some 30,false))::.one _ true (some (some 30,false))::.one _ false (some (some 30,false))::.one _ false (some (some 30,false))::.one _ true (some (some 30,false))::.one _ true (none)::.one _ true (none)::[]) (by kernel_rfl) (by kernel_rfl) (by decide) (by show lu _ _ (((0,0,0)::(0,1,0)::(0,2,0)::(1,3,0)::(0,4,0)::(0,5,0)::(0,6,0)::(0,7,0)::(0,8,0)::(0,9,0)::[])++(((0,10,0)::(0,13,0)::(0,14,0)::(1,11,0)::(1,12,0)::(0,15,0)::(0,16,0)::(0,17,0)::[]))) _=true;refine nl _ (by as_aux_lemma=>kernel_rfl) ?_;(as_aux_lemma=>kernel_rfl)) (by rfl) (λ_ _ d _ _ h=>by cases d<;>exact h) (kql _ _).drew ?_;have j:=hid ((kql f.heap.size f).drew);obtain⟨X0,y⟩:=xq f.drew
 rw[y] at j |-;clear y;have hne:Nonempty (SW (λX:World=>Below f.heap.size f X)):=⟨⟨X0,j.out⟩⟩
 iterate 3 (first | (refine eK (by rfl) ?_;(try simp only[Act.put,kqa,kqf,kqe])) | (refine iN (by rfl) ?_;intro K t;go_big_quiet_op;go_big_quiet_on))
 (first | (refine eK (by rfl) ?_;(try simp only[Act.put,kqa,kqf,kqe])) | (refine sy (by rfl) ?_;intro K t;go_big_op;refine t _ _ j.out ?_;clear t K;(try simp only[Act.put,kqa,kqf,kqe])))
 iterate 9 (first | (refine eK (by rfl) ?_;(try simp only[Act.put,kqa,kqf,kqe])) | (refine iN (by rfl) ?_;intro K t;go_big_quiet_op;go_big_quiet_on))
 (first | (refine eK (by rfl) ?_;(try simp only[Act.put,kqa,kqf,kqe])) | (refine sy (by rfl) ?_;intro K t;go_big_op;refine t _ _ j.out ?_;clear t K;(try simp only[Act.put,kqa,kqf,kqe])))
 (refine eK (by rfl) ?_;(try simp only[Act.put,kqa,kqf,kqe]))
 iterate 3 (first | (refine eK (by rfl) ?_;(try simp only[Act.put,kqa,kqf,kqe])) | (refine iN (by rfl) ?_;intro K t;go_big_quiet_op;go_big_quiet_on))
 refine Af ?_;go_wp2;go_ret;exact⟨by rw[k.out];rfl,u.out.trans (j.out.mono u.out.size)⟩
theorem sF(A TA OA:Option Addr)(ws:List Nat)(L:List Ty)(O:List Bk)(c n tc tn oc on m z ty nx r:Nat)(xk:Int)(mk:Bool)(w:World)(hn:ws.length=n)(hon:O.length=on)(hm:n<=2048)(ho1:on<=2048)(ht:L.length=tn)(hty:ty<L.length)(hl8:L[ty].l.length<=8)(Q:z=aY L[ty].l.length)(hmz:m+z<=n)(U:r=9\/r=10\/r=11)(hL:RdL w w.heap.size TA L)(hR:RdW w w.heap.size A ws)(hO:RdB w w.heap.size OA O)(hOb:∀b∈O,0<=b.at_/\b.at_<=1000000):
 Calls prog 155 #[.slice A n c,.slice TA tn tc,.slice OA on oc,.agg #[.int .i64 (m:Int),.int .i64 (z:Int),.int .i64 xk,.int .i64 (ty:Int),.bool mk,.int .u64 (nx:Int)],.int .i64 (r:Int)] w λe w'=>e=.returned (.bool (wrB ws (L.map Ty.l) O m z ty mk nx r))/\Below w.heap.size w w':=by
 subst ht hn hon;have E:=(kql w.heap.size w).alloc (kqd _) (.cells #[.int .i64 (m:Int),.int .i64 (z:Int),.int .i64 xk,.int .i64 (ty:Int),.bool mk,.int .u64 (nx:Int)] 55);have Z:=hL.up E (kqd _);have H:=hid (hR.up E E.size);have I:=hid (hO.up E E.size);have T:=hid hOb;have C:=hid E;have B:aY L[ty].l.length<=10/\L[ty].l.length+2<=aY L[ty].l.length:=by unfold aY;omega
 obtain⟨q0,q1,q2,q3,q4,q5,qf,K⟩:=(Bx.new w 55 #[.int .i64 (m:Int),.int .i64 (z:Int),.int .i64 xk,.int .i64 (ty:Int),.bool mk,.int .u64 (nx:Int)]).c6;obtain⟨b,off,rfl,hb,p0⟩:=oQ Z.1 hty;have J:=Z.2 _ (kqp hty);have N:Hid (∀F,L[ty].l=F->wrB ws (L.map Ty.l) O m z ty mk nx r=(if r=7 then mk||decide (0<nx) else if r=8 then !decide (ty<(L.map Ty.l).length)||aY F.length != z else if r=9 then decide (F.length+2<z)&&wd ws (m+2+F.length) != 0 else (List.range F.length).any λi=>wrF ws F O m r i)):=hid λF hF=>by
  unfold wrB;rw[kxl,kqk hty];simp only[kzz,kq9,hF]
 obtain⟨x,hx⟩:=xq (L[ty]);rw[hx] at p0 hl8 Q B J N;obtain⟨xA,xc,F⟩:=x;dsimp only at p0 hl8 Q B J N;have HW:=hid (N.out F rfl);have HF:=hid J;rw[<-Q] at B;have j1:(ty:Int)<(L.length:Int):=by omega
 have j0:(0:Int)<=(ty:Int):=by omega
 have HZ:=hid Q;clear hx N Z hL hR hO hOb J Q q2 q4 q5 qf;rcases U with rfl|rfl|rfl
 .have u:Hid (wrB ws (L.map Ty.l) O m z ty mk nx 9=(decide (F.length+2<z)&&wd ws (m+2+F.length) != 0)):=hid HW.out;have w1:IntKind.i64.wrap ((z:Int)-2)=(z:Int)-2:=kqs _ (by omega);have w2:IntKind.i64.wrap ((m:Int)+2)=(m:Int)+2:=kqs _ (by omega);have w3:IntKind.i64.wrap ((m:Int)+2+(F.length:Int))=((m+2+F.length:Nat):Int):=by rw[kqs _ (by omega)];omega
  (try simp only[kq7]);by_cases hp:F.length+2<z
  .obtain ⟨bw,ow,rfl,Jg,G⟩:=RdW.at_ H.out (show m+2+F.length<ws.length by omega);rw[<-cq] at G;have d1:decide ((F.length:Int)<(z:Int)-2)=true:=by rw[kqn];omega
   rw[decide_eq_true hp] at u;have k1:((m+2+F.length:Nat):Int)<(ws.length:Int):=by omega
   have k0:(0:Int)<=((m+2+F.length:Nat):Int):=by omega
   obtain⟨p,s⟩:=xq (m+2+F.length);rw[s] at G u w3 k1 k0;have e0:((wd ws p:Int) != 0)=(wd ws p != 0):=by rw[kzg,kqv,kqv];omega
   obtain⟨v,R⟩:=xq (wd ws p);rw[R] at G u e0;obtain⟨q,S⟩:=xq ((v != 0));rw[S] at u e0;clear s R S HW HF I T hp HZ B;go_enter func155,ntmps155;go_wp2;go_ret;exact⟨by rw[u.out];rfl,C.out⟩
  have d1:decide ((F.length:Int)<(z:Int)-2)=false:=by rw[kqh];omega
  rw[decide_eq_false hp] at u;clear HW HF I T hp HZ B;go_enter func155,ntmps155;go_wp2;go_ret;exact⟨by rw[u.out];rfl,C.out⟩
 .have u:Hid (wrB ws (L.map Ty.l) O m z ty mk nx 10=(List.range F.length).any λi=>wrF ws F O m 10 i):=hid HW.out;have w2:IntKind.i64.wrap ((m:Int)+2)=(m:Int)+2:=kqs _ (by omega);have X:Hid (∀k,k<F.length->wrF ws F O m 10 k=true->wrB ws (L.map Ty.l) O m z ty mk nx 10=true):=hid λk M h=>by
   rw[u.out,kx1];exact⟨k,kzh.2 M,h⟩
  have Jc:Hid ((∀k,k<F.length->wrF ws F O m 10 k=false)->wrB ws (L.map Ty.l) O m z ty mk nx 10=false):=hid λh=>by
   rw[u.out,kj5];intro k M;rw[h k (kzh.1 M)];decide
  obtain⟨P,V⟩:∃P,w.alloc (.cells #[.int .i64 (m:Int),.int .i64 (z:Int),.int .i64 xk,.int .i64 (ty:Int),.bool mk,.int .u64 (nx:Int)] 55)=P:=⟨_,rfl⟩;rw[V] at H I HF C q0 q1 q3 p0 K;obtain⟨Jf,Je⟩:=B;(try simp only[kq7]);clear HW u HZ q1;go_enter func155,ntmps155;go_wp2_with fail;go_loopw [12] (λi wr=>∃k:Nat,k<=F.length/\i=.int .i64 k/\Hid (∀j,j<k->wrF ws F O m 10 j=false)/\Below P.heap.size P wr) (λi _=>F.length-(intOf i).toNat)
  case atStart=>exact⟨0,kqy _,rfl,hid λj h=>absurd h (by omega),kql _ _⟩
  obtain⟨k,M,rfl,HP,D⟩:=hrel;have Q:=D.size;by_cases y:k<F.length
  .have q0':=(D.cell (p:=⟨w.heap.size,0,none⟩) K).trans q0;obtain⟨bw,ow,rfl,Jg,G⟩:=RdW.at_ (Rd.below H.out D) (show m+2+k<ws.length by omega);rw[<-cq] at G;obtain⟨bf,of,rfl,Jk,y0⟩:=RdY.at_ (Rd.below HF.out (D.mono C.out.size)) y;have HS:Hid (wrF ws F O m 10 k=false->∀j,j<k+1->wrF ws F O m 10 j=false):=hid λh j hj=>by
    rcases kq6 j k with h2|h2
    .exact HP.out j h2
    have:j=k:=by omega
    subst this;exact h
   have HY:=hid (X.out k y);have d:Hid (wrF ws F O m 10 k=(F[k]==2 && !ui (wd ws (m+2+k)))):=hid (by
    unfold wrF;rw[kqk y]
    first | rw[if_pos rfl] | rw[if_neg (by decide)]
    rw[show ∀a b:Nat,(some a==some b)=(a==b) from λa b=>rfl])
   have w3:IntKind.i64.wrap ((m:Int)+2+(k:Int))=((m+2+k:Nat):Int):=by rw[kqs _ (by omega)];omega
   have k1:((m+2+k:Nat):Int)<(ws.length:Int):=by omega
   have k0:(0:Int)<=((m+2+k:Nat):Int):=by omega
   have Ji:(k:Int)<(F.length:Int):=by omega
   have Jj:(0:Int)<=(k:Int):=by omega
   obtain⟨p,s⟩:=xq (m+2+k);rw[s] at G d w3 k1 k0;obtain⟨v,R⟩:=xq (wd ws p);rw[R] at G d;obtain⟨f,hf⟩:=xq (F[k]);rw[hf] at y0 d;have o:=hid D;clear s R hf;have Jb:=hid (λW=>xF v W);by_cases Ja:f=2
   .subst Ja;have g:Hid (wrF ws F O m 10 k = !ui v):=hid (by rw[d.out];rfl);obtain⟨q,S⟩:=xq (ui v);rw[S] at Jb g;clear S d;cases q
    .have t:=hid (HY.out (by rw[g.out];rfl));go_wp2_with fail;refine (Jb.out _).mono ?_;rintro e w5 ⟨rfl,rfl⟩;go_wp2;go_ret;exact⟨by rw[t.out];rfl,C.out.trans (o.out.mono C.out.size)⟩
    have t:=hid (HS.out (by rw[g.out];rfl));go_wp2_with fail;refine (Jb.out _).mono ?_;rintro e w5 ⟨rfl,rfl⟩;go_wp2;go_roundw
    case rel=>exact⟨k+1,by omega,by go_num,t,o.out⟩
    case measure=>simp[intOf];omega
   have e1:((f:Int)==2)=false:=by rw[kqi];omega
   have t:=hid (HS.out (by rw[d.out,show (f==2)=false by rw[kqi];exact Ja];rfl));clear Ja d;go_wp2;go_roundw
   case rel=>exact⟨k+1,by omega,by go_num,t,o.out⟩
   case measure=>simp[intOf];omega
  have t:=hid (Jc.out λj hj=>HP.out j (by omega));obtain rfl:k=F.length:=by omega
  go_wp2;go_ret;exact⟨by rw[t.out];rfl,C.out.trans (D.mono C.out.size)⟩
 have u:Hid (wrB ws (L.map Ty.l) O m z ty mk nx 11=(List.range F.length).any λi=>wrF ws F O m 11 i):=hid HW.out;have w2:IntKind.i64.wrap ((m:Int)+2)=(m:Int)+2:=kqs _ (by omega);have X:Hid (∀k,k<F.length->wrF ws F O m 11 k=true->wrB ws (L.map Ty.l) O m z ty mk nx 11=true):=hid λk M h=>by
  rw[u.out,kx1];exact⟨k,kzh.2 M,h⟩
 have Jc:Hid ((∀k,k<F.length->wrF ws F O m 11 k=false)->wrB ws (L.map Ty.l) O m z ty mk nx 11=false):=hid λh=>by
  rw[u.out,kj5];intro k M;rw[h k (kzh.1 M)];decide
 obtain⟨P,V⟩:∃P,w.alloc (.cells #[.int .i64 (m:Int),.int .i64 (z:Int),.int .i64 xk,.int .i64 (ty:Int),.bool mk,.int .u64 (nx:Int)] 55)=P:=⟨_,rfl⟩;rw[V] at H I HF C q0 q1 q3 p0 K;obtain⟨Jf,Je⟩:=B;(try simp only[kq7]);clear HW u HZ q1;go_enter func155,ntmps155;go_wp2_with fail;go_loopw [12] (λi wr=>∃k:Nat,k<=F.length/\i=.int .i64 k/\Hid (∀j,j<k->wrF ws F O m 11 j=false)/\Below P.heap.size P wr) (λi _=>F.length-(intOf i).toNat)
 case atStart=>exact⟨0,kqy _,rfl,hid λj h=>absurd h (by omega),kql _ _⟩
 obtain⟨k,M,rfl,HP,D⟩:=hrel;have Q:=D.size;by_cases y:k<F.length
 .have q0':=(D.cell (p:=⟨w.heap.size,0,none⟩) K).trans q0;obtain⟨bw,ow,rfl,Jg,G⟩:=RdW.at_ (Rd.below H.out D) (show m+2+k<ws.length by omega);rw[<-cq] at G;obtain⟨bf,of,rfl,Jk,y0⟩:=RdY.at_ (Rd.below HF.out (D.mono C.out.size)) y;have HS:Hid (wrF ws F O m 11 k=false->∀j,j<k+1->wrF ws F O m 11 j=false):=hid λh j hj=>by
   rcases kq6 j k with h2|h2
   .exact HP.out j h2
   have:j=k:=by omega
   subst this;exact h
  have HY:=hid (X.out k y);have d:Hid (wrF ws F O m 11 k=(F[k]==3&&(decide (0<wd ws (m+2+k)) && !mg O (wd ws (m+2+k))))):=hid (by
   unfold wrF;rw[kqk y]
   first | rw[if_pos rfl] | rw[if_neg (by decide)]
   rw[show ∀a b:Nat,(some a==some b)=(a==b) from λa b=>rfl])
  have w3:IntKind.i64.wrap ((m:Int)+2+(k:Int))=((m+2+k:Nat):Int):=by rw[kqs _ (by omega)];omega
  have k1:((m+2+k:Nat):Int)<(ws.length:Int):=by omega
  have k0:(0:Int)<=((m+2+k:Nat):Int):=by omega
  have Ji:(k:Int)<(F.length:Int):=by omega
  have Jj:(0:Int)<=(k:Int):=by omega
  obtain⟨p,s⟩:=xq (m+2+k);rw[s] at G d w3 k1 k0;obtain⟨v,R⟩:=xq (wd ws p);rw[R] at G d;obtain⟨f,hf⟩:=xq (F[k]);rw[hf] at y0 d;have o:=hid D;clear s R hf;by_cases Jd:f=3
  .subst Jd;have g:Hid (wrF ws F O m 11 k=(decide (0<v) && !mg O v)):=hid (by rw[d.out];rfl);by_cases Eq:0<v
   .have d1:decide ((0:Int)<(v:Int))=true:=by rw[kqn];omega
    have Y:=hid (λW (U:RdB W W.heap.size OA O)=>oL OA O oc O.length v W rfl (by omega) U T.out);have Jh:=hid (I.out.up D Q);rw[decide_eq_true Eq] at g;obtain⟨q,S⟩:=xq (mg O v);rw[S] at Y g;clear S d;cases q
    .have t:=hid (HY.out (by rw[g.out];rfl));go_wp2_with fail;refine (Y.out _ Jh.out).mono ?_;rintro e w5 ⟨⟨r,rfl,U⟩,rfl⟩;simp only[kvp] at U;go_wp2;go_ret;exact⟨by rw[t.out];rfl,C.out.trans (o.out.mono C.out.size)⟩
    have t:=hid (HS.out (by rw[g.out];rfl));go_wp2_with fail;refine (Y.out _ Jh.out).mono ?_;rintro e w5 ⟨⟨r,rfl,U⟩,rfl⟩;simp only[kvs] at U;go_wp2;go_roundw
    case rel=>exact⟨k+1,by omega,by go_num,t,o.out⟩
    case measure=>simp[intOf];omega
   have t:=hid (HS.out (by rw[g.out,decide_eq_false Eq];rfl));obtain rfl:v=0:=by omega
   clear d g Eq;go_wp2;go_roundw
   case rel=>exact⟨k+1,by omega,by go_num,t,o.out⟩
   case measure=>simp[intOf];omega
  have e1:((f:Int)==3)=false:=by rw[kqi];omega
  have t:=hid (HS.out (by rw[d.out,show (f==3)=false by rw[kqi];exact Jd];rfl));clear Jd d;go_wp2;go_roundw
  case rel=>exact⟨k+1,by omega,by go_num,t,o.out⟩
  case measure=>simp[intOf];omega
 have t:=hid (Jc.out λj hj=>HP.out j (by omega));obtain rfl:k=F.length:=by omega
 go_wp2;go_ret;exact⟨by rw[t.out];rfl,C.out.trans (D.mono C.out.size)⟩
theorem wR(A:Option Addr)(ws:List Nat)(c n t:Nat)(w:World)(hn:ws.length=n)(hs:aj (n:Int)=true)(ht:tyN ws=some t)(hc:n<=c)(g:RdW w w.heap.size A ws)(ho:∀x∈ws,x<18446744073709551616):
 Calls prog 151 #[.slice A n c] w λe w'=>Gl ws t w.heap.size e w'/\Below w.heap.size w w':=by subst hn;have u:=(aa _).1 hs;have k:=hid (rG A ws c ws.length w rfl (by omega) hc g);have q:jf ws=0:=yN.2 ⟨hs,by rw[ht];rfl⟩;unfold yK at k;rw[q,ht] at k;have B:=hid (λW (g:RdW W W.heap.size A ws)=>v6 A ws c ws.length t W rfl (by omega) (by omega) g ho);have y:=hid g;clear hs u q ht g ho;go_enter func151,ntmps151;go_wp2_with fail;refine k.out.mono ?_;rintro e z ⟨⟨a,r,o,rfl⟩,d⟩;simp only[kq9];have l:=d.size;have b:=hid ((d.alloc l (.cells #[.int .i64 a,.int .i64 (t:Int)] 126)).alloc (by simp;omega) (.cells #[.bool r,.bool o] 127));clear d;go_wp2_with fail;refine (B.out _ (y.out.up b.out b.out.size)).mono ?_;rintro e p ⟨⟨v,L,rfl,s⟩,f⟩;have m:=hid (b.out.trans (f.mono b.out.size));have i:=hid s;have hz2:=b.out.size;have j:Hid (∀L v,ub p ((z.alloc (.cells #[.int .i64 a,.int .i64 (t:Int)] 126)).alloc (.cells #[.bool r,.bool o] 127)).heap.size v L->ub p w.heap.size v L):=hid λL v h=>⟨ao h.1 b.out.size,λx C=>ao (h.2 x C) b.out.size⟩;clear s f;go_wp2;go_ret2;exact⟨⟨v,L,rfl,λh=>⟨j.out _ _ (i.out h).1,(i.out h).2⟩⟩,m.out⟩
theorem nm(ht:tyN ws=some t)(hl:blocks ws 128=some l):lay ws=true↔fe ws 16=true/\fe ws 24=true/\gK ws t=true/\slsOk ws=true/\jX l=true/\(∀r,7<=r->r<12->∀b∈aI l,wrK ws (gn ws t 8) (aI l) r b=false)/\∀s∈slL ws,jO (aI l) s=true:=by
 unfold lay;rw[ht,hl];simp only[kqt,kzu,kzh,kx2];constructor
 .rintro ⟨i,d,a,h,f,g,e⟩;refine⟨i,d,a,h,f,λr h1 h2 b c=>?_,e⟩;have:=g (r-7) (by omega) b c;rwa [show 7+(r-7)=r by omega] at this
 rintro ⟨i,d,a,h,f,g,e⟩;exact⟨i,d,a,h,f,λr hr b c=>g (7+r) (by omega) (by omega) b c,e⟩
theorem oK(h:tyN ws=none\/blocks ws 128=none):lay ws=false:=by
 unfold lay;rcases h with h|h
 .rw[h]
 rw[h];cases tyN ws<;>rfl
theorem gm(hl:blocks ws 128=some l){b:Bk}(hb:b∈aI l):∃a z ty nx:Nat,∃mk,b=⟨(a:Int),(z:Int),1,(ty:Int),mk,nx⟩/\128<=a/\a+z<=ws.length/\2<=z/\b=bkAt ws a/\stands ws a=true:=by
 unfold aI at hb;obtain⟨j,c⟩:=kzo.1 hb;rw[kqw] at c;obtain⟨k,m,rfl⟩:=kqz j;obtain⟨a,e,a1,h,a3,f,-⟩:=b9 _ _ hl (by omega) k m;have d:=aH f;rw[e] at c;have i:bkAt ws a=⟨(a:Int),((szAt ws a:Nat):Int),1,(((ar (wd ws a)).typ.toNat:Nat):Int),(ar (wd ws a)).mark,wd ws (a+1)⟩:=by
  have g:(ar (wd ws a)).typ=(((ar (wd ws a)).typ.toNat:Nat):Int):=by unfold ar;dsimp only;omega
  rw[<-g,<-c];rfl
 exact⟨a,szAt ws a,(ar (wd ws a)).typ.toNat,wd ws (a+1),(ar (wd ws a)).mark,by rw[e,i],h,d.2.2,d.1,e,f⟩
theorem Cy(l:List Bk):(aI l).length<=l.length:=by unfold aI;exact kjk _ _
def EF (ws:List Nat) (e:Ending):Prop:=∃r:Int,e=.returned (.int .i64 r)/\0<=r/\(r=0↔lay ws=true)
theorem lO{r:Int}(h:lay ws=false)(hr:0<r):EF ws (.returned (.int .i64 r)):=⟨r,rfl,by omega,by rw[h];constructor<;>intro h;omega;cases h⟩
theorem wy_ok(h:lay ws=true):EF ws (.returned (.int .i64 0)):=⟨0,rfl,by omega,by rw[h];simp⟩
theorem EJ(A:Option Addr)(ws:List Nat)(c n:Nat)(w:World)(hn:ws.length=n)(hs:aj (n:Int)=true)(hc:n<=c)(p:RdW w w.heap.size A ws)(ho:∀x∈ws,x<18446744073709551616):
 Calls prog 93 #[.slice A n c] w λe w'=>EF ws e/\Below w.heap.size w w':=by
 subst hn;have hb:=(aa _).1 hs;have HC:=hid (rG A ws c ws.length w rfl (by omega) hc p);have HR:=hid p;have K:jf ws=if (tyN ws).isSome=true then 0 else 50:=by unfold jf;rw[if_pos hs]
 unfold yK at HC;have HZ:=hid (λa ha W (p:RdW W W.heap.size A ws)=>vT A ws c ws.length a W rfl ha (by omega) p);have V:=hid (λW (p:RdW W W.heap.size A ws)=>(show Calls prog 150 #[.slice A ws.length c,.int .i64 16] W λe w'=>e=.returned (.bool (fe ws 16))/\W=w' from HZ.out 16 (by omega) W p));have U:=hid (λW (p:RdW W W.heap.size A ws)=>(show Calls prog 150 #[.slice A ws.length c,.int .i64 24] W λe w'=>e=.returned (.bool (fe ws 24))/\W=w' from HZ.out 24 (by omega) W p));have Jd:=hid (λW (p:RdW W W.heap.size A ws)=>BJ A ws c ws.length W rfl (by omega) (by omega) p ho);have Ka:=hid (λW (p:RdW W W.heap.size A ws)=>AP A ws c ws.length W rfl hs p ho);unfold TlRes at Jd;cases ht:tyN ws with
 | none =>rw[ht] at HC K;rw[K] at HC;have E:=hid (oK (.inl ht));simp only[kkk,kjy,kzm,if_false] at HC;clear K ht hs hb p ho HZ V U Jd Ka;go_enter func93,ntmps93;go_wp2_with fail;refine HC.out.mono ?_;rintro e w1 ⟨⟨a,b0,b1,rfl⟩,M⟩;have Jr:=M.size;go_wp2;go_ret;exact⟨lO E.out (by decide),(M.alloc Jr _).alloc (by simp;omega) _⟩
 | some t =>
  have Lw:=uE ht;rw[ht] at HC K;rw[K] at HC;simp only[kq9,kkd,if_true] at HC;have Jq:=hid (λW (p:RdW W W.heap.size A ws)=>wR A ws c ws.length t W rfl hs ht hc p ho);unfold Gl at Jq;have Ke:=hid (λl G=>nm (ws:=ws) (t:=t) (l:=l) ht G);have Lo:=hid (λh=>oK (ws:=ws) (.inr h));have Q:Hid ((fe ws 16=false\/fe ws 24=false\/gK ws t=false\/slsOk ws=false\/xe ws=false)->lay ws=false):=hid λh=>by
   cases y:lay ws with
   | false=>rfl
   | true =>
    cases G:blocks ws 128 with
    | none=>rw[Lo.out G] at y;cases y
    | some l =>obtain⟨a1,a2,a3,a4,a5,-⟩:=(Ke.out l G).1 y;rw[a1,a2,a3,a4,iw G,a5] at h;simp at h
  have Kt:=hid (λl G=>iw (ws:=ws) (l:=l) G);have Lc:=hid (λl (G:blocks ws 128=some l)=>(bG (by omega) _ _ G (by omega) (by omega) (by omega)).1);have HO:=hid ho;have Jv:256<=ws.length:=by omega
  have H:ws.length<=2048:=by omega
  clear K hs hb p ho HZ ht;go_enter func93,ntmps93;go_wp2_with fail;refine HC.out.mono ?_;rintro e w1 ⟨⟨a,b0,b1,rfl⟩,M⟩;have Jr:=M.size;have o:=hid ((M.alloc Jr (.cells #[.int .i64 a,.int .i64 (t:Int)] 126)).alloc (by simp;omega) (.cells #[.bool b0,.bool b1] 127));clear M;go_wp2_with fail;refine (V.out _ (HR.out.up o.out o.out.size)).mono ?_;rintro e w2 ⟨rfl,rfl⟩;cases Je:fe ws 16
  .have E:=hid (Q.out (.inl Je));clear Je;go_wp2;go_ret;exact⟨lO E.out (by decide),o.out⟩
  have Kj:=hid Je;clear Je;go_wp2_with fail;refine (U.out _ (HR.out.up o.out o.out.size)).mono ?_;rintro e w2 ⟨rfl,rfl⟩;cases Ji:fe ws 24
  .have E:=hid (Q.out (.inr (.inl Ji)));clear Ji;go_wp2;go_ret;exact⟨lO E.out (by decide),o.out⟩
  have Kr:=hid Ji;clear Ji;go_wp2_with fail;refine (Jq.out _ (HR.out.up o.out o.out.size)).mono ?_;rintro e w3 ⟨⟨v,L,rfl,hT⟩,Km⟩;have R:=hid (o.out.trans (Km.mono o.out.size));have Ko:=hid hT;have Lf:=hid (HR.out.up R.out R.out.size);clear hT Km;cases D:gK ws t
  .have E:=hid (Q.out (.inr (.inr (.inl D))));clear D;go_wp2;go_ret;exact⟨lO E.out (by decide),R.out⟩
  have Lk:=hid D;obtain⟨Jy,Kb⟩:=Ko.out D;obtain⟨TA,tc,rfl⟩:=aJ Jy.1;have Lh:=hid (RdL.of_own Jy rfl);have Kw:=hid Kb;have Ky:∀x∈L,x.l.length<=8:=λx hx=>by
   have:x.l∈L.map Ty.l:=kju hx;rw[Kb] at this;unfold gn at this;obtain⟨i,-,e⟩:=kzw.1 this;rw[<-e];exact kR _ _
  have Js:=hid Ky;clear D Jy Kb Ky Ko;go_wp2_with fail;refine (Jd.out _ Lf.out).mono ?_;rintro e w4 ⟨⟨SA,sn,sc,rfl,hS⟩,Jb⟩;have N:=hid (R.out.trans (Jb.mono R.out.size));have Kx:=hid hS;have Kp:=hid (HR.out.up N.out N.out.size);have Jm:=hid (Lh.out.up Jb Jb.size);clear hS Jb;cases Y:slsOk ws
  .have E:=hid (Q.out (.inr (.inr (.inr (.inl Y)))));clear Y;go_wp2;go_ret;exact⟨lO E.out (by decide),N.out⟩
  have Kl:=hid Y;obtain⟨Lj,Ma,Ln⟩:=Kx.out Y;have Jf:=hid Lj;have Ll:=hid Ln;clear Y Ln Kx Lj;go_wp2_with fail;refine (Ka.out _ Kp.out).mono ?_;rintro e w5 ⟨⟨PA,pn,pc,rfl,hP⟩,J⟩;have Jj:=hid (N.out.trans (J.mono N.out.size));have Li:=hid hP;have Jo:=hid (Jm.out.up J J.size);have Jp:=hid (show RdS w5 w5.heap.size SA (slL ws) from Rd.up Ll.out J J.size);clear hP J;cases Z:xe ws
  .have E:=hid (Q.out (.inr (.inr (.inr (.inr Z)))));clear Z;go_wp2;go_ret;exact⟨lO E.out (by decide),Jj.out⟩
  obtain⟨l,G,rfl,Lr,La⟩:=Li.out Z;have Lu:=Lc.out l G;have Kg:=hid (Ke.out l G);have Kz:Hid (jX l=true):=hid (by rw[<-Kt.out l G];exact Z);have Jw:=hid (rP PA l pc l.length w5 rfl (by omega) La);have Le:=Cy l;have Ju:=hid (λb hb=>gm (b:=b) G hb);obtain⟨O,hO⟩:=xq (aI l);rw[hO] at Jw Kg Le Ju;clear Z G La hO Li Ke Lo Lc Kt;go_wp2_with fail;refine Jw.out.mono ?_;rintro e w6 ⟨⟨OA,on,oc,rfl,rfl,Md,Kv⟩,P⟩;have F:=hid (Jj.out.trans (P.mono Jj.out.size));have Eq:=hid (Jo.out.up P P.size);have Lb:=hid (show RdS w6 w6.heap.size SA (slL ws) from Rd.up Jp.out P P.size);have Jz:=hid Kv;have Lv:=hid (HR.out.up F.out F.out.size);clear P Kv;have Jl:Hid (∀b∈O,0<=b.at_/\b.at_<=1000000):=hid λb hb=>by
   obtain⟨a,z,S,nx,mk,rfl,a1,a2,-⟩:=Ju.out b hb;dsimp only;omega
  have Kd:Hid (∀(r j a z S nx:Nat) (mk:Bool) (hj:j<O.length),O[j]=⟨(a:Int),(z:Int),1,(S:Int),mk,nx⟩->7<=r->r<=11->(9<=r->wrK ws (L.map Ty.l) O 8 O[j]=false)->a+z<=ws.length->∀W,Below w6.heap.size w6 W->Calls prog 155 #[.slice A ws.length c,.slice TA L.length tc,.slice OA O.length oc,.agg #[.int .i64 (a:Int),.int .i64 (z:Int),.int .i64 1,.int .i64 (S:Int),.bool mk,.int .u64 (nx:Int)],.int .i64 (r:Int)] W λe w'=>e=.returned (.bool (wrK ws (L.map Ty.l) O r O[j]))/\Below W.heap.size W w'):=hid λr j a z S nx mk hj e h7 h11 h8 Mb W hW=>by
   have ek:∀r,wrK ws (L.map Ty.l) O r O[j]=wrB ws (L.map Ty.l) O a z S mk nx r:=λr=>by
    rw[e];unfold wrK;simp only[kqj]
   rw[ek r];by_cases h9:9<=r
   .have h8:=h8 h9;rw[ek 8] at h8;have h8:(!decide (S<(L.map Ty.l).length)||aY (((L.map Ty.l)[S]?).getD []).length != z)=false:=h8;rw[kzl] at h8;have D:S<L.length:=by
     have:=h8.1;rw[kz3] at this
     simpa using this
    have hz:=h8.2;rw[kxl,kqk D,kqq] at hz;exact sF A TA OA ws L O c ws.length tc L.length oc O.length a z S nx r 1 mk W rfl rfl H (by omega) rfl D (Js.out _ (kqp D)) hz.symm Mb (by omega) (Eq.out.up hW hW.size) (Lv.out.up hW hW.size) (Jz.out.up hW hW.size) Jl.out
   exact rX A TA OA ws L O c ws.length tc L.length oc O.length a z S nx r 1 mk W rfl Js.out (by omega) (Eq.out.up hW hW.size)
  rw[Kw.out] at Kd;have Jk:Hid (lay ws=true↔(∀r,7<=r->r<12->∀b∈O,wrK ws (gn ws t 8) O r b=false)/\∀s∈slL ws,jO O s=true):=hid (by
   rw[Kg.out];exact⟨λh=>h.2.2.2.2.2,λh=>⟨Kj.out,Kr.out,Lk.out,Kl.out,Kz.out,h⟩⟩)
  have Lz:O.length<=1000000:=by omega
  have Lp:=hid (λW (p:RdB W W.heap.size OA O) v=>oL OA O oc O.length v W rfl Lz p Jl.out);obtain⟨T,Kn⟩:=xq (gn ws t 8);rw[Kn] at Kd Jk;have Ku:O.length<=2048:=by omega
  clear Kn Kg Kz Lk Kl Kj Kr Kw Eq Jo Jm Lh Js Lu Le Lr Ma Md Jw Lf Kp Ll Jp R N Jj o Q Jq Jd Ka V U HC Ku Jv H Lw;go_wp2_with fail;go_loopw [11] (λi wr=>∃k:Nat,7<=k/\k<=12/\i=.int .i64 k/\Hid (∀r,7<=r->r<k->∀b∈O,wrK ws T O r b=false)/\Below w6.heap.size w6 wr) (λi _=>12-(intOf i).toNat)
  case atStart=>exact⟨7,kqd _,by omega,rfl,hid λr h1 h2=>absurd h2 (by omega),kql _ _⟩
  obtain⟨k,Kc,hk,rfl,HP,hB⟩:=hrel;have hz:=hB.size;by_cases Jc:k<=11
  .have hki:decide ((k:Int)<=11)=true:=by rw[kqn];omega
   have hkn:decide (k<=11)=true:=by rw[kqn];exact Jc
   have Mc:=hid hB;have Lq:Hid ((∀b∈O,wrK ws T O k b=false)->∀r,7<=r->r<k+1->∀b∈O,wrK ws T O r b=false):=hid λh r h1 h2=>by
    rcases kq6 r k with h3|h3
    .exact HP.out r h1 h3
    have:r=k:=by omega
    subst this;exact h
   obtain⟨wk,Lm⟩:=xq wr;rw[Lm] at hB Mc hz |-;clear Lm;go_wp2_with fail;go_loopw [12] (λi wr=>∃j:Nat,j<=O.length/\i=.int .i64 j/\Hid (∀q (h:q<O.length),q<j->wrK ws T O k O[q]=false)/\Below wk.heap.size wk wr) (λi _=>O.length-(intOf i).toNat)
   case atStart=>exact⟨0,kqy _,rfl,hid λq h h2=>absurd h2 (by omega),kql _ _⟩
   obtain⟨j,hj,rfl,HQ,Ja⟩:=hrel;have Ly:=Ja.size;have C:=hB.trans (Ja.mono hz);by_cases m:j<O.length
   .obtain ⟨a,z,S,nx,mk,ej,a1,a2,-⟩:=Ju.out O[j] (kqp m);have Kf:=hid (Kd.out k j a z S nx mk m ej Kc Jc (λh9=>HP.out 8 (by omega) (by omega) _ (kqp m)) a2 wr C);obtain⟨b,off,rfl,hb,p0,p1,p2,p3,p4,p5⟩:=RdB.at_ (Rd.below Jz.out C) m;rw[ej] at p0 p1 p2 p3 p4 p5;dsimp only at p0 p1 p2 p3 p4 p5;have f:Hid (wrK ws T O k O[j]=false->∀q (h:q<O.length),q<j+1->wrK ws T O k O[q]=false):=hid λh q y h2=>by
     rcases kq6 q j with h3|h3
     .exact HQ.out q y h3
     have:q=j:=by omega
     subst this;exact h
    have B:Hid (wrK ws T O k O[j]=true->lay ws=false):=hid λh=>by
     cases y:lay ws with
     | false=>rfl
     | true=>rw[(Jk.out.1 y).1 k Kc (by omega) _ (kqp m)] at h;cases h
    obtain⟨q,y⟩:=xq (wrK ws T O k O[j]);rw[y] at Kf f B;have Ks:(j:Int)<(O.length:Int):=by omega
    have Ls:(0:Int)<=(j:Int):=by omega
    have Lg:(0:Int)<(k:Int):=by omega
    have Kq:=hid Ja;have I:=hid C;clear y ej a1 a2 C;cases q
    .have HN:=hid (f.out rfl);clear f B;go_wp2_with fail;refine Kf.out.mono ?_;rintro e w8 ⟨rfl,X⟩;have Kh:=hid (Kq.out.trans (X.mono Ly));clear X;go_wp2;go_roundw
     case rel=>exact⟨j+1,by omega,by go_num,HN,Kh.out⟩
     case measure=>simp[intOf];omega
    have E:=hid (B.out rfl);clear f B;go_wp2_with fail;refine Kf.out.mono ?_;rintro e w8 ⟨rfl,X⟩;have Kh:=hid (F.out.trans ((I.out.trans (X.mono (by have:=I.out.size;omega))).mono F.out.size));have Lx:=hid Lg;clear X Lg;go_wp2;go_ret;exact⟨lO E.out Lx.out,Kh.out⟩
   have HN:=hid (Lq.out λb hb=>by
    obtain⟨q,y,rfl⟩:=kqz hb;exact HQ.out q y (by omega))
   have hjn:decide ((j:Int)<(O.length:Int))=false:=by rw[kqh];omega
   have hjnn:decide (j<O.length)=false:=by rw[kqh];exact m
   have I:=hid C;clear m C;go_wp2;go_roundw
   case rel=>exact⟨k+1,by omega,by omega,by go_num,HN,I.out⟩
   case measure=>simp[intOf];omega
  have Kk:Hid (∀r,7<=r->r<12->∀b∈O,wrK ws T O r b=false):=hid λr h1 h2=>HP.out r h1 (by omega);have d:=hid hB;have hkd:decide ((k:Int)<=11)=false:=by rw[kqh];omega
  have hkdn:decide (k<=11)=false:=by rw[kqh];exact Jc
  clear HP Jc hk Kc;go_wp2_with fail;go_loopw [13] (λi wr2=>∃j:Nat,j<=16/\i=.int .i64 j/\Hid (∀q (h:q<(slL ws).length),q<j->jO O (slL ws)[q]=true)/\Below w6.heap.size w6 wr2) (λi _=>16-(intOf i).toNat)
  case atStart=>exact⟨0,kqy _,rfl,hid λq h h2=>absurd h2 (by omega),d.out⟩
  obtain⟨j,hj,rfl,HQ,Ja⟩:=hrel;have d:=hid Ja
  rename World=>wq
  by_cases m:j<16
  .have Ld:j<(slL ws).length:=by rw[eZ];exact m
   obtain⟨b,off,rfl,hb,p0,p1,p2⟩:=RdS.at_ (Rd.below Lb.out d.out) Ld;have f:Hid (jO O (slL ws)[j]=true->∀q (h:q<(slL ws).length),q<j+1->jO O (slL ws)[q]=true):=hid λh q y h2=>by
    rcases kq6 q j with h3|h3
    .exact HQ.out q y h3
    have:q=j:=by omega
    subst this;exact h
   have B:Hid (jO O (slL ws)[j]=false->lay ws=false):=hid λh=>by
    cases y:lay ws with
    | false=>rfl
    | true=>rw[(Jk.out.1 y).2 _ (kqp Ld)] at h;cases h
   have Jg:0<=(slL ws)[j].at_/\(slL ws)[j].at_<=4294967295:=by rw[mR];exact⟨(gA (wd ws (112+j))).2.2.1,(gA (wd ws (112+j))).2.2.2⟩
   obtain⟨x,hx⟩:=xq ((slL ws)[j]);rw[hx] at p0 p1 p2 f B Jg;obtain⟨g,u,at_⟩:=x;dsimp only at p0 p1 p2 Jg;obtain⟨v,rfl⟩:=kq1 Jg.1;have Jh:Hid (jO O ⟨g,u,((v:Nat):Int)⟩=(!u||mg O v)):=hid (by unfold jO;rw[kqj]);have w9:IntKind.u64.wrap (v:Int)=(v:Int):=kzt _ (by omega);have Ks:(j:Int)<(sn:Int):=by rw[Jf.out];omega
   have Lt:decide ((j:Int)<(sn:Int))=true:=by rw[kqn];exact Ks
   have Ki:decide (j<sn)=true:=by rw[kqn,Jf.out];exact m
   have Ls:(0:Int)<=(j:Int):=by omega
   have Jt:=hid (Lp.out wq (Jz.out.up d.out d.out.size) v);clear hx Jg;cases u
   .have HN:=hid (f.out (by rw[Jh.out];rfl));clear f B;go_wp2;go_roundw
    case rel=>exact⟨j+1,by omega,by go_num,HN,d.out⟩
    case measure=>simp[intOf];omega
   obtain⟨q,y⟩:=xq (mg O v);rw[y] at Jt Jh;clear y;cases q
   .have E:=hid (B.out (by rw[Jh.out];rfl));clear f B;go_wp2_with fail;refine Jt.out.mono ?_;rintro e w8 ⟨⟨r,rfl,p⟩,rfl⟩;simp only[kvp] at p;go_wp2;go_ret;exact⟨lO E.out (by decide),F.out.trans (d.out.mono F.out.size)⟩
   have HN:=hid (f.out (by rw[Jh.out];rfl));clear f B;go_wp2_with fail;refine Jt.out.mono ?_;rintro e w8 ⟨⟨r,rfl,p⟩,rfl⟩;simp only[kvs] at p;go_wp2;go_roundw
   case rel=>exact⟨j+1,by omega,by go_num,HN,d.out⟩
   case measure=>simp[intOf];omega
  have E:Hid (lay ws=true):=hid (Jk.out.2 ⟨Kk.out,λs hs=>by
   obtain⟨q,y,rfl⟩:=kqz hs;exact HQ.out q y (by rw[eZ] at y;omega)⟩)
  have Lt:decide ((j:Int)<(sn:Int))=false:=by rw[kqh,Jf.out];omega
  have Ki:decide (j<sn)=false:=by rw[kqh,Jf.out];exact m
  go_wp2;go_ret;exact⟨wy_ok E.out,F.out.trans (d.out.mono F.out.size)⟩
theorem v7(A:Option Addr)(ws:List Nat)(c n:Nat)(w:World)(hn:ws.length=n)(hm:n<=9223372036854775807)(hc:n<=c)(d:RdW w w.heap.size A ws)(ho:∀x∈ws,x<18446744073709551616):
 Calls prog 13 #[.slice A n c] w λe w'=>e=.returned (.int .i64 (cc ws))/\Below w.heap.size w w':=by
 subst hn;have f:=hid (λW=>lX A ws.length c W hm);have k:Calls prog 49 #[.slice A ws.length c] w λe w'=>(∃r:Int,e=.returned (.tuple #[.int .i64 r,.int .i64 (kq ws.length)])/\0<=r/\(aj (ws.length:Int)=true->(r=0↔lay ws=true)))/\Below w.heap.size w w':=by
  cases b:aj (ws.length:Int)
  .have t:=hid (bD b);rw[bD b] at f;have s:Hid (∀ {p:Prop},false=true->p):=hid λh=>by cases h
   clear d ho hc b;go_enter func49,ntmps49;go_wp2_with fail;refine (f.out _).mono ?_;rintro e m ⟨rfl,rfl⟩;go_wp2;go_ret2;exact⟨⟨0,by rw[t.out];rfl,by omega,λh=>s.out h⟩,kql _ _⟩
  have t:=hid (aX b);rw[aX b] at f;have l:=hid (EJ A ws c ws.length w rfl b hc d ho);unfold EF at l;clear d ho hc b;go_enter func49,ntmps49;go_wp2_with fail;refine (f.out _).mono ?_;rintro e m ⟨rfl,rfl⟩;go_wp2_with fail;refine l.out.mono ?_;rintro e m ⟨⟨r,rfl,j,d⟩,g⟩;have u:=hid (And.intro j d);clear j d;go_wp2;go_ret2;exact⟨⟨r,by rw[t.out];rfl,u.out.1,λ_=>u.out.2⟩,g⟩
 have i:=hid k;have a:Hid (cc ws=if aj (ws.length:Int)=true then (if lay ws=true then 0 else 50) else 8):=hid rfl;clear k d ho hc f;cases b:aj (ws.length:Int)
 .rw[bD b] at i;rw[b] at a;simp only[kzm,if_false] at a;clear b;go_enter func13,ntmps13;go_wp2_with fail;refine i.out.mono ?_;rintro e m ⟨⟨r,rfl,-,-⟩,g⟩;go_wp2;go_ret;exact⟨by rw[a.out];rfl,g⟩
 rw[aX b,b] at i;rw[b] at a;simp only[if_true] at a;clear b;cases o:lay ws
 .rw[o] at i a;clear o;go_enter func13,ntmps13;go_wp2_with fail;refine i.out.mono ?_;rintro e m ⟨⟨r,rfl,j,d⟩,g⟩;have q:r≠0:=λh=>by have:=(d trivial).1 h;cases this
  have d1:decide (0<r)=true:=by rw[kqn];omega
  clear d q j;go_wp2;go_ret;exact⟨by rw[a.out];rfl,g⟩
 rw[o] at i a;clear o;go_enter func13,ntmps13;go_wp2_with fail;refine i.out.mono ?_;rintro e m ⟨⟨r,rfl,j,d⟩,g⟩;obtain rfl:r=0:=(d trivial).2 (by first|exact trivial|rfl);clear d j;go_wp2;go_ret;exact⟨by rw[a.out];rfl,g⟩
end Go.Proofs.YtpcajamacpbjcaaGreat
