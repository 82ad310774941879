/- Texts laid together: Tys WaP R18 LyP R19A Seq R19B R19C. -/
import Derived.Test.YtpcajamacpbjcaaGreatZGH
import Derived.Test.YtpcajamacpbjcaaGreatZKStg2
import Derived.Test.YtpcajamacpbjcaaGreatZKRef15
import Derived.Test.YtpcajamacpbjcaaGreatZKImage
import Derived.Test.YtpcajamacpbjcaaGreatZKRch
import Derived.Test.YtpcajamacpbjcaaGreatZKRefs
import Derived.Test.YtpcajamacpbjcaaGreatZKHead
import Derived.Test.YtpcajamacpbjcaaGreatZKSup
import Derived.RowKit
import Derived.OrdersHeld
import Derived.Deep.RegionHeld
import Derived.BigQuiet
set_option maxHeartbeats 16000000
set_option maxRecDepth 100000
set_option linter.all false
namespace Go.Proofs.YtpcajamacpbjcaaGreat
open Lib (hid)
open Go.RowKit
variable {ops:Array Oper}{O l:List Bk}{ws:List Nat}{L:List Ty}{B H id k t v:Nat}{o:Oper}{A:Option Addr}{P:Program}{w w':World}
open Go.Proofs.Tryz
theorem oN{l:List Ty}(h:Rd w B A (l.flatMap Ty.cells))(hk:k<l.length):
 ∃b a,A=some ⟨b,a,none⟩/\b<B/\w.cell? ⟨b,a+k,none⟩=some (.slice l[k].A l[k].l.length l[k].c):=by obtain⟨b,a,e,d,f⟩:=Rd.at_flat Ty.len h (by omega) hk;have:=f 0 (by omega);simp only[kxm,kz8] at this;exact⟨b,a,e,d,this⟩
def uU (w:World) (H:Nat) (v:Value) (L:List Ty):Prop:=w.ownsRow H 113 1 v L.length (L.flatMap Ty.cells)/\∀x∈L,w.ownsRow H 5 1 (.slice x.A x.l.length x.c) x.l.length (x.l.flatMap bu)
theorem CT:(prog.info? 113).map (λi=>(i.zero,i.size,i.bytes))=some (some (.slice none 0 0),1,24):=by kernel_rfl
def Dq (ws:List Nat) (t i:Nat):Bool:=if i<t then cr (wd ws (96+2*i)) (wd ws (96+2*i+1)) else wd ws (96+2*i)==0&&wd ws (96+2*i+1)==0
def yf (ws:List Nat) (t k:Nat):Prop:=∀i,i<k->Dq ws t i=true
def ib (ws:List Nat) (t:Nat):Bool:=(List.range 8).all λi=>Dq ws t i
theorem jz(ws:List Nat)(t:Nat):ib ws t=true↔yf ws t 8:=by unfold ib yf;rw[kzu];exact⟨λh i a=>h i (kzj.2 a),λh i a=>h i (kzj.1 a)⟩
theorem oO(h:yf ws t k)(h1:Dq ws t k=true):yf ws t (k+1):=λi hi=>by
 rcases kq6 i k with a|a
 .exact h i a
 .have:i=k:=by omega
  subst this;exact h1
theorem sU(hk:k<8)(h:Dq ws t k=false):ib ws t=false:=by
 cases a:ib ws t with
 | false=>rfl
 | true=>rw[(jz ws t).1 a k hk] at h;cases h
def gJ (ws:List Nat) (t k:Nat):List (List Nat):=(List.range (min t k)).map λi=>bp (wd ws (96+2*i)) (wd ws (96+2*i+1))
theorem Cd(h:k<t):gJ ws t (k+1)=gJ ws t k++[bp (wd ws (96+2*k)) (wd ws (96+2*k+1))]:=by unfold gJ;rw[kvi (by omega),kvi (by omega),kk5,kjo];rfl
theorem zz(h:t<=k):gJ ws t (k+1)=gJ ws t k:=by unfold gJ;rw[kxc (by omega),kxc (by omega)]
theorem vT(ws:List Nat)(t k:Nat):(gJ ws t k).length=min t k:=by simp[gJ]
theorem rt{wb:World}{v v1:Value}{x:Ty}(h:∀y∈L,w.ownsRow H 5 1 (.slice y.A y.l.length y.c) y.l.length (y.l.flatMap bu))(hx:w.ownsRow H 5 1 (.slice x.A x.l.length x.c) x.l.length (x.l.flatMap bu))(hrow:wb.ownsRow H 113 1 v L.length (L.flatMap Ty.cells))(hwb:∀ {A:Option Addr} {n c:Nat} {xs:List Value},w.ownsRow H 5 1 (.slice A n c) n xs->wb.ownsRow H 5 1 (.slice A n c) n xs)(hg:wb.grownBy w' v.ownBlock)(h1:w'.ownsRow H 113 1 v1 (L.length+1) (L.flatMap Ty.cells++x.cells)):uU w' H v1 (L++[x]):=by
 refine⟨by rw[cq,kqu];exact h1,λy a=>?_⟩;rcases kz0.1 a with a|a
 .exact bC (hwb (h y a)) hg (fO (hwb (h y a)) hrow (by decide))
 rw[kq1] at a;subst a;exact bC (hwb hx) hg (fO (hwb hx) hrow (by decide))
def Ii (ws:List Nat) (t H:Nat) (e:Ending) (w':World):Prop:=∃v L,e=.returned (.tuple #[v,.bool (ib ws t)])/\(ib ws t=true->uU w' H v L/\L.map Ty.l=gJ ws t 8)
theorem xF(A:Option Addr)(ws:List Nat)(c n t:Nat)(w:World)(hn:ws.length=n)(h2:256<=n)(hm:n<=2048)(hr:RdW w w.heap.size A ws)(ho:∀x∈ws,x<18446744073709551616):
 Calls prog 211 #[.slice A n c,.int .i64 (t:Int)] w λe w'=>Ii ws t w.heap.size e w'/\Below w.heap.size w w':=by
 subst hn;have HR:=hid hr;have Kk:Hid (∀k,wd ws k<18446744073709551616):=hid (fM ho);clear hr ho;obtain⟨i2,hi,Y,Z,Kb⟩:=kzw CT;have HJ:=hid hi;have Kh:=hid Y;have Kf:=hid Z;have Ki:=hid Kb;clear hi Y Z Kb;go_enter func211,ntmps211;go_wp2_with fail;go_loopw [6,7] (λv i wr=>∃(k:Nat) (L:List Ty),k<=8/\i=.int .i64 k/\Hid (yf ws t k)/\Hid (L.map Ty.l=gJ ws t k)/\L.length<=k/\Hid (uU wr w.heap.size v L)/\Below w.heap.size w wr) (λ_ i _=>8-(intOf i).toNat)
 case atStart=>exact⟨0,[],kqy _,rfl,hid (λi h=>absurd h (by omega)),hid (by simp[gJ]),kqa _,hid ⟨kza _ _ _ _,λx hx=>absurd hx (by simp)⟩,kqk _ _⟩
 obtain⟨k,L,hk,rfl,V,R,hLk,C,O⟩:=hrel;have U:=O.size;by_cases Kd:k<8
 .obtain ⟨b,g,rfl,hb,h0⟩:=RdW.at_ (Rd.below HR.out O) (show 96+2*k<ws.length by omega);obtain⟨b',off',e',-,h1⟩:=RdW.at_ (Rd.below HR.out O) (show 96+2*k+1<ws.length by omega);cases e';rw[<-cA] at h0 h1;have d:=hid (λW=>yQ (wd ws (96+2*k)) (wd ws (96+2*k+1)) W (Kk.out _));have u:=hid (λh=>oO V.out h);have o:=hid (λh=>sU (ws:=ws) (t:=t) Kd h);have f:Hid (Dq ws t k=if k<t then cr (wd ws (96+2*k)) (wd ws (96+2*k+1)) else wd ws (96+2*k)==0&&wd ws (96+2*k+1)==0):=hid rfl;have s:=hid (λh=>Cd (ws:=ws) (t:=t) (k:=k) h);have J:=hid (λh=>zz (ws:=ws) (t:=t) (k:=k) h);have i1:IntKind.i64.wrap ((2:Int)*(k:Int))=2*(k:Int):=kqs _ (by omega);have i2':IntKind.i64.wrap ((96:Int)+2*(k:Int))=((96+2*k:Nat):Int):=by rw[kqs _ (by omega)];omega
  have i3:IntKind.i64.wrap (((96+2*k:Nat):Int)+1)=((96+2*k+1:Nat):Int):=by rw[kqs _ (by omega)];omega
  have j1:((96+2*k:Nat):Int)<(ws.length:Int):=by omega
  have j2:(0:Int)<=((96+2*k:Nat):Int):=by omega
  have j3:((96+2*k+1:Nat):Int)<(ws.length:Int):=by omega
  have j4:(0:Int)<=((96+2*k+1:Nat):Int):=by omega
  have hk1:(k:Int)<8:=by omega
  obtain⟨p,hp⟩:=xq (96+2*k);rw[hp] at h0 h1 d f s i2' i3 j1 j2 j3 j4;obtain⟨q,hq⟩:=xq (p+1);rw[hq] at h1 d f s i3 j3 j4;obtain⟨x,hx⟩:=xq (wd ws p);obtain⟨y,T⟩:=xq (wd ws q);rw[hx] at h0 d f s;rw[T] at h1 d f s;have HB:=hid O;clear hx T hp hq;by_cases m:k<t
  .have d1:decide ((k:Int)<(t:Int))=true:=by rw[kqn];omega
   have d1n:decide (k<t)=true:=by rw[kqn];exact m
   have d2:decide ((t:Int)<=(k:Int))=false:=by rw[kqc];omega
   have d2n:decide (t<=k)=false:=by rw[kqc];omega
   cases z:cr x y
   .have D:=hid (o.out (by rw[f.out,if_pos m,z]));have F:eN x y=50:=by unfold eN;rw[z];rfl
    have Ka:bp x y=[]:=by unfold bp;rw[z];rfl
    unfold mj at d;rw[F,Ka] at d;clear z F Ka f o u s J m;go_wp2_with fail
    go_region_held3 (λX:World=>X.cell? ⟨b,g+p,none⟩=some (.int .u64 (x:Int))/\X.cell? ⟨b,g+q,none⟩=some (.int .u64 (y:Int))) (go_keep) (fail)
    go_wp2_with fail;refine (d.out _).mono ?_;rintro e S ⟨⟨A3,c3,rfl,-⟩,a⟩;have I:=HB.out.drew.trans (a.mono U);clear a;go_wp2;go_ret2;exact⟨⟨.slice none 0 0,[],by rw[D.out];rfl,λh=>by rw[D.out] at h;cases h⟩,I⟩
   have D:=hid (u.out (by rw[f.out,if_pos m,z]));have K:=hid (s.out m);have F:eN x y=0:=by unfold eN;rw[z];rfl
   unfold mj at d;rw[F] at d;obtain⟨l,hl⟩:=xq (bp x y);rw[hl] at d K;clear z F hl f o u s J m;go_wp2_with fail
   go_region_held3 (λX:World=>X.cell? ⟨b,g+p,none⟩=some (.int .u64 (x:Int))/\X.cell? ⟨b,g+q,none⟩=some (.int .u64 (y:Int))) (go_keep) (fail)
   go_wp2_with fail;refine (d.out _).mono ?_;rintro e S ⟨⟨A3,c3,rfl,G⟩,a⟩;have I:=HB.out.drew.trans (a.mono U);have Eq:=I.size;have E:=ai (show wr.drew.ownsRow _ _ _ _ _ _ from C.out.1) a (kqa _);have Km:Hid (∀y∈L,S.ownsRow w.heap.size 5 1 (.slice y.A y.l.length y.c) y.l.length (y.l.flatMap bu)):=hid λy T=>ai (show wr.drew.ownsRow _ _ _ _ _ _ from C.out.2 y T) a (kqa _);have Ke:=hid (ao G (show w.heap.size<=wr.drew.heap.size from U));have Kc:=hid E;have B:=hid I;clear a G I C;go_wp2_with (at_builtin;refine kze _ rfl _ _ 69 rfl w.heap.size 113 i2 _ 1 24 underlying69 HJ.out Kh.out Kf.out Ki.out rfl (by decide) _ _ _ rfl (E.alloc _) ⟨_,0,none⟩ 1 1 [.slice A3 l.length c3] rfl rfl (cI _ _ _) (by simp[Value.oneCell']) (by unfold maxLen;omega) (by omega) (aS Eq) ?_;intro v1 w6 H M _;have Kj:=hid (aE B.out Eq E M);have Kl:=hid (rt (x:=⟨A3,c3,l⟩) Km.out Ke.out (Kc.out.alloc _) (λh=>h.alloc _) M H);clear H M);go_roundw
   case rel=>exact⟨k+1,L++[⟨A3,c3,l⟩],by omega,by go_num,D,hid (by rw[kjo,R.out,K.out];rfl),by simp;omega,Kl,Kj.out⟩
   case measure=>simp[intOf];omega
  have d1:decide ((k:Int)<(t:Int))=false:=by rw[kqc];omega
  have d1n:decide (k<t)=false:=by rw[kqc];exact m
  have d2:decide ((t:Int)<=(k:Int))=true:=by rw[kqn];omega
  have d2n:decide (t<=k)=true:=by rw[kqn];omega
  have K:=hid (J.out (by omega));have j:Hid (Dq ws t k=(x==0&&y==0)):=hid (by rw[f.out,if_neg m]);have P:=hid (λW=>(d.out W).mono (R':=λe w'=>(∃v r,e=.returned (.tuple #[v,.int .i64 r]))/\Below W.heap.size W w') (by rintro e w' ⟨⟨A,c,rfl,-⟩,O⟩;exact⟨⟨_,_,rfl⟩,O⟩));clear d f s J m;by_cases N:x=0
  .subst N;by_cases Q:y=0
   .subst Q;have D:=hid (u.out (by rw[j.out];rfl));clear o u j;go_wp2_with fail
    go_region_held3 (λX:World=>X.cell? ⟨b,g+p,none⟩=some (.int .u64 ((0:Nat):Int))/\X.cell? ⟨b,g+q,none⟩=some (.int .u64 ((0:Nat):Int))) (go_keep) (fail)
    go_wp2_with fail;refine (P.out _).mono ?_;rintro e S ⟨⟨v3,r3,rfl⟩,a⟩;have B:=hid (HB.out.drew.trans (a.mono U));have Kg:Hid (uU S w.heap.size u6 L):=hid ⟨ai (show wr.drew.ownsRow _ _ _ _ _ _ from C.out.1) a (kqa _),λy T=>ai (show wr.drew.ownsRow _ _ _ _ _ _ from C.out.2 y T) a (kqa _)⟩;clear a;go_wp2;go_roundw
    case rel=>exact⟨k+1,L,by omega,by go_num,D,hid (by rw[R.out,K.out]),by omega,Kg,B.out⟩
    case measure=>simp[intOf];omega
   have D:=hid (o.out (by rw[j.out,show (y==0)=false by rw[kqi];exact Q];rfl));have d3:decide ((0:Int)<(y:Int))=true:=by rw[kqn];omega
   have d3n:decide (0<y)=true:=by rw[kqn];omega
   clear o u j Q;go_wp2_with fail
   go_region_held3 (λX:World=>X.cell? ⟨b,g+p,none⟩=some (.int .u64 ((0:Nat):Int))/\X.cell? ⟨b,g+q,none⟩=some (.int .u64 (y:Int))) (go_keep) (fail)
   go_wp2_with fail;refine (P.out _).mono ?_;rintro e S ⟨⟨v3,r3,rfl⟩,a⟩;have B:=hid (HB.out.drew.trans (a.mono U));clear a;go_wp2;go_ret2;exact⟨⟨.slice none 0 0,[],by rw[D.out];rfl,λh=>by rw[D.out] at h;cases h⟩,B.out⟩
  have D:=hid (o.out (by rw[j.out,show (x==0)=false by rw[kqi];exact N];rfl));have d3:decide ((0:Int)<(x:Int))=true:=by rw[kqn];omega
  have d3n:decide (0<x)=true:=by rw[kqn];omega
  clear o u j N;go_wp2_with fail
  go_region_held3 (λX:World=>X.cell? ⟨b,g+p,none⟩=some (.int .u64 (x:Int))/\X.cell? ⟨b,g+q,none⟩=some (.int .u64 (y:Int))) (go_keep) (fail)
  go_wp2_with fail;refine (P.out _).mono ?_;rintro e S ⟨⟨v3,r3,rfl⟩,a⟩;have B:=hid (HB.out.drew.trans (a.mono U));clear a;go_wp2;go_ret2;exact⟨⟨.slice none 0 0,[],by rw[D.out];rfl,λh=>by rw[D.out] at h;cases h⟩,B.out⟩
 obtain rfl:k=8:=by omega
 have HT:Hid (ib ws t=true):=hid ((jz ws t).2 V.out);go_wp2;go_ret2;exact⟨⟨_,L,by rw[HT.out];rfl,λ_=>⟨C.out,R.out⟩⟩,O⟩
def oE (l:List Bk) (j:Nat):Bool:=!(j==0)&&((gk l (j-1)).kind==2&&(gk l j).kind==2)
def kk (l:List Bk):Bool:=(List.range l.length).all λj=>!oE l j
def oD (l:List Bk) (k:Nat):Prop:=∀j,j<k->oE l j=false
theorem ng(l:List Bk):kk l=true↔oD l l.length:=by
 unfold kk oD;rw[kzu];constructor
 .intro h j a;have:=h j (kzj.2 a)
  simpa using this
 intro h j a;have:=h j (kzj.1 a)
 simpa using this
theorem o9(l:List Bk):oD l 0:=λj h=>absurd h (by omega)
theorem lJ(h:oD l k)(h1:oE l k=false):oD l (k+1):=λj hj=>by
 rcases kq6 j k with a|a
 .exact h j a
 .have:j=k:=by omega
  subst this;exact h1
theorem rn(hk:k<l.length)(h:oE l k=true):kk l=false:=by
 cases a:kk l with
 | false=>rfl
 | true=>have:=(ng l).1 a k hk;rw[h] at this;cases this
def wu (ws:List Nat):Bool:=match blocks ws 128 with | none=>false | some l=>kk l
theorem iI(h:blocks ws 128=some l):wu ws=kk l:=by unfold wu;rw[h]
theorem nX(h:blocks ws 128=none):wu ws=false:=by unfold wu;rw[h]
theorem zu(A:Option Addr)(ws:List Nat)(c n:Nat)(w:World)(hn:ws.length=n)(hs:aj (n:Int)=true)(hr:RdW w w.heap.size A ws)(ho:∀x∈ws,x<18446744073709551616):
 Calls prog 153 #[.slice A n c] w λe w'=>(∃A k c,e=.returned (.tuple #[.slice A k c,.bool (wu ws)])/\(wu ws=true->∃l,blocks ws 128=some l/\k=l.length/\k<=c/\RdB w' w'.heap.size A l))/\Below w.heap.size w w':=by
 subst hn;have M:=(aa _).1 hs;have o:=hid (DL A ws c ws.length 128 w rfl (by omega) (by omega) (by omega) (by omega) hr ho);unfold FY sJ at o;have f:∀l,blocks ws 128=some l->l.length<=1024:=λl h=>by
  have:=(bK (by omega) _ _ h (by omega) (by omega) (by omega)).1;omega
 cases s:blocks ws 128 with
 | none =>
  rw[s] at o;simp only[kkr,kj0,kxb] at o;have D:=hid (nX s);clear s hr ho hs M f;go_enter func153,ntmps153;go_wp2_with fail;refine o.out.mono ?_;rintro e T ⟨⟨V,X,rfl,-,-⟩,g⟩;go_wp2_with fail;go_loopw [5,6] (λv i wr=>v=.bool false/\i=.int .i64 1/\wr=T) (λ_ _ _=>0)
  case atStart=>exact⟨rfl,rfl,rfl⟩
  obtain⟨rfl,rfl,rfl⟩:=hrel;go_wp2;go_ret2;exact⟨⟨none,0,0,by rw[D.out];rfl,λh=>by rw[D.out] at h;cases h⟩,g⟩
 | some l =>
  have hl24:=f l s;rw[s] at o;simp only[kq8,kkg] at o;have D:=hid (iI s);clear s hr ho hs M f;have N:=hid (λk K h=>rn (l:=l) (k:=k) K h);have R:=hid (ng l);go_enter func153,ntmps153;go_wp2_with fail;refine o.out.mono ?_;rintro e T ⟨⟨V,X,rfl,C,z⟩,g⟩;have t:=hid C;have B:=hid g;have P:=hid z;clear C g z;go_wp2_with fail;go_loopw [5,6] (λv i wr=>∃(k:Nat) (q:Bool),1<=k/\(k<=l.length\/k=1)/\v=.bool q/\i=.int .i64 k/\wr=T/\Hid ((q=true->oD l k)/\(q=false->kk l=false))) (λ_ i _=>l.length-(intOf i).toNat)
  case atStart =>
   refine⟨1,true,kqa _,.inr rfl,rfl,rfl,rfl,hid ⟨λ_=>lJ (o9 l) rfl,λh=>by cases h⟩⟩
  obtain⟨k,q,F,K,rfl,rfl,rfl,r⟩:=hrel;by_cases d:k<l.length
  .obtain ⟨b,off,rfl,M,-,-,p2,-⟩:=RdB.at_ t.out d;obtain⟨b',off',e',-,-,-,Y,-⟩:=RdB.at_ t.out (show k-1<l.length by omega);cases e';have J:=hid (λh=>lJ (r.out.1 h));have Q:=hid (N.out k d);have a:oE l k=((l[k-1].kind==2)&&(l[k].kind==2)):=by unfold oE;rw[bP l k d,bP l (k-1) (by omega),show (k==0)=false by rw[kqi];omega];rfl
   have E:=hid r.out.2;obtain⟨x,U⟩:=xq (l[k].kind);obtain⟨y,Z⟩:=xq (l[k-1].kind);rw[U] at p2 a;rw[Z] at Y a;have i1:IntKind.i64.wrap ((k:Int)-1)=((k-1:Nat):Int):=by rw[kqs _ (by omega)];omega
   have hki:(k:Int)<(l.length:Int):=by omega
   have hk0:(0:Int)<=(k:Int):=by omega
   have H:((k-1:Nat):Int)<(l.length:Int):=by omega
   have I:(0:Int)<=((k-1:Nat):Int):=by omega
   obtain⟨m,W⟩:=xq (k-1);rw[W] at i1 H I Y;have O:=hid a;clear U Z r W a;by_cases u:y=2
   .subst u;by_cases p:x=2
    .subst p;have G:=hid (Q.out (by rw[O.out];rfl));go_wp2;go_roundw
     case rel=>exact⟨k+1,false,by omega,by omega,rfl,by go_num,trivial,hid ⟨λh=>(by cases h),λ_=>G.out⟩⟩
     case measure=>simp[intOf];omega
    have S:(x==2)=false:=by rw[kqi];exact p
    have G:Hid (oE l k=false):=hid (by rw[O.out,S];rfl);clear p;go_wp2;go_roundw
    case rel=>exact⟨k+1,q,by omega,by omega,rfl,by go_num,trivial,hid ⟨λh=>J.out h G.out,E.out⟩⟩
    case measure=>simp[intOf];omega
   have S:(y==2)=false:=by rw[kqi];exact u
   have G:Hid (oE l k=false):=hid (by rw[O.out,S];rfl);clear u;go_wp2;go_roundw
   case rel=>exact⟨k+1,q,by omega,by omega,rfl,by go_num,trivial,hid ⟨λh=>J.out h G.out,E.out⟩⟩
   case measure=>simp[intOf];omega
  have hend:decide ((k:Int)<(l.length:Int))=false:=by rw[kqc];omega
  have hendn:decide (k<l.length)=false:=by rw[kqc];exact d
  cases q with
  | true =>
   have L:Hid (wu ws=true):=hid (by
    rw[D.out];refine R.out.2 λj hj=>r.out.1 rfl j (by omega))
   clear r F K d;go_wp2;go_ret2;exact⟨⟨V,l.length,X,by rw[L.out];rfl,λ_=>⟨l,rfl,rfl,P.out,t.out⟩⟩,B.out⟩
  | false =>have L:Hid (wu ws=false):=hid (by rw[D.out];exact r.out.2 rfl);clear r F K d;go_wp2;go_ret2;exact⟨⟨none,0,0,by rw[L.out];rfl,λh=>by rw[L.out] at h;cases h⟩,B.out⟩
def Dh (s:Sl):Int:=if mJ s=true then 0 else 8
theorem xP(g:Int)(u:Bool)(a:Int)(w:World)(h1:0<=g)(h2:g<=2147483647):
 Calls prog 262 #[.agg #[.int .i64 g,.bool u,.int .i64 a]] w λe w'=>e=.returned (.int .i64 (Dh ⟨g,u,a⟩))/\Below w.heap.size w w':=by
 have d:=(kqk w.heap.size w).alloc (kqa _) (.cells #[.int .i64 g,.bool u,.int .i64 a] 52);have f:=hid d;have d1:decide (0<=g)=true:=by rw[kqn];omega
 have d2:decide (g<=2147483647)=true:=by rw[kqn];omega
 clear d;cases u
 .have H:Hid (Dh ⟨g,false,a⟩=if (a==0)=true then 0 else 8):=hid rfl;obtain⟨b,h⟩:=xq ((a==0));rw[h] at H;cases b
  all_goals
   go_enter func262,ntmps262;go_wp2;go_ret;exact⟨by rw[H.out];rfl,f.out⟩
 have H:Hid (Dh ⟨g,true,a⟩=if (decide (0<g)&&(decide (128<=a)&&decide (a<2048)))=true then 0 else 8):=hid rfl;have l:decide (1<=g)=decide (0<g):=by rw[decide_eq_decide];omega
 obtain⟨m,c⟩:=xq (decide (0<g));obtain⟨k,i⟩:=xq (decide (128<=a));obtain⟨n,j⟩:=xq (decide (a<2048));rw[c] at l;rw[c,i,j] at H;clear h1 h2 c;cases m<;>cases k<;>cases n
 all_goals
  go_enter func262,ntmps262;go_wp2;go_ret;exact⟨by rw[H.out];rfl,f.out⟩
theorem wZ(x:Nat)(w:World)(hx:x<18446744073709551616):
 Calls prog 212 #[.int .u64 (x:Int)] w λe w'=>e=.returned (.tuple #[(slB x).val,.int .i64 (yJ x)])/\Below w.heap.size w w':=by
 obtain⟨A,D,M,H⟩:=gF x;have k:=hid (λh=>wB (x:=x) h);have j:=hid (λh=>wH (x:=x) h);have f:=hid (λW=>jq x 32 31 W hx (by omega));have m:=hid (λW=>jq x 63 1 W hx (by omega));have d:=hid (λW=>jq x 0 32 W hx (by omega));have K:((bG x 32 31:Nat):Int)=(dJ x).gen:=by unfold bG dJ;rfl
 have z:(((bG x 63 1:Nat):Int)==1)=(dJ x).used:=by
  have:bG x 63 1=x/9223372036854775808:=by unfold bG;omega
  rw[this];show _=(x/9223372036854775808==1);rw[kzg,kqw,kqw];omega
 have I:((bG x 0 32:Nat):Int)=(dJ x).at_:=by unfold bG dJ;simp
 rw[K] at f;rw[I] at d;obtain⟨q,E⟩:∃q:Int,((bG x 63 1:Nat):Int)=q:=⟨_,rfl⟩;rw[E] at m z;have l:=hid (λW=>xP (dJ x).gen (dJ x).used (dJ x).at_ W A D);obtain⟨s,L⟩:=xq (dJ x);rw[L] at z A D M H k j f d l;obtain⟨g,u,a⟩:=s;dsimp only at z A D M H f d l;have w1:IntKind.i64.wrap g=g:=kqs _ (by omega);have w2:IntKind.i64.wrap a=a:=kqs _ (by omega);clear K I E L hx;have G:=Bx.new w 52 #[.int .i64 0,.bool false,.int .i64 0];have r:=(kqk w.heap.size w).alloc (kqa _) (.cells #[.int .i64 0,.bool false,.int .i64 0] 52);have y:=hid (G.alloc (.cells #[.int .i64 g,.bool u,.int .i64 a] 52));have i:=hid (r.alloc (by simp) (.cells #[.int .i64 g,.bool u,.int .i64 a] 52));have C:=Bx.new (w.alloc (.cells #[.int .i64 0,.bool false,.int .i64 0] 52)) 52 #[.int .i64 g,.bool u,.int .i64 a];rw[kqm] at C;have F:=hid C;clear G r C;cases c:mJ ⟨g,u,a⟩
 .have p:=hid (j.out c);unfold Dh at l;rw[c] at l;clear c k j;go_enter func212,ntmps212;go_wp2_with fail;refine (f.out _).mono ?_;rintro e t ⟨rfl,rfl⟩;go_wp2_with fail;refine (m.out _).mono ?_;rintro e t ⟨rfl,rfl⟩;go_wp2_with fail;refine (d.out _).mono ?_;rintro e t ⟨rfl,rfl⟩;go_wp2_with fail;refine (l.out _).mono ?_;rintro e R ⟨rfl,b⟩;have o:=y.out.up b y.out.lt;have n:=hid (i.out.trans (b.mono i.out.size));obtain⟨S,U,T,P,Q,O,N⟩:=o.c3;have B:=hid o;clear o b;go_wp2_with fail;exact kqo (v:=.tuple #[.agg #[.int .i64 0,.bool false,.int .i64 0],.int .i64 50]) (jR results212 _ (((B.out.set_ 0 _).set_ 1 _).set_ 2 _) rfl rfl) rfl ⟨by rw[p.out.1,p.out.2];rfl,(((n.out.setCell (kqa _) _).setCell (kqa _) _).setCell (kqa _) _)⟩
 have p:=hid (k.out c);unfold Dh at l;rw[c] at l;clear c k j;go_enter func212,ntmps212;go_wp2_with fail;refine (f.out _).mono ?_;rintro e t ⟨rfl,rfl⟩;go_wp2_with fail;refine (m.out _).mono ?_;rintro e t ⟨rfl,rfl⟩;go_wp2_with fail;refine (d.out _).mono ?_;rintro e t ⟨rfl,rfl⟩;go_wp2_with fail;refine (l.out _).mono ?_;rintro e R ⟨rfl,b⟩;have o:=y.out.up b y.out.lt;have J:=F.out.up b F.out.lt;have n:=hid (i.out.trans (b.mono i.out.size));obtain⟨S,U,T,P,Q,O,N⟩:=o.c3;obtain⟨q0,q1,q2,-,-,-,hg2⟩:=J.c3;have B:=hid o;clear o J b;go_wp2_with fail;exact kqo (v:=.tuple #[.agg #[.int .i64 g,.bool u,.int .i64 a],.int .i64 0]) (jR results212 _ (((B.out.set_ 0 _).set_ 1 _).set_ 2 _) rfl rfl) rfl ⟨by rw[p.out.1,p.out.2];rfl,(((n.out.setCell (kqa _) _).setCell (kqa _) _).setCell (kqa _) _)⟩
theorem Fj:(prog.info? 52).map (λi=>(i.zero,i.size,i.bytes))=some (some (.agg #[.int .i64 0,.bool false,.int .i64 0]),3,24):=by kernel_rfl
def TlResF (H:Nat) (ws:List Nat) (e:Ending) (w':World):Prop:=∃A n c,e=.returned (.tuple #[.slice A n c,.bool (slsOk ws)])/\(slsOk ws=true->n=16/\n<=c/\w'.ownsRow H 52 3 (.slice A n c) n ((slL ws).flatMap Sl.cells))
def TlRes (ws:List Nat) (e:Ending) (w':World):Prop:=∃A n c,e=.returned (.tuple #[.slice A n c,.bool (slsOk ws)])/\(slsOk ws=true->n=16/\n<=c/\RdS w' w'.heap.size A (slL ws))
theorem wy(A:Option Addr)(ws:List Nat)(c n:Nat)(w:World)(hn:ws.length=n)(R:256<=n)(hm:n<=2048)(hr:RdW w w.heap.size A ws)(ho:∀x∈ws,x<18446744073709551616):
 Calls prog 152 #[.slice A n c] w λe w'=>TlResF w.heap.size ws e w'/\Below w.heap.size w w':=by
 subst hn;have HR:=hid hr;have N:Hid (∀k,wd ws k<18446744073709551616):=hid (fM ho);clear hr ho;obtain⟨i2,hi,r,z,D⟩:=kzw Fj;have HJ:=hid hi;have K:=hid r;have I:=hid z;have T:=hid D;clear hi r z D;go_enter func152,ntmps152;go_wp2_with fail;go_loopw [4,5] (λv i wr=>∃k:Nat,k<=16/\i=.int .i64 k/\Hid (ox ws k)/\wr.ownsRow w.heap.size 52 3 v k (((slL ws).take k).flatMap Sl.cells)/\Below w.heap.size w wr) (λ_ i _=>16-(intOf i).toNat)
 case atStart=>exact⟨0,kqy _,rfl,py ws,kza _ _ _ _,kqk _ _⟩
 obtain⟨k,hk,rfl,C,a,F⟩:=hrel;have hz:=F.size;by_cases t:k<16
 .obtain ⟨b,off,rfl,hb,Z⟩:=RdW.at_ (Rd.below HR.out F) (show 112+k<ws.length by omega);rw[<-cA] at Z;have d:=hid (λW=>wZ (wd ws (112+k)) W (N.out _));have o:=hid (λh=>o8 C.out h);have q:=hid (λh=>rm (ws:=ws) t h);have j:dJ (wd ws (112+k))=slAt ws k:=rfl;have J:k<(slL ws).length:=by rw[fg];exact t
  have B:=hid (show ((slL ws).take (k+1)).flatMap Sl.cells=((slL ws).take k).flatMap Sl.cells++(slAt ws k).cells by
   rw[kqp J,cq,nz])
  have i1:(0:Int)<=112+(k:Int):=by omega
  have i2':(112:Int)+(k:Int)<(ws.length:Int):=by omega
  have n1:((112:Int)+(k:Int)).toNat=112+k:=by omega
  have hk1:(k:Int)<16:=by omega
  have hk0:(0:Int)<=(k:Int):=by omega
  obtain⟨x,H⟩:=xq (wd ws (112+k));rw[H] at Z d j;cases f:mJ (slAt ws k)
  .have V:=hid (q.out f);rw[<-j] at f;rw[(wH f).1,(wH f).2] at d;unfold Sl.val at d;dsimp only at d;clear H f j q o a;go_wp2_with fail;refine (d.out _).mono ?_;rintro e w3 ⟨rfl,l⟩;have u:=F.trans (l.mono hz);have P:=u.size;clear l;go_wp2;go_ret2;exact⟨⟨none,0,0,by rw[V.out];rfl,λh=>by rw[V.out] at h;cases h⟩,u.alloc P _⟩
  have E:=hid (o.out f);rw[<-j] at f;rw[(wB f).1,(wB f).2,j] at d;obtain⟨s,G⟩:=xq (slAt ws k);rw[G] at d B;obtain⟨sg,U,sa⟩:=s;unfold Sl.val at d;dsimp only at d;clear H f j G q o;go_wp2_with fail;refine (d.out _).mono ?_;rintro e w3 ⟨rfl,l⟩;have y:=F.trans (l.mono hz);have S:=y.size;have m:=ai a l (kqa _);clear l a;go_wp2_with (at_builtin;refine kze _ rfl _ _ 45 rfl w.heap.size 52 i2 _ 3 24 underlying45 HJ.out K.out I.out T.out rfl (by decide) _ _ _ rfl ((m.alloc _).alloc _) ⟨_,0,none⟩ 1 1 [.int .i64 sg,.bool U,.int .i64 sa] rfl rfl (lA _ _ _ (kqm _ _)) (by simp[Value.oneCell']) (by unfold maxLen;omega) (by omega) (by simp;omega) ?_;intro v1 w6 p L _;have O:=aE (y.alloc S (.cells #[.int .i64 sg,.bool U,.int .i64 sa] 52)) (by simp;omega) (m.alloc _) L);go_roundw
  case rel=>exact⟨k+1,by omega,by go_num,E.out,by rw[B.out];exact p,O⟩
  case measure=>simp[intOf];omega
 obtain rfl:k=16:=by omega
 have X:slsOk ws=true:=(cU ws).2 C.out;have HT:=hid X;rw[kq5 (by rw[fg];exact kqa _)] at a;obtain⟨A1,c1,rfl⟩:=aO a;have Q:16<=c1:=by
  rcases a.2 with⟨Y,R⟩|⟨g,cap,cur,Y,-,-,R,-⟩
  .cases R
  simp only[Value.slice.injEq] at Y;omega
 have M:=hid a;clear X a;go_wp2;go_ret2;exact⟨⟨A1,16,c1,by rw[HT.out];rfl,λ_=>⟨rfl,Q,M.out⟩⟩,F⟩
theorem zT(A:Option Addr)(ws:List Nat)(c n:Nat)(w:World)(hn:ws.length=n)(h2:256<=n)(hm:n<=2048)(hr:RdW w w.heap.size A ws)(ho:∀x∈ws,x<18446744073709551616):
 Calls prog 152 #[.slice A n c] w λe w'=>TlRes ws e w'/\Below w.heap.size w w':=(wy A ws c n w hn h2 hm hr ho).mono λ_ _ ⟨⟨A,n,c,e,h⟩,b⟩=>⟨⟨A,n,c,e,λa=>⟨(h a).1,(h a).2.1,Rd.of_own (h a).2.2⟩⟩,b⟩
def vW (v:Nat):Bool:=v==9221120237041090561||decide (v%9223372036854775808<=9218868437227405312)
def aM (l:List Bk):List Bk:=l.filter λb=>b.kind==1
def my (O:List Bk) (v:Nat):Bool:=O.any λb=>b.at_==(v:Int)
def wrF (ws F:List Nat) (O:List Bk) (m r i:Nat):Bool:=if r=10 then F[i]? == some 2 && !vW (wd ws (m+2+i)) else F[i]? == some 3&&(decide (0<wd ws (m+2+i)) && !my O (wd ws (m+2+i)))
def wrB (ws:List Nat) (T:List (List Nat)) (O:List Bk) (m z ty:Nat) (mk:Bool) (nx r:Nat):Bool:=
 if r=7 then mk||decide (0<nx)
 else if r=8 then !decide (ty<T.length)||bi (T[ty]?.getD []).length != z
 else if r=9 then decide ((T[ty]?.getD []).length+2<z)&&wd ws (m+2+(T[ty]?.getD []).length) != 0
 else (List.range (T[ty]?.getD []).length).any λi=>wrF ws (T[ty]?.getD []) O m r i
def wrK (ws:List Nat) (T:List (List Nat)) (O:List Bk) (r:Nat) (b:Bk):Bool:=wrB ws T O b.at_.toNat b.size.toNat b.typ.toNat b.mark b.next r
def fi (ws:List Nat) (a:Nat):Bool:=(List.range 8).all λi=>wd ws (a+i)==0
def pA (ws:List Nat) (a k:Nat):Prop:=∀i,i<k->wd ws (a+i)=0
theorem jJ(ws:List Nat)(a:Nat):fi ws a=true↔pA ws a 8:=by
 unfold fi pA;rw[kzu];constructor
 .intro h i b;have:=h i (kzj.2 b);simpa using this
 intro h i b;have:=h i (kzj.1 b);simpa using this
def jV (O:List Bk) (s:Sl):Bool:=!s.used||my O s.at_.toNat
def lay (ws:List Nat):Bool:=match tyN ws,blocks ws 128 with
 | some t,some l=>fi ws 16&&(fi ws 24&&(ib ws t&&(slsOk ws&&(kk l&&((List.range 5).all (λr=>(aM l).all λb => !wrK ws (gJ ws t 8) (aM l) (7+r) b)&&(slL ws).all (jV (aM l)))))))
 | _,_=>false
def bN (ws:List Nat):Int:=if aj (ws.length:Int)=true then (if lay ws=true then 0 else 50) else 8
theorem IF(h:v≠9221120237041090561):vW v=decide (v%9223372036854775808<=9218868437227405312):=by unfold vW;rw[show (v==9221120237041090561)=false by rw[kqi];exact h];rfl
theorem rU(hk:k<l.length):aM (l.take (k+1))=aM (l.take k)++(if l[k].kind=1 then [l[k]] else []):=by
 unfold aM;rw[kqp hk,kx8];congr 1;by_cases h:l[k].kind=1
 .rw[if_pos h];simp[h]
 rw[if_neg h];simp[h]
theorem JG(hk:k<O.length)(h:O[k].at_=(v:Int)):my O v=true:=by unfold my;rw[kx3];exact⟨_,kqq hk,by rw[kqw];exact h⟩
theorem GE(h:∀k (a:k<O.length),O[k].at_≠(v:Int)):my O v=false:=by unfold my;rw[kj5];intro b c;obtain⟨k,a,rfl⟩:=kqz c;rw[kqw];exact h k a
theorem xU(v:Nat)(w:World):Calls prog 215 #[.int .u64 (v:Int)] w λe w'=>e=.returned (.bool (vW v))/\w=w':=by
 have h0:(0:Int)<=(v:Int):=by omega
 by_cases h:v=9221120237041090561
 .subst h;go_enter func215,ntmps215;go_wp2;go_ret;exact⟨rfl,rfl⟩
 have b:=hid (IF h);have e1:((v:Int)==9221120237041090561)=false:=by rw[kqi];omega
 have c:decide ((v:Int)%9223372036854775808<=9218868437227405312)=decide (v%9223372036854775808<=9218868437227405312):=by rw[decide_eq_decide];omega
 obtain⟨q,a⟩:=xq (decide (v%9223372036854775808<=9218868437227405312));rw[a] at b c;clear h a;go_enter func215,ntmps215;go_wp2;go_ret;exact⟨by rw[b.out];rfl,rfl⟩
theorem x9(n:Nat)(w:World)(hn:n<=1000000):Calls prog 214 #[.int .i64 (n:Int)] w λe w'=>e=.returned (.int .i64 ((bi n:Nat):Int))/\w=w':=by
 by_cases h:n%2=1
 .have c:((n:Int)%2==1)=true:=by rw[kqw];omega
  have a:=hid (show ((bi n:Nat):Int)=(n:Int)+1+2 by unfold bi;omega);have w1:IntKind.i64.wrap ((n:Int)+1)=(n:Int)+1:=kqs _ (by omega);have b:IntKind.i64.wrap ((n:Int)+1+2)=(n:Int)+1+2:=kqs _ (by omega);clear h;go_enter func214,ntmps214;go_wp2;go_ret;exact⟨by rw[a.out];go_num,rfl⟩
 have c:((n:Int)%2==1)=false:=by rw[kqi];omega
 have a:=hid (show ((bi n:Nat):Int)=(n:Int)+2 by unfold bi;omega);have b:IntKind.i64.wrap ((n:Int)+2)=(n:Int)+2:=kqs _ (by omega);clear h;go_enter func214,ntmps214;go_wp2;go_ret;exact⟨by rw[a.out];go_num,rfl⟩
theorem xy(A:Option Addr)(ws:List Nat)(c n a:Nat)(w:World)(hn:ws.length=n)(ha:a+8<=n)(hm:n<=2048)(hr:RdW w w.heap.size A ws):
 Calls prog 150 #[.slice A n c,.int .i64 (a:Int)] w λe w'=>e=.returned (.bool (fi ws a))/\w=w':=by
 subst hn;have D:=hid hr;have r:=hid (jJ ws a);go_enter func150,ntmps150;go_wp2_with fail
 go_loop [5] (λi=>∃k:Nat,k<=8/\i=.int .i64 k/\Hid (pA ws a k)) (λi=>8-(intOf i).toNat)
 case atStart=>exact⟨0,kqy _,rfl,hid λi h=>absurd h (by omega)⟩
 obtain⟨k,hk,rfl,s⟩:=hrel;by_cases m:k<8
 .obtain ⟨b,off,rfl,hb,l⟩:=RdW.at_ D.out (show a+k<ws.length by omega);rw[<-cA] at l;have f:Hid (wd ws (a+k)=0->pA ws a (k+1)):=hid λh i z=>by
   rcases kq6 i k with u|u
   .exact s.out i u
   have:i=k:=by omega
   subst this;exact h
  have o:Hid (wd ws (a+k)≠0->fi ws a=false):=hid λh=>by
   cases v:fi ws a with
   | false=>rfl
   | true=>exact absurd (r.out.1 v k m) h
  have y:IntKind.i64.wrap ((a:Int)+(k:Int))=((a+k:Nat):Int):=by rw[kqs _ (by omega)];omega
  have C:((a+k:Nat):Int)<(ws.length:Int):=by omega
  have B:(0:Int)<=((a+k:Nat):Int):=by omega
  obtain⟨p,t⟩:=xq (a+k);rw[t] at l f o y C B;obtain⟨x,q⟩:=xq (wd ws p);rw[q] at l f o;clear t q;by_cases d:x=0
  .have g:=hid (f.out d);subst d;go_wp2_with fail
   go_round
   case rel=>exact⟨k+1,by omega,by go_num,g⟩
   case measure=>simp[intOf];omega
  have j:=hid (o.out d);have e1:((x:Int) != 0)=true:=by rw[kqv];omega
  have e1n:(x != 0)=true:=by rw[kqv];exact d
  clear d;go_wp2;go_ret;exact⟨by rw[j.out];rfl,rfl⟩
 have j:Hid (fi ws a=true):=hid (r.out.2 λi z=>s.out i (by omega));obtain rfl:k=8:=by omega
 go_wp2;go_ret;exact⟨by rw[j.out];rfl,rfl⟩
theorem pj(A:Option Addr)(O:List Bk)(c n v:Nat)(w:World)(hn:O.length=n)(hm:n<=1000000)(hr:RdB w w.heap.size A O)(ho:∀b∈O,0<=b.at_/\b.at_<=1000000):
 Calls prog 156 #[.slice A n c,.int .u64 (v:Int)] w λe w'=>(∃r:Int,e=.returned (.int .i64 r)/\decide (r<0) = !my O v)/\w=w':=by
 subst hn;have C:=hid hr;have B:=hid ho;clear hr ho;go_enter func156,ntmps156;go_wp2_with fail
 go_loop [5] (λi=>∃k:Nat,k<=O.length/\i=.int .i64 k/\Hid (∀j (f:j<O.length),j<k->O[j].at_≠(v:Int))) (λi=>O.length-(intOf i).toNat)
 case atStart=>exact⟨0,kqy _,rfl,hid λj f h=>absurd h (by omega)⟩
 obtain⟨k,hk,rfl,s⟩:=hrel;by_cases d:k<O.length
 .obtain ⟨b,off,rfl,hb,y,-⟩:=RdB.at_ C.out d;obtain⟨t,u⟩:=B.out _ (kqq d);have g:Hid (O[k].at_≠(v:Int)->∀j (f:j<O.length),j<k+1->O[j].at_≠(v:Int)):=hid λh j f h2=>by
   rcases kq6 j k with q|q
   .exact s.out j f q
   have:j=k:=by omega
   subst this;exact h
  have p:=hid (λh=>JG (v:=v) d h);obtain⟨x,o⟩:=xq (O[k].at_);rw[o] at y g p t u;have i1:IntKind.u64.wrap x=x:=kzt _ (by omega);have hki:(k:Int)<(O.length:Int):=by omega
  have hk0:(0:Int)<=(k:Int):=by omega
  clear o;by_cases a:x=(v:Int)
  .have m:=hid (p.out a);have z:(x==(v:Int))=true:=by rw[kqw];exact a
   clear a g;go_wp2;go_ret;exact⟨⟨k,rfl,by rw[m.out];rw[decide_eq_false];rfl;omega⟩,rfl⟩
  have l:=hid (g.out a);have z:(x==(v:Int))=false:=by rw[kqi];exact a
  clear a g;go_wp2_with fail
  go_round
  case rel=>exact⟨k+1,by omega,by go_num,l⟩
  case measure=>simp[intOf];omega
 have m:Hid (my O v=false):=hid (GE λj f=>s.out j f (by omega));obtain rfl:k=O.length:=by omega
 go_wp2;go_ret;exact⟨⟨-1,rfl,by rw[m.out];rfl⟩,rfl⟩
theorem sI(A:Option Addr)(l:List Bk)(c n:Nat)(w:World)(hn:l.length=n)(hm:n<=1000000)(hr:RdB w w.heap.size A l):
 Calls prog 154 #[.slice A n c] w λe w'=>(∃A k c,e=.returned (.slice A k c)/\k=(aM l).length/\k<=c/\RdB w' w'.heap.size A (aM l))/\Below w.heap.size w w':=by
 subst hn;have Z:=hid hr;clear hr;obtain⟨Y,N,m,r,s⟩:=kzw kP;have HJ:=hid N;have C:=hid m;have u:=hid r;have F:=hid s;clear N m r s;go_enter func154,ntmps154;go_wp2_with fail;go_loopw [3,4] (λv i wr=>∃k:Nat,k<=l.length/\i=.int .i64 k/\wr.ownsRow w.heap.size 55 6 v (aM (l.take k)).length ((aM (l.take k)).flatMap Bk.cells)/\Below w.heap.size w wr) (λ_ i _=>l.length-(intOf i).toNat)
 case atStart=>exact⟨0,kqy _,rfl,kza _ _ _ _,kqk _ _⟩
 obtain⟨k,hk,rfl,a,t⟩:=hrel;have S:=t.size;by_cases o:k<l.length
 .obtain ⟨b,off,rfl,hb,O,T,R,I,J,V⟩:=RdB.at_ (Rd.below Z.out t) o;have d:=hid (rU o);have p:(aM (l.take k)).length<=k:=by unfold aM;have:=kjp (λb:Bk=>b.kind==1) (l.take k);rw[kq3] at this;omega
  obtain⟨x,H⟩:=xq (l[k]);rw[H] at O T R I J V d;obtain⟨W,xs,D,Q,K,P⟩:=x;dsimp only at O T R I J V d;obtain⟨L,M⟩:=xq (aM (l.take k));rw[M] at a d p;have hki:(k:Int)<(l.length:Int):=by omega
  have hk0:(0:Int)<=(k:Int):=by omega
  clear H M;by_cases h:D=1
  .have j:Hid (aM (l.take (k+1))=L++[⟨W,xs,D,Q,K,P⟩]):=hid (by rw[d.out,if_pos h]);subst h;clear d;go_wp2_with (at_builtin;refine kze _ rfl _ _ 48 rfl w.heap.size 55 Y _ 6 48 underlying48 HJ.out C.out u.out F.out rfl (by decide) _ _ _ rfl (a.alloc _) ⟨_,0,none⟩ 1 1 [.int .i64 W,.int .i64 xs,.int .i64 1,.int .i64 Q,.bool K,.int .u64 (P:Int)] rfl rfl (cI _ _ _) (by simp[Value.oneCell']) (by unfold maxLen;omega) (by omega) (aS S) ?_;intro v1 w6 f q _;have z:=hid (aE t S a q);have G:=hid f;clear f q);go_roundw
   case rel=>exact⟨k+1,by omega,by go_num,by rw[j.out,cq,kqu];exact G.out,z.out⟩
   case measure=>simp[intOf];omega
  have j:Hid (aM (l.take (k+1))=L):=hid (by rw[d.out,if_neg h,kzs]);have e1:(D==1)=false:=by rw[kqi];exact h
  clear d h;go_wp2;go_roundw
  case rel=>exact⟨k+1,by omega,by go_num,by rw[j.out];exact a,t⟩
  case measure=>simp[intOf];omega
 obtain rfl:k=l.length:=by omega
 rw[kzl] at a;obtain⟨X,U,rfl⟩:=aO a;have B:=hid (show (aM l).length<=U by
  rcases a.2 with⟨y,h2⟩|⟨g,cap,cur,y,-,-,h2,-⟩
  .simp only[Value.slice.injEq] at y;omega
  simp only[Value.slice.injEq] at y;omega)
 have E:=hid (Rd.of_own a);clear a;go_wp2;go_ret;exact⟨⟨X,_,U,rfl,rfl,B.out,E.out⟩,t⟩
def nE:Op->Bool
 | .move _ | .assign _ | .pick _ _ _ | .load _ _ | .build _ _ | .binOp _ _ _ _ _ | .unOp _ _ _ | .convert _ _ _ | .slice _ _ _ _ _ | .fieldAddr _ _ _ | .field _ _ _ | .indexAddr _ _ _ | .index _ _ _ | .extract _ _=>true
 | _=>false
structure SW (S:World->Prop) where
 w:World
 ok:S w
theorem cls_of{S:World->Prop}(h:S w):∃g:SW S,w=g.w:=⟨⟨w,h⟩,rfl⟩
theorem cN{α:Type}(f:α->Value)(s:Sem α):∀w,(∃u w',(s.bind λx=>Sem.pure (Next.value (f x))).run P w=.ok (.value u) w')\/∃h w',(s.bind λx=>Sem.pure (Next.value (f x))).run P w=.halt h w':=by
 induction s with
 | pure a=>intro w;exact .inl ⟨f a,w,rfl⟩
 | load m a k ih =>
  intro w;simp only[Sem.bind,Sem.run];split
  .exact ih _ w
  split
  .exact ih _ w
  exact .inr ⟨_,_,rfl⟩
 | store m a v k ih =>
  intro w;cases v<;>simp only[Sem.bind,Sem.run]<;>first
   | exact .inr ⟨_,_,rfl⟩
   | (
    split
    .split
     .exact .inr ⟨_,_,rfl⟩
     exact ih _
    split
    .exact ih _
    exact .inr ⟨_,_,rfl⟩)
 | new o k ih=>intro w;exact ih _ _
 | shape r k ih=>intro w;exact ih _ _
 | freeze a n k ih=>intro w;exact ih _
 | frozen a k ih=>intro w;exact ih _ _
 | getObj r k ih =>
  intro w;simp only[Sem.bind,Sem.run];split
  .exact .inr ⟨_,_,rfl⟩
  .exact ih _ w
  exact .inr ⟨_,_,rfl⟩
 | setObj r o k ih =>
  intro w;simp only[Sem.bind,Sem.run];split
  .exact .inr ⟨_,_,rfl⟩
  .exact ih _
  exact .inr ⟨_,_,rfl⟩
 | choose q k ih =>
  intro w;simp only[Sem.bind,Sem.run];split
  .exact ih _ _
  exact ih _ _
 | sys c k ih=>intro w;exact ih _ _
 | program k ih=>intro w;exact ih _ _
 | mark m k ih=>intro w;exact ih _
 | halt h=>intro w;exact .inr ⟨h,w,rfl⟩
theorem yM{ρ:Operand->Value}(h:nE o.op=true)(w:World):(∃u w',(execOp ρ o).run P w=.ok (.value u) w')\/∃h w',(execOp ρ o).run P w=.halt h w':=by
 unfold execOp;unfold nE at h;split at h
 .rename_i x e;rw[e];exact .inl ⟨_,w,rfl⟩
 .rename_i x e;rw[e];exact .inl ⟨_,w,rfl⟩
 .rename_i c a b e;rw[e];exact cN _ _ w
 .rename_i e;rw[e];exact cN id _ w
 .rename_i e;rw[e];exact cN id _ w
 .rename_i e;rw[e];exact cN id _ w
 .rename_i e;rw[e];exact cN id _ w
 .rename_i e;rw[e];exact cN id _ w
 .rename_i e;rw[e];exact cN id _ w
 .rename_i e;rw[e];exact cN id _ w
 .rename_i e;rw[e];exact cN id _ w
 .rename_i e;rw[e];exact cN id _ w
 .rename_i e;rw[e];exact cN id _ w
 .rename_i e;rw[e];exact cN id _ w
 cases h
theorem t9{C:World->Prop}{a:Act}{v:Value}(h:nE o.op=true)(hq:o.quietAt P a C w v):(execOp a.eval o).run P w=.ok (.value v) w:=by
 unfold Oper.quietAt at hq;rcases yM (P:=P) (ρ:=a.eval) h w with⟨u,w',e⟩|⟨h',w',e⟩
 .rw[e] at hq |-;obtain⟨rfl,rfl⟩:=hq;rfl
 rw[e] at hq;exact False.elim hq
inductive It where
 | one (o:Oper) (tk:Bool) (gd:Option (Option Tmp × Bool))
 | two (o1 o2:Oper) (gd:Option (Option Tmp × Bool))
def gOk (gd:Option (Option Tmp × Bool)) (tmps:Array Value):Bool:=match gd with
 | none=>true
 | some (d,b)=>(match d.bind (tmps[·]?) with
  | some (.bool x)=>some x
  | _=>none)==some b
def tB (ops:Array Oper) (o:Oper):Option (Option Tmp × Bool):=match o.guard with
 | none=>none
 | some (g,b)=>some ((ops.toList[g]?).bind (·.dst),b)
theorem eV(ops:Array Oper)(o:Oper)(tmps:Array Value):Region.wanted o (yielded ops tmps)=gOk (tB ops o) tmps:=by
 unfold Region.wanted tB gOk;split
 .rename_i h;rw[h]
 rename_i j b h;rw[h];simp only[kvf];rfl
def Ei (ops:Array Oper):List (Nat × Nat × Nat)->List It
 | []=>[]
 | (k,i,j)::r=>match ops.toList[i]? with
  | none=>[]
  | some o=>match k with
   | 0=>.one o true (tB ops o)::Ei ops r
   | 2=>(match ops.toList[j]? with
    | none=>[]
    | some o2=>.two o o2 (tB ops o)::Ei ops r)
   | _=>.one o false (tB ops o)::Ei ops r
def mi:List (Nat × Nat × Nat)->Nat
 | []=>0
 | (k,_,_)::r=>(if k=2 then 2 else 1)+mi r
def lT (md:Region.Mode) (ops:Array Oper):List (Nat × Nat × Nat)->Array Bool->Bool
 | [],listed=>(Region.ready md ops listed).isEmpty
 | (k,i,j)::r,listed=>if k=2 then
  (match ops[i]?,ops[j]? with
   | some o1,some o2=>tB ops o1==tB ops o2
   | _,_=>false)&&(Region.ready md ops listed==[i,j]&&(Region.ready md ops (listed.setIfInBounds i true)==[j]&&(Region.ready md ops (listed.setIfInBounds j true)==[i]&&(i != j&&lT md ops r ((listed.setIfInBounds i true).setIfInBounds j true)))))
  else (ops[i]?).any (λo=>if k=0 then nE o.op&&(Region.free md ops listed i&&(Region.ready md ops listed).contains i) else Region.ready md ops listed==[i])&&lT md ops r (listed.setIfInBounds i true)
def nF (md:Region.Mode) (ops:Array Oper):List (Nat × Nat × Nat)->Array Bool->Bool
 | [],_=>true
 | (k,i,j)::r,listed=>if k=2 then
  (match ops[i]?,ops[j]? with
   | some o1,some o2=>tB ops o1==tB ops o2
   | _,_=>false)&&(Region.ready md ops listed==[i,j]&&(Region.ready md ops (listed.setIfInBounds i true)==[j]&&(Region.ready md ops (listed.setIfInBounds j true)==[i]&&(i != j&&nF md ops r ((listed.setIfInBounds i true).setIfInBounds j true)))))
  else (ops[i]?).any (λo=>if k=0 then nE o.op&&(Region.free md ops listed i&&(Region.ready md ops listed).contains i) else Region.ready md ops listed==[i])&&nF md ops r (listed.setIfInBounds i true)
def lh:List (Nat × Nat × Nat)->Array Bool->Array Bool
 | [],listed=>listed
 | (k,i,j)::r,listed=>lh r (if k=2 then (listed.setIfInBounds i true).setIfInBounds j true else listed.setIfInBounds i true)
theorem nI{md:Region.Mode}{l2:List (Nat × Nat × Nat)}:∀(b:List (Nat × Nat × Nat)) {a:Array Bool},nF md ops b a=true->lT md ops l2 (lh b a)=true->lT md ops (b++l2) a=true:=by
 intro b
 induction b with
 | nil=>intro a _ h;exact h
 | cons x b ih =>
  intro a c e;obtain⟨k,i,j⟩:=x;by_cases d:k=2
  .subst d;simp only[nF,if_true,kqt] at c;simp only[lh,if_true] at e;obtain⟨l,o,g,f,m,n⟩:=c;rw[kzm];simp only[lT,if_true,kqt];exact⟨l,o,g,f,m,ih n e⟩
  simp only[nF,d,if_false,kqt] at c;simp only[lh,d,if_false] at e;rw[kzm];simp only[lT,d,if_false,kqt];exact⟨c.1,ih c.2 e⟩
def gV (P:Program) (Q:Exit->Act->World->Prop) (S:World->Prop):List It->Act->World->Prop
 | [],a,w=>Q .normal a w
 | .one o t g::r,a,w=>if gOk g a.tmps=true then (if t=true then o.quiet P a (λX=>∃g:SW S,X=g.w) (λa'=>gV P Q S r a' w) else o.wp P a w (λa' w'=>S w'/\gV P Q S r a' w') Q) else gV P Q S r (a.put o.dst undef) w
 | .two o1 o2 g::r,a,w=>if gOk g a.tmps=true then
  (
   o1.wp P a w (λa1 w1=>S w1/\gOk g a1.tmps=true/\o2.wp P a1 w1 (λa2 w2=>S w2/\gV P Q S r a2 w2) Q) Q /\
   o2.wp P a w (λa1 w1=>S w1/\gOk g a1.tmps=true/\o1.wp P a1 w1 (λa2 w2=>S w2/\gV P Q S r a2 w2) Q) Q) else False
section
variable {P:Program} {Q:Exit->Act->World->Prop} {S:World->Prop} {r:List It} {a:Act} {w:World} {o o1 o2:Oper} {g:Option (Option Tmp × Bool)}
theorem EL(hg:gOk g a.tmps=true)(h:∀K:Act->Prop,(∀a',gV P Q S r a' w->K a')->o.quiet P a (λX=>∃g:SW S,X=g.w) K):gV P Q S (.one o true g::r) a w:=by unfold gV;rw[if_pos hg,if_pos rfl];exact h _ λ_ h=>h
theorem seq_do(hg:gOk g a.tmps=true)(h:∀K:Act->World->Prop,(∀a' w',S w'->gV P Q S r a' w'->K a' w')->o.wp P a w K Q):gV P Q S (.one o false g::r) a w:=by unfold gV;rw[if_pos hg,if_neg (by decide)];exact h _ λ_ _ c b=>⟨c,b⟩
theorem DM{t:Bool}(hg:gOk g a.tmps=false)(h:gV P Q S r (a.put o.dst undef) w):gV P Q S (.one o t g::r) a w:=by unfold gV;rw[if_neg (by rw[hg];decide)];exact h
theorem BV(hs:Region.noSelect ops=true)(hQ:∀c a d v w,Q (.panic c) (a.put d v) w->Q (.panic c) a w):∀(l:List (Nat × Nat × Nat)) (b:Nat) (e:Array Bool) (a:Act) (w:World),mi l<=b->lT .any ops l e=true->S w->gV P Q S (Ei ops l) a w->wpAnyH P .any ops Q S b e a w:=by
 intro l
 induction l with
 | nil =>intro b e a w _ n _ h;exact kj4 (List.isEmpty_iff.1 n) h b
 | cons x l ih =>
  intro b e a w I n z h;obtain⟨k,i,j⟩:=x;by_cases E:k=2
  .subst E;simp only[mi,if_true] at I;obtain⟨b,rfl⟩:∃f,b=f+1+1:=⟨b-2,by omega⟩;have t:mi l<=b:=by omega
   simp only[lT,if_true,kqt] at n;obtain⟨g,B,U,Y,T,K⟩:=n;cases p:ops[i]? with
   | none=>rw[p] at g;cases g
   | some o1 =>
    cases s:ops[j]? with
    | none=>rw[p,s] at g;cases g
    | some o2 =>
     rw[p,s] at g;have C:tB ops o1=tB ops o2:=by simpa using g
     simp only[Ei,kvf,p,s] at h;unfold gV at h;cases m:gOk (tB ops o1) a.tmps with
     | false=>rw[if_neg (by rw[m];decide)] at h;exact h.elim
     | true =>
      rw[if_pos m] at h;refine wpAnyH_all (rs:=[i,j]) (by simpa using B) (by simp) λq D=>?_;have H:i≠j:=by simpa using T
      rcases kqx.1 D with rfl|D
      .unfold wpOp;simp only[p];rw[eV,m,if_pos rfl];refine .inl (Oper.wp_mono (λR w1 u=>⟨u.1,?_⟩) h.1);refine wpAnyH_all (rs:=[j]) (by simpa using U) (by simp) λG r=>?_;rw[kq1] at r;subst r;unfold wpOp;simp only[s];rw[eV,<-C,u.2.1,if_pos rfl];exact .inl (Oper.wp_mono (λZ W y=>⟨y.1,ih b _ _ _ t K y.1 y.2⟩) u.2.2)
      rw[kq1] at D;subst D;unfold wpOp;simp only[s];rw[eV,<-C,m,if_pos rfl];refine .inl (Oper.wp_mono (λR w1 u=>⟨u.1,?_⟩) h.2);refine wpAnyH_all (rs:=[i]) (by simpa using Y) (by simp) λG r=>?_;rw[kq1] at r;subst r;unfold wpOp;simp only[p];rw[eV,u.2.1,if_pos rfl];refine .inl (Oper.wp_mono (λZ W y=>⟨y.1,?_⟩) u.2.2);rw[Array.setIfInBounds_comm _ _ (Ne.symm H)];exact ih b _ _ _ t K y.1 y.2
  simp only[mi,E,if_false] at I;obtain⟨b,rfl⟩:∃f,b=f+1:=⟨b-1,by omega⟩;have t:mi l<=b:=by omega
  simp only[lT,E,if_false,kqt] at n;obtain⟨g,B⟩:=n;cases A:ops[i]? with
  | none=>rw[A] at g;simp at g
  | some o =>
   rw[A] at g;simp only[Option.any_some] at g;simp only[Ei,kvf,A] at h;by_cases F:k=0
   .subst F;unfold gV at h;simp only[if_true] at g h;simp only[kqt] at g;obtain⟨O,L,M⟩:=g;cases m:gOk (tB ops o) a.tmps with
    | true =>rw[if_pos m] at h;obtain⟨v,N,G⟩:=h;exact kkv A hs L M (λc a w=>hQ c a _ v w) (.inl ⟨by rw[eV];exact m,λX V=>t9 O (N X (cls_of V))⟩) z (ih b _ _ _ t B z G)
    | false =>rw[if_neg (by rw[m];decide)] at h;exact kkv A hs L M (λc a w=>hQ c a _ undef w) (.inr ⟨by rw[eV];exact m,rfl⟩) z (ih b _ _ _ t B z h)
   have hkb:(k==0)=false:=by rw[kqi];exact F
   simp only[F,if_false] at g;have h:gV P Q S (.one o false (tB ops o)::Ei ops l) a w:=by
    match k,E,F,h with
    | 1,_,_,h=>exact h
    | k+3,_,_,h=>exact h
   unfold gV at h;refine wpAnyH_all (rs:=[i]) (by simpa using g) (by simp) λj J=>?_;rw[kq1] at J;subst J;unfold wpOp;simp only[A];cases m:gOk (tB ops o) a.tmps with
   | true =>rw[if_pos m,if_neg (by decide)] at h;rw[eV,m,if_pos rfl];exact .inl (Oper.wp_mono (λa' w' h=>⟨h.1,ih b _ _ _ t B h.1 h.2⟩) h)
   | false =>rw[if_neg (by rw[m];decide)] at h;rw[eV,m,if_neg (by decide)];exact⟨z,ih b _ _ _ t B z h⟩
theorem qC(l:List (Nat × Nat × Nat))(L:List It)(hm:P.follows .mixedOrders=true)(hs:Region.noSelect ops=true)(hl:mi l<=ops.size)(hok:lT .any ops l (Array.replicate ops.size false)=true)(hL:Ei ops l=L)(hQ:∀c a d v w,Q (.panic c) (a.put d v) w->Q (.panic c) a w)(hS:S w.drew)(h:gV P Q S L a w.drew):(Code.region id ops true).wp P Q a w:=by subst hL;exact wp_region_held hm (BV hs hQ l ops.size _ a w.drew hl hok hS h)
structure SqG (P:Program) (Q:Exit->Act->World->Prop) (S:World->Prop) (l:List It) (a:Act) (w:World):Prop where
 out:gV P Q S l a w
theorem Af(h:Q .normal a w):SqG P Q S [] a w:=⟨h⟩
theorem iP(hg:gOk g a.tmps=true)(h:∀K:Act->Prop,(∀b,SqG P Q S r b w->K b)->o.quiet P a (λX=>∃g:SW S,X=g.w) K):SqG P Q S (.one o true g::r) a w:=⟨EL hg λK c=>h K λb d=>c b d.out⟩
theorem ti(hg:gOk g a.tmps=true)(h:∀K:Act->World->Prop,(∀b w',S w'->SqG P Q S r b w'->K b w')->o.wp P a w K Q):SqG P Q S (.one o false g::r) a w:=⟨seq_do hg λK d=>h K λb w' c e=>d b w' c e.out⟩
theorem eO{t:Bool}(hg:gOk g a.tmps=false)(h:SqG P Q S r (a.put o.dst undef) w):SqG P Q S (.one o t g::r) a w:=⟨DM hg h.out⟩
theorem nK(l:List (Nat × Nat × Nat))(L:List It)(hm:P.follows .mixedOrders=true)(hs:Region.noSelect ops=true)(hl:mi l<=ops.size)(hok:lT .any ops l (Array.replicate ops.size false)=true)(hL:Ei ops l=L)(hQ:∀c a d v w,Q (.panic c) (a.put d v) w->Q (.panic c) a w)(hS:S w.drew)(h:SqG P Q S L a w.drew):(Code.region id ops true).wp P Q a w:=qC l L hm hs hl hok hL hQ hS h.out
end
def RdL (w:World) (B:Nat) (A:Option Addr) (L:List Ty):Prop:=Rd w B A (L.flatMap Ty.cells)/\∀x∈L,RdY w B x.A x.l
theorem RdL.up{B':Nat}(h:RdL w B A L)(hb:Below B w w')(hB:B<=B'):RdL w' B' A L:=⟨h.1.up hb hB,λx a=>(h.2 x a).up hb hB⟩
theorem RdL.of_own{n c:Nat}(h:uU w H (.slice A n c) L)(hn:L.length=n):RdL w w.heap.size A L:=by subst hn;exact⟨Rd.of_own h.1,λx a=>Rd.of_own (h.2 x a)⟩
theorem ru(A TA OA:Option Addr)(ws:List Nat)(L:List Ty)(O:List Bk)(c n tc tn oc on m z ty nx r:Nat)(xk:Int)(mk:Bool)(w:World)(ht:L.length=tn)(hl8:∀x∈L,x.l.length<=8)(hr:r=7\/r=8)(hL:RdL w w.heap.size TA L):
 Calls prog 155 #[.slice A n c,.slice TA tn tc,.slice OA on oc,.agg #[.int .i64 (m:Int),.int .i64 (z:Int),.int .i64 xk,.int .i64 (ty:Int),.bool mk,.int .u64 (nx:Int)],.int .i64 (r:Int)] w λe w'=>e=.returned (.bool (wrB ws (L.map Ty.l) O m z ty mk nx r))/\Below w.heap.size w w':=by
 subst ht;have H:=hid (hL.up ((kqk w.heap.size w).alloc (kqa _) (.cells #[.int .i64 (m:Int),.int .i64 (z:Int),.int .i64 xk,.int .i64 (ty:Int),.bool mk,.int .u64 (nx:Int)] 55)) (kqa _));have u:=hid ((kqk w.heap.size w).alloc (kqa _) (.cells #[.int .i64 (m:Int),.int .i64 (z:Int),.int .i64 xk,.int .i64 (ty:Int),.bool mk,.int .u64 (nx:Int)] 55));have xb:=Bx.new w 55 #[.int .i64 (m:Int),.int .i64 (z:Int),.int .i64 xk,.int .i64 (ty:Int),.bool mk,.int .u64 (nx:Int)];have F:=hid xb;clear hL xb;rcases hr with rfl|rfl
 .have k:Hid (wrB ws (L.map Ty.l) O m z ty mk nx 7=(mk||decide (0<nx))):=hid rfl;have E:decide ((0:Int)<(nx:Int))=decide (0<nx):=by rw[decide_eq_decide];omega
  obtain⟨q,D⟩:=xq (decide (0<nx));rw[D] at k E;clear H;(try simp only[kq9]);cases mk
  all_goals
   go_enter func155,ntmps155;go_wp2;go_ret;exact⟨by rw[k.out];rfl,u.out⟩
 by_cases a:ty<L.length
 .obtain ⟨b,T,rfl,hb,G⟩:=oN H.out.1 a;have Y:=hl8 _ (kqq a);have k:Hid (wrB ws (L.map Ty.l) O m z ty mk nx 8=(bi L[ty].l.length != z)):=hid (by
   show (!decide (ty<(L.map Ty.l).length)||bi (((L.map Ty.l)[ty]?).getD []).length != z)=_;rw[kzo,decide_eq_true a,kxf,kql a];rfl)
  obtain⟨x,V⟩:=xq (L[ty]);rw[V] at G Y k;obtain⟨xA,xc,v⟩:=x;dsimp only at G Y k;have U:=hid (λW=>x9 v.length W (by omega));have I:bi v.length<=10:=by unfold bi;omega
  have E:(((bi v.length:Nat):Int) != (z:Int))=(bi v.length != z):=by rw[kzg,kqv,kqv];omega
  obtain⟨o,Z⟩:=xq (bi v.length);rw[Z] at k U I E;obtain⟨q,D⟩:=xq ((o != z));rw[D] at k E;have d1:decide ((L.length:Int)<=(ty:Int))=false:=by rw[kqc];omega
  have Q:decide (L.length<=ty)=false:=by rw[kqc];omega
  have j1:(ty:Int)<(L.length:Int):=by omega
  have j0:(0:Int)<=(ty:Int):=by omega
  (try simp only[kq9]);clear V Z D hl8 a;obtain⟨P,C,R,y,J,M,N,s⟩:=F.out.c6;obtain⟨f,i⟩:∃f,w.alloc (.cells #[.int .i64 (m:Int),.int .i64 (z:Int),.int .i64 xk,.int .i64 (ty:Int),.bool mk,.int .u64 (nx:Int)] 55)=f:=⟨_,rfl⟩;go_enter func155,ntmps155;go_wp2_with fail;rw[i] at u C y G;clear i P R J M N F H s
  go_region_held3 (λX:World=>X.cell? ⟨w.heap.size,1,none⟩=some (.int .i64 (z:Int))/\X.cell? ⟨w.heap.size,3,none⟩=some (.int .i64 (ty:Int))/\X.cell? ⟨b,T+ty,none⟩=some (.slice xA v.length xc)) (go_keep)
   (first | (go_at_call 214;refine (U.out _).mono ?_;rintro e w5 ⟨rfl,rfl⟩;have m0:=C;have m1:=y;have m2:=G))
  clear m0 m1 m2;go_wp2;go_ret;exact⟨by rw[k.out];rfl,u.out.drew⟩
 have k:Hid (wrB ws (L.map Ty.l) O m z ty mk nx 8=true):=hid (by
  show (!decide (ty<(L.map Ty.l).length)||bi (((L.map Ty.l)[ty]?).getD []).length != z)=_;rw[kzo,decide_eq_false a];rfl)
 have d1:decide ((L.length:Int)<=(ty:Int))=true:=by rw[kqn];omega
 have Q:decide (L.length<=ty)=true:=by rw[kqn];omega
 obtain⟨P,C,R,y,J,M,N,s⟩:=F.out.c6;(try simp only[kq9]);clear a;go_enter func155,ntmps155;go_wp2_with fail;obtain⟨f,i⟩:∃f,w.alloc (.cells #[.int .i64 (m:Int),.int .i64 (z:Int),.int .i64 xk,.int .i64 (ty:Int),.bool mk,.int .u64 (nx:Int)] 55)=f:=⟨_,rfl⟩;rw[i] at u y s |-;clear i P C R J M N F H;have ct3:∀g:SW (λX:World=>Below f.heap.size f X),g.w.cell? ⟨w.heap.size,3,none⟩=some (.int .i64 (ty:Int)):=λg=>(g.ok.cell (p:=⟨w.heap.size,3,none⟩) s).trans y
 refine nK (S:=λX:World=>Below f.heap.size f X) ((0,0,0)::(0,1,0)::(0,2,0)::(1,3,0)::(0,4,0)::(0,5,0)::(0,6,0)::(0,7,0)::(0,8,0)::(0,9,0)::(0,10,0)::(0,13,0)::(0,14,0)::(1,11,0)::(1,12,0)::(0,15,0)::(0,16,0)::(0,17,0)::[]) (.one _ true (none)::.one _ true (none)::.one _ true (none)::.one _ false (none)::.one _ true (none)::.one _ true (none)::.one _ true (some (some 30,false))::.one _ true (some (some 30,false))::.one _ true (some (some 30,false))::.one _ true (some (some 30,false))::.one _ true (some (some 30,false))::.one _ true (some (some 30,false))::.one _ true (some (some 30,false))::.one _ false (some (some 30,false))::.one _ false (some (some 30,false))::.one _ true (some (some 30,false))::.one _ true (none)::.one _ true (none)::[]) (by kernel_rfl) (by kernel_rfl) (by decide) (by show lT _ _ (((0,0,0)::(0,1,0)::(0,2,0)::(1,3,0)::(0,4,0)::(0,5,0)::(0,6,0)::(0,7,0)::(0,8,0)::(0,9,0)::[])++(((0,10,0)::(0,13,0)::(0,14,0)::(1,11,0)::(1,12,0)::(0,15,0)::(0,16,0)::(0,17,0)::[]))) _=true;refine nI _ (by as_aux_lemma=>kernel_rfl) ?_;(as_aux_lemma=>kernel_rfl)) (by rfl) (λ_ _ d _ _ h=>by cases d<;>exact h) (kqk _ _).drew ?_;have j:=hid ((kqk f.heap.size f).drew);obtain⟨X0,B⟩:=xq f.drew
 rw[B] at j |-;clear B;have hne:Nonempty (SW (λX:World=>Below f.heap.size f X)):=⟨⟨X0,j.out⟩⟩
 iterate 3 (first | (refine eO (by rfl) ?_;(try simp only[Act.put,kqb,kqg,kqf])) | (refine iP (by rfl) ?_;intro K t;go_big_quiet_op;go_big_quiet_on))
 (first | (refine eO (by rfl) ?_;(try simp only[Act.put,kqb,kqg,kqf])) | (refine ti (by rfl) ?_;intro K t;go_big_op;refine t _ _ j.out ?_;clear t K;(try simp only[Act.put,kqb,kqg,kqf])))
 iterate 9 (first | (refine eO (by rfl) ?_;(try simp only[Act.put,kqb,kqg,kqf])) | (refine iP (by rfl) ?_;intro K t;go_big_quiet_op;go_big_quiet_on))
 (first | (refine eO (by rfl) ?_;(try simp only[Act.put,kqb,kqg,kqf])) | (refine ti (by rfl) ?_;intro K t;go_big_op;refine t _ _ j.out ?_;clear t K;(try simp only[Act.put,kqb,kqg,kqf])))
 (refine eO (by rfl) ?_;(try simp only[Act.put,kqb,kqg,kqf]))
 iterate 3 (first | (refine eO (by rfl) ?_;(try simp only[Act.put,kqb,kqg,kqf])) | (refine iP (by rfl) ?_;intro K t;go_big_quiet_op;go_big_quiet_on))
 refine Af ?_;go_wp2;go_ret;exact⟨by rw[k.out];rfl,u.out.trans (j.out.mono u.out.size)⟩
theorem ta(A TA OA:Option Addr)(ws:List Nat)(L:List Ty)(O:List Bk)(c n tc tn oc on m z ty nx r:Nat)(xk:Int)(mk:Bool)(w:World)(hn:ws.length=n)(hon:O.length=on)(hm:n<=2048)(ho1:on<=2048)(ht:L.length=tn)(hty:ty<L.length)(hl8:L[ty].l.length<=8)(R:z=bi L[ty].l.length)(hmz:m+z<=n)(hr:r=9\/r=10\/r=11)(hL:RdL w w.heap.size TA L)(hR:RdW w w.heap.size A ws)(hO:RdB w w.heap.size OA O)(hOb:∀b∈O,0<=b.at_/\b.at_<=1000000):
 Calls prog 155 #[.slice A n c,.slice TA tn tc,.slice OA on oc,.agg #[.int .i64 (m:Int),.int .i64 (z:Int),.int .i64 xk,.int .i64 (ty:Int),.bool mk,.int .u64 (nx:Int)],.int .i64 (r:Int)] w λe w'=>e=.returned (.bool (wrB ws (L.map Ty.l) O m z ty mk nx r))/\Below w.heap.size w w':=by
 subst ht hn hon;have E:=(kqk w.heap.size w).alloc (kqa _) (.cells #[.int .i64 (m:Int),.int .i64 (z:Int),.int .i64 xk,.int .i64 (ty:Int),.bool mk,.int .u64 (nx:Int)] 55);have T:=hL.up E (kqa _);have G:=hid (hR.up E E.size);have I:=hid (hO.up E E.size);have Eq:=hid hOb;have D:=hid E;have B:bi L[ty].l.length<=10/\L[ty].l.length+2<=bi L[ty].l.length:=by unfold bi;omega
 obtain⟨q0,q1,q2,q3,q4,q5,qf,K⟩:=(Bx.new w 55 #[.int .i64 (m:Int),.int .i64 (z:Int),.int .i64 xk,.int .i64 (ty:Int),.bool mk,.int .u64 (nx:Int)]).c6;obtain⟨b,off,rfl,hb,p0⟩:=oN T.1 hty;have N:=T.2 _ (kqq hty);have P:Hid (∀F,L[ty].l=F->wrB ws (L.map Ty.l) O m z ty mk nx r=(if r=7 then mk||decide (0<nx) else if r=8 then !decide (ty<(L.map Ty.l).length)||bi F.length != z else if r=9 then decide (F.length+2<z)&&wd ws (m+2+F.length) != 0 else (List.range F.length).any λi=>wrF ws F O m r i)):=hid λF hF=>by
  unfold wrB;rw[kxf,kql hty];simp only[kzy,kq8,hF]
 obtain⟨x,hx⟩:=xq (L[ty]);rw[hx] at p0 hl8 R B N P;obtain⟨xA,xc,F⟩:=x;dsimp only at p0 hl8 R B N P;have Z:=hid (P.out F rfl);have HF:=hid N;rw[<-R] at B;have j1:(ty:Int)<(L.length:Int):=by omega
 have j0:(0:Int)<=(ty:Int):=by omega
 have HZ:=hid R;clear hx P T hL hR hO hOb N R q2 q4 q5 qf;rcases hr with rfl|rfl|rfl
 .have y:Hid (wrB ws (L.map Ty.l) O m z ty mk nx 9=(decide (F.length+2<z)&&wd ws (m+2+F.length) != 0)):=hid Z.out;have w1:IntKind.i64.wrap ((z:Int)-2)=(z:Int)-2:=kqs _ (by omega);have w2:IntKind.i64.wrap ((m:Int)+2)=(m:Int)+2:=kqs _ (by omega);have w3:IntKind.i64.wrap ((m:Int)+2+(F.length:Int))=((m+2+F.length:Nat):Int):=by rw[kqs _ (by omega)];omega
  (try simp only[kq9]);by_cases hp:F.length+2<z
  .obtain ⟨bw,ow,rfl,Kg,H⟩:=RdW.at_ G.out (show m+2+F.length<ws.length by omega);rw[<-cA] at H;have d1:decide ((F.length:Int)<(z:Int)-2)=true:=by rw[kqn];omega
   rw[decide_eq_true hp] at y;have k1:((m+2+F.length:Nat):Int)<(ws.length:Int):=by omega
   have k0:(0:Int)<=((m+2+F.length:Nat):Int):=by omega
   obtain⟨p,o⟩:=xq (m+2+F.length);rw[o] at H y w3 k1 k0;have e0:((wd ws p:Int) != 0)=(wd ws p != 0):=by rw[kzg,kqv,kqv];omega
   obtain⟨v,Q⟩:=xq (wd ws p);rw[Q] at H y e0;obtain⟨q,S⟩:=xq ((v != 0));rw[S] at y e0;clear o Q S Z HF I Eq hp HZ B;go_enter func155,ntmps155;go_wp2;go_ret;exact⟨by rw[y.out];rfl,D.out⟩
  have d1:decide ((F.length:Int)<(z:Int)-2)=false:=by rw[kqc];omega
  rw[decide_eq_false hp] at y;clear Z HF I Eq hp HZ B;go_enter func155,ntmps155;go_wp2;go_ret;exact⟨by rw[y.out];rfl,D.out⟩
 .have y:Hid (wrB ws (L.map Ty.l) O m z ty mk nx 10=(List.range F.length).any λi=>wrF ws F O m 10 i):=hid Z.out;have w2:IntKind.i64.wrap ((m:Int)+2)=(m:Int)+2:=kqs _ (by omega);have X:Hid (∀k,k<F.length->wrF ws F O m 10 k=true->wrB ws (L.map Ty.l) O m z ty mk nx 10=true):=hid λk J h=>by
   rw[y.out,kx3];exact⟨k,kzj.2 J,h⟩
  have Ka:Hid ((∀k,k<F.length->wrF ws F O m 10 k=false)->wrB ws (L.map Ty.l) O m z ty mk nx 10=false):=hid λh=>by
   rw[y.out,kj5];intro k J;rw[h k (kzj.1 J)];decide
  obtain⟨M,V⟩:∃M,w.alloc (.cells #[.int .i64 (m:Int),.int .i64 (z:Int),.int .i64 xk,.int .i64 (ty:Int),.bool mk,.int .u64 (nx:Int)] 55)=M:=⟨_,rfl⟩;rw[V] at G I HF D q0 q1 q3 p0 K;obtain⟨Kh,Ke⟩:=B;(try simp only[kq9]);clear Z y HZ q1;go_enter func155,ntmps155;go_wp2_with fail;go_loopw [12] (λi wr=>∃k:Nat,k<=F.length/\i=.int .i64 k/\Hid (∀j,j<k->wrF ws F O m 10 j=false)/\Below M.heap.size M wr) (λi _=>F.length-(intOf i).toNat)
  case atStart=>exact⟨0,kqy _,rfl,hid λj h=>absurd h (by omega),kqk _ _⟩
  obtain⟨k,J,rfl,HP,C⟩:=hrel;have R:=C.size;by_cases u:k<F.length
  .have q0':=(C.cell (p:=⟨w.heap.size,0,none⟩) K).trans q0;obtain⟨bw,ow,rfl,Kg,H⟩:=RdW.at_ (Rd.below G.out C) (show m+2+k<ws.length by omega);rw[<-cA] at H;obtain⟨bf,of,rfl,Kj,y0⟩:=RdY.at_ (Rd.below HF.out (C.mono D.out.size)) u;have HS:Hid (wrF ws F O m 10 k=false->∀j,j<k+1->wrF ws F O m 10 j=false):=hid λh j hj=>by
    rcases kq6 j k with h2|h2
    .exact HP.out j h2
    have:j=k:=by omega
    subst this;exact h
   have HY:=hid (X.out k u);have d:Hid (wrF ws F O m 10 k=(F[k]==2 && !vW (wd ws (m+2+k)))):=hid (by
    unfold wrF;rw[kql u]
    first | rw[if_pos rfl] | rw[if_neg (by decide)]
    rw[show ∀a b:Nat,(some a==some b)=(a==b) from λa b=>rfl])
   have w3:IntKind.i64.wrap ((m:Int)+2+(k:Int))=((m+2+k:Nat):Int):=by rw[kqs _ (by omega)];omega
   have k1:((m+2+k:Nat):Int)<(ws.length:Int):=by omega
   have k0:(0:Int)<=((m+2+k:Nat):Int):=by omega
   have Ki:(k:Int)<(F.length:Int):=by omega
   have Kk:(0:Int)<=(k:Int):=by omega
   obtain⟨p,o⟩:=xq (m+2+k);rw[o] at H d w3 k1 k0;obtain⟨v,Q⟩:=xq (wd ws p);rw[Q] at H d;obtain⟨f,hf⟩:=xq (F[k]);rw[hf] at y0 d;have s:=hid C;clear o Q hf;have Kc:=hid (λW=>xU v W);by_cases U:f=2
   .subst U;have g:Hid (wrF ws F O m 10 k = !vW v):=hid (by rw[d.out];rfl);obtain⟨q,S⟩:=xq (vW v);rw[S] at Kc g;clear S d;cases q
    .have t:=hid (HY.out (by rw[g.out];rfl));go_wp2_with fail;refine (Kc.out _).mono ?_;rintro e w5 ⟨rfl,rfl⟩;go_wp2;go_ret;exact⟨by rw[t.out];rfl,D.out.trans (s.out.mono D.out.size)⟩
    have t:=hid (HS.out (by rw[g.out];rfl));go_wp2_with fail;refine (Kc.out _).mono ?_;rintro e w5 ⟨rfl,rfl⟩;go_wp2;go_roundw
    case rel=>exact⟨k+1,by omega,by go_num,t,s.out⟩
    case measure=>simp[intOf];omega
   have e1:((f:Int)==2)=false:=by rw[kqi];omega
   have t:=hid (HS.out (by rw[d.out,show (f==2)=false by rw[kqi];exact U];rfl));clear U d;go_wp2;go_roundw
   case rel=>exact⟨k+1,by omega,by go_num,t,s.out⟩
   case measure=>simp[intOf];omega
  have t:=hid (Ka.out λj hj=>HP.out j (by omega));obtain rfl:k=F.length:=by omega
  go_wp2;go_ret;exact⟨by rw[t.out];rfl,D.out.trans (C.mono D.out.size)⟩
 have y:Hid (wrB ws (L.map Ty.l) O m z ty mk nx 11=(List.range F.length).any λi=>wrF ws F O m 11 i):=hid Z.out;have w2:IntKind.i64.wrap ((m:Int)+2)=(m:Int)+2:=kqs _ (by omega);have X:Hid (∀k,k<F.length->wrF ws F O m 11 k=true->wrB ws (L.map Ty.l) O m z ty mk nx 11=true):=hid λk J h=>by
  rw[y.out,kx3];exact⟨k,kzj.2 J,h⟩
 have Ka:Hid ((∀k,k<F.length->wrF ws F O m 11 k=false)->wrB ws (L.map Ty.l) O m z ty mk nx 11=false):=hid λh=>by
  rw[y.out,kj5];intro k J;rw[h k (kzj.1 J)];decide
 obtain⟨M,V⟩:∃M,w.alloc (.cells #[.int .i64 (m:Int),.int .i64 (z:Int),.int .i64 xk,.int .i64 (ty:Int),.bool mk,.int .u64 (nx:Int)] 55)=M:=⟨_,rfl⟩;rw[V] at G I HF D q0 q1 q3 p0 K;obtain⟨Kh,Ke⟩:=B;(try simp only[kq9]);clear Z y HZ q1;go_enter func155,ntmps155;go_wp2_with fail;go_loopw [12] (λi wr=>∃k:Nat,k<=F.length/\i=.int .i64 k/\Hid (∀j,j<k->wrF ws F O m 11 j=false)/\Below M.heap.size M wr) (λi _=>F.length-(intOf i).toNat)
 case atStart=>exact⟨0,kqy _,rfl,hid λj h=>absurd h (by omega),kqk _ _⟩
 obtain⟨k,J,rfl,HP,C⟩:=hrel;have R:=C.size;by_cases u:k<F.length
 .have q0':=(C.cell (p:=⟨w.heap.size,0,none⟩) K).trans q0;obtain⟨bw,ow,rfl,Kg,H⟩:=RdW.at_ (Rd.below G.out C) (show m+2+k<ws.length by omega);rw[<-cA] at H;obtain⟨bf,of,rfl,Kj,y0⟩:=RdY.at_ (Rd.below HF.out (C.mono D.out.size)) u;have HS:Hid (wrF ws F O m 11 k=false->∀j,j<k+1->wrF ws F O m 11 j=false):=hid λh j hj=>by
   rcases kq6 j k with h2|h2
   .exact HP.out j h2
   have:j=k:=by omega
   subst this;exact h
  have HY:=hid (X.out k u);have d:Hid (wrF ws F O m 11 k=(F[k]==3&&(decide (0<wd ws (m+2+k)) && !my O (wd ws (m+2+k))))):=hid (by
   unfold wrF;rw[kql u]
   first | rw[if_pos rfl] | rw[if_neg (by decide)]
   rw[show ∀a b:Nat,(some a==some b)=(a==b) from λa b=>rfl])
  have w3:IntKind.i64.wrap ((m:Int)+2+(k:Int))=((m+2+k:Nat):Int):=by rw[kqs _ (by omega)];omega
  have k1:((m+2+k:Nat):Int)<(ws.length:Int):=by omega
  have k0:(0:Int)<=((m+2+k:Nat):Int):=by omega
  have Ki:(k:Int)<(F.length:Int):=by omega
  have Kk:(0:Int)<=(k:Int):=by omega
  obtain⟨p,o⟩:=xq (m+2+k);rw[o] at H d w3 k1 k0;obtain⟨v,Q⟩:=xq (wd ws p);rw[Q] at H d;obtain⟨f,hf⟩:=xq (F[k]);rw[hf] at y0 d;have s:=hid C;clear o Q hf;by_cases Kd:f=3
  .subst Kd;have g:Hid (wrF ws F O m 11 k=(decide (0<v) && !my O v)):=hid (by rw[d.out];rfl);by_cases Y:0<v
   .have d1:decide ((0:Int)<(v:Int))=true:=by rw[kqn];omega
    have Kb:=hid (λW (hr:RdB W W.heap.size OA O)=>pj OA O oc O.length v W rfl (by omega) hr Eq.out);have Kf:=hid (I.out.up C R);rw[decide_eq_true Y] at g;obtain⟨q,S⟩:=xq (my O v);rw[S] at Kb g;clear S d;cases q
    .have t:=hid (HY.out (by rw[g.out];rfl));go_wp2_with fail;refine (Kb.out _ Kf.out).mono ?_;rintro e w5 ⟨⟨r,rfl,hr⟩,rfl⟩;simp only[kvb] at hr;go_wp2;go_ret;exact⟨by rw[t.out];rfl,D.out.trans (s.out.mono D.out.size)⟩
    have t:=hid (HS.out (by rw[g.out];rfl));go_wp2_with fail;refine (Kb.out _ Kf.out).mono ?_;rintro e w5 ⟨⟨r,rfl,hr⟩,rfl⟩;simp only[kvn] at hr;go_wp2;go_roundw
    case rel=>exact⟨k+1,by omega,by go_num,t,s.out⟩
    case measure=>simp[intOf];omega
   have t:=hid (HS.out (by rw[g.out,decide_eq_false Y];rfl));obtain rfl:v=0:=by omega
   clear d g Y;go_wp2;go_roundw
   case rel=>exact⟨k+1,by omega,by go_num,t,s.out⟩
   case measure=>simp[intOf];omega
  have e1:((f:Int)==3)=false:=by rw[kqi];omega
  have t:=hid (HS.out (by rw[d.out,show (f==3)=false by rw[kqi];exact Kd];rfl));clear Kd d;go_wp2;go_roundw
  case rel=>exact⟨k+1,by omega,by go_num,t,s.out⟩
  case measure=>simp[intOf];omega
 have t:=hid (Ka.out λj hj=>HP.out j (by omega));obtain rfl:k=F.length:=by omega
 go_wp2;go_ret;exact⟨by rw[t.out];rfl,D.out.trans (C.mono D.out.size)⟩
theorem yv(A:Option Addr)(ws:List Nat)(c n t:Nat)(w:World)(hn:ws.length=n)(hs:aj (n:Int)=true)(ht:tyN ws=some t)(hc:n<=c)(g:RdW w w.heap.size A ws)(ho:∀x∈ws,x<18446744073709551616):
 Calls prog 151 #[.slice A n c] w λe w'=>Ii ws t w.heap.size e w'/\Below w.heap.size w w':=by subst hn;have y:=(aa _).1 hs;have j:=hid (r7 A ws c ws.length w rfl (by omega) hc g);have q:jE ws=0:=zS.2 ⟨hs,by rw[ht];rfl⟩;unfold An at j;rw[q,ht] at j;have z:=hid (λW (g:RdW W W.heap.size A ws)=>xF A ws c ws.length t W rfl (by omega) (by omega) g ho);have B:=hid g;clear hs y q ht g ho;go_enter func151,ntmps151;go_wp2_with fail;refine j.out.mono ?_;rintro e C ⟨⟨a,s,o,rfl⟩,d⟩;simp only[kq8];have k:=d.size;have b:=hid ((d.alloc k (.cells #[.int .i64 a,.int .i64 (t:Int)] 126)).alloc (by simp;omega) (.cells #[.bool s,.bool o] 127));clear d;go_wp2_with fail;refine (z.out _ (B.out.up b.out b.out.size)).mono ?_;rintro e r ⟨⟨v,L,rfl,p⟩,f⟩;have m:=hid (b.out.trans (f.mono b.out.size));have i:=hid p;have hz2:=b.out.size;have l:Hid (∀L v,uU r ((C.alloc (.cells #[.int .i64 a,.int .i64 (t:Int)] 126)).alloc (.cells #[.bool s,.bool o] 127)).heap.size v L->uU r w.heap.size v L):=hid λL v h=>⟨ao h.1 b.out.size,λx u=>ao (h.2 x u) b.out.size⟩;clear p f;go_wp2;go_ret2;exact⟨⟨v,L,rfl,λh=>⟨l.out _ _ (i.out h).1,(i.out h).2⟩⟩,m.out⟩
theorem n8(ht:tyN ws=some t)(hl:blocks ws 128=some l):lay ws=true↔fi ws 16=true/\fi ws 24=true/\ib ws t=true/\slsOk ws=true/\kk l=true/\(∀r,7<=r->r<12->∀b∈aM l,wrK ws (gJ ws t 8) (aM l) r b=false)/\∀s∈slL ws,jV (aM l) s=true:=by
 unfold lay;rw[ht,hl];simp only[kqt,kzu,kzj,kx4];constructor
 .rintro ⟨f,i,e,a,g,h,d⟩;refine⟨f,i,e,a,g,λr h1 h2 b c=>?_,d⟩;have:=h (r-7) (by omega) b c;rwa [show 7+(r-7)=r by omega] at this
 rintro ⟨f,i,e,a,g,h,d⟩;exact⟨f,i,e,a,g,λr hr b c=>h (7+r) (by omega) (by omega) b c,d⟩
theorem pv(h:tyN ws=none\/blocks ws 128=none):lay ws=false:=by
 unfold lay;rcases h with h|h
 .rw[h]
 rw[h];cases tyN ws<;>rfl
theorem gH(hl:blocks ws 128=some l){b:Bk}(hb:b∈aM l):∃a z ty nx:Nat,∃mk,b=⟨(a:Int),(z:Int),1,(ty:Int),mk,nx⟩/\128<=a/\a+z<=ws.length/\2<=z/\b=bkAt ws a/\stands ws a=true:=by
 unfold aM at hb;obtain⟨j,c⟩:=kzp.1 hb;rw[kqw] at c;obtain⟨k,g,rfl⟩:=kqz j;obtain⟨a,e,a1,m,a3,f,-⟩:=cp _ _ hl (by omega) k g;have d:=aF f;rw[e] at c;have h:bkAt ws a=⟨(a:Int),((szAt ws a:Nat):Int),1,(((aq (wd ws a)).typ.toNat:Nat):Int),(aq (wd ws a)).mark,wd ws (a+1)⟩:=by
  have i:(aq (wd ws a)).typ=(((aq (wd ws a)).typ.toNat:Nat):Int):=by unfold aq;dsimp only;omega
  rw[<-i,<-c];rfl
 exact⟨a,szAt ws a,(aq (wd ws a)).typ.toNat,wd ws (a+1),(aq (wd ws a)).mark,by rw[e,h],m,d.2.2,d.1,e,f⟩
theorem EK(l:List Bk):(aM l).length<=l.length:=by unfold aM;exact kjp _ _
def Em (ws:List Nat) (e:Ending):Prop:=∃r:Int,e=.returned (.int .i64 r)/\0<=r/\(r=0↔lay ws=true)
theorem l8{r:Int}(h:lay ws=false)(hr:0<r):Em ws (.returned (.int .i64 r)):=⟨r,rfl,by omega,by rw[h];constructor<;>intro h;omega;cases h⟩
theorem wy_ok(h:lay ws=true):Em ws (.returned (.int .i64 0)):=⟨0,rfl,by omega,by rw[h];simp⟩
theorem Fm(A:Option Addr)(ws:List Nat)(c n:Nat)(w:World)(hn:ws.length=n)(hs:aj (n:Int)=true)(hc:n<=c)(y:RdW w w.heap.size A ws)(ho:∀x∈ws,x<18446744073709551616):
 Calls prog 93 #[.slice A n c] w λe w'=>Em ws e/\Below w.heap.size w w':=by
 subst hn;have hb:=(aa _).1 hs;have HC:=hid (r7 A ws c ws.length w rfl (by omega) hc y);have HR:=hid y;have P:jE ws=if (tyN ws).isSome=true then 0 else 50:=by unfold jE;rw[if_pos hs]
 unfold An at HC;have HZ:=hid (λa ha W (y:RdW W W.heap.size A ws)=>xy A ws c ws.length a W rfl ha (by omega) y);have U:=hid (λW (y:RdW W W.heap.size A ws)=>(show Calls prog 150 #[.slice A ws.length c,.int .i64 16] W λe w'=>e=.returned (.bool (fi ws 16))/\W=w' from HZ.out 16 (by omega) W y));have V:=hid (λW (y:RdW W W.heap.size A ws)=>(show Calls prog 150 #[.slice A ws.length c,.int .i64 24] W λe w'=>e=.returned (.bool (fi ws 24))/\W=w' from HZ.out 24 (by omega) W y));have Kh:=hid (λW (y:RdW W W.heap.size A ws)=>zT A ws c ws.length W rfl (by omega) (by omega) y ho);have Lf:=hid (λW (y:RdW W W.heap.size A ws)=>zu A ws c ws.length W rfl hs y ho);unfold TlRes at Kh;cases ht:tyN ws with
 | none =>rw[ht] at HC P;rw[P] at HC;have E:=hid (pv (.inl ht));simp only[kkr,kj0,kzh,if_false] at HC;clear P ht hs hb y ho HZ U V Kh Lf;go_enter func93,ntmps93;go_wp2_with fail;refine HC.out.mono ?_;rintro e w1 ⟨⟨a,b0,b1,rfl⟩,N⟩;have Kx:=N.size;go_wp2;go_ret;exact⟨l8 E.out (by decide),(N.alloc Kx _).alloc (by simp;omega) _⟩
 | some t =>
  have Mu:=uK ht;rw[ht] at HC P;rw[P] at HC;simp only[kq8,kkg,if_true] at HC;have Kt:=hid (λW (y:RdW W W.heap.size A ws)=>yv A ws c ws.length t W rfl hs ht hc y ho);unfold Ii at Kt;have Kr:=hid (λl G=>n8 (ws:=ws) (t:=t) (l:=l) ht G);have Lj:=hid (λh=>pv (ws:=ws) (.inr h));have R:Hid ((fi ws 16=false\/fi ws 24=false\/ib ws t=false\/slsOk ws=false\/wu ws=false)->lay ws=false):=hid λh=>by
   cases p:lay ws with
   | false=>rfl
   | true =>
    cases G:blocks ws 128 with
    | none=>rw[Lj.out G] at p;cases p
    | some l =>obtain⟨a1,a2,a3,a4,a5,-⟩:=(Kr.out l G).1 p;rw[a1,a2,a3,a4,iI G,a5] at h;simp at h
  have Mb:=hid (λl G=>iI (ws:=ws) (l:=l) G);have Mg:=hid (λl (G:blocks ws 128=some l)=>(bK (by omega) _ _ G (by omega) (by omega) (by omega)).1);have HO:=hid ho;have Ld:256<=ws.length:=by omega
  have H:ws.length<=2048:=by omega
  clear P hs hb y ho HZ ht;go_enter func93,ntmps93;go_wp2_with fail;refine HC.out.mono ?_;rintro e w1 ⟨⟨a,b0,b1,rfl⟩,N⟩;have Kx:=N.size;have f:=hid ((N.alloc Kx (.cells #[.int .i64 a,.int .i64 (t:Int)] 126)).alloc (by simp;omega) (.cells #[.bool b0,.bool b1] 127));clear N;go_wp2_with fail;refine (U.out _ (HR.out.up f.out f.out.size)).mono ?_;rintro e w2 ⟨rfl,rfl⟩;cases Ki:fi ws 16
  .have E:=hid (R.out (.inl Ki));clear Ki;go_wp2;go_ret;exact⟨l8 E.out (by decide),f.out⟩
  have Lr:=hid Ki;clear Ki;go_wp2_with fail;refine (V.out _ (HR.out.up f.out f.out.size)).mono ?_;rintro e w2 ⟨rfl,rfl⟩;cases Kf:fi ws 24
  .have E:=hid (R.out (.inr (.inl Kf)));clear Kf;go_wp2;go_ret;exact⟨l8 E.out (by decide),f.out⟩
  have Ml:=hid Kf;clear Kf;go_wp2_with fail;refine (Kt.out _ (HR.out.up f.out f.out.size)).mono ?_;rintro e w3 ⟨⟨v,L,rfl,hT⟩,Mh⟩;have Q:=hid (f.out.trans (Mh.mono f.out.size));have Lq:=hid hT;have Lp:=hid (HR.out.up Q.out Q.out.size);clear hT Mh;cases D:ib ws t
  .have E:=hid (R.out (.inr (.inr (.inl D))));clear D;go_wp2;go_ret;exact⟨l8 E.out (by decide),Q.out⟩
  have Mc:=hid D;obtain⟨La,Le⟩:=Lq.out D;obtain⟨TA,tc,rfl⟩:=aO La.1;have Lh:=hid (RdL.of_own La rfl);have Lx:=hid Le;have Lu:∀x∈L,x.l.length<=8:=λx hx=>by
   have:x.l∈L.map Ty.l:=kjk hx;rw[Le] at this;unfold gJ at this;obtain⟨i,-,e⟩:=kzr.1 this;rw[<-e];exact kB _ _
  have Lb:=hid Lu;clear D La Le Lu Lq;go_wp2_with fail;refine (Kh.out _ Lp.out).mono ?_;rintro e w4 ⟨⟨SA,sn,sc,rfl,hS⟩,Kd⟩;have M:=hid (Q.out.trans (Kd.mono Q.out.size));have Lg:=hid hS;have Mm:=hid (HR.out.up M.out M.out.size);have Ko:=hid (Lh.out.up Kd Kd.size);clear hS Kd;cases Eq:slsOk ws
  .have E:=hid (R.out (.inr (.inr (.inr (.inl Eq)))));clear Eq;go_wp2;go_ret;exact⟨l8 E.out (by decide),M.out⟩
  have Mn:=hid Eq;obtain⟨Mi,Mr,Ly⟩:=Lg.out Eq;have Kc:=hid Mi;have Lk:=hid Ly;clear Eq Ly Lg Mi;go_wp2_with fail;refine (Lf.out _ Mm.out).mono ?_;rintro e w5 ⟨⟨PA,pn,pc,rfl,hP⟩,K⟩;have Ke:=hid (M.out.trans (K.mono M.out.size));have Ll:=hid hP;have Km:=hid (Ko.out.up K K.size);have Kn:=hid (show RdS w5 w5.heap.size SA (slL ws) from Rd.up Lk.out K K.size);clear hP K;cases Y:wu ws
  .have E:=hid (R.out (.inr (.inr (.inr (.inr Y)))));clear Y;go_wp2;go_ret;exact⟨l8 E.out (by decide),Ke.out⟩
  obtain⟨l,G,rfl,Mt,Lt⟩:=Ll.out Y;have Mp:=Mg.out l G;have Ku:=hid (Kr.out l G);have Ls:Hid (kk l=true):=hid (by rw[<-Mb.out l G];exact Y);have Ky:=hid (sI PA l pc l.length w5 rfl (by omega) Lt);have Ln:=EK l;have Kw:=hid (λb hb=>gH (b:=b) G hb);obtain⟨O,hO⟩:=xq (aM l);rw[hO] at Ky Ku Ln Kw;clear Y G Lt hO Ll Kr Lj Mg Mb;go_wp2_with fail;refine Ky.out.mono ?_;rintro e w6 ⟨⟨OA,on,oc,rfl,rfl,Nb,Mf⟩,J⟩;have F:=hid (Ke.out.trans (J.mono Ke.out.size));have Z:=hid (Km.out.up J J.size);have Lo:=hid (show RdS w6 w6.heap.size SA (slL ws) from Rd.up Kn.out J J.size);have Kq:=hid Mf;have Mo:=hid (HR.out.up F.out F.out.size);clear J Mf;have Kl:Hid (∀b∈O,0<=b.at_/\b.at_<=1000000):=hid λb hb=>by
   obtain⟨a,z,S,nx,mk,rfl,a1,a2,-⟩:=Kw.out b hb;dsimp only;omega
  have Kz:Hid (∀(r j a z S nx:Nat) (mk:Bool) (hj:j<O.length),O[j]=⟨(a:Int),(z:Int),1,(S:Int),mk,nx⟩->7<=r->r<=11->(9<=r->wrK ws (L.map Ty.l) O 8 O[j]=false)->a+z<=ws.length->∀W,Below w6.heap.size w6 W->Calls prog 155 #[.slice A ws.length c,.slice TA L.length tc,.slice OA O.length oc,.agg #[.int .i64 (a:Int),.int .i64 (z:Int),.int .i64 1,.int .i64 (S:Int),.bool mk,.int .u64 (nx:Int)],.int .i64 (r:Int)] W λe w'=>e=.returned (.bool (wrK ws (L.map Ty.l) O r O[j]))/\Below W.heap.size W w'):=hid λr j a z S nx mk hj e h7 h11 h8 Mq W hW=>by
   have ek:∀r,wrK ws (L.map Ty.l) O r O[j]=wrB ws (L.map Ty.l) O a z S mk nx r:=λr=>by
    rw[e];unfold wrK;simp only[kqj]
   rw[ek r];by_cases h9:9<=r
   .have h8:=h8 h9;rw[ek 8] at h8;have h8:(!decide (S<(L.map Ty.l).length)||bi (((L.map Ty.l)[S]?).getD []).length != z)=false:=h8;rw[kzn] at h8;have D:S<L.length:=by
     have:=h8.1;rw[kzo] at this
     simpa using this
    have hz:=h8.2;rw[kxf,kql D,kqr] at hz;exact ta A TA OA ws L O c ws.length tc L.length oc O.length a z S nx r 1 mk W rfl rfl H (by omega) rfl D (Lb.out _ (kqq D)) hz.symm Mq (by omega) (Z.out.up hW hW.size) (Mo.out.up hW hW.size) (Kq.out.up hW hW.size) Kl.out
   exact ru A TA OA ws L O c ws.length tc L.length oc O.length a z S nx r 1 mk W rfl Lb.out (by omega) (Z.out.up hW hW.size)
  rw[Lx.out] at Kz;have Kg:Hid (lay ws=true↔(∀r,7<=r->r<12->∀b∈O,wrK ws (gJ ws t 8) O r b=false)/\∀s∈slL ws,jV O s=true):=hid (by
   rw[Ku.out];exact⟨λh=>h.2.2.2.2.2,λh=>⟨Lr.out,Ml.out,Mc.out,Mn.out,Ls.out,h⟩⟩)
  have Mv:O.length<=1000000:=by omega
  have Na:=hid (λW (y:RdB W W.heap.size OA O) v=>pj OA O oc O.length v W rfl Mv y Kl.out);obtain⟨T,Me⟩:=xq (gJ ws t 8);rw[Me] at Kz Kg;have Lz:O.length<=2048:=by omega
  clear Me Ku Ls Mc Mn Lr Ml Lx Z Km Ko Lh Lb Mp Ln Mt Mr Nb Ky Lp Mm Lk Kn Q M Ke f R Kt Kh Lf U V HC Lz Ld H Mu;go_wp2_with fail;go_loopw [11] (λi wr=>∃k:Nat,7<=k/\k<=12/\i=.int .i64 k/\Hid (∀r,7<=r->r<k->∀b∈O,wrK ws T O r b=false)/\Below w6.heap.size w6 wr) (λi _=>12-(intOf i).toNat)
  case atStart=>exact⟨7,kqa _,by omega,rfl,hid λr h1 h2=>absurd h2 (by omega),kqk _ _⟩
  obtain⟨k,Kv,hk,rfl,HP,hB⟩:=hrel;have hz:=hB.size;by_cases Kb:k<=11
  .have hki:decide ((k:Int)<=11)=true:=by rw[kqn];omega
   have hkn:decide (k<=11)=true:=by rw[kqn];exact Kb
   have Ms:=hid hB;have Nc:Hid ((∀b∈O,wrK ws T O k b=false)->∀r,7<=r->r<k+1->∀b∈O,wrK ws T O r b=false):=hid λh r h1 h2=>by
    rcases kq6 r k with h3|h3
    .exact HP.out r h1 h3
    have:r=k:=by omega
    subst this;exact h
   obtain⟨wk,Ma⟩:=xq wr;rw[Ma] at hB Ms hz |-;clear Ma;go_wp2_with fail;go_loopw [12] (λi wr=>∃j:Nat,j<=O.length/\i=.int .i64 j/\Hid (∀q (h:q<O.length),q<j->wrK ws T O k O[q]=false)/\Below wk.heap.size wk wr) (λi _=>O.length-(intOf i).toNat)
   case atStart=>exact⟨0,kqy _,rfl,hid λq h h2=>absurd h2 (by omega),kqk _ _⟩
   obtain⟨j,hj,rfl,HQ,X⟩:=hrel;have My:=X.size;have C:=hB.trans (X.mono hz);by_cases o:j<O.length
   .obtain ⟨a,z,S,nx,mk,ej,a1,a2,-⟩:=Kw.out O[j] (kqq o);have Ks:=hid (Kz.out k j a z S nx mk o ej Kv Kb (λh9=>HP.out 8 (by omega) (by omega) _ (kqq o)) a2 wr C);obtain⟨b,off,rfl,hb,p0,p1,p2,p3,p4,p5⟩:=RdB.at_ (Rd.below Kq.out C) o;rw[ej] at p0 p1 p2 p3 p4 p5;dsimp only at p0 p1 p2 p3 p4 p5;have m:Hid (wrK ws T O k O[j]=false->∀q (h:q<O.length),q<j+1->wrK ws T O k O[q]=false):=hid λh q p h2=>by
     rcases kq6 q j with h3|h3
     .exact HQ.out q p h3
     have:q=j:=by omega
     subst this;exact h
    have B:Hid (wrK ws T O k O[j]=true->lay ws=false):=hid λh=>by
     cases p:lay ws with
     | false=>rfl
     | true=>rw[(Kg.out.1 p).1 k Kv (by omega) _ (kqq o)] at h;cases h
    obtain⟨q,p⟩:=xq (wrK ws T O k O[j]);rw[p] at Ks m B;have Li:(j:Int)<(O.length:Int):=by omega
    have Mx:(0:Int)<=(j:Int):=by omega
    have Mj:(0:Int)<(k:Int):=by omega
    have Lm:=hid X;have I:=hid C;clear p ej a1 a2 C;cases q
    .have HN:=hid (m.out rfl);clear m B;go_wp2_with fail;refine Ks.out.mono ?_;rintro e w8 ⟨rfl,Ka⟩;have Lc:=hid (Lm.out.trans (Ka.mono My));clear Ka;go_wp2;go_roundw
     case rel=>exact⟨j+1,by omega,by go_num,HN,Lc.out⟩
     case measure=>simp[intOf];omega
    have E:=hid (B.out rfl);clear m B;go_wp2_with fail;refine Ks.out.mono ?_;rintro e w8 ⟨rfl,Ka⟩;have Lc:=hid (F.out.trans ((I.out.trans (Ka.mono (by have:=I.out.size;omega))).mono F.out.size));have Mw:=hid Mj;clear Ka Mj;go_wp2;go_ret;exact⟨l8 E.out Mw.out,Lc.out⟩
   have HN:=hid (Nc.out λb hb=>by
    obtain⟨q,p,rfl⟩:=kqz hb;exact HQ.out q p (by omega))
   have hjn:decide ((j:Int)<(O.length:Int))=false:=by rw[kqc];omega
   have hjnn:decide (j<O.length)=false:=by rw[kqc];exact o
   have I:=hid C;clear o C;go_wp2;go_roundw
   case rel=>exact⟨k+1,by omega,by omega,by go_num,HN,I.out⟩
   case measure=>simp[intOf];omega
  have Md:Hid (∀r,7<=r->r<12->∀b∈O,wrK ws T O r b=false):=hid λr h1 h2=>HP.out r h1 (by omega);have d:=hid hB;have hkd:decide ((k:Int)<=11)=false:=by rw[kqc];omega
  have hkdn:decide (k<=11)=false:=by rw[kqc];exact Kb
  clear HP Kb hk Kv;go_wp2_with fail;go_loopw [13] (λi wr2=>∃j:Nat,j<=16/\i=.int .i64 j/\Hid (∀q (h:q<(slL ws).length),q<j->jV O (slL ws)[q]=true)/\Below w6.heap.size w6 wr2) (λi _=>16-(intOf i).toNat)
  case atStart=>exact⟨0,kqy _,rfl,hid λq h h2=>absurd h2 (by omega),d.out⟩
  obtain⟨j,hj,rfl,HQ,X⟩:=hrel;have d:=hid X
  rename World=>wq
  by_cases o:j<16
  .have Lw:j<(slL ws).length:=by rw[fg];exact o
   obtain⟨b,off,rfl,hb,p0,p1,p2⟩:=RdS.at_ (Rd.below Lo.out d.out) Lw;have m:Hid (jV O (slL ws)[j]=true->∀q (h:q<(slL ws).length),q<j+1->jV O (slL ws)[q]=true):=hid λh q p h2=>by
    rcases kq6 q j with h3|h3
    .exact HQ.out q p h3
    have:q=j:=by omega
    subst this;exact h
   have B:Hid (jV O (slL ws)[j]=false->lay ws=false):=hid λh=>by
    cases p:lay ws with
    | false=>rfl
    | true=>rw[(Kg.out.1 p).2 _ (kqq Lw)] at h;cases h
   have Kj:0<=(slL ws)[j].at_/\(slL ws)[j].at_<=4294967295:=by rw[nz];exact⟨(gF (wd ws (112+j))).2.2.1,(gF (wd ws (112+j))).2.2.2⟩
   obtain⟨x,hx⟩:=xq ((slL ws)[j]);rw[hx] at p0 p1 p2 m B Kj;obtain⟨g,u,at_⟩:=x;dsimp only at p0 p1 p2 Kj;obtain⟨v,rfl⟩:=kq2 Kj.1;have Kk:Hid (jV O ⟨g,u,((v:Nat):Int)⟩=(!u||my O v)):=hid (by unfold jV;rw[kqj]);have w9:IntKind.u64.wrap (v:Int)=(v:Int):=kzt _ (by omega);have Li:(j:Int)<(sn:Int):=by rw[Kc.out];omega
   have Mz:decide ((j:Int)<(sn:Int))=true:=by rw[kqn];exact Li
   have Lv:decide (j<sn)=true:=by rw[kqn,Kc.out];exact o
   have Mx:(0:Int)<=(j:Int):=by omega
   have Kp:=hid (Na.out wq (Kq.out.up d.out d.out.size) v);clear hx Kj;cases u
   .have HN:=hid (m.out (by rw[Kk.out];rfl));clear m B;go_wp2;go_roundw
    case rel=>exact⟨j+1,by omega,by go_num,HN,d.out⟩
    case measure=>simp[intOf];omega
   obtain⟨q,p⟩:=xq (my O v);rw[p] at Kp Kk;clear p;cases q
   .have E:=hid (B.out (by rw[Kk.out];rfl));clear m B;go_wp2_with fail;refine Kp.out.mono ?_;rintro e w8 ⟨⟨r,rfl,y⟩,rfl⟩;simp only[kvb] at y;go_wp2;go_ret;exact⟨l8 E.out (by decide),F.out.trans (d.out.mono F.out.size)⟩
   have HN:=hid (m.out (by rw[Kk.out];rfl));clear m B;go_wp2_with fail;refine Kp.out.mono ?_;rintro e w8 ⟨⟨r,rfl,y⟩,rfl⟩;simp only[kvn] at y;go_wp2;go_roundw
   case rel=>exact⟨j+1,by omega,by go_num,HN,d.out⟩
   case measure=>simp[intOf];omega
  have E:Hid (lay ws=true):=hid (Kg.out.2 ⟨Md.out,λs hs=>by
   obtain⟨q,p,rfl⟩:=kqz hs;exact HQ.out q p (by rw[fg] at p;omega)⟩)
  have Mz:decide ((j:Int)<(sn:Int))=false:=by rw[kqc,Kc.out];omega
  have Lv:decide (j<sn)=false:=by rw[kqc,Kc.out];exact o
  go_wp2;go_ret;exact⟨wy_ok E.out,F.out.trans (d.out.mono F.out.size)⟩
theorem yz(A:Option Addr)(ws:List Nat)(c n:Nat)(w:World)(hn:ws.length=n)(hm:n<=9223372036854775807)(hc:n<=c)(d:RdW w w.heap.size A ws)(ho:∀x∈ws,x<18446744073709551616):
 Calls prog 13 #[.slice A n c] w λe w'=>e=.returned (.int .i64 (bN ws))/\Below w.heap.size w w':=by
 subst hn;have f:=hid (λW=>ms A ws.length c W hm);have k:Calls prog 49 #[.slice A ws.length c] w λe w'=>(∃r:Int,e=.returned (.tuple #[.int .i64 r,.int .i64 (ls ws.length)])/\0<=r/\(aj (ws.length:Int)=true->(r=0↔lay ws=true)))/\Below w.heap.size w w':=by
  cases b:aj (ws.length:Int)
  .have t:=hid (bI b);rw[bI b] at f;have s:Hid (∀ {p:Prop},false=true->p):=hid λh=>by cases h
   clear d ho hc b;go_enter func49,ntmps49;go_wp2_with fail;refine (f.out _).mono ?_;rintro e m ⟨rfl,rfl⟩;go_wp2;go_ret2;exact⟨⟨0,by rw[t.out];rfl,by omega,λh=>s.out h⟩,kqk _ _⟩
  have t:=hid (aZ b);rw[aZ b] at f;have l:=hid (Fm A ws c ws.length w rfl b hc d ho);unfold Em at l;clear d ho hc b;go_enter func49,ntmps49;go_wp2_with fail;refine (f.out _).mono ?_;rintro e m ⟨rfl,rfl⟩;go_wp2_with fail;refine l.out.mono ?_;rintro e m ⟨⟨r,rfl,j,d⟩,g⟩;have u:=hid (And.intro j d);clear j d;go_wp2;go_ret2;exact⟨⟨r,by rw[t.out];rfl,u.out.1,λ_=>u.out.2⟩,g⟩
 have i:=hid k;have a:Hid (bN ws=if aj (ws.length:Int)=true then (if lay ws=true then 0 else 50) else 8):=hid rfl;clear k d ho hc f;cases b:aj (ws.length:Int)
 .rw[bI b] at i;rw[b] at a;simp only[kzh,if_false] at a;clear b;go_enter func13,ntmps13;go_wp2_with fail;refine i.out.mono ?_;rintro e m ⟨⟨r,rfl,-,-⟩,g⟩;go_wp2;go_ret;exact⟨by rw[a.out];rfl,g⟩
 rw[aZ b,b] at i;rw[b] at a;simp only[if_true] at a;clear b;cases o:lay ws
 .rw[o] at i a;clear o;go_enter func13,ntmps13;go_wp2_with fail;refine i.out.mono ?_;rintro e m ⟨⟨r,rfl,j,d⟩,g⟩;have q:r≠0:=λh=>by have:=(d trivial).1 h;cases this
  have d1:decide (0<r)=true:=by rw[kqn];omega
  clear d q j;go_wp2;go_ret;exact⟨by rw[a.out];rfl,g⟩
 rw[o] at i a;clear o;go_enter func13,ntmps13;go_wp2_with fail;refine i.out.mono ?_;rintro e m ⟨⟨r,rfl,j,d⟩,g⟩;obtain rfl:r=0:=(d trivial).2 (by first|exact trivial|rfl);clear d j;go_wp2;go_ret;exact⟨by rw[a.out];rfl,g⟩
end Go.Proofs.YtpcajamacpbjcaaGreat
