/- Texts laid together: Tys WaP R18 LyP R19A Seq R19B R19C. -/
import Derived.Test.YtpcajamacpbjcaaGreatZGH
import Derived.Test.YtpcajamacpbjcaaGreatZKStg2
import Derived.Test.YtpcajamacpbjcaaGreatZKRef15
import Derived.Test.YtpcajamacpbjcaaGreatZKImage
import Derived.Test.YtpcajamacpbjcaaGreatZKRch
import Derived.Test.YtpcajamacpbjcaaGreatZKRefs
import Derived.Test.YtpcajamacpbjcaaGreatZKHead
import Derived.Test.YtpcajamacpbjcaaGreatZKSup
import Derived.RowKit
import Derived.OrdersHeld
import Derived.Deep.RegionHeld
import Derived.BigQuiet
set_option maxHeartbeats 16000000
set_option maxRecDepth 100000
set_option linter.all false
namespace Go.Proofs.YtpcajamacpbjcaaGreat
open Lib (hid)
open Go.RowKit
variable {ops:Array Oper}{O l:List Bk}{ws:List Nat}{L:List Ty}{B H id k t v:Nat}{o:Oper}{A:Option Addr}{P:Program}{w w':World}
open Go.Proofs.Tryz
theorem qe{l:List Ty}(h:Rd w B A (l.flatMap Ty.cells))(hk:k<l.length):
 ∃b a,A=some ⟨b,a,none⟩/\b<B/\w.cell? ⟨b,a+k,none⟩=some (.slice l[k].A l[k].l.length l[k].c):=by obtain⟨b,a,e,f,d⟩:=Rd.at_flat Ty.len h (by omega) hk;have:=d 0 (by omega);simp only[kxq,kxa] at this;exact⟨b,a,e,f,this⟩
def vj (w:World) (H:Nat) (v:Value) (L:List Ty):Prop:=w.ownsRow H 113 1 v L.length (L.flatMap Ty.cells)/\∀x∈L,w.ownsRow H 5 1 (.slice x.A x.l.length x.c) x.l.length (x.l.flatMap bv)
theorem Ao:(prog.info? 113).map (λi=>(i.zero,i.size,i.bytes))=some (some (.slice none 0 0),1,24):=by kernel_rfl
def Aa (ws:List Nat) (t i:Nat):Bool:=if i<t then cD (wd ws (96+2*i)) (wd ws (96+2*i+1)) else wd ws (96+2*i)==0&&wd ws (96+2*i+1)==0
def yj (ws:List Nat) (t k:Nat):Prop:=∀i,i<k->Aa ws t i=true
def ix (ws:List Nat) (t:Nat):Bool:=(List.range 8).all λi=>Aa ws t i
theorem gQ(ws:List Nat)(t:Nat):ix ws t=true↔yj ws t 8:=by unfold ix yj;rw[kzv];exact⟨λh i a=>h i (kzi.2 a),λh i a=>h i (kzi.1 a)⟩
theorem pv(h:yj ws t k)(h1:Aa ws t k=true):yj ws t (k+1):=λi hi=>by
 rcases kq7 i k with a|a
 .exact h i a
 .have:i=k:=by omega
  subst this;exact h1
theorem te(hk:k<8)(h:Aa ws t k=false):ix ws t=false:=by
 cases a:ix ws t with
 | false=>rfl
 | true=>rw[(gQ ws t).1 a k hk] at h;cases h
def gc (ws:List Nat) (t k:Nat):List (List Nat):=(List.range (min t k)).map λi=>bq (wd ws (96+2*i)) (wd ws (96+2*i+1))
theorem DC(h:k<t):gc ws t (k+1)=gc ws t k++[bq (wd ws (96+2*k)) (wd ws (96+2*k+1))]:=by unfold gc;rw[kvg (by omega),kvg (by omega),kk4,kxu];rfl
theorem Aj(h:t<=k):gc ws t (k+1)=gc ws t k:=by unfold gc;rw[kxg (by omega),kxg (by omega)]
theorem ra(ws:List Nat)(t k:Nat):(gc ws t k).length=min t k:=by simp[gc]
theorem sX{wb:World}{v v1:Value}{x:Ty}(h:∀y∈L,w.ownsRow H 5 1 (.slice y.A y.l.length y.c) y.l.length (y.l.flatMap bv))(hx:w.ownsRow H 5 1 (.slice x.A x.l.length x.c) x.l.length (x.l.flatMap bv))(hrow:wb.ownsRow H 113 1 v L.length (L.flatMap Ty.cells))(hwb:∀ {A:Option Addr} {n c:Nat} {xs:List Value},w.ownsRow H 5 1 (.slice A n c) n xs->wb.ownsRow H 5 1 (.slice A n c) n xs)(hg:wb.grownBy w' v.ownBlock)(h1:w'.ownsRow H 113 1 v1 (L.length+1) (L.flatMap Ty.cells++x.cells)):vj w' H v1 (L++[x]):=by
 refine⟨by rw[cB,kqs];exact h1,λy a=>?_⟩;rcases kzo.1 a with a|a
 .exact aN (hwb (h y a)) hg (dg (hwb (h y a)) hrow (by decide))
 rw[kqy] at a;subst a;exact aN (hwb hx) hg (dg (hwb hx) hrow (by decide))
def J2 (ws:List Nat) (t H:Nat) (e:Ending) (w':World):Prop:=∃v L,e=.returned (.tuple #[v,.bool (ix ws t)])/\(ix ws t=true->vj w' H v L/\L.map Ty.l=gc ws t 8)
theorem y6(A:Option Addr)(ws:List Nat)(c n t:Nat)(w:World)(hn:ws.length=n)(h2:256<=n)(hm:n<=2048)(hr:RdW w w.heap.size A ws)(ho:∀x∈ws,x<18446744073709551616):
 Calls prog 211 #[.slice A n c,.int .i64 (t:Int)] w λe w'=>J2 ws t w.heap.size e w'/\Below w.heap.size w w':=by
 subst hn;have HR:=hid hr;have Le:Hid (∀k,wd ws k<18446744073709551616):=hid (fT ho);clear hr ho;obtain⟨i2,hi,V,Ky,Z⟩:=kzr Ao;have HJ:=hid hi;have Lg:=hid V;have Lh:=hid Ky;have Ld:=hid Z;clear hi V Ky Z;go_enter func211,ntmps211;go_wp2_with fail;go_loopw [6,7] (λv i wr=>∃(k:Nat) (L:List Ty),k<=8/\i=.int .i64 k/\Hid (yj ws t k)/\Hid (L.map Ty.l=gc ws t k)/\L.length<=k/\Hid (vj wr w.heap.size v L)/\Below w.heap.size w wr) (λ_ i _=>8-(intOf i).toNat)
 case atStart=>exact⟨0,[],kqz _,rfl,hid (λi h=>absurd h (by omega)),hid (by simp[gc]),kqa _,hid ⟨kq6 _ _ _ _,λx hx=>absurd hx (by simp)⟩,kqk _ _⟩
 obtain⟨k,L,hk,rfl,Eq,M,hLk,C,N⟩:=hrel;have S:=N.size;by_cases Lc:k<8
 .obtain ⟨b,f,rfl,hb,h0⟩:=RdW.at_ (Rd.below HR.out N) (show 96+2*k<ws.length by omega);obtain⟨b',off',e',-,h1⟩:=RdW.at_ (Rd.below HR.out N) (show 96+2*k+1<ws.length by omega);cases e';rw[<-cF] at h0 h1;have d:=hid (λW=>yE (wd ws (96+2*k)) (wd ws (96+2*k+1)) W (Le.out _));have u:=hid (λh=>pv Eq.out h);have s:=hid (λh=>te (ws:=ws) (t:=t) Lc h);have g:Hid (Aa ws t k=if k<t then cD (wd ws (96+2*k)) (wd ws (96+2*k+1)) else wd ws (96+2*k)==0&&wd ws (96+2*k+1)==0):=hid rfl;have o:=hid (λh=>DC (ws:=ws) (t:=t) (k:=k) h);have K:=hid (λh=>Aj (ws:=ws) (t:=t) (k:=k) h);have i1:IntKind.i64.wrap ((2:Int)*(k:Int))=2*(k:Int):=kqt _ (by omega);have i2':IntKind.i64.wrap ((96:Int)+2*(k:Int))=((96+2*k:Nat):Int):=by rw[kqt _ (by omega)];omega
  have i3:IntKind.i64.wrap (((96+2*k:Nat):Int)+1)=((96+2*k+1:Nat):Int):=by rw[kqt _ (by omega)];omega
  have j1:((96+2*k:Nat):Int)<(ws.length:Int):=by omega
  have j2:(0:Int)<=((96+2*k:Nat):Int):=by omega
  have j3:((96+2*k+1:Nat):Int)<(ws.length:Int):=by omega
  have j4:(0:Int)<=((96+2*k+1:Nat):Int):=by omega
  have hk1:(k:Int)<8:=by omega
  obtain⟨p,hp⟩:=xq (96+2*k);rw[hp] at h0 h1 d g o i2' i3 j1 j2 j3 j4;obtain⟨q,hq⟩:=xq (p+1);rw[hq] at h1 d g o i3 j3 j4;obtain⟨x,hx⟩:=xq (wd ws p);obtain⟨y,U⟩:=xq (wd ws q);rw[hx] at h0 d g o;rw[U] at h1 d g o;have HB:=hid N;clear hx U hp hq;by_cases m:k<t
  .have d1:decide ((k:Int)<(t:Int))=true:=by rw[kqo];omega
   have d1n:decide (k<t)=true:=by rw[kqo];exact m
   have d2:decide ((t:Int)<=(k:Int))=false:=by rw[kqh];omega
   have d2n:decide (t<=k)=false:=by rw[kqh];omega
   cases z:cD x y
   .have D:=hid (s.out (by rw[g.out,if_pos m,z]));have G:eX x y=50:=by unfold eX;rw[z];rfl
    have Kw:bq x y=[]:=by unfold bq;rw[z];rfl
    unfold mO at d;rw[G,Kw] at d;clear z G Kw g s u o K m;go_wp2_with fail
    go_region_held3 (λX:World=>X.cell? ⟨b,f+p,none⟩=some (.int .u64 (x:Int))/\X.cell? ⟨b,f+q,none⟩=some (.int .u64 (y:Int))) (go_keep) (fail)
    go_wp2_with fail;refine (d.out _).mono ?_;rintro e T ⟨⟨A3,c3,rfl,-⟩,a⟩;have I:=HB.out.drew.trans (a.mono S);clear a;go_wp2;go_ret2;exact⟨⟨.slice none 0 0,[],by rw[D.out];rfl,λh=>by rw[D.out] at h;cases h⟩,I⟩
   have D:=hid (u.out (by rw[g.out,if_pos m,z]));have J:=hid (o.out m);have G:eX x y=0:=by unfold eX;rw[z];rfl
   unfold mO at d;rw[G] at d;obtain⟨l,hl⟩:=xq (bq x y);rw[hl] at d J;clear z G hl g s u o K m;go_wp2_with fail
   go_region_held3 (λX:World=>X.cell? ⟨b,f+p,none⟩=some (.int .u64 (x:Int))/\X.cell? ⟨b,f+q,none⟩=some (.int .u64 (y:Int))) (go_keep) (fail)
   go_wp2_with fail;refine (d.out _).mono ?_;rintro e T ⟨⟨A3,c3,rfl,E⟩,a⟩;have I:=HB.out.drew.trans (a.mono S);have Y:=I.size;have H:=aa (show wr.drew.ownsRow _ _ _ _ _ _ from C.out.1) a (kqa _);have Kz:Hid (∀y∈L,T.ownsRow w.heap.size 5 1 (.slice y.A y.l.length y.c) y.l.length (y.l.flatMap bv)):=hid λy U=>aa (show wr.drew.ownsRow _ _ _ _ _ _ from C.out.2 y U) a (kqa _);have Lb:=hid (am E (show w.heap.size<=wr.drew.heap.size from S));have Kx:=hid H;have B:=hid I;clear a E I C;go_wp2_with (at_builtin;refine kzh _ rfl _ _ 69 rfl w.heap.size 113 i2 _ 1 24 underlying69 HJ.out Lg.out Lh.out Ld.out rfl (by decide) _ _ _ rfl (H.alloc _) ⟨_,0,none⟩ 1 1 [.slice A3 l.length c3] rfl rfl (cI _ _ _) (by simp[Value.oneCell']) (by unfold maxLen;omega) (by omega) (aS Y) ?_;intro v1 w6 F Q _;have Li:=hid (aF B.out Y H Q);have Lf:=hid (sX (x:=⟨A3,c3,l⟩) Kz.out Lb.out (Kx.out.alloc _) (λh=>h.alloc _) Q F);clear F Q);go_roundw
   case rel=>exact⟨k+1,L++[⟨A3,c3,l⟩],by omega,by go_num,D,hid (by rw[kxu,M.out,J.out];rfl),by simp;omega,Lf,Li.out⟩
   case measure=>simp[intOf];omega
  have d1:decide ((k:Int)<(t:Int))=false:=by rw[kqh];omega
  have d1n:decide (k<t)=false:=by rw[kqh];exact m
  have d2:decide ((t:Int)<=(k:Int))=true:=by rw[kqo];omega
  have d2n:decide (t<=k)=true:=by rw[kqo];omega
  have J:=hid (K.out (by omega));have j:Hid (Aa ws t k=(x==0&&y==0)):=hid (by rw[g.out,if_neg m]);have O:=hid (λW=>(d.out W).mono (R':=λe w'=>(∃v r,e=.returned (.tuple #[v,.int .i64 r]))/\Below W.heap.size W w') (by rintro e w' ⟨⟨A,c,rfl,-⟩,N⟩;exact⟨⟨_,_,rfl⟩,N⟩));clear d g o K m;by_cases R:x=0
  .subst R;by_cases P:y=0
   .subst P;have D:=hid (u.out (by rw[j.out];rfl));clear s u j;go_wp2_with fail
    go_region_held3 (λX:World=>X.cell? ⟨b,f+p,none⟩=some (.int .u64 ((0:Nat):Int))/\X.cell? ⟨b,f+q,none⟩=some (.int .u64 ((0:Nat):Int))) (go_keep) (fail)
    go_wp2_with fail;refine (O.out _).mono ?_;rintro e T ⟨⟨v3,r3,rfl⟩,a⟩;have B:=hid (HB.out.drew.trans (a.mono S));have La:Hid (vj T w.heap.size u6 L):=hid ⟨aa (show wr.drew.ownsRow _ _ _ _ _ _ from C.out.1) a (kqa _),λy U=>aa (show wr.drew.ownsRow _ _ _ _ _ _ from C.out.2 y U) a (kqa _)⟩;clear a;go_wp2;go_roundw
    case rel=>exact⟨k+1,L,by omega,by go_num,D,hid (by rw[M.out,J.out]),by omega,La,B.out⟩
    case measure=>simp[intOf];omega
   have D:=hid (s.out (by rw[j.out,show (y==0)=false by rw[kqi];exact P];rfl));have d3:decide ((0:Int)<(y:Int))=true:=by rw[kqo];omega
   have d3n:decide (0<y)=true:=by rw[kqo];omega
   clear s u j P;go_wp2_with fail
   go_region_held3 (λX:World=>X.cell? ⟨b,f+p,none⟩=some (.int .u64 ((0:Nat):Int))/\X.cell? ⟨b,f+q,none⟩=some (.int .u64 (y:Int))) (go_keep) (fail)
   go_wp2_with fail;refine (O.out _).mono ?_;rintro e T ⟨⟨v3,r3,rfl⟩,a⟩;have B:=hid (HB.out.drew.trans (a.mono S));clear a;go_wp2;go_ret2;exact⟨⟨.slice none 0 0,[],by rw[D.out];rfl,λh=>by rw[D.out] at h;cases h⟩,B.out⟩
  have D:=hid (s.out (by rw[j.out,show (x==0)=false by rw[kqi];exact R];rfl));have d3:decide ((0:Int)<(x:Int))=true:=by rw[kqo];omega
  have d3n:decide (0<x)=true:=by rw[kqo];omega
  clear s u j R;go_wp2_with fail
  go_region_held3 (λX:World=>X.cell? ⟨b,f+p,none⟩=some (.int .u64 (x:Int))/\X.cell? ⟨b,f+q,none⟩=some (.int .u64 (y:Int))) (go_keep) (fail)
  go_wp2_with fail;refine (O.out _).mono ?_;rintro e T ⟨⟨v3,r3,rfl⟩,a⟩;have B:=hid (HB.out.drew.trans (a.mono S));clear a;go_wp2;go_ret2;exact⟨⟨.slice none 0 0,[],by rw[D.out];rfl,λh=>by rw[D.out] at h;cases h⟩,B.out⟩
 obtain rfl:k=8:=by omega
 have HT:Hid (ix ws t=true):=hid ((gQ ws t).2 Eq.out);go_wp2;go_ret2;exact⟨⟨_,L,by rw[HT.out];rfl,λ_=>⟨C.out,M.out⟩⟩,N⟩
def nJ (l:List Bk) (j:Nat):Bool:=!(j==0)&&((gk l (j-1)).kind==2&&(gk l j).kind==2)
def ky (l:List Bk):Bool:=(List.range l.length).all λj=>!nJ l j
def pj (l:List Bk) (k:Nat):Prop:=∀j,j<k->nJ l j=false
theorem lL(l:List Bk):ky l=true↔pj l l.length:=by
 unfold ky pj;rw[kzv];constructor
 .intro h j a;have:=h j (kzi.2 a)
  simpa using this
 intro h j a;have:=h j (kzi.1 a)
 simpa using this
theorem pK(l:List Bk):pj l 0:=λj h=>absurd h (by omega)
theorem mi(h:pj l k)(h1:nJ l k=false):pj l (k+1):=λj hj=>by
 rcases kq7 j k with a|a
 .exact h j a
 .have:j=k:=by omega
  subst this;exact h1
theorem sr(hk:k<l.length)(h:nJ l k=true):ky l=false:=by
 cases a:ky l with
 | false=>rfl
 | true=>have:=(lL l).1 a k hk;rw[h] at this;cases this
def yd (ws:List Nat):Bool:=match blocks ws 128 with | none=>false | some l=>ky l
theorem gK(h:blocks ws 128=some l):yd ws=ky l:=by unfold yd;rw[h]
theorem oq(h:blocks ws 128=none):yd ws=false:=by unfold yd;rw[h]
theorem CB(A:Option Addr)(ws:List Nat)(c n:Nat)(w:World)(hn:ws.length=n)(hs:ak (n:Int)=true)(hr:RdW w w.heap.size A ws)(ho:∀x∈ws,x<18446744073709551616):
 Calls prog 153 #[.slice A n c] w λe w'=>(∃A k c,e=.returned (.tuple #[.slice A k c,.bool (yd ws)])/\(yd ws=true->∃l,blocks ws 128=some l/\k=l.length/\k<=c/\RdB w' w'.heap.size A l))/\Below w.heap.size w w':=by
 subst hn;have O:=(ab _).1 hs;have p:=hid (Gv A ws c ws.length 128 w rfl (by omega) (by omega) (by omega) (by omega) hr ho);unfold Gu tB at p;have f:∀l,blocks ws 128=some l->l.length<=1024:=λl h=>by
  have:=(bK (by omega) _ _ h (by omega) (by omega) (by omega)).1;omega
 cases o:blocks ws 128 with
 | none =>
  rw[o] at p;simp only[kkr,kj4,kxf] at p;have E:=hid (oq o);clear o hr ho hs O f;go_enter func153,ntmps153;go_wp2_with fail;refine p.out.mono ?_;rintro e M ⟨⟨W,X,rfl,-,-⟩,g⟩;go_wp2_with fail;go_loopw [5,6] (λv i wr=>v=.bool false/\i=.int .i64 1/\wr=M) (λ_ _ _=>0)
  case atStart=>exact⟨rfl,rfl,rfl⟩
  obtain⟨rfl,rfl,rfl⟩:=hrel;go_wp2;go_ret2;exact⟨⟨none,0,0,by rw[E.out];rfl,λh=>by rw[E.out] at h;cases h⟩,g⟩
 | some l =>
  have hl24:=f l o;rw[o] at p;simp only[kq5,kkj] at p;have E:=hid (gK o);clear o hr ho hs O f;have P:=hid (λk L h=>sr (l:=l) (k:=k) L h);have R:=hid (lL l);go_enter func153,ntmps153;go_wp2_with fail;refine p.out.mono ?_;rintro e M ⟨⟨W,X,rfl,I,B⟩,g⟩;have s:=hid I;have C:=hid g;have S:=hid B;clear I g B;go_wp2_with fail;go_loopw [5,6] (λv i wr=>∃(k:Nat) (q:Bool),1<=k/\(k<=l.length\/k=1)/\v=.bool q/\i=.int .i64 k/\wr=M/\Hid ((q=true->pj l k)/\(q=false->ky l=false))) (λ_ i _=>l.length-(intOf i).toNat)
  case atStart =>
   refine⟨1,true,kqa _,.inr rfl,rfl,rfl,rfl,hid ⟨λ_=>mi (pK l) rfl,λh=>by cases h⟩⟩
  obtain⟨k,q,J,L,rfl,rfl,rfl,r⟩:=hrel;by_cases d:k<l.length
  .obtain ⟨b,off,rfl,O,-,-,p2,-⟩:=RdB.at_ s.out d;obtain⟨b',off',e',-,-,-,V,-⟩:=RdB.at_ s.out (show k-1<l.length by omega);cases e';have D:=hid (λh=>mi (r.out.1 h));have N:=hid (P.out k d);have a:nJ l k=((l[k-1].kind==2)&&(l[k].kind==2)):=by unfold nJ;rw[bU l k d,bU l (k-1) (by omega),show (k==0)=false by rw[kqi];omega];rfl
   have H:=hid r.out.2;obtain⟨x,U⟩:=xq (l[k].kind);obtain⟨y,Y⟩:=xq (l[k-1].kind);rw[U] at p2 a;rw[Y] at V a;have i1:IntKind.i64.wrap ((k:Int)-1)=((k-1:Nat):Int):=by rw[kqt _ (by omega)];omega
   have hki:(k:Int)<(l.length:Int):=by omega
   have hk0:(0:Int)<=(k:Int):=by omega
   have G:((k-1:Nat):Int)<(l.length:Int):=by omega
   have F:(0:Int)<=((k-1:Nat):Int):=by omega
   obtain⟨m,Z⟩:=xq (k-1);rw[Z] at i1 G F V;have Q:=hid a;clear U Y r Z a;by_cases t:y=2
   .subst t;by_cases u:x=2
    .subst u;have z:=hid (N.out (by rw[Q.out];rfl));go_wp2;go_roundw
     case rel=>exact⟨k+1,false,by omega,by omega,rfl,by go_num,trivial,hid ⟨λh=>(by cases h),λ_=>z.out⟩⟩
     case measure=>simp[intOf];omega
    have T:(x==2)=false:=by rw[kqi];exact u
    have z:Hid (nJ l k=false):=hid (by rw[Q.out,T];rfl);clear u;go_wp2;go_roundw
    case rel=>exact⟨k+1,q,by omega,by omega,rfl,by go_num,trivial,hid ⟨λh=>D.out h z.out,H.out⟩⟩
    case measure=>simp[intOf];omega
   have T:(y==2)=false:=by rw[kqi];exact t
   have z:Hid (nJ l k=false):=hid (by rw[Q.out,T];rfl);clear t;go_wp2;go_roundw
   case rel=>exact⟨k+1,q,by omega,by omega,rfl,by go_num,trivial,hid ⟨λh=>D.out h z.out,H.out⟩⟩
   case measure=>simp[intOf];omega
  have hend:decide ((k:Int)<(l.length:Int))=false:=by rw[kqh];omega
  have hendn:decide (k<l.length)=false:=by rw[kqh];exact d
  cases q with
  | true =>
   have K:Hid (yd ws=true):=hid (by
    rw[E.out];refine R.out.2 λj hj=>r.out.1 rfl j (by omega))
   clear r J L d;go_wp2;go_ret2;exact⟨⟨W,l.length,X,by rw[K.out];rfl,λ_=>⟨l,rfl,rfl,S.out,s.out⟩⟩,C.out⟩
  | false =>have K:Hid (yd ws=false):=hid (by rw[E.out];exact r.out.2 rfl);clear r J L d;go_wp2;go_ret2;exact⟨⟨none,0,0,by rw[K.out];rfl,λh=>by rw[K.out] at h;cases h⟩,C.out⟩
def Dg (s:Sl):Int:=if mX s=true then 0 else 8
theorem zl(g:Int)(u:Bool)(a:Int)(w:World)(h1:0<=g)(h2:g<=2147483647):
 Calls prog 262 #[.agg #[.int .i64 g,.bool u,.int .i64 a]] w λe w'=>e=.returned (.int .i64 (Dg ⟨g,u,a⟩))/\Below w.heap.size w w':=by
 have f:=(kqk w.heap.size w).alloc (kqa _) (.cells #[.int .i64 g,.bool u,.int .i64 a] 52);have d:=hid f;have d1:decide (0<=g)=true:=by rw[kqo];omega
 have d2:decide (g<=2147483647)=true:=by rw[kqo];omega
 clear f;cases u
 .have H:Hid (Dg ⟨g,false,a⟩=if (a==0)=true then 0 else 8):=hid rfl;obtain⟨b,i⟩:=xq ((a==0));rw[i] at H;cases b
  all_goals
   go_enter func262,ntmps262;go_wp2;go_ret;exact⟨by rw[H.out];rfl,d.out⟩
 have H:Hid (Dg ⟨g,true,a⟩=if (decide (0<g)&&(decide (128<=a)&&decide (a<2048)))=true then 0 else 8):=hid rfl;have j:decide (1<=g)=decide (0<g):=by rw[decide_eq_decide];omega
 obtain⟨k,c⟩:=xq (decide (0<g));obtain⟨h,l⟩:=xq (decide (128<=a));obtain⟨m,n⟩:=xq (decide (a<2048));rw[c] at j;rw[c,l,n] at H;clear h1 h2 c;cases k<;>cases h<;>cases m
 all_goals
  go_enter func262,ntmps262;go_wp2;go_ret;exact⟨by rw[H.out];rfl,d.out⟩
theorem zB(x:Nat)(w:World)(hx:x<18446744073709551616):
 Calls prog 212 #[.int .u64 (x:Int)] w λe w'=>e=.returned (.tuple #[(slB x).val,.int .i64 (yr x)])/\Below w.heap.size w w':=by
 obtain⟨D,z,G,J⟩:=gj x;have k:=hid (λh=>yS (x:=x) h);have j:=hid (λh=>xV (x:=x) h);have d:=hid (λW=>jT x 32 31 W hx (by omega));have m:=hid (λW=>jT x 63 1 W hx (by omega));have f:=hid (λW=>jT x 0 32 W hx (by omega));have M:((bI x 32 31:Nat):Int)=(dX x).gen:=by unfold bI dX;rfl
 have C:(((bI x 63 1:Nat):Int)==1)=(dX x).used:=by
  have:bI x 63 1=x/9223372036854775808:=by unfold bI;omega
  rw[this];show _=(x/9223372036854775808==1);rw[kzl,kqx,kqx];omega
 have F:((bI x 0 32:Nat):Int)=(dX x).at_:=by unfold bI dX;simp
 rw[M] at d;rw[F] at f;obtain⟨q,K⟩:∃q:Int,((bI x 63 1:Nat):Int)=q:=⟨_,rfl⟩;rw[K] at m C;have l:=hid (λW=>zl (dX x).gen (dX x).used (dX x).at_ W D z);obtain⟨s,I⟩:=xq (dX x);rw[I] at C D z G J k j d f l;obtain⟨g,u,a⟩:=s;dsimp only at C D z G J d f l;have w1:IntKind.i64.wrap g=g:=kqt _ (by omega);have w2:IntKind.i64.wrap a=a:=kqt _ (by omega);clear M F K I hx;have E:=Bx.new w 52 #[.int .i64 0,.bool false,.int .i64 0];have r:=(kqk w.heap.size w).alloc (kqa _) (.cells #[.int .i64 0,.bool false,.int .i64 0] 52);have y:=hid (E.alloc (.cells #[.int .i64 g,.bool u,.int .i64 a] 52));have i:=hid (r.alloc (by simp) (.cells #[.int .i64 g,.bool u,.int .i64 a] 52));have B:=Bx.new (w.alloc (.cells #[.int .i64 0,.bool false,.int .i64 0] 52)) 52 #[.int .i64 g,.bool u,.int .i64 a];rw[kqm] at B;have L:=hid B;clear E r B;cases c:mX ⟨g,u,a⟩
 .have t:=hid (j.out c);unfold Dg at l;rw[c] at l;clear c k j;go_enter func212,ntmps212;go_wp2_with fail;refine (d.out _).mono ?_;rintro e p ⟨rfl,rfl⟩;go_wp2_with fail;refine (m.out _).mono ?_;rintro e p ⟨rfl,rfl⟩;go_wp2_with fail;refine (f.out _).mono ?_;rintro e p ⟨rfl,rfl⟩;go_wp2_with fail;refine (l.out _).mono ?_;rintro e N ⟨rfl,b⟩;have o:=y.out.up b y.out.lt;have n:=hid (i.out.trans (b.mono i.out.size));obtain⟨U,Q,S,P,T,R,O⟩:=o.c3;have A:=hid o;clear o b;go_wp2_with fail;exact kqq (v:=.tuple #[.agg #[.int .i64 0,.bool false,.int .i64 0],.int .i64 50]) (kv results212 _ (((A.out.set_ 0 _).set_ 1 _).set_ 2 _) rfl rfl) rfl ⟨by rw[t.out.1,t.out.2];rfl,(((n.out.setCell (kqa _) _).setCell (kqa _) _).setCell (kqa _) _)⟩
 have t:=hid (k.out c);unfold Dg at l;rw[c] at l;clear c k j;go_enter func212,ntmps212;go_wp2_with fail;refine (d.out _).mono ?_;rintro e p ⟨rfl,rfl⟩;go_wp2_with fail;refine (m.out _).mono ?_;rintro e p ⟨rfl,rfl⟩;go_wp2_with fail;refine (f.out _).mono ?_;rintro e p ⟨rfl,rfl⟩;go_wp2_with fail;refine (l.out _).mono ?_;rintro e N ⟨rfl,b⟩;have o:=y.out.up b y.out.lt;have H:=L.out.up b L.out.lt;have n:=hid (i.out.trans (b.mono i.out.size));obtain⟨U,Q,S,P,T,R,O⟩:=o.c3;obtain⟨q0,q1,q2,-,-,-,hg2⟩:=H.c3;have A:=hid o;clear o H b;go_wp2_with fail;exact kqq (v:=.tuple #[.agg #[.int .i64 g,.bool u,.int .i64 a],.int .i64 0]) (kv results212 _ (((A.out.set_ 0 _).set_ 1 _).set_ 2 _) rfl rfl) rfl ⟨by rw[t.out.1,t.out.2];rfl,(((n.out.setCell (kqa _) _).setCell (kqa _) _).setCell (kqa _) _)⟩
theorem Ey:(prog.info? 52).map (λi=>(i.zero,i.size,i.bytes))=some (some (.agg #[.int .i64 0,.bool false,.int .i64 0]),3,24):=by kernel_rfl
def TlRes (ws:List Nat) (e:Ending) (w':World):Prop:=∃A n c,e=.returned (.tuple #[.slice A n c,.bool (slsOk ws)])/\(slsOk ws=true->n=16/\n<=c/\RdS w' w'.heap.size A (slL ws))
theorem D4(A:Option Addr)(ws:List Nat)(c n:Nat)(w:World)(hn:ws.length=n)(N:256<=n)(hm:n<=2048)(hr:RdW w w.heap.size A ws)(ho:∀x∈ws,x<18446744073709551616):
 Calls prog 152 #[.slice A n c] w λe w'=>TlRes ws e w'/\Below w.heap.size w w':=by
 subst hn;have HR:=hid hr;have L:Hid (∀k,wd ws k<18446744073709551616):=hid (fT ho);clear hr ho;obtain⟨i2,V,u,C,D⟩:=kzr Ey;have HJ:=hid V;have Q:=hid u;have K:=hid C;have S:=hid D;clear V u C D;go_enter func152,ntmps152;go_wp2_with fail;go_loopw [4,5] (λv i wr=>∃k:Nat,k<=16/\i=.int .i64 k/\Hid (pt ws k)/\wr.ownsRow w.heap.size 52 3 v k (((slL ws).take k).flatMap Sl.cells)/\Below w.heap.size w wr) (λ_ i _=>16-(intOf i).toNat)
 case atStart=>exact⟨0,kqz _,rfl,pS ws,kq6 _ _ _ _,kqk _ _⟩
 obtain⟨k,hk,rfl,F,a,B⟩:=hrel;have U:=B.size;by_cases G:k<16
 .obtain ⟨b,off,rfl,hb,h0⟩:=RdW.at_ (Rd.below HR.out B) (show 112+k<ws.length by omega);rw[<-cF] at h0;have d:=hid (λW=>zB (wd ws (112+k)) W (L.out _));have o:=hid (λh=>pQ F.out h);have p:=hid (λh=>sd (ws:=ws) G h);have j:dX (wd ws (112+k))=slAt ws k:=rfl;have R:k<(slL ws).length:=by rw[fA];exact G
  have r:=hid (show ((slL ws).take (k+1)).flatMap Sl.cells=((slL ws).take k).flatMap Sl.cells++(slAt ws k).cells by
   rw[kqp R,cB,nY])
  have i1:(0:Int)<=112+(k:Int):=by omega
  have i2':(112:Int)+(k:Int)<(ws.length:Int):=by omega
  have n1:((112:Int)+(k:Int)).toNat=112+k:=by omega
  have hk1:(k:Int)<16:=by omega
  have hk0:(0:Int)<=(k:Int):=by omega
  obtain⟨x,I⟩:=xq (wd ws (112+k));rw[I] at h0 d j;cases f:mX (slAt ws k)
  .have Z:=hid (p.out f);rw[<-j] at f;rw[(xV f).1,(xV f).2] at d;unfold Sl.val at d;dsimp only at d;clear I f j p o a;go_wp2_with fail;refine (d.out _).mono ?_;rintro e w3 ⟨rfl,l⟩;have y:=B.trans (l.mono U);have M:=y.size;clear l;go_wp2;go_ret2;exact⟨⟨none,0,0,by rw[Z.out];rfl,λh=>by rw[Z.out] at h;cases h⟩,y.alloc M _⟩
  have t:=hid (o.out f);rw[<-j] at f;rw[(yS f).1,(yS f).2,j] at d;obtain⟨s,z⟩:=xq (slAt ws k);rw[z] at d r;obtain⟨sg,su,X⟩:=s;unfold Sl.val at d;dsimp only at d;clear I f j z p o;go_wp2_with fail;refine (d.out _).mono ?_;rintro e w3 ⟨rfl,l⟩;have E:=B.trans (l.mono U);have T:=E.size;have m:=aa a l (kqa _);clear l a;go_wp2_with (at_builtin;refine kzh _ rfl _ _ 45 rfl w.heap.size 52 i2 _ 3 24 underlying45 HJ.out Q.out K.out S.out rfl (by decide) _ _ _ rfl ((m.alloc _).alloc _) ⟨_,0,none⟩ 1 1 [.int .i64 sg,.bool su,.int .i64 X] rfl rfl (mn _ _ _ (kqm _ _)) (by simp[Value.oneCell']) (by unfold maxLen;omega) (by omega) (by simp;omega) ?_;intro v1 w6 q O _;have J:=aF (E.alloc T (.cells #[.int .i64 sg,.bool su,.int .i64 X] 52)) (by simp;omega) (m.alloc _) O);go_roundw
  case rel=>exact⟨k+1,by omega,by go_num,t.out,by rw[r.out];exact q,J⟩
  case measure=>simp[intOf];omega
 obtain rfl:k=16:=by omega
 have hT:slsOk ws=true:=(cG ws).2 F.out;have HT:=hid hT;rw[kq8 (by rw[fA];exact kqa _)] at a;obtain⟨A1,c1,rfl⟩:=aE a;have H:16<=c1:=by
  rcases a.2 with⟨Y,N⟩|⟨g,cap,cur,Y,-,-,N,-⟩
  .cases N
  simp only[Value.slice.injEq] at Y;omega
 have P:=hid (Rd.of_own a);clear hT a;go_wp2;go_ret2;exact⟨⟨A1,16,c1,by rw[HT.out];rfl,λ_=>⟨rfl,H,P.out⟩⟩,B⟩
def uZ (v:Nat):Bool:=v==9221120237041090561||decide (v%9223372036854775808<=9218868437227405312)
def aM (l:List Bk):List Bk:=l.filter λb=>b.kind==1
def mZ (O:List Bk) (v:Nat):Bool:=O.any λb=>b.at_==(v:Int)
def wrF (ws F:List Nat) (O:List Bk) (m r i:Nat):Bool:=if r=10 then F[i]? == some 2 && !uZ (wd ws (m+2+i)) else F[i]? == some 3&&(decide (0<wd ws (m+2+i)) && !mZ O (wd ws (m+2+i)))
def wrB (ws:List Nat) (T:List (List Nat)) (O:List Bk) (m z ty:Nat) (mk:Bool) (nx r:Nat):Bool:=
 if r=7 then mk||decide (0<nx)
 else if r=8 then !decide (ty<T.length)||bg (T[ty]?.getD []).length != z
 else if r=9 then decide ((T[ty]?.getD []).length+2<z)&&wd ws (m+2+(T[ty]?.getD []).length) != 0
 else (List.range (T[ty]?.getD []).length).any λi=>wrF ws (T[ty]?.getD []) O m r i
def wrK (ws:List Nat) (T:List (List Nat)) (O:List Bk) (r:Nat) (b:Bk):Bool:=wrB ws T O b.at_.toNat b.size.toNat b.typ.toNat b.mark b.next r
def fB (ws:List Nat) (a:Nat):Bool:=(List.range 8).all λi=>wd ws (a+i)==0
def pF (ws:List Nat) (a k:Nat):Prop:=∀i,i<k->wd ws (a+i)=0
theorem jZ(ws:List Nat)(a:Nat):fB ws a=true↔pF ws a 8:=by
 unfold fB pF;rw[kzv];constructor
 .intro h i b;have:=h i (kzi.2 b);simpa using this
 intro h i b;have:=h i (kzi.1 b);simpa using this
def jI (O:List Bk) (s:Sl):Bool:=!s.used||mZ O s.at_.toNat
def lay (ws:List Nat):Bool:=match tyN ws,blocks ws 128 with
 | some t,some l=>fB ws 16&&(fB ws 24&&(ix ws t&&(slsOk ws&&(ky l&&((List.range 5).all (λr=>(aM l).all λb => !wrK ws (gc ws t 8) (aM l) (7+r) b)&&(slL ws).all (jI (aM l)))))))
 | _,_=>false
def bT (ws:List Nat):Int:=if ak (ws.length:Int)=true then (if lay ws=true then 0 else 50) else 8
theorem IA(h:v≠9221120237041090561):uZ v=decide (v%9223372036854775808<=9218868437227405312):=by unfold uZ;rw[show (v==9221120237041090561)=false by rw[kqi];exact h];rfl
theorem tp(hk:k<l.length):aM (l.take (k+1))=aM (l.take k)++(if l[k].kind=1 then [l[k]] else []):=by
 unfold aM;rw[kqp hk,kjc];congr 1;by_cases h:l[k].kind=1
 .rw[if_pos h];simp[h]
 rw[if_neg h];simp[h]
theorem Ih(hk:k<O.length)(h:O[k].at_=(v:Int)):mZ O v=true:=by unfold mZ;rw[kx5];exact⟨_,kqn hk,by rw[kqx];exact h⟩
theorem Jc(h:∀k (a:k<O.length),O[k].at_≠(v:Int)):mZ O v=false:=by unfold mZ;rw[kjk];intro b c;obtain⟨k,a,rfl⟩:=kq0 c;rw[kqx];exact h k a
theorem yP(v:Nat)(w:World):Calls prog 215 #[.int .u64 (v:Int)] w λe w'=>e=.returned (.bool (uZ v))/\w=w':=by
 have h0:(0:Int)<=(v:Int):=by omega
 by_cases h:v=9221120237041090561
 .subst h;go_enter func215,ntmps215;go_wp2;go_ret;exact⟨rfl,rfl⟩
 have a:=hid (IA h);have e1:((v:Int)==9221120237041090561)=false:=by rw[kqi];omega
 have c:decide ((v:Int)%9223372036854775808<=9218868437227405312)=decide (v%9223372036854775808<=9218868437227405312):=by rw[decide_eq_decide];omega
 obtain⟨q,b⟩:=xq (decide (v%9223372036854775808<=9218868437227405312));rw[b] at a c;clear h b;go_enter func215,ntmps215;go_wp2;go_ret;exact⟨by rw[a.out];rfl,rfl⟩
theorem zA(n:Nat)(w:World)(hn:n<=1000000):Calls prog 214 #[.int .i64 (n:Int)] w λe w'=>e=.returned (.int .i64 ((bg n:Nat):Int))/\w=w':=by
 by_cases h:n%2=1
 .have c:((n:Int)%2==1)=true:=by rw[kqx];omega
  have a:=hid (show ((bg n:Nat):Int)=(n:Int)+1+2 by unfold bg;omega);have w1:IntKind.i64.wrap ((n:Int)+1)=(n:Int)+1:=kqt _ (by omega);have b:IntKind.i64.wrap ((n:Int)+1+2)=(n:Int)+1+2:=kqt _ (by omega);clear h;go_enter func214,ntmps214;go_wp2;go_ret;exact⟨by rw[a.out];go_num,rfl⟩
 have c:((n:Int)%2==1)=false:=by rw[kqi];omega
 have a:=hid (show ((bg n:Nat):Int)=(n:Int)+2 by unfold bg;omega);have b:IntKind.i64.wrap ((n:Int)+2)=(n:Int)+2:=kqt _ (by omega);clear h;go_enter func214,ntmps214;go_wp2;go_ret;exact⟨by rw[a.out];go_num,rfl⟩
theorem xh(A:Option Addr)(ws:List Nat)(c n a:Nat)(w:World)(hn:ws.length=n)(ha:a+8<=n)(hm:n<=2048)(hr:RdW w w.heap.size A ws):
 Calls prog 150 #[.slice A n c,.int .i64 (a:Int)] w λe w'=>e=.returned (.bool (fB ws a))/\w=w':=by
 subst hn;have z:=hid hr;have t:=hid (jZ ws a);go_enter func150,ntmps150;go_wp2_with fail
 go_loop [5] (λi=>∃k:Nat,k<=8/\i=.int .i64 k/\Hid (pF ws a k)) (λi=>8-(intOf i).toNat)
 case atStart=>exact⟨0,kqz _,rfl,hid λi h=>absurd h (by omega)⟩
 obtain⟨k,hk,rfl,r⟩:=hrel;by_cases m:k<8
 .obtain ⟨b,off,rfl,hb,o⟩:=RdW.at_ z.out (show a+k<ws.length by omega);rw[<-cF] at o;have g:Hid (wd ws (a+k)=0->pF ws a (k+1)):=hid λh i v=>by
   rcases kq7 i k with u|u
   .exact r.out i u
   have:i=k:=by omega
   subst this;exact h
  have f:Hid (wd ws (a+k)≠0->fB ws a=false):=hid λh=>by
   cases C:fB ws a with
   | false=>rfl
   | true=>exact absurd (t.out.1 C k m) h
  have D:IntKind.i64.wrap ((a:Int)+(k:Int))=((a+k:Nat):Int):=by rw[kqt _ (by omega)];omega
  have B:((a+k:Nat):Int)<(ws.length:Int):=by omega
  have y:(0:Int)<=((a+k:Nat):Int):=by omega
  obtain⟨p,s⟩:=xq (a+k);rw[s] at o g f D B y;obtain⟨x,q⟩:=xq (wd ws p);rw[q] at o g f;clear s q;by_cases d:x=0
  .have l:=hid (g.out d);subst d;go_wp2_with fail
   go_round
   case rel=>exact⟨k+1,by omega,by go_num,l⟩
   case measure=>simp[intOf];omega
  have j:=hid (f.out d);have e1:((x:Int) != 0)=true:=by rw[kqv];omega
  have e1n:(x != 0)=true:=by rw[kqv];exact d
  clear d;go_wp2;go_ret;exact⟨by rw[j.out];rfl,rfl⟩
 have j:Hid (fB ws a=true):=hid (t.out.2 λi v=>r.out i (by omega));obtain rfl:k=8:=by omega
 go_wp2;go_ret;exact⟨by rw[j.out];rfl,rfl⟩
theorem qn(A:Option Addr)(O:List Bk)(c n v:Nat)(w:World)(hn:O.length=n)(hm:n<=1000000)(hr:RdB w w.heap.size A O)(ho:∀b∈O,0<=b.at_/\b.at_<=1000000):
 Calls prog 156 #[.slice A n c,.int .u64 (v:Int)] w λe w'=>(∃r:Int,e=.returned (.int .i64 r)/\decide (r<0) = !mZ O v)/\w=w':=by
 subst hn;have y:=hid hr;have u:=hid ho;clear hr ho;go_enter func156,ntmps156;go_wp2_with fail
 go_loop [5] (λi=>∃k:Nat,k<=O.length/\i=.int .i64 k/\Hid (∀j (f:j<O.length),j<k->O[j].at_≠(v:Int))) (λi=>O.length-(intOf i).toNat)
 case atStart=>exact⟨0,kqz _,rfl,hid λj f h=>absurd h (by omega)⟩
 obtain⟨k,hk,rfl,s⟩:=hrel;by_cases d:k<O.length
 .obtain ⟨b,off,rfl,hb,B,-⟩:=RdB.at_ y.out d;obtain⟨t,z⟩:=u.out _ (kqn d);have g:Hid (O[k].at_≠(v:Int)->∀j (f:j<O.length),j<k+1->O[j].at_≠(v:Int)):=hid λh j f h2=>by
   rcases kq7 j k with o|o
   .exact s.out j f o
   have:j=k:=by omega
   subst this;exact h
  have q:=hid (λh=>Ih (v:=v) d h);obtain⟨x,p⟩:=xq (O[k].at_);rw[p] at B g q t z;have i1:IntKind.u64.wrap x=x:=kzw _ (by omega);have hki:(k:Int)<(O.length:Int):=by omega
  have hk0:(0:Int)<=(k:Int):=by omega
  clear p;by_cases a:x=(v:Int)
  .have l:=hid (q.out a);have C:(x==(v:Int))=true:=by rw[kqx];exact a
   clear a g;go_wp2;go_ret;exact⟨⟨k,rfl,by rw[l.out];rw[decide_eq_false];rfl;omega⟩,rfl⟩
  have m:=hid (g.out a);have C:(x==(v:Int))=false:=by rw[kqi];exact a
  clear a g;go_wp2_with fail
  go_round
  case rel=>exact⟨k+1,by omega,by go_num,m⟩
  case measure=>simp[intOf];omega
 have l:Hid (mZ O v=false):=hid (Jc λj f=>s.out j f (by omega));obtain rfl:k=O.length:=by omega
 go_wp2;go_ret;exact⟨⟨-1,rfl,by rw[l.out];rfl⟩,rfl⟩
theorem si(A:Option Addr)(l:List Bk)(c n:Nat)(w:World)(hn:l.length=n)(hm:n<=1000000)(hr:RdB w w.heap.size A l):
 Calls prog 154 #[.slice A n c] w λe w'=>(∃A k c,e=.returned (.slice A k c)/\k=(aM l).length/\k<=c/\RdB w' w'.heap.size A (aM l))/\Below w.heap.size w w':=by
 subst hn;have HR:=hid hr;clear hr;obtain⟨Y,J,m,p,q⟩:=kzr lx;have HJ:=hid J;have E:=hid m;have u:=hid p;have F:=hid q;clear J m p q;go_enter func154,ntmps154;go_wp2_with fail;go_loopw [3,4] (λv i wr=>∃k:Nat,k<=l.length/\i=.int .i64 k/\wr.ownsRow w.heap.size 55 6 v (aM (l.take k)).length ((aM (l.take k)).flatMap Bk.cells)/\Below w.heap.size w wr) (λ_ i _=>l.length-(intOf i).toNat)
 case atStart=>exact⟨0,kqz _,rfl,kq6 _ _ _ _,kqk _ _⟩
 obtain⟨k,hk,rfl,a,o⟩:=hrel;have I:=o.size;by_cases s:k<l.length
 .obtain ⟨b,off,rfl,hb,T,M,R,V,S,K⟩:=RdB.at_ (Rd.below HR.out o) s;have d:=hid (tp s);have t:(aM (l.take k)).length<=k:=by unfold aM;have:=kjo (λb:Bk=>b.kind==1) (l.take k);rw[kq4] at this;omega
  obtain⟨x,H⟩:=xq (l[k]);rw[H] at T M R V S K d;obtain⟨W,xs,D,N,U,O⟩:=x;dsimp only at T M R V S K d;obtain⟨L,P⟩:=xq (aM (l.take k));rw[P] at a d t;have hki:(k:Int)<(l.length:Int):=by omega
  have hk0:(0:Int)<=(k:Int):=by omega
  clear H P;by_cases h:D=1
  .have j:Hid (aM (l.take (k+1))=L++[⟨W,xs,D,N,U,O⟩]):=hid (by rw[d.out,if_pos h]);subst h;clear d;go_wp2_with (at_builtin;refine kzh _ rfl _ _ 48 rfl w.heap.size 55 Y _ 6 48 underlying48 HJ.out E.out u.out F.out rfl (by decide) _ _ _ rfl (a.alloc _) ⟨_,0,none⟩ 1 1 [.int .i64 W,.int .i64 xs,.int .i64 1,.int .i64 N,.bool U,.int .u64 (O:Int)] rfl rfl (cI _ _ _) (by simp[Value.oneCell']) (by unfold maxLen;omega) (by omega) (aS I) ?_;intro v1 w6 f r _;have B:=hid (aF o I a r);have y:=hid f;clear f r);go_roundw
   case rel=>exact⟨k+1,by omega,by go_num,by rw[j.out,cB,kqs];exact y.out,B.out⟩
   case measure=>simp[intOf];omega
  have j:Hid (aM (l.take (k+1))=L):=hid (by rw[d.out,if_neg h,kzt]);have e1:(D==1)=false:=by rw[kqi];exact h
  clear d h;go_wp2;go_roundw
  case rel=>exact⟨k+1,by omega,by go_num,by rw[j.out];exact a,o⟩
  case measure=>simp[intOf];omega
 obtain rfl:k=l.length:=by omega
 rw[kzf] at a;obtain⟨X,Q,rfl⟩:=aE a;have G:=hid (show (aM l).length<=Q by
  rcases a.2 with⟨z,Z⟩|⟨g,cap,cur,z,-,-,Z,-⟩
  .simp only[Value.slice.injEq] at z;omega
  simp only[Value.slice.injEq] at z;omega)
 have C:=hid (Rd.of_own a);clear a;go_wp2;go_ret;exact⟨⟨X,_,Q,rfl,rfl,G.out,C.out⟩,o⟩
def nX:Op->Bool
 | .move _ | .assign _ | .pick _ _ _ | .load _ _ | .build _ _ | .binOp _ _ _ _ _ | .unOp _ _ _ | .convert _ _ _ | .slice _ _ _ _ _ | .fieldAddr _ _ _ | .field _ _ _ | .indexAddr _ _ _ | .index _ _ _ | .extract _ _=>true
 | _=>false
structure SW (S:World->Prop) where
 w:World
 ok:S w
theorem cls_of{S:World->Prop}(h:S w):∃g:SW S,w=g.w:=⟨⟨w,h⟩,rfl⟩
theorem cX{α:Type}(f:α->Value)(s:Sem α):∀w,(∃u w',(s.bind λx=>Sem.pure (Next.value (f x))).run P w=.ok (.value u) w')\/∃h w',(s.bind λx=>Sem.pure (Next.value (f x))).run P w=.halt h w':=by
 induction s with
 | pure a=>intro w;exact .inl ⟨f a,w,rfl⟩
 | load m a k ih =>
  intro w;simp only[Sem.bind,Sem.run];split
  .exact ih _ w
  split
  .exact ih _ w
  exact .inr ⟨_,_,rfl⟩
 | store m a v k ih =>
  intro w;cases v<;>simp only[Sem.bind,Sem.run]<;>first
   | exact .inr ⟨_,_,rfl⟩
   | (
    split
    .split
     .exact .inr ⟨_,_,rfl⟩
     exact ih _
    split
    .exact ih _
    exact .inr ⟨_,_,rfl⟩)
 | new o k ih=>intro w;exact ih _ _
 | shape r k ih=>intro w;exact ih _ _
 | freeze a n k ih=>intro w;exact ih _
 | frozen a k ih=>intro w;exact ih _ _
 | getObj r k ih =>
  intro w;simp only[Sem.bind,Sem.run];split
  .exact .inr ⟨_,_,rfl⟩
  .exact ih _ w
  exact .inr ⟨_,_,rfl⟩
 | setObj r o k ih =>
  intro w;simp only[Sem.bind,Sem.run];split
  .exact .inr ⟨_,_,rfl⟩
  .exact ih _
  exact .inr ⟨_,_,rfl⟩
 | choose q k ih =>
  intro w;simp only[Sem.bind,Sem.run];split
  .exact ih _ _
  exact ih _ _
 | sys c k ih=>intro w;exact ih _ _
 | program k ih=>intro w;exact ih _ _
 | mark m k ih=>intro w;exact ih _
 | halt h=>intro w;exact .inr ⟨h,w,rfl⟩
theorem zq{ρ:Operand->Value}(h:nX o.op=true)(w:World):(∃u w',(execOp ρ o).run P w=.ok (.value u) w')\/∃h w',(execOp ρ o).run P w=.halt h w':=by
 unfold execOp;unfold nX at h;split at h
 .rename_i x e;rw[e];exact .inl ⟨_,w,rfl⟩
 .rename_i x e;rw[e];exact .inl ⟨_,w,rfl⟩
 .rename_i c a b e;rw[e];exact cX _ _ w
 .rename_i e;rw[e];exact cX id _ w
 .rename_i e;rw[e];exact cX id _ w
 .rename_i e;rw[e];exact cX id _ w
 .rename_i e;rw[e];exact cX id _ w
 .rename_i e;rw[e];exact cX id _ w
 .rename_i e;rw[e];exact cX id _ w
 .rename_i e;rw[e];exact cX id _ w
 .rename_i e;rw[e];exact cX id _ w
 .rename_i e;rw[e];exact cX id _ w
 .rename_i e;rw[e];exact cX id _ w
 .rename_i e;rw[e];exact cX id _ w
 cases h
theorem ul{C:World->Prop}{a:Act}{v:Value}(h:nX o.op=true)(hq:o.quietAt P a C w v):(execOp a.eval o).run P w=.ok (.value v) w:=by
 unfold Oper.quietAt at hq;rcases zq (P:=P) (ρ:=a.eval) h w with⟨u,w',e⟩|⟨h',w',e⟩
 .rw[e] at hq |-;obtain⟨rfl,rfl⟩:=hq;rfl
 rw[e] at hq;exact False.elim hq
inductive It where
 | one (o:Oper) (tk:Bool) (gd:Option (Option Tmp × Bool))
 | two (o1 o2:Oper) (gd:Option (Option Tmp × Bool))
def gOk (gd:Option (Option Tmp × Bool)) (tmps:Array Value):Bool:=match gd with
 | none=>true
 | some (d,b)=>(match d.bind (tmps[·]?) with
  | some (.bool x)=>some x
  | _=>none)==some b
def tY (ops:Array Oper) (o:Oper):Option (Option Tmp × Bool):=match o.guard with
 | none=>none
 | some (g,b)=>some ((ops.toList[g]?).bind (·.dst),b)
theorem fc(ops:Array Oper)(o:Oper)(tmps:Array Value):Region.wanted o (yielded ops tmps)=gOk (tY ops o) tmps:=by
 unfold Region.wanted tY gOk;split
 .rename_i h;rw[h]
 rename_i j b h;rw[h];simp only[kve];rfl
def GE (ops:Array Oper):List (Nat × Nat × Nat)->List It
 | []=>[]
 | (k,i,j)::r=>match ops.toList[i]? with
  | none=>[]
  | some o=>match k with
   | 0=>.one o true (tY ops o)::GE ops r
   | 2=>(match ops.toList[j]? with
    | none=>[]
    | some o2=>.two o o2 (tY ops o)::GE ops r)
   | _=>.one o false (tY ops o)::GE ops r
def mR:List (Nat × Nat × Nat)->Nat
 | []=>0
 | (k,_,_)::r=>(if k=2 then 2 else 1)+mR r
def mY (md:Region.Mode) (ops:Array Oper):List (Nat × Nat × Nat)->Array Bool->Bool
 | [],listed=>(Region.ready md ops listed).isEmpty
 | (k,i,j)::r,listed=>if k=2 then
  (match ops[i]?,ops[j]? with
   | some o1,some o2=>tY ops o1==tY ops o2
   | _,_=>false)&&(Region.ready md ops listed==[i,j]&&(Region.ready md ops (listed.setIfInBounds i true)==[j]&&(Region.ready md ops (listed.setIfInBounds j true)==[i]&&(i != j&&mY md ops r ((listed.setIfInBounds i true).setIfInBounds j true)))))
  else (ops[i]?).any (λo=>if k=0 then nX o.op&&(Region.free md ops listed i&&(Region.ready md ops listed).contains i) else Region.ready md ops listed==[i])&&mY md ops r (listed.setIfInBounds i true)
def n8 (md:Region.Mode) (ops:Array Oper):List (Nat × Nat × Nat)->Array Bool->Bool
 | [],_=>true
 | (k,i,j)::r,listed=>if k=2 then
  (match ops[i]?,ops[j]? with
   | some o1,some o2=>tY ops o1==tY ops o2
   | _,_=>false)&&(Region.ready md ops listed==[i,j]&&(Region.ready md ops (listed.setIfInBounds i true)==[j]&&(Region.ready md ops (listed.setIfInBounds j true)==[i]&&(i != j&&n8 md ops r ((listed.setIfInBounds i true).setIfInBounds j true)))))
  else (ops[i]?).any (λo=>if k=0 then nX o.op&&(Region.free md ops listed i&&(Region.ready md ops listed).contains i) else Region.ready md ops listed==[i])&&n8 md ops r (listed.setIfInBounds i true)
def kY:List (Nat × Nat × Nat)->Array Bool->Array Bool
 | [],listed=>listed
 | (k,i,j)::r,listed=>kY r (if k=2 then (listed.setIfInBounds i true).setIfInBounds j true else listed.setIfInBounds i true)
theorem AT{md:Region.Mode}{l2:List (Nat × Nat × Nat)}:∀(b:List (Nat × Nat × Nat)) {a:Array Bool},n8 md ops b a=true->mY md ops l2 (kY b a)=true->mY md ops (b++l2) a=true:=by
 intro b
 induction b with
 | nil=>intro a _ h;exact h
 | cons x b ih =>
  intro a c d;obtain⟨k,i,j⟩:=x;by_cases e:k=2
  .subst e;simp only[n8,if_true,kqu] at c;simp only[kY,if_true] at d;obtain⟨l,m,f,n,o,g⟩:=c;rw[kzn];simp only[mY,if_true,kqu];exact⟨l,m,f,n,o,ih g d⟩
  simp only[n8,e,if_false,kqu] at c;simp only[kY,e,if_false] at d;rw[kzn];simp only[mY,e,if_false,kqu];exact⟨c.1,ih c.2 d⟩
def iy (P:Program) (Q:Exit->Act->World->Prop) (S:World->Prop):List It->Act->World->Prop
 | [],a,w=>Q .normal a w
 | .one o t g::r,a,w=>if gOk g a.tmps=true then (if t=true then o.quiet P a (λX=>∃g:SW S,X=g.w) (λa'=>iy P Q S r a' w) else o.wp P a w (λa' w'=>S w'/\iy P Q S r a' w') Q) else iy P Q S r (a.put o.dst undef) w
 | .two o1 o2 g::r,a,w=>if gOk g a.tmps=true then
  (
   o1.wp P a w (λa1 w1=>S w1/\gOk g a1.tmps=true/\o2.wp P a1 w1 (λa2 w2=>S w2/\iy P Q S r a2 w2) Q) Q /\
   o2.wp P a w (λa1 w1=>S w1/\gOk g a1.tmps=true/\o1.wp P a1 w1 (λa2 w2=>S w2/\iy P Q S r a2 w2) Q) Q) else False
section
variable {P:Program} {Q:Exit->Act->World->Prop} {S:World->Prop} {r:List It} {a:Act} {w:World} {o o1 o2:Oper} {g:Option (Option Tmp × Bool)}
theorem Gc(hg:gOk g a.tmps=true)(h:∀K:Act->Prop,(∀a',iy P Q S r a' w->K a')->o.quiet P a (λX=>∃g:SW S,X=g.w) K):iy P Q S (.one o true g::r) a w:=by unfold iy;rw[if_pos hg,if_pos rfl];exact h _ λ_ h=>h
theorem seq_do(hg:gOk g a.tmps=true)(h:∀K:Act->World->Prop,(∀a' w',S w'->iy P Q S r a' w'->K a' w')->o.wp P a w K Q):iy P Q S (.one o false g::r) a w:=by unfold iy;rw[if_pos hg,if_neg (by decide)];exact h _ λ_ _ b c=>⟨b,c⟩
theorem Gd{t:Bool}(hg:gOk g a.tmps=false)(h:iy P Q S r (a.put o.dst undef) w):iy P Q S (.one o t g::r) a w:=by unfold iy;rw[if_neg (by rw[hg];decide)];exact h
theorem Cl(hs:Region.noSelect ops=true)(hQ:∀c a d v w,Q (.panic c) (a.put d v) w->Q (.panic c) a w):∀(l:List (Nat × Nat × Nat)) (b:Nat) (e:Array Bool) (a:Act) (w:World),mR l<=b->mY .any ops l e=true->S w->iy P Q S (GE ops l) a w->wpAnyH P .any ops Q S b e a w:=by
 intro l
 induction l with
 | nil =>intro b e a w _ p _ h;exact kxw (List.isEmpty_iff.1 p) h b
 | cons x l ih =>
  intro b e a w M p B h;obtain⟨k,i,j⟩:=x;by_cases E:k=2
  .subst E;simp only[mR,if_true] at M;obtain⟨b,rfl⟩:∃f,b=f+1+1:=⟨b-2,by omega⟩;have t:mR l<=b:=by omega
   simp only[mY,if_true,kqu] at p;obtain⟨g,A,N,W,U,I⟩:=p;cases n:ops[i]? with
   | none=>rw[n] at g;cases g
   | some o1 =>
    cases r:ops[j]? with
    | none=>rw[n,r] at g;cases g
    | some o2 =>
     rw[n,r] at g;have C:tY ops o1=tY ops o2:=by simpa using g
     simp only[GE,kve,n,r] at h;unfold iy at h;cases m:gOk (tY ops o1) a.tmps with
     | false=>rw[if_neg (by rw[m];decide)] at h;exact h.elim
     | true =>
      rw[if_pos m] at h;refine wpAnyH_all (rs:=[i,j]) (by simpa using A) (by simp) λq D=>?_;have H:i≠j:=by simpa using U
      rcases kqw.1 D with rfl|D
      .unfold wpOp;simp only[n];rw[fc,m,if_pos rfl];refine .inl (Oper.wp_mono (λV O y=>⟨y.1,?_⟩) h.1);refine wpAnyH_all (rs:=[j]) (by simpa using N) (by simp) λG s=>?_;rw[kqy] at s;subst s;unfold wpOp;simp only[r];rw[fc,<-C,y.2.1,if_pos rfl];exact .inl (Oper.wp_mono (λZ Y u=>⟨u.1,ih b _ _ _ t I u.1 u.2⟩) y.2.2)
      rw[kqy] at D;subst D;unfold wpOp;simp only[r];rw[fc,<-C,m,if_pos rfl];refine .inl (Oper.wp_mono (λV O y=>⟨y.1,?_⟩) h.2);refine wpAnyH_all (rs:=[i]) (by simpa using W) (by simp) λG s=>?_;rw[kqy] at s;subst s;unfold wpOp;simp only[n];rw[fc,y.2.1,if_pos rfl];refine .inl (Oper.wp_mono (λZ Y u=>⟨u.1,?_⟩) y.2.2);rw[Array.setIfInBounds_comm _ _ (Ne.symm H)];exact ih b _ _ _ t I u.1 u.2
  simp only[mR,E,if_false] at M;obtain⟨b,rfl⟩:∃f,b=f+1:=⟨b-1,by omega⟩;have t:mR l<=b:=by omega
  simp only[mY,E,if_false,kqu] at p;obtain⟨g,A⟩:=p;cases z:ops[i]? with
  | none=>rw[z] at g;simp at g
  | some o =>
   rw[z] at g;simp only[Option.any_some] at g;simp only[GE,kve,z] at h;by_cases F:k=0
   .subst F;unfold iy at h;simp only[if_true] at g h;simp only[kqu] at g;obtain⟨R,K,J⟩:=g;cases m:gOk (tY ops o) a.tmps with
    | true =>rw[if_pos m] at h;obtain⟨v,T,G⟩:=h;exact kkv z hs K J (λc a w=>hQ c a _ v w) (.inl ⟨by rw[fc];exact m,λX hX=>ul R (T X (cls_of hX))⟩) B (ih b _ _ _ t A B G)
    | false =>rw[if_neg (by rw[m];decide)] at h;exact kkv z hs K J (λc a w=>hQ c a _ undef w) (.inr ⟨by rw[fc];exact m,rfl⟩) B (ih b _ _ _ t A B h)
   have hkb:(k==0)=false:=by rw[kqi];exact F
   simp only[F,if_false] at g;have h:iy P Q S (.one o false (tY ops o)::GE ops l) a w:=by
    match k,E,F,h with
    | 1,_,_,h=>exact h
    | k+3,_,_,h=>exact h
   unfold iy at h;refine wpAnyH_all (rs:=[i]) (by simpa using g) (by simp) λj L=>?_;rw[kqy] at L;subst L;unfold wpOp;simp only[z];cases m:gOk (tY ops o) a.tmps with
   | true =>rw[if_pos m,if_neg (by decide)] at h;rw[fc,m,if_pos rfl];exact .inl (Oper.wp_mono (λa' w' h=>⟨h.1,ih b _ _ _ t A h.1 h.2⟩) h)
   | false =>rw[if_neg (by rw[m];decide)] at h;rw[fc,m,if_neg (by decide)];exact⟨B,ih b _ _ _ t A B h⟩
theorem qE(l:List (Nat × Nat × Nat))(L:List It)(hm:P.follows .mixedOrders=true)(hs:Region.noSelect ops=true)(hl:mR l<=ops.size)(hok:mY .any ops l (Array.replicate ops.size false)=true)(hL:GE ops l=L)(hQ:∀c a d v w,Q (.panic c) (a.put d v) w->Q (.panic c) a w)(hS:S w.drew)(h:iy P Q S L a w.drew):(Code.region id ops true).wp P Q a w:=by subst hL;exact wp_region_held hm (Cl hs hQ l ops.size _ a w.drew hl hok hS h)
structure SqG (P:Program) (Q:Exit->Act->World->Prop) (S:World->Prop) (l:List It) (a:Act) (w:World):Prop where
 out:iy P Q S l a w
theorem GY(h:Q .normal a w):SqG P Q S [] a w:=⟨h⟩
theorem oH(hg:gOk g a.tmps=true)(h:∀K:Act->Prop,(∀b,SqG P Q S r b w->K b)->o.quiet P a (λX=>∃g:SW S,X=g.w) K):SqG P Q S (.one o true g::r) a w:=⟨Gc hg λK d=>h K λb c=>d b c.out⟩
theorem sq_do(hg:gOk g a.tmps=true)(h:∀K:Act->World->Prop,(∀b w',S w'->SqG P Q S r b w'->K b w')->o.wp P a w K Q):SqG P Q S (.one o false g::r) a w:=⟨seq_do hg λK d=>h K λb w' e c=>d b w' e c.out⟩
theorem jk{t:Bool}(hg:gOk g a.tmps=false)(h:SqG P Q S r (a.put o.dst undef) w):SqG P Q S (.one o t g::r) a w:=⟨Gd hg h.out⟩
theorem rU(l:List (Nat × Nat × Nat))(L:List It)(hm:P.follows .mixedOrders=true)(hs:Region.noSelect ops=true)(hl:mR l<=ops.size)(hok:mY .any ops l (Array.replicate ops.size false)=true)(hL:GE ops l=L)(hQ:∀c a d v w,Q (.panic c) (a.put d v) w->Q (.panic c) a w)(hS:S w.drew)(h:SqG P Q S L a w.drew):(Code.region id ops true).wp P Q a w:=qE l L hm hs hl hok hL hQ hS h.out
end
def RdL (w:World) (B:Nat) (A:Option Addr) (L:List Ty):Prop:=Rd w B A (L.flatMap Ty.cells)/\∀x∈L,RdY w B x.A x.l
theorem RdL.up{B':Nat}(h:RdL w B A L)(hb:Below B w w')(hB:B<=B'):RdL w' B' A L:=⟨h.1.up hb hB,λx a=>(h.2 x a).up hb hB⟩
theorem RdL.of_own{n c:Nat}(h:vj w H (.slice A n c) L)(hn:L.length=n):RdL w w.heap.size A L:=by subst hn;exact⟨Rd.of_own h.1,λx a=>Rd.of_own (h.2 x a)⟩
theorem rQ(A TA OA:Option Addr)(ws:List Nat)(L:List Ty)(O:List Bk)(c n tc tn oc on m z ty nx r:Nat)(xk:Int)(mk:Bool)(w:World)(ht:L.length=tn)(hl8:∀x∈L,x.l.length<=8)(hr:r=7\/r=8)(hL:RdL w w.heap.size TA L):
 Calls prog 155 #[.slice A n c,.slice TA tn tc,.slice OA on oc,.agg #[.int .i64 (m:Int),.int .i64 (z:Int),.int .i64 xk,.int .i64 (ty:Int),.bool mk,.int .u64 (nx:Int)],.int .i64 (r:Int)] w λe w'=>e=.returned (.bool (wrB ws (L.map Ty.l) O m z ty mk nx r))/\Below w.heap.size w w':=by
 subst ht;have E:=hid (hL.up ((kqk w.heap.size w).alloc (kqa _) (.cells #[.int .i64 (m:Int),.int .i64 (z:Int),.int .i64 xk,.int .i64 (ty:Int),.bool mk,.int .u64 (nx:Int)] 55)) (kqa _));have u:=hid ((kqk w.heap.size w).alloc (kqa _) (.cells #[.int .i64 (m:Int),.int .i64 (z:Int),.int .i64 xk,.int .i64 (ty:Int),.bool mk,.int .u64 (nx:Int)] 55));have Z:=Bx.new w 55 #[.int .i64 (m:Int),.int .i64 (z:Int),.int .i64 xk,.int .i64 (ty:Int),.bool mk,.int .u64 (nx:Int)];have C:=hid Z;clear hL Z;rcases hr with rfl|rfl
 .have k:Hid (wrB ws (L.map Ty.l) O m z ty mk nx 7=(mk||decide (0<nx))):=hid rfl;have G:decide ((0:Int)<(nx:Int))=decide (0<nx):=by rw[decide_eq_decide];omega
  obtain⟨q,F⟩:=xq (decide (0<nx));rw[F] at k G;clear E;(try simp only[kzb]);cases mk
  all_goals
   go_enter func155,ntmps155;go_wp2;go_ret;exact⟨by rw[k.out];rfl,u.out⟩
 by_cases a:ty<L.length
 .obtain ⟨b,Q,rfl,hb,H⟩:=qe E.out.1 a;have U:=hl8 _ (kqn a);have k:Hid (wrB ws (L.map Ty.l) O m z ty mk nx 8=(bg L[ty].l.length != z)):=hid (by
   show (!decide (ty<(L.map Ty.l).length)||bg (((L.map Ty.l)[ty]?).getD []).length != z)=_;rw[kzg,decide_eq_true a,kxh,kql a];rfl)
  obtain⟨x,Y⟩:=xq (L[ty]);rw[Y] at H U k;obtain⟨xA,xc,v⟩:=x;dsimp only at H U k;have HW:=hid (λW=>zA v.length W (by omega));have R:bg v.length<=10:=by unfold bg;omega
  have G:(((bg v.length:Nat):Int) != (z:Int))=(bg v.length != z):=by rw[kzl,kqv,kqv];omega
  obtain⟨o,V⟩:=xq (bg v.length);rw[V] at k HW R G;obtain⟨q,F⟩:=xq ((o != z));rw[F] at k G;have d1:decide ((L.length:Int)<=(ty:Int))=false:=by rw[kqh];omega
  have T:decide (L.length<=ty)=false:=by rw[kqh];omega
  have j1:(ty:Int)<(L.length:Int):=by omega
  have j0:(0:Int)<=(ty:Int):=by omega
  (try simp only[kzb]);clear Y V F hl8 a;obtain⟨I,D,M,y,N,J,P,s⟩:=C.out.c6;obtain⟨f,j⟩:∃f,w.alloc (.cells #[.int .i64 (m:Int),.int .i64 (z:Int),.int .i64 xk,.int .i64 (ty:Int),.bool mk,.int .u64 (nx:Int)] 55)=f:=⟨_,rfl⟩;go_enter func155,ntmps155;go_wp2_with fail;rw[j] at u D y H;clear j I M N J P C E s
  go_region_held3 (λX:World=>X.cell? ⟨w.heap.size,1,none⟩=some (.int .i64 (z:Int))/\X.cell? ⟨w.heap.size,3,none⟩=some (.int .i64 (ty:Int))/\X.cell? ⟨b,Q+ty,none⟩=some (.slice xA v.length xc)) (go_keep)
   (first | (go_at_call 214;refine (HW.out _).mono ?_;rintro e w5 ⟨rfl,rfl⟩;have m0:=D;have m1:=y;have m2:=H))
  clear m0 m1 m2;go_wp2;go_ret;exact⟨by rw[k.out];rfl,u.out.drew⟩
 have k:Hid (wrB ws (L.map Ty.l) O m z ty mk nx 8=true):=hid (by
  show (!decide (ty<(L.map Ty.l).length)||bg (((L.map Ty.l)[ty]?).getD []).length != z)=_;rw[kzg,decide_eq_false a];rfl)
 have d1:decide ((L.length:Int)<=(ty:Int))=true:=by rw[kqo];omega
 have T:decide (L.length<=ty)=true:=by rw[kqo];omega
 obtain⟨I,D,M,y,N,J,P,s⟩:=C.out.c6;(try simp only[kzb]);clear a;go_enter func155,ntmps155;go_wp2_with fail;obtain⟨f,j⟩:∃f,w.alloc (.cells #[.int .i64 (m:Int),.int .i64 (z:Int),.int .i64 xk,.int .i64 (ty:Int),.bool mk,.int .u64 (nx:Int)] 55)=f:=⟨_,rfl⟩;rw[j] at u y s |-;clear j I D M N J P C E;have ct3:∀g:SW (λX:World=>Below f.heap.size f X),g.w.cell? ⟨w.heap.size,3,none⟩=some (.int .i64 (ty:Int)):=λg=>(g.ok.cell (p:=⟨w.heap.size,3,none⟩) s).trans y
 refine rU (S:=λX:World=>Below f.heap.size f X) ((0,0,0)::(0,1,0)::(0,2,0)::(1,3,0)::(0,4,0)::(0,5,0)::(0,6,0)::(0,7,0)::(0,8,0)::(0,9,0)::(0,10,0)::(0,13,0)::(0,14,0)::(1,11,0)::(1,12,0)::(0,15,0)::(0,16,0)::(0,17,0)::[]) (.one _ true (none)::.one _ true (none)::.one _ true (none)::.one _ false (none)::.one _ true (none)::.one _ true (none)::.one _ true (some (some 30,false))::.one _ true (some (some 30,false))::.one _ true (some (some 30,false))::.one _ true (some (some 30,false))::.one _ true (some (some 30,false))::.one _ true (some (some 30,false))::.one _ true (some (some 30,false))::.one _ false (some (some 30,false))::.one _ false (some (some 30,false))::.one _ true (some (some 30,false))::.one _ true (none)::.one _ true (none)::[]) (by kernel_rfl) (by kernel_rfl) (by decide) (by show mY _ _ (((0,0,0)::(0,1,0)::(0,2,0)::(1,3,0)::(0,4,0)::(0,5,0)::(0,6,0)::(0,7,0)::(0,8,0)::(0,9,0)::[])++(((0,10,0)::(0,13,0)::(0,14,0)::(1,11,0)::(1,12,0)::(0,15,0)::(0,16,0)::(0,17,0)::[]))) _=true;refine AT _ (by as_aux_lemma=>kernel_rfl) ?_;(as_aux_lemma=>kernel_rfl)) (by rfl) (λ_ _ d _ _ h=>by cases d<;>exact h) (kqk _ _).drew ?_;have i:=hid ((kqk f.heap.size f).drew);obtain⟨X0,B⟩:=xq f.drew
 rw[B] at i |-;clear B;have hne:Nonempty (SW (λX:World=>Below f.heap.size f X)):=⟨⟨X0,i.out⟩⟩
 iterate 3 (first | (refine jk (by rfl) ?_;(try simp only[Act.put,kqb,kqg,kqf])) | (refine oH (by rfl) ?_;intro K t;go_big_quiet_op;go_big_quiet_on))
 (first | (refine jk (by rfl) ?_;(try simp only[Act.put,kqb,kqg,kqf])) | (refine sq_do (by rfl) ?_;intro K t;go_big_op;refine t _ _ i.out ?_;clear t K;(try simp only[Act.put,kqb,kqg,kqf])))
 iterate 9 (first | (refine jk (by rfl) ?_;(try simp only[Act.put,kqb,kqg,kqf])) | (refine oH (by rfl) ?_;intro K t;go_big_quiet_op;go_big_quiet_on))
 (first | (refine jk (by rfl) ?_;(try simp only[Act.put,kqb,kqg,kqf])) | (refine sq_do (by rfl) ?_;intro K t;go_big_op;refine t _ _ i.out ?_;clear t K;(try simp only[Act.put,kqb,kqg,kqf])))
 (refine jk (by rfl) ?_;(try simp only[Act.put,kqb,kqg,kqf]))
 iterate 3 (first | (refine jk (by rfl) ?_;(try simp only[Act.put,kqb,kqg,kqf])) | (refine oH (by rfl) ?_;intro K t;go_big_quiet_op;go_big_quiet_on))
 refine GY ?_;go_wp2;go_ret;exact⟨by rw[k.out];rfl,u.out.trans (i.out.mono u.out.size)⟩
theorem tZ(A TA OA:Option Addr)(ws:List Nat)(L:List Ty)(O:List Bk)(c n tc tn oc on m z ty nx r:Nat)(xk:Int)(mk:Bool)(w:World)(hn:ws.length=n)(hon:O.length=on)(hm:n<=2048)(ho1:on<=2048)(ht:L.length=tn)(hty:ty<L.length)(hl8:L[ty].l.length<=8)(R:z=bg L[ty].l.length)(hmz:m+z<=n)(V:r=9\/r=10\/r=11)(hL:RdL w w.heap.size TA L)(hR:RdW w w.heap.size A ws)(hO:RdB w w.heap.size OA O)(hOb:∀b∈O,0<=b.at_/\b.at_<=1000000):
 Calls prog 155 #[.slice A n c,.slice TA tn tc,.slice OA on oc,.agg #[.int .i64 (m:Int),.int .i64 (z:Int),.int .i64 xk,.int .i64 (ty:Int),.bool mk,.int .u64 (nx:Int)],.int .i64 (r:Int)] w λe w'=>e=.returned (.bool (wrB ws (L.map Ty.l) O m z ty mk nx r))/\Below w.heap.size w w':=by
 subst ht hn hon;have E:=(kqk w.heap.size w).alloc (kqa _) (.cells #[.int .i64 (m:Int),.int .i64 (z:Int),.int .i64 xk,.int .i64 (ty:Int),.bool mk,.int .u64 (nx:Int)] 55);have Z:=hL.up E (kqa _);have I:=hid (hR.up E E.size);have H:=hid (hO.up E E.size);have Eq:=hid hOb;have D:=hid E;have u:bg L[ty].l.length<=10/\L[ty].l.length+2<=bg L[ty].l.length:=by unfold bg;omega
 obtain⟨q0,q1,q2,q3,q4,q5,qf,K⟩:=(Bx.new w 55 #[.int .i64 (m:Int),.int .i64 (z:Int),.int .i64 xk,.int .i64 (ty:Int),.bool mk,.int .u64 (nx:Int)]).c6;obtain⟨b,off,rfl,hb,p0⟩:=qe Z.1 hty;have N:=Z.2 _ (kqn hty);have M:Hid (∀F,L[ty].l=F->wrB ws (L.map Ty.l) O m z ty mk nx r=(if r=7 then mk||decide (0<nx) else if r=8 then !decide (ty<(L.map Ty.l).length)||bg F.length != z else if r=9 then decide (F.length+2<z)&&wd ws (m+2+F.length) != 0 else (List.range F.length).any λi=>wrF ws F O m r i)):=hid λF hF=>by
  unfold wrB;rw[kxh,kql hty];simp only[kzz,kq5,hF]
 obtain⟨x,hx⟩:=xq (L[ty]);rw[hx] at p0 hl8 R u N M;obtain⟨xA,xc,F⟩:=x;dsimp only at p0 hl8 R u N M;have U:=hid (M.out F rfl);have HF:=hid N;rw[<-R] at u;have j1:(ty:Int)<(L.length:Int):=by omega
 have j0:(0:Int)<=(ty:Int):=by omega
 have HZ:=hid R;clear hx M Z hL hR hO hOb N R q2 q4 q5 qf;rcases V with rfl|rfl|rfl
 .have B:Hid (wrB ws (L.map Ty.l) O m z ty mk nx 9=(decide (F.length+2<z)&&wd ws (m+2+F.length) != 0)):=hid U.out;have w1:IntKind.i64.wrap ((z:Int)-2)=(z:Int)-2:=kqt _ (by omega);have w2:IntKind.i64.wrap ((m:Int)+2)=(m:Int)+2:=kqt _ (by omega);have w3:IntKind.i64.wrap ((m:Int)+2+(F.length:Int))=((m+2+F.length:Nat):Int):=by rw[kqt _ (by omega)];omega
  (try simp only[kzb]);by_cases hp:F.length+2<z
  .obtain ⟨bw,ow,rfl,Le,G⟩:=RdW.at_ I.out (show m+2+F.length<ws.length by omega);rw[<-cF] at G;have d1:decide ((F.length:Int)<(z:Int)-2)=true:=by rw[kqo];omega
   rw[decide_eq_true hp] at B;have k1:((m+2+F.length:Nat):Int)<(ws.length:Int):=by omega
   have k0:(0:Int)<=((m+2+F.length:Nat):Int):=by omega
   obtain⟨p,s⟩:=xq (m+2+F.length);rw[s] at G B w3 k1 k0;have e0:((wd ws p:Int) != 0)=(wd ws p != 0):=by rw[kzl,kqv,kqv];omega
   obtain⟨v,Q⟩:=xq (wd ws p);rw[Q] at G B e0;obtain⟨q,S⟩:=xq ((v != 0));rw[S] at B e0;clear s Q S U HF H Eq hp HZ u;go_enter func155,ntmps155;go_wp2;go_ret;exact⟨by rw[B.out];rfl,D.out⟩
  have d1:decide ((F.length:Int)<(z:Int)-2)=false:=by rw[kqh];omega
  rw[decide_eq_false hp] at B;clear U HF H Eq hp HZ u;go_enter func155,ntmps155;go_wp2;go_ret;exact⟨by rw[B.out];rfl,D.out⟩
 .have B:Hid (wrB ws (L.map Ty.l) O m z ty mk nx 10=(List.range F.length).any λi=>wrF ws F O m 10 i):=hid U.out;have w2:IntKind.i64.wrap ((m:Int)+2)=(m:Int)+2:=kqt _ (by omega);have La:Hid (∀k,k<F.length->wrF ws F O m 10 k=true->wrB ws (L.map Ty.l) O m z ty mk nx 10=true):=hid λk J h=>by
   rw[B.out,kx5];exact⟨k,kzi.2 J,h⟩
  have Kx:Hid ((∀k,k<F.length->wrF ws F O m 10 k=false)->wrB ws (L.map Ty.l) O m z ty mk nx 10=false):=hid λh=>by
   rw[B.out,kjk];intro k J;rw[h k (kzi.1 J)];decide
  obtain⟨P,X⟩:∃P,w.alloc (.cells #[.int .i64 (m:Int),.int .i64 (z:Int),.int .i64 xk,.int .i64 (ty:Int),.bool mk,.int .u64 (nx:Int)] 55)=P:=⟨_,rfl⟩;rw[X] at I H HF D q0 q1 q3 p0 K;obtain⟨Lb,Ld⟩:=u;(try simp only[kzb]);clear U B HZ q1;go_enter func155,ntmps155;go_wp2_with fail;go_loopw [12] (λi wr=>∃k:Nat,k<=F.length/\i=.int .i64 k/\Hid (∀j,j<k->wrF ws F O m 10 j=false)/\Below P.heap.size P wr) (λi _=>F.length-(intOf i).toNat)
  case atStart=>exact⟨0,kqz _,rfl,hid λj h=>absurd h (by omega),kqk _ _⟩
  obtain⟨k,J,rfl,HP,C⟩:=hrel;have R:=C.size;by_cases y:k<F.length
  .have q0':=(C.cell (p:=⟨w.heap.size,0,none⟩) K).trans q0;obtain⟨bw,ow,rfl,Le,G⟩:=RdW.at_ (Rd.below I.out C) (show m+2+k<ws.length by omega);rw[<-cF] at G;obtain⟨bf,of,rfl,Lh,y0⟩:=RdY.at_ (Rd.below HF.out (C.mono D.out.size)) y;have HS:Hid (wrF ws F O m 10 k=false->∀j,j<k+1->wrF ws F O m 10 j=false):=hid λh j hj=>by
    rcases kq7 j k with h2|h2
    .exact HP.out j h2
    have:j=k:=by omega
    subst this;exact h
   have HY:=hid (La.out k y);have d:Hid (wrF ws F O m 10 k=(F[k]==2 && !uZ (wd ws (m+2+k)))):=hid (by
    unfold wrF;rw[kql y]
    first | rw[if_pos rfl] | rw[if_neg (by decide)]
    rw[show ∀a b:Nat,(some a==some b)=(a==b) from λa b=>rfl])
   have w3:IntKind.i64.wrap ((m:Int)+2+(k:Int))=((m+2+k:Nat):Int):=by rw[kqt _ (by omega)];omega
   have k1:((m+2+k:Nat):Int)<(ws.length:Int):=by omega
   have k0:(0:Int)<=((m+2+k:Nat):Int):=by omega
   have Lf:(k:Int)<(F.length:Int):=by omega
   have Lg:(0:Int)<=(k:Int):=by omega
   obtain⟨p,s⟩:=xq (m+2+k);rw[s] at G d w3 k1 k0;obtain⟨v,Q⟩:=xq (wd ws p);rw[Q] at G d;obtain⟨f,hf⟩:=xq (F[k]);rw[hf] at y0 d;have t:=hid C;clear s Q hf;have T:=hid (λW=>yP v W);by_cases Kw:f=2
   .subst Kw;have g:Hid (wrF ws F O m 10 k = !uZ v):=hid (by rw[d.out];rfl);obtain⟨q,S⟩:=xq (uZ v);rw[S] at T g;clear S d;cases q
    .have o:=hid (HY.out (by rw[g.out];rfl));go_wp2_with fail;refine (T.out _).mono ?_;rintro e w5 ⟨rfl,rfl⟩;go_wp2;go_ret;exact⟨by rw[o.out];rfl,D.out.trans (t.out.mono D.out.size)⟩
    have o:=hid (HS.out (by rw[g.out];rfl));go_wp2_with fail;refine (T.out _).mono ?_;rintro e w5 ⟨rfl,rfl⟩;go_wp2;go_roundw
    case rel=>exact⟨k+1,by omega,by go_num,o,t.out⟩
    case measure=>simp[intOf];omega
   have e1:((f:Int)==2)=false:=by rw[kqi];omega
   have o:=hid (HS.out (by rw[d.out,show (f==2)=false by rw[kqi];exact Kw];rfl));clear Kw d;go_wp2;go_roundw
   case rel=>exact⟨k+1,by omega,by go_num,o,t.out⟩
   case measure=>simp[intOf];omega
  have o:=hid (Kx.out λj hj=>HP.out j (by omega));obtain rfl:k=F.length:=by omega
  go_wp2;go_ret;exact⟨by rw[o.out];rfl,D.out.trans (C.mono D.out.size)⟩
 have B:Hid (wrB ws (L.map Ty.l) O m z ty mk nx 11=(List.range F.length).any λi=>wrF ws F O m 11 i):=hid U.out;have w2:IntKind.i64.wrap ((m:Int)+2)=(m:Int)+2:=kqt _ (by omega);have La:Hid (∀k,k<F.length->wrF ws F O m 11 k=true->wrB ws (L.map Ty.l) O m z ty mk nx 11=true):=hid λk J h=>by
  rw[B.out,kx5];exact⟨k,kzi.2 J,h⟩
 have Kx:Hid ((∀k,k<F.length->wrF ws F O m 11 k=false)->wrB ws (L.map Ty.l) O m z ty mk nx 11=false):=hid λh=>by
  rw[B.out,kjk];intro k J;rw[h k (kzi.1 J)];decide
 obtain⟨P,X⟩:∃P,w.alloc (.cells #[.int .i64 (m:Int),.int .i64 (z:Int),.int .i64 xk,.int .i64 (ty:Int),.bool mk,.int .u64 (nx:Int)] 55)=P:=⟨_,rfl⟩;rw[X] at I H HF D q0 q1 q3 p0 K;obtain⟨Lb,Ld⟩:=u;(try simp only[kzb]);clear U B HZ q1;go_enter func155,ntmps155;go_wp2_with fail;go_loopw [12] (λi wr=>∃k:Nat,k<=F.length/\i=.int .i64 k/\Hid (∀j,j<k->wrF ws F O m 11 j=false)/\Below P.heap.size P wr) (λi _=>F.length-(intOf i).toNat)
 case atStart=>exact⟨0,kqz _,rfl,hid λj h=>absurd h (by omega),kqk _ _⟩
 obtain⟨k,J,rfl,HP,C⟩:=hrel;have R:=C.size;by_cases y:k<F.length
 .have q0':=(C.cell (p:=⟨w.heap.size,0,none⟩) K).trans q0;obtain⟨bw,ow,rfl,Le,G⟩:=RdW.at_ (Rd.below I.out C) (show m+2+k<ws.length by omega);rw[<-cF] at G;obtain⟨bf,of,rfl,Lh,y0⟩:=RdY.at_ (Rd.below HF.out (C.mono D.out.size)) y;have HS:Hid (wrF ws F O m 11 k=false->∀j,j<k+1->wrF ws F O m 11 j=false):=hid λh j hj=>by
   rcases kq7 j k with h2|h2
   .exact HP.out j h2
   have:j=k:=by omega
   subst this;exact h
  have HY:=hid (La.out k y);have d:Hid (wrF ws F O m 11 k=(F[k]==3&&(decide (0<wd ws (m+2+k)) && !mZ O (wd ws (m+2+k))))):=hid (by
   unfold wrF;rw[kql y]
   first | rw[if_pos rfl] | rw[if_neg (by decide)]
   rw[show ∀a b:Nat,(some a==some b)=(a==b) from λa b=>rfl])
  have w3:IntKind.i64.wrap ((m:Int)+2+(k:Int))=((m+2+k:Nat):Int):=by rw[kqt _ (by omega)];omega
  have k1:((m+2+k:Nat):Int)<(ws.length:Int):=by omega
  have k0:(0:Int)<=((m+2+k:Nat):Int):=by omega
  have Lf:(k:Int)<(F.length:Int):=by omega
  have Lg:(0:Int)<=(k:Int):=by omega
  obtain⟨p,s⟩:=xq (m+2+k);rw[s] at G d w3 k1 k0;obtain⟨v,Q⟩:=xq (wd ws p);rw[Q] at G d;obtain⟨f,hf⟩:=xq (F[k]);rw[hf] at y0 d;have t:=hid C;clear s Q hf;by_cases Ky:f=3
  .subst Ky;have g:Hid (wrF ws F O m 11 k=(decide (0<v) && !mZ O v)):=hid (by rw[d.out];rfl);by_cases Y:0<v
   .have d1:decide ((0:Int)<(v:Int))=true:=by rw[kqo];omega
    have Kz:=hid (λW (V:RdB W W.heap.size OA O)=>qn OA O oc O.length v W rfl (by omega) V Eq.out);have Lc:=hid (H.out.up C R);rw[decide_eq_true Y] at g;obtain⟨q,S⟩:=xq (mZ O v);rw[S] at Kz g;clear S d;cases q
    .have o:=hid (HY.out (by rw[g.out];rfl));go_wp2_with fail;refine (Kz.out _ Lc.out).mono ?_;rintro e w5 ⟨⟨r,rfl,V⟩,rfl⟩;simp only[kvu] at V;go_wp2;go_ret;exact⟨by rw[o.out];rfl,D.out.trans (t.out.mono D.out.size)⟩
    have o:=hid (HS.out (by rw[g.out];rfl));go_wp2_with fail;refine (Kz.out _ Lc.out).mono ?_;rintro e w5 ⟨⟨r,rfl,V⟩,rfl⟩;simp only[kvx] at V;go_wp2;go_roundw
    case rel=>exact⟨k+1,by omega,by go_num,o,t.out⟩
    case measure=>simp[intOf];omega
   have o:=hid (HS.out (by rw[g.out,decide_eq_false Y];rfl));obtain rfl:v=0:=by omega
   clear d g Y;go_wp2;go_roundw
   case rel=>exact⟨k+1,by omega,by go_num,o,t.out⟩
   case measure=>simp[intOf];omega
  have e1:((f:Int)==3)=false:=by rw[kqi];omega
  have o:=hid (HS.out (by rw[d.out,show (f==3)=false by rw[kqi];exact Ky];rfl));clear Ky d;go_wp2;go_roundw
  case rel=>exact⟨k+1,by omega,by go_num,o,t.out⟩
  case measure=>simp[intOf];omega
 have o:=hid (Kx.out λj hj=>HP.out j (by omega));obtain rfl:k=F.length:=by omega
 go_wp2;go_ret;exact⟨by rw[o.out];rfl,D.out.trans (C.mono D.out.size)⟩
theorem yk(A:Option Addr)(ws:List Nat)(c n t:Nat)(w:World)(hn:ws.length=n)(hs:ak (n:Int)=true)(ht:tyN ws=some t)(hc:n<=c)(f:RdW w w.heap.size A ws)(ho:∀x∈ws,x<18446744073709551616):
 Calls prog 151 #[.slice A n c] w λe w'=>J2 ws t w.heap.size e w'/\Below w.heap.size w w':=by subst hn;have z:=(ab _).1 hs;have k:=hid (rL A ws c ws.length w rfl (by omega) hc f);have s:jF ws=0:=As.2 ⟨hs,by rw[ht];rfl⟩;unfold Cu at k;rw[s,ht] at k;have B:=hid (λW (f:RdW W W.heap.size A ws)=>y6 A ws c ws.length t W rfl (by omega) (by omega) f ho);have C:=hid f;clear hs z s ht f ho;go_enter func151,ntmps151;go_wp2_with fail;refine k.out.mono ?_;rintro e y ⟨⟨a,p,o,rfl⟩,d⟩;simp only[kq5];have l:=d.size;have b:=hid ((d.alloc l (.cells #[.int .i64 a,.int .i64 (t:Int)] 126)).alloc (by simp;omega) (.cells #[.bool p,.bool o] 127));clear d;go_wp2_with fail;refine (B.out _ (C.out.up b.out b.out.size)).mono ?_;rintro e q ⟨⟨v,L,rfl,r⟩,i⟩;have m:=hid (b.out.trans (i.mono b.out.size));have g:=hid r;have hz2:=b.out.size;have j:Hid (∀L v,vj q ((y.alloc (.cells #[.int .i64 a,.int .i64 (t:Int)] 126)).alloc (.cells #[.bool p,.bool o] 127)).heap.size v L->vj q w.heap.size v L):=hid λL v h=>⟨am h.1 b.out.size,λx u=>am (h.2 x u) b.out.size⟩;clear r i;go_wp2;go_ret2;exact⟨⟨v,L,rfl,λh=>⟨j.out _ _ (g.out h).1,(g.out h).2⟩⟩,m.out⟩
theorem oI(ht:tyN ws=some t)(hl:blocks ws 128=some l):lay ws=true↔fB ws 16=true/\fB ws 24=true/\ix ws t=true/\slsOk ws=true/\ky l=true/\(∀r,7<=r->r<12->∀b∈aM l,wrK ws (gc ws t 8) (aM l) r b=false)/\∀s∈slL ws,jI (aM l) s=true:=by
 unfold lay;rw[ht,hl];simp only[kqu,kzv,kzi,kx7];constructor
 .rintro ⟨f,g,d,h,i,e,c⟩;refine⟨f,g,d,h,i,λr h1 h2 b a=>?_,c⟩;have:=e (r-7) (by omega) b a;rwa [show 7+(r-7)=r by omega] at this
 rintro ⟨f,g,d,h,i,e,c⟩;exact⟨f,g,d,h,i,λr hr b a=>e (7+r) (by omega) (by omega) b a,c⟩
theorem pM(h:tyN ws=none\/blocks ws 128=none):lay ws=false:=by
 unfold lay;rcases h with h|h
 .rw[h]
 rw[h];cases tyN ws<;>rfl
theorem ic(hl:blocks ws 128=some l){b:Bk}(hb:b∈aM l):∃a z ty nx:Nat,∃mk,b=⟨(a:Int),(z:Int),1,(ty:Int),mk,nx⟩/\128<=a/\a+z<=ws.length/\2<=z/\b=bkAt ws a/\stands ws a=true:=by
 unfold aM at hb;obtain⟨i,c⟩:=kzu.1 hb;rw[kqx] at c;obtain⟨k,g,rfl⟩:=kq0 i;obtain⟨a,e,a1,j,a3,f,-⟩:=cC _ _ hl (by omega) k g;have d:=aJ f;rw[e] at c;have h:bkAt ws a=⟨(a:Int),((szAt ws a:Nat):Int),1,(((ap (wd ws a)).typ.toNat:Nat):Int),(ap (wd ws a)).mark,wd ws (a+1)⟩:=by
  have m:(ap (wd ws a)).typ=(((ap (wd ws a)).typ.toNat:Nat):Int):=by unfold ap;dsimp only;omega
  rw[<-m,<-c];rfl
 exact⟨a,szAt ws a,(ap (wd ws a)).typ.toNat,wd ws (a+1),(ap (wd ws a)).mark,by rw[e,h],j,d.2.2,d.1,e,f⟩
theorem Gx(l:List Bk):(aM l).length<=l.length:=by unfold aM;exact kjo _ _
def Gm (ws:List Nat) (e:Ending):Prop:=∃r:Int,e=.returned (.int .i64 r)/\0<=r/\(r=0↔lay ws=true)
theorem mG{r:Int}(h:lay ws=false)(hr:0<r):Gm ws (.returned (.int .i64 r)):=⟨r,rfl,by omega,by rw[h];constructor<;>intro h;omega;cases h⟩
theorem wy_ok(h:lay ws=true):Gm ws (.returned (.int .i64 0)):=⟨0,rfl,by omega,by rw[h];simp⟩
theorem Gi(A:Option Addr)(ws:List Nat)(c n:Nat)(w:World)(hn:ws.length=n)(hs:ak (n:Int)=true)(hc:n<=c)(p:RdW w w.heap.size A ws)(ho:∀x∈ws,x<18446744073709551616):
 Calls prog 93 #[.slice A n c] w λe w'=>Gm ws e/\Below w.heap.size w w':=by
 subst hn;have hb:=(ab _).1 hs;have HC:=hid (rL A ws c ws.length w rfl (by omega) hc p);have HR:=hid p;have Q:jF ws=if (tyN ws).isSome=true then 0 else 50:=by unfold jF;rw[if_pos hs]
 unfold Cu at HC;have HZ:=hid (λa ha W (p:RdW W W.heap.size A ws)=>xh A ws c ws.length a W rfl ha (by omega) p);have Z:=hid (λW (p:RdW W W.heap.size A ws)=>(show Calls prog 150 #[.slice A ws.length c,.int .i64 16] W λe w'=>e=.returned (.bool (fB ws 16))/\W=w' from HZ.out 16 (by omega) W p));have Eq:=hid (λW (p:RdW W W.heap.size A ws)=>(show Calls prog 150 #[.slice A ws.length c,.int .i64 24] W λe w'=>e=.returned (.bool (fB ws 24))/\W=w' from HZ.out 24 (by omega) W p));have Lb:=hid (λW (p:RdW W W.heap.size A ws)=>D4 A ws c ws.length W rfl (by omega) (by omega) p ho);have Ly:=hid (λW (p:RdW W W.heap.size A ws)=>CB A ws c ws.length W rfl hs p ho);unfold TlRes at Lb;cases ht:tyN ws with
 | none =>rw[ht] at HC Q;rw[Q] at HC;have E:=hid (pM (.inl ht));simp only[kkr,kj4,kzm,if_false] at HC;clear Q ht hs hb p ho HZ Z Eq Lb Ly;go_enter func93,ntmps93;go_wp2_with fail;refine HC.out.mono ?_;rintro e w1 ⟨⟨a,b0,b1,rfl⟩,K⟩;have Lz:=K.size;go_wp2;go_ret;exact⟨mG E.out (by decide),(K.alloc Lz _).alloc (by simp;omega) _⟩
 | some t =>
  have Nv:=rZ ht;rw[ht] at HC Q;rw[Q] at HC;simp only[kq5,kkj,if_true] at HC;have Mb:=hid (λW (p:RdW W W.heap.size A ws)=>yk A ws c ws.length t W rfl hs ht hc p ho);unfold J2 at Mb;have Lv:=hid (λl G=>oI (ws:=ws) (t:=t) (l:=l) ht G);have Mz:=hid (λh=>pM (ws:=ws) (.inr h));have J:Hid ((fB ws 16=false\/fB ws 24=false\/ix ws t=false\/slsOk ws=false\/yd ws=false)->lay ws=false):=hid λh=>by
   cases y:lay ws with
   | false=>rfl
   | true =>
    cases G:blocks ws 128 with
    | none=>rw[Mz.out G] at y;cases y
    | some l =>obtain⟨a1,a2,a3,a4,a5,-⟩:=(Lv.out l G).1 y;rw[a1,a2,a3,a4,gK G,a5] at h;simp at h
  have Nk:=hid (λl G=>gK (ws:=ws) (l:=l) G);have Ng:=hid (λl (G:blocks ws 128=some l)=>(bK (by omega) _ _ G (by omega) (by omega) (by omega)).1);have HO:=hid ho;have Lu:256<=ws.length:=by omega
  have H:ws.length<=2048:=by omega
  clear Q hs hb p ho HZ ht;go_enter func93,ntmps93;go_wp2_with fail;refine HC.out.mono ?_;rintro e w1 ⟨⟨a,b0,b1,rfl⟩,K⟩;have Lz:=K.size;have f:=hid ((K.alloc Lz (.cells #[.int .i64 a,.int .i64 (t:Int)] 126)).alloc (by simp;omega) (.cells #[.bool b0,.bool b1] 127));clear K;go_wp2_with fail;refine (Z.out _ (HR.out.up f.out f.out.size)).mono ?_;rintro e w2 ⟨rfl,rfl⟩;cases Lf:fB ws 16
  .have E:=hid (J.out (.inl Lf));clear Lf;go_wp2;go_ret;exact⟨mG E.out (by decide),f.out⟩
  have My:=hid Lf;clear Lf;go_wp2_with fail;refine (Eq.out _ (HR.out.up f.out f.out.size)).mono ?_;rintro e w2 ⟨rfl,rfl⟩;cases Lc:fB ws 24
  .have E:=hid (J.out (.inr (.inl Lc)));clear Lc;go_wp2;go_ret;exact⟨mG E.out (by decide),f.out⟩
  have Ms:=hid Lc;clear Lc;go_wp2_with fail;refine (Mb.out _ (HR.out.up f.out f.out.size)).mono ?_;rintro e w3 ⟨⟨v,L,rfl,hT⟩,Mv⟩;have R:=hid (f.out.trans (Mv.mono f.out.size));have Nc:=hid hT;have Mo:=hid (HR.out.up R.out R.out.size);clear hT Mv;cases D:ix ws t
  .have E:=hid (J.out (.inr (.inr (.inl D))));clear D;go_wp2;go_ret;exact⟨mG E.out (by decide),R.out⟩
  have Md:=hid D;obtain⟨Ln,Lw⟩:=Nc.out D;obtain⟨TA,tc,rfl⟩:=aE Ln.1;have Mp:=hid (RdL.of_own Ln rfl);have Nd:=hid Lw;have Mg:∀x∈L,x.l.length<=8:=λx hx=>by
   have:x.l∈L.map Ty.l:=kx6 hx;rw[Lw] at this;unfold gc at this;obtain⟨i,-,e⟩:=kzx.1 this;rw[<-e];exact lE _ _
  have Lo:=hid Mg;clear D Ln Lw Mg Nc;go_wp2_with fail;refine (Lb.out _ Mo.out).mono ?_;rintro e w4 ⟨⟨SA,sn,sc,rfl,hS⟩,Kz⟩;have N:=hid (R.out.trans (Kz.mono R.out.size));have Nf:=hid hS;have Nb:=hid (HR.out.up N.out N.out.size);have Lk:=hid (Mp.out.up Kz Kz.size);clear hS Kz;cases U:slsOk ws
  .have E:=hid (J.out (.inr (.inr (.inr (.inl U)))));clear U;go_wp2;go_ret;exact⟨mG E.out (by decide),N.out⟩
  have Mx:=hid U;obtain⟨Me,Nw,Mr⟩:=Nf.out U;have Lg:=hid Me;have Nh:=hid Mr;clear U Mr Nf Me;go_wp2_with fail;refine (Ly.out _ Nb.out).mono ?_;rintro e w5 ⟨⟨PA,pn,pc,rfl,hP⟩,M⟩;have Kx:=hid (N.out.trans (M.mono N.out.size));have Ml:=hid hP;have Lj:=hid (Lk.out.up M M.size);have Li:=hid (show RdS w5 w5.heap.size SA (slL ws) from Rd.up Nh.out M M.size);clear hP M;cases Y:yd ws
  .have E:=hid (J.out (.inr (.inr (.inr (.inr Y)))));clear Y;go_wp2;go_ret;exact⟨mG E.out (by decide),Kx.out⟩
  obtain⟨l,G,rfl,Np,Mu⟩:=Ml.out Y;have Nn:=Ng.out l G;have Lr:=hid (Lv.out l G);have Na:Hid (ky l=true):=hid (by rw[<-Nk.out l G];exact Y);have Ma:=hid (si PA l pc l.length w5 rfl (by omega) Mu);have Mw:=Gx l;have Ll:=hid (λb hb=>ic (b:=b) G hb);obtain⟨O,hO⟩:=xq (aM l);rw[hO] at Ma Lr Mw Ll;clear Y G Mu hO Ml Lv Mz Ng Nk;go_wp2_with fail;refine Ma.out.mono ?_;rintro e w6 ⟨⟨OA,on,oc,rfl,rfl,Nr,Mi⟩,P⟩;have F:=hid (Kx.out.trans (P.mono Kx.out.size));have Kw:=hid (Lj.out.up P P.size);have Mh:=hid (show RdS w6 w6.heap.size SA (slL ws) from Rd.up Li.out P P.size);have Lp:=hid Mi;have Nz:=hid (HR.out.up F.out F.out.size);clear P Mi;have Lh:Hid (∀b∈O,0<=b.at_/\b.at_<=1000000):=hid λb hb=>by
   obtain⟨a,z,S,nx,mk,rfl,a1,a2,-⟩:=Ll.out b hb;dsimp only;omega
  have Lt:Hid (∀(r j a z S nx:Nat) (mk:Bool) (hj:j<O.length),O[j]=⟨(a:Int),(z:Int),1,(S:Int),mk,nx⟩->7<=r->r<=11->(9<=r->wrK ws (L.map Ty.l) O 8 O[j]=false)->a+z<=ws.length->∀W,Below w6.heap.size w6 W->Calls prog 155 #[.slice A ws.length c,.slice TA L.length tc,.slice OA O.length oc,.agg #[.int .i64 (a:Int),.int .i64 (z:Int),.int .i64 1,.int .i64 (S:Int),.bool mk,.int .u64 (nx:Int)],.int .i64 (r:Int)] W λe w'=>e=.returned (.bool (wrK ws (L.map Ty.l) O r O[j]))/\Below W.heap.size W w'):=hid λr j a z S nx mk hj e h7 h11 h8 Nt W hW=>by
   have ek:∀r,wrK ws (L.map Ty.l) O r O[j]=wrB ws (L.map Ty.l) O a z S mk nx r:=λr=>by
    rw[e];unfold wrK;simp only[kqj]
   rw[ek r];by_cases h9:9<=r
   .have h8:=h8 h9;rw[ek 8] at h8;have h8:(!decide (S<(L.map Ty.l).length)||bg (((L.map Ty.l)[S]?).getD []).length != z)=false:=h8;rw[kzs] at h8;have D:S<L.length:=by
     have:=h8.1;rw[kzg] at this
     simpa using this
    have hz:=h8.2;rw[kxh,kql D,kqr] at hz;exact tZ A TA OA ws L O c ws.length tc L.length oc O.length a z S nx r 1 mk W rfl rfl H (by omega) rfl D (Lo.out _ (kqn D)) hz.symm Nt (by omega) (Kw.out.up hW hW.size) (Nz.out.up hW hW.size) (Lp.out.up hW hW.size) Lh.out
   exact rQ A TA OA ws L O c ws.length tc L.length oc O.length a z S nx r 1 mk W rfl Lo.out (by omega) (Kw.out.up hW hW.size)
  rw[Nd.out] at Lt;have Ld:Hid (lay ws=true↔(∀r,7<=r->r<12->∀b∈O,wrK ws (gc ws t 8) O r b=false)/\∀s∈slL ws,jI O s=true):=hid (by
   rw[Lr.out];exact⟨λh=>h.2.2.2.2.2,λh=>⟨My.out,Ms.out,Md.out,Mx.out,Na.out,h⟩⟩)
  have Nx:O.length<=1000000:=by omega
  have Nl:=hid (λW (p:RdB W W.heap.size OA O) v=>qn OA O oc O.length v W rfl Nx p Lh.out);obtain⟨T,Mn⟩:=xq (gc ws t 8);rw[Mn] at Lt Ld;have Mj:O.length<=2048:=by omega
  clear Mn Lr Na Md Mx My Ms Nd Kw Lj Lk Mp Lo Nn Mw Np Nw Nr Ma Mo Nb Nh Li R N Kx f J Mb Lb Ly Z Eq HC Mj Lu H Nv;go_wp2_with fail;go_loopw [11] (λi wr=>∃k:Nat,7<=k/\k<=12/\i=.int .i64 k/\Hid (∀r,7<=r->r<k->∀b∈O,wrK ws T O r b=false)/\Below w6.heap.size w6 wr) (λi _=>12-(intOf i).toNat)
  case atStart=>exact⟨7,kqa _,by omega,rfl,hid λr h1 h2=>absurd h2 (by omega),kqk _ _⟩
  obtain⟨k,Lx,hk,rfl,HP,hB⟩:=hrel;have hz:=hB.size;by_cases Ky:k<=11
  .have hki:decide ((k:Int)<=11)=true:=by rw[kqo];omega
   have hkn:decide (k<=11)=true:=by rw[kqo];exact Ky
   have Nu:=hid hB;have Nq:Hid ((∀b∈O,wrK ws T O k b=false)->∀r,7<=r->r<k+1->∀b∈O,wrK ws T O r b=false):=hid λh r h1 h2=>by
    rcases kq7 r k with h3|h3
    .exact HP.out r h1 h3
    have:r=k:=by omega
    subst this;exact h
   obtain⟨wk,Mq⟩:=xq wr;rw[Mq] at hB Nu hz |-;clear Mq;go_wp2_with fail;go_loopw [12] (λi wr=>∃j:Nat,j<=O.length/\i=.int .i64 j/\Hid (∀q (h:q<O.length),q<j->wrK ws T O k O[q]=false)/\Below wk.heap.size wk wr) (λi _=>O.length-(intOf i).toNat)
   case atStart=>exact⟨0,kqz _,rfl,hid λq h h2=>absurd h2 (by omega),kqk _ _⟩
   obtain⟨j,hj,rfl,HQ,V⟩:=hrel;have Ns:=V.size;have C:=hB.trans (V.mono hz);by_cases o:j<O.length
   .obtain ⟨a,z,S,nx,mk,ej,a1,a2,-⟩:=Ll.out O[j] (kqn o);have Lm:=hid (Lt.out k j a z S nx mk o ej Lx Ky (λh9=>HP.out 8 (by omega) (by omega) _ (kqn o)) a2 wr C);obtain⟨b,off,rfl,hb,p0,p1,p2,p3,p4,p5⟩:=RdB.at_ (Rd.below Lp.out C) o;rw[ej] at p0 p1 p2 p3 p4 p5;dsimp only at p0 p1 p2 p3 p4 p5;have m:Hid (wrK ws T O k O[j]=false->∀q (h:q<O.length),q<j+1->wrK ws T O k O[q]=false):=hid λh q y h2=>by
     rcases kq7 q j with h3|h3
     .exact HQ.out q y h3
     have:q=j:=by omega
     subst this;exact h
    have B:Hid (wrK ws T O k O[j]=true->lay ws=false):=hid λh=>by
     cases y:lay ws with
     | false=>rfl
     | true=>rw[(Ld.out.1 y).1 k Lx (by omega) _ (kqn o)] at h;cases h
    obtain⟨q,y⟩:=xq (wrK ws T O k O[j]);rw[y] at Lm m B;have Nj:(j:Int)<(O.length:Int):=by omega
    have Nm:(0:Int)<=(j:Int):=by omega
    have Mc:(0:Int)<(k:Int):=by omega
    have Mt:=hid V;have I:=hid C;clear y ej a1 a2 C;cases q
    .have HN:=hid (m.out rfl);clear m B;go_wp2_with fail;refine Lm.out.mono ?_;rintro e w8 ⟨rfl,X⟩;have Lq:=hid (Mt.out.trans (X.mono Ns));clear X;go_wp2;go_roundw
     case rel=>exact⟨j+1,by omega,by go_num,HN,Lq.out⟩
     case measure=>simp[intOf];omega
    have E:=hid (B.out rfl);clear m B;go_wp2_with fail;refine Lm.out.mono ?_;rintro e w8 ⟨rfl,X⟩;have Lq:=hid (F.out.trans ((I.out.trans (X.mono (by have:=I.out.size;omega))).mono F.out.size));have No:=hid Mc;clear X Mc;go_wp2;go_ret;exact⟨mG E.out No.out,Lq.out⟩
   have HN:=hid (Nq.out λb hb=>by
    obtain⟨q,y,rfl⟩:=kq0 hb;exact HQ.out q y (by omega))
   have hjn:decide ((j:Int)<(O.length:Int))=false:=by rw[kqh];omega
   have hjnn:decide (j<O.length)=false:=by rw[kqh];exact o
   have I:=hid C;clear o C;go_wp2;go_roundw
   case rel=>exact⟨k+1,by omega,by omega,by go_num,HN,I.out⟩
   case measure=>simp[intOf];omega
  have Ni:Hid (∀r,7<=r->r<12->∀b∈O,wrK ws T O r b=false):=hid λr h1 h2=>HP.out r h1 (by omega);have d:=hid hB;have hkd:decide ((k:Int)<=11)=false:=by rw[kqh];omega
  have hkdn:decide (k<=11)=false:=by rw[kqh];exact Ky
  clear HP Ky hk Lx;go_wp2_with fail;go_loopw [13] (λi wr2=>∃j:Nat,j<=16/\i=.int .i64 j/\Hid (∀q (h:q<(slL ws).length),q<j->jI O (slL ws)[q]=true)/\Below w6.heap.size w6 wr2) (λi _=>16-(intOf i).toNat)
  case atStart=>exact⟨0,kqz _,rfl,hid λq h h2=>absurd h2 (by omega),d.out⟩
  obtain⟨j,hj,rfl,HQ,V⟩:=hrel;have d:=hid V
  rename World=>wq
  by_cases o:j<16
  .have Mm:j<(slL ws).length:=by rw[fA];exact o
   obtain⟨b,off,rfl,hb,p0,p1,p2⟩:=RdS.at_ (Rd.below Mh.out d.out) Mm;have m:Hid (jI O (slL ws)[j]=true->∀q (h:q<(slL ws).length),q<j+1->jI O (slL ws)[q]=true):=hid λh q y h2=>by
    rcases kq7 q j with h3|h3
    .exact HQ.out q y h3
    have:q=j:=by omega
    subst this;exact h
   have B:Hid (jI O (slL ws)[j]=false->lay ws=false):=hid λh=>by
    cases y:lay ws with
    | false=>rfl
    | true=>rw[(Ld.out.1 y).2 _ (kqn Mm)] at h;cases h
   have La:0<=(slL ws)[j].at_/\(slL ws)[j].at_<=4294967295:=by rw[nY];exact⟨(gj (wd ws (112+j))).2.2.1,(gj (wd ws (112+j))).2.2.2⟩
   obtain⟨x,hx⟩:=xq ((slL ws)[j]);rw[hx] at p0 p1 p2 m B La;obtain⟨g,u,at_⟩:=x;dsimp only at p0 p1 p2 La;obtain⟨v,rfl⟩:=kq1 La.1;have Le:Hid (jI O ⟨g,u,((v:Nat):Int)⟩=(!u||mZ O v)):=hid (by unfold jI;rw[kqj]);have w9:IntKind.u64.wrap (v:Int)=(v:Int):=kzw _ (by omega);have Nj:(j:Int)<(sn:Int):=by rw[Lg.out];omega
   have Ny:decide ((j:Int)<(sn:Int))=true:=by rw[kqo];exact Nj
   have Mf:decide (j<sn)=true:=by rw[kqo,Lg.out];exact o
   have Nm:(0:Int)<=(j:Int):=by omega
   have Ls:=hid (Nl.out wq (Lp.out.up d.out d.out.size) v);clear hx La;cases u
   .have HN:=hid (m.out (by rw[Le.out];rfl));clear m B;go_wp2;go_roundw
    case rel=>exact⟨j+1,by omega,by go_num,HN,d.out⟩
    case measure=>simp[intOf];omega
   obtain⟨q,y⟩:=xq (mZ O v);rw[y] at Ls Le;clear y;cases q
   .have E:=hid (B.out (by rw[Le.out];rfl));clear m B;go_wp2_with fail;refine Ls.out.mono ?_;rintro e w8 ⟨⟨r,rfl,p⟩,rfl⟩;simp only[kvu] at p;go_wp2;go_ret;exact⟨mG E.out (by decide),F.out.trans (d.out.mono F.out.size)⟩
   have HN:=hid (m.out (by rw[Le.out];rfl));clear m B;go_wp2_with fail;refine Ls.out.mono ?_;rintro e w8 ⟨⟨r,rfl,p⟩,rfl⟩;simp only[kvx] at p;go_wp2;go_roundw
   case rel=>exact⟨j+1,by omega,by go_num,HN,d.out⟩
   case measure=>simp[intOf];omega
  have E:Hid (lay ws=true):=hid (Ld.out.2 ⟨Ni.out,λs hs=>by
   obtain⟨q,y,rfl⟩:=kq0 hs;exact HQ.out q y (by rw[fA] at y;omega)⟩)
  have Ny:decide ((j:Int)<(sn:Int))=false:=by rw[kqh,Lg.out];omega
  have Mf:decide (j<sn)=false:=by rw[kqh,Lg.out];exact o
  go_wp2;go_ret;exact⟨wy_ok E.out,F.out.trans (d.out.mono F.out.size)⟩
theorem za(A:Option Addr)(ws:List Nat)(c n:Nat)(w:World)(hn:ws.length=n)(hm:n<=9223372036854775807)(hc:n<=c)(d:RdW w w.heap.size A ws)(ho:∀x∈ws,x<18446744073709551616):
 Calls prog 13 #[.slice A n c] w λe w'=>e=.returned (.int .i64 (bT ws))/\Below w.heap.size w w':=by
 subst hn;have f:=hid (λW=>mI A ws.length c W hm);have l:Calls prog 49 #[.slice A ws.length c] w λe w'=>(∃r:Int,e=.returned (.tuple #[.int .i64 r,.int .i64 (lR ws.length)])/\0<=r/\(ak (ws.length:Int)=true->(r=0↔lay ws=true)))/\Below w.heap.size w w':=by
  cases b:ak (ws.length:Int)
  .have s:=hid (bL b);rw[bL b] at f;have t:Hid (∀ {p:Prop},false=true->p):=hid λh=>by cases h
   clear d ho hc b;go_enter func49,ntmps49;go_wp2_with fail;refine (f.out _).mono ?_;rintro e k ⟨rfl,rfl⟩;go_wp2;go_ret2;exact⟨⟨0,by rw[s.out];rfl,by omega,λh=>t.out h⟩,kqk _ _⟩
  have s:=hid (aV b);rw[aV b] at f;have m:=hid (Gi A ws c ws.length w rfl b hc d ho);unfold Gm at m;clear d ho hc b;go_enter func49,ntmps49;go_wp2_with fail;refine (f.out _).mono ?_;rintro e k ⟨rfl,rfl⟩;go_wp2_with fail;refine m.out.mono ?_;rintro e k ⟨⟨r,rfl,j,d⟩,g⟩;have u:=hid (And.intro j d);clear j d;go_wp2;go_ret2;exact⟨⟨r,by rw[s.out];rfl,u.out.1,λ_=>u.out.2⟩,g⟩
 have i:=hid l;have a:Hid (bT ws=if ak (ws.length:Int)=true then (if lay ws=true then 0 else 50) else 8):=hid rfl;clear l d ho hc f;cases b:ak (ws.length:Int)
 .rw[bL b] at i;rw[b] at a;simp only[kzm,if_false] at a;clear b;go_enter func13,ntmps13;go_wp2_with fail;refine i.out.mono ?_;rintro e k ⟨⟨r,rfl,-,-⟩,g⟩;go_wp2;go_ret;exact⟨by rw[a.out];rfl,g⟩
 rw[aV b,b] at i;rw[b] at a;simp only[if_true] at a;clear b;cases o:lay ws
 .rw[o] at i a;clear o;go_enter func13,ntmps13;go_wp2_with fail;refine i.out.mono ?_;rintro e k ⟨⟨r,rfl,j,d⟩,g⟩;have q:r≠0:=λh=>by have:=(d trivial).1 h;cases this
  have d1:decide (0<r)=true:=by rw[kqo];omega
  clear d q j;go_wp2;go_ret;exact⟨by rw[a.out];rfl,g⟩
 rw[o] at i a;clear o;go_enter func13,ntmps13;go_wp2_with fail;refine i.out.mono ?_;rintro e k ⟨⟨r,rfl,j,d⟩,g⟩;obtain rfl:r=0:=(d trivial).2 (by first|exact trivial|rfl);clear d j;go_wp2;go_ret;exact⟨by rw[a.out];rfl,g⟩
end Go.Proofs.YtpcajamacpbjcaaGreat
