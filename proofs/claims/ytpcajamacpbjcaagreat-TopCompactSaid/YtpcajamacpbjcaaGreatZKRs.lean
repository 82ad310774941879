/- Texts laid together: FinP RsP RsQ RsE RsPh. -/
import Derived.Test.YtpcajamacpbjcaaGreatZKStg1
import Derived.Test.YtpcajamacpbjcaaGreatZKImage
import Derived.Test.YtpcajamacpbjcaaGreatZKStg3
import Derived.Test.YtpcajamacpbjcaaGreatZKStg2
set_option maxHeartbeats 16000000
set_option linter.all false
namespace Go.Proofs.YtpcajamacpbjcaaGreat
variable {ws x y:List Nat}{p:Nat}
def dK (ws:List Nat):Int:=if ax ws=0 then (if wd ws 16=4/\lfN ws=0 then 0 else 6) else ax ws
def fp (ws:List Nat):Nat:=if dK ws=0 then wd ws 18 else 0
theorem Ge{r:Int}(h:ax ws=r)(h0:r≠0):dK ws=r:=by subst h;simp[dK,h0]
theorem Fa(h:ax ws=0)(h2:¬ (wd ws 16=4/\lfN ws=0)):dK ws=6:=by unfold dK;rw[if_pos h,if_neg h2]
theorem F0(h:ax ws=0)(h2:wd ws 16=4)(h3:lfN ws=0):dK ws=0/\fp ws=wd ws 18:=by simp[fp,dK,h,h2,h3]
theorem yf(h:dK ws=0):ax ws=0/\wd ws 16=4/\lfN ws=0:=by
 unfold dK at h;split at h
 .split at h
  .rename_i h1 h2;exact⟨h1,h2⟩
  simp at h
 rename_i h1;exact absurd h h1
theorem gn(h:dK ws=0):ak (ws.length:Int)=true/\cU ws=0/\ji ws=true/\wd ws 16=4/\me (wd ws 18)=true/\wd ws 18<=ws.length/\mvd ws 128 (wd ws 18)=true/\fp ws=wd ws 18:=by
 obtain⟨a,c,h3⟩:=yf h;have b:=jz a;obtain⟨f,-⟩:=iK b;obtain⟨g,d,e⟩:=gx f;obtain⟨⟨l0,l1,i⟩,-⟩:=(bE ws).1 d;rcases (dd _ _ _).1 e with⟨-,i1,j,i3⟩|⟨p3,-⟩|⟨p0,-⟩
 .refine ⟨g,b,d,c,j,i,?_,by simp[fp,h]⟩;unfold ax at a;rw[if_pos b,if_pos c] at a;split at a
  .assumption
  simp at a
 .omega
 omega
def dp (ws:List Nat):List En:=if dK ws=0 then phE 0 0 0++(if fp ws=ws.length then [] else [⟨(fp ws:Int),cS (du (ws.length-fp ws))⟩,⟨((fp ws+1:Nat):Int),0⟩]) else []
def frN (ws:List Nat):Nat:=if dK ws=0 then ws.length-fp ws else 0
theorem Ce{n:Nat}(h2:2<=n)(he:n%2=0)(h:n<=1920):jB (du n)=true:=by rw[bH];exact⟨⟨by show (2:Int)<=(n:Int);omega,by show (n:Int)%2=0;omega⟩,.inr ⟨rfl,rfl,rfl,by show (n:Int)<=1920;omega⟩⟩
theorem uu(h:dK ws=0)(hne:fp ws≠ws.length):jB (du (ws.length-fp ws))=true:=by obtain⟨c,-,-,-,a,h6,-,b⟩:=gn h;have hb:=(ab _).1 c;have hi:=(a9 _).1 a;rw[b] at hne |-;exact Ce (by omega) (by omega) (by omega)
def vQ:List Bk->Int->Int
 | [],s=>s
 | b::l,s=>vQ l (s+b.size)
theorem Ga{t:Nat}:∀n i,t-i<=n->mvd ws i t=true->∃f:List Bk,(∀b∈f,b.kind=1/\b.mark=false/\dj ws b=true/\2<=b.size/\b.size<=10/\0<=b.typ/\b.typ<8)/\vQ f i=(t:Int)/\f.length<=t-i /\
 ∀xs l,(∀j,i<=j->j<t->wd xs j=wd ws j)->t<=xs.length->blocks xs t=some l->blocks xs i=some (f++l):=by
 intro n
 induction n with
 | zero =>intro i h c;rw[kK (by omega),kqx] at c;subst c;exact⟨[],(λb g=>by cases g),rfl,kqz _,λxs l _ _ k=>k⟩
 | succ n ih =>
  intro i h c;by_cases x:t<=i
  .rw[kK x,kqx] at c;subst c;exact⟨[],(λb g=>by cases g),rfl,kqz _,λxs l _ _ k=>k⟩
  cases a:mdOk ws i with
  | false=>rw[ut (by omega) a] at c;cases c
  | true =>
   rw[lg (by omega) a] at c;have hsz:=mF a;have hle:i+szAt ws i<=t:=by
    rcases kq7 t (i+szAt ws i) with s|s
    .rw[kK (by omega),kqx] at c;omega
    exact s
   obtain⟨f,y,B,o3,A⟩:=ih (i+szAt ws i) (by omega) c;unfold mdOk at a;simp only[kqu,kqx,kx7] at a;obtain⟨d,C,v,m⟩:=a;have hhd:=(bH _).1 (show jB (ap (wd ws i))=true by unfold aG at d;simp only[kqu] at d;exact d.1);refine⟨bkAt ws i::f,λb g=>?_,?_,by rw[kq2];omega,λxs l q p k=>?_⟩
   .rcases kqw.1 g with rfl|g
    .have e:(bkAt ws i).size=((szAt ws i:Nat):Int):=rfl;have w:(bkAt ws i).typ=(ap (wd ws i)).typ:=rfl;refine⟨C,v,?_,by omega,by omega,by omega,by omega⟩;unfold dj at m |-;exact m
    exact y b g
   .show vQ f (i+(szAt ws i:Nat))=_;rw[<-B];congr 1
   have u:wd xs i=wd ws i:=q i (kqa _) (by omega);have o:wd xs (i+1)=wd ws (i+1):=q (i+1) (by omega) (by omega);have D:szAt xs i=szAt ws i:=by unfold szAt;rw[u]
   have w:bkAt xs i=bkAt ws i:=by unfold bkAt;rw[u,o]
   have r:stands xs i=true:=by unfold stands;rw[u,d,kzq,kzd];have:(ap (wd ws i)).size=((szAt ws i:Nat):Int):=rfl;omega
   rw[aL (by omega) r,D,w,A xs l (λj s z=>q j (by omega) z) p k];rfl
theorem DW(h:dK ws=0):∀j,wd (ai ws (dp ws)) j=if j=16\/j=17\/j=18 then 0 else if fp ws<ws.length/\j=fp ws then cS (du (ws.length-fp ws)) else if fp ws<ws.length/\j=fp ws+1 then 0 else wd ws j:=by
 obtain⟨q,-,-,-,m,p,-,n⟩:=gn h;have hb:=(ab _).1 q;have o:=(a9 _).1 m;rw[<-n] at o p;intro j;have c:∀j,wd (ai ws (phE 0 0 0)) j=if j=16\/j=17\/j=18 then 0 else wd ws j:=by
  intro j;unfold phE;rw[show (16:Int)=((16:Nat):Int) from rfl,show (17:Int)=((17:Nat):Int) from rfl,show (18:Int)=((18:Nat):Int) from rfl];rw[fZ 16 _ _ (by omega),fZ 17 _ _ (by rw[kq3];omega),fZ 18 _ _ (by rw[kq3,kq3];omega)];show wd (((ws.set 16 0).set 17 0).set 18 0) j=_;rw[mQ,mQ,mQ];simp only[kq3];by_cases f:j=18
  .subst f;rw[if_pos ⟨rfl,by omega⟩,if_pos (by omega)]
  rw[if_neg (by omega)];by_cases g:j=17
  .subst g;rw[if_pos ⟨rfl,by omega⟩,if_pos (by omega)]
  rw[if_neg (by omega)];by_cases i:j=16
  .subst i;rw[if_pos ⟨rfl,by omega⟩,if_pos (by omega)]
  rw[if_neg (by omega),if_neg (by omega)]
 have e:dp ws=phE 0 0 0++(if fp ws=ws.length then [] else [⟨(fp ws:Int),cS (du (ws.length-fp ws))⟩,⟨((fp ws+1:Nat):Int),0⟩]):=by simp[dp,h]
 rw[e,eT];have b:(ai ws (phE 0 0 0)).length=ws.length:=au _ _;by_cases d:fp ws=ws.length
 .rw[if_pos d];show wd (ai ws (phE 0 0 0)) j=_;rw[c];by_cases a:j=16\/j=17\/j=18
  .rw[if_pos a,if_pos a]
  rw[if_neg a,if_neg a,if_neg (λh=>absurd h.1 (by omega)),if_neg (λh=>absurd h.1 (by omega))]
 rw[if_neg d,fZ _ _ _ (by rw[b];omega),fZ _ _ _ (by rw[kq3,b];omega)];show wd (((ai ws (phE 0 0 0)).set _ _).set _ _) j=_;rw[mQ,mQ,c,kq3,b];by_cases l:j=fp ws+1
 .subst l;rw[if_pos ⟨rfl,by omega⟩,if_neg (by omega),if_neg (by omega),if_pos ⟨by omega,rfl⟩]
 rw[if_neg (by omega)];by_cases k:j=fp ws
 .subst k;rw[if_pos ⟨rfl,by omega⟩,if_neg (by omega),if_pos ⟨by omega,rfl⟩]
 rw[if_neg (by omega)];by_cases a:j=16\/j=17\/j=18
 .rw[if_pos a,if_pos a]
 rw[if_neg a,if_neg a,if_neg (λh=>k h.2),if_neg (λh=>l h.2)]
def EI (ws:List Nat):List Bk:=if fp ws=ws.length then [] else [{ du (ws.length-fp ws) with at_:=(fp ws:Int) }]
theorem DX(h:dK ws=0):∃g:List Bk,(∀b∈g,b.kind=1/\b.mark=false/\2<=b.size/\b.size<=10)/\vQ g 128=(fp ws:Int)/\g.length<=2048/\aj (ai ws (dp ws))=0 /\
 ah (ai ws (dp ws))=g++EI ws/\blocks (ai ws (dp ws)) 128=some (g++EI ws)/\cU (ai ws (dp ws))=0/\lnV (ai ws (dp ws))=phV 0 0 0/\eQ (g++EI ws)=[]/\(ai ws (dp ws)).length=ws.length:=by
 obtain⟨G,-,C,-,W,Y,r,h8⟩:=gn h;have hb:=(ab _).1 G;have V:=(a9 _).1 W;have c:=DW h;have f:(ai ws (dp ws)).length=ws.length:=au _ _;have H:=uu h;rw[<-h8] at Y V r;obtain⟨g,F,o2,o3,o4⟩:=Ga _ 128 (kqa _) r;generalize ai ws (dp ws)=x at c f |-;have t:blocks x (fp ws)=some (EI ws):=by
  unfold EI;by_cases m:fp ws=ws.length
  .rw[if_pos m,aD (by omega)]
  rw[if_neg m];have o:=H m;have L:wd x (fp ws)=cS (du (ws.length-fp ws)):=by rw[c,if_neg (by omega),if_pos ⟨by omega,rfl⟩]
  have e1:wd x (fp ws+1)=0:=by rw[c,if_neg (by omega),if_neg (λh=>absurd h.2 (by omega)),if_pos ⟨by omega,rfl⟩]
  have e:=kp o;have N:szAt x (fp ws)=ws.length-fp ws:=by have S:(ap (wd x (fp ws))).size=((szAt x (fp ws):Nat):Int):=rfl;rw[L,e] at S;have e3:(du (ws.length-fp ws)).size=((ws.length-fp ws:Nat):Int):=rfl;dsimp only at S;omega
  have w:stands x (fp ws)=true:=by unfold stands;rw[L,kt o,kzq,kzd,e];show ((ws.length-fp ws:Nat):Int)<=_;omega
  rw[aL (by omega) w,N,aD (by omega)];have v:bkAt x (fp ws)={ du (ws.length-fp ws) with at_:=(fp ws:Int) }:=by unfold bkAt;rw[L,e,e1];rfl
  rw[v];rfl
 have d:=o4 x (EI ws) (λj h1 h2=>by rw[c,if_neg (by omega),if_neg (λh=>absurd h.2 (by omega)),if_neg (λh=>absurd h.2 (by omega))]) (by omega) t;have p:(g++EI ws).all (dW x)=true:=by
  rw[kzv];intro b a;rcases kzo.1 a with a|a
  .obtain ⟨Q,R,D,U,T,X,g7⟩:=F b a;unfold dW dj;unfold dj at D;have hty:tyA b+1<128:=by unfold tyA;omega
   rw[c (tyA b),c (tyA b+1)];have hty2:96<=tyA b:=by unfold tyA;omega
   rw[if_neg (by omega),if_neg (λh=>absurd h.2 (by omega)),if_neg (λh=>absurd h.2 (by omega)),if_neg (by omega),if_neg (λh=>absurd h.2 (by omega)),if_neg (λh=>absurd h.2 (by omega)),D,kvb]
  unfold EI at a;split at a
  .cases a
  rw[kqy] at a;subst a;rfl
 obtain⟨Z,p2⟩:=fM (by rw[f];exact G) d p;obtain⟨-,K,E,y,z,u⟩:=(bE ws).1 C;have n:∀j,j<24->(j=16\/j=17\/j=18)/\wd x j=0\/wd x j=wd ws j:=by
  intro j hj;rw[c];by_cases J:j=16\/j=17\/j=18
  .left;exact⟨J,by rw[if_pos J]⟩
  right;rw[if_neg J,if_neg (λh=>absurd h.2 (by omega)),if_neg (λh=>absurd h.2 (by omega))]
 have i:wd x 16=0:=by rw[c,if_pos (by omega)]
 have l:wd x 17=0:=by rw[c,if_pos (by omega)]
 have k:wd x 18=0:=by rw[c,if_pos (by omega)]
 have s:wd x 19=0:=by rcases n 19 (by omega) with h|h;exact h.2;rw[h];exact K
 have M:wd x 20=0:=by rcases n 20 (by omega) with h|h;exact h.2;rw[h];exact E
 have P:wd x 21=0:=by rcases n 21 (by omega) with h|h;exact h.2;rw[h];exact y
 have O:wd x 22=0:=by rcases n 22 (by omega) with h|h;exact h.2;rw[h];exact z
 have I:wd x 23=0:=by rcases n 23 (by omega) with h|h;exact h.2;rw[h];exact u
 have A:ji x=true:=by rw[bE,i,l,k];exact⟨⟨by omega,by omega,by omega⟩,s,M,P,O,I⟩
 have B:=(nt (ws:=x) (by rw[f];exact G) (by rw[A,i,l,k];rfl)).1;have q:cU x=0:=by unfold cU;rw[if_pos B,if_neg (by rw[i];omega)]
 refine⟨g,λb a=>?_,o2,by omega,Z,p2,d,q,by simp[lnV,q,i,l,k],?_,f⟩
 .obtain ⟨Q,R,D,U,T,X,g7⟩:=F b a;exact⟨Q,R,U,T⟩
 unfold eQ;rw[List.map_eq_nil_iff,kkh];intro b a;rcases kzo.1 a with a|a
 .rw[(F b a).2.1];simp
 unfold EI at a;split at a
 .cases a
 rw[kqy] at a;subst a;simp[du]
open Go.RowKit
noncomputable def de (x:List Nat):Int × Bool × List En:=if (ag x).1=6 then (if wd x 16=0 then (0,true,[]) else (dK x,false,dp x)) else ((ag x).1,false,(ag x).2)
theorem sP(ws:List Nat)(f s:Int):bj ws f s≠6:=by
 unfold bj mm;split
 .split
  .decide
  split
  .decide
  split<;>decide
 decide
theorem DG(x:List Nat):ax x≠6:=by
 unfold ax;split
 .split
  .split
   .exact sP _ _ _
   decide
  split
  .exact sP _ _ _
  rcases C7 x with h|h|h<;>rw[h]<;>decide
 rcases Bm x with h|h|h<;>rw[h]<;>decide
theorem Hf(h:(ag x).1=6):ax x=0:=by
 by_cases a:ax x=0
 .exact a
 unfold ag at h;rw[if_neg a] at h;exact absurd h (DG x)
theorem rs_ck(h:(de x).1=0):ax x=0:=by
 by_cases b:(ag x).1=6
 .exact Hf b
 unfold de at h;rw[if_neg b] at h;by_cases a:ax x=0
 .exact a
 unfold ag at h;rw[if_neg a] at h;exact absurd h a
theorem Bg(x:List Nat)(h:aj x=0):2*(ah x).length+128<=x.length:=by obtain⟨c,l,a,-,b⟩:=aA h;have hb:=(ab _).1 c;rw[b];exact (bK (by omega) _ _ a (by omega) (by omega) (by omega)).1
theorem xP{α:Type}{p q:α->Bool}:∀ {l:List α},(∀b∈l,q b=true->p b=true)->∀ {d a:α},d∈l->a∈l->d≠a->p d=true->q d=false->p a=true->q a=false->(l.filter q).length+2<=(l.filter p).length:=by
 intro l
 induction l with
 | nil=>intro _ d a h;exact absurd h (by simp)
 | cons c l ih =>
  intro h d a v r f m k o i;have g:=λx t=>h x (kz1 _ t);rw[kjt,kjt];rcases kqw.1 v with rfl|s
  .rw[m,k];have n:a∈l:=by
    rcases kqw.1 r with e|j
    .exact absurd e.symm f
    exact j
   have:=(oj g).2 ⟨a,n,o,i⟩;simp only[if_true,if_false,kzm,kq2];omega
  rcases kqw.1 r with rfl|j
  .rw[o,i];have:=(oj g).2 ⟨d,s,m,k⟩;simp only[if_true,if_false,kzm,kq2];omega
  have:=ih g s j f m k o i;have u:=h c (by simp);cases w:q c with
  | true=>rw[u w];simp only[if_true,kq2];omega
  | false=>cases hp:p c<;>simp only[if_true,if_false,kzm,kq2]<;>omega
theorem Dd{l:List Bk}(h:l.Pairwise (λa b=>a.at_<b.at_)){a b:Bk}(ha:a∈l)(hb:b∈l)(e:a.at_=b.at_):a=b:=by
 obtain⟨i,f,rfl⟩:=kq0 ha;obtain⟨j,d,rfl⟩:=kq0 hb;rw[kzj] at h;rcases kkc i j with c|c|c
 .have:=h i j f d c;omega
 .subst c;rfl
 have:=h j i d f c;omega
theorem Au(h:aC ws=0)(h32:32<=(aW ws).length):(aW (ai ws ((aW ws).take 31))).length+2<=(aW ws).length:=by
 have c:((aW ws).take 31).Sublist (aW ws):=kjz _ _;have t:((aW ws).take 31).Pairwise (λa b=>a.a<b.a):=(ey h).sublist c;obtain⟨H,g2,L,g4,N⟩:=(jq h c).same h;rw[dU H,L,N,kzg,dU h,kzg];rw[<-dU h];obtain⟨x,w⟩:=xq (ai ws ((aW ws).take 31));rw[w];unfold mt;rw[List.filter_map,kzg];have j:=cr (aH h).1;have z:∀b∈ah ws,(∀e∈(aW ws).take 31,e.a≠b.at_)->(mkB x b).mark=b.mark:=by intro b v A;obtain⟨a,rfl,a1,a2,a3,a4⟩:=j.1 b v;show tG x (bkAt ws a).at_.toNat=_;rw[af,kqj];unfold tG;rw[<-w,aP _ _ _ (λe l=>by have:=A e l;rwa [af] at this)];rfl
 have g:∀i,i<31->∃b∈ah ws,b.at_=((aW ws)[i]?.map En.a).getD 0/\(!eU (seenL ws) b)=true/\(!(eU (seenL ws) (mkB x b)))=false:=by
  intro i hi;have n:i<((aW ws).take 31).length:=by rw[kq4];omega
  have l:=kqn n;have D:(aW ws)[i]? = some ((aW ws).take 31)[i]:=by rw[kkl,kql (by omega)]
  obtain⟨a,u,G,I,P,s,r,k,f⟩:=dZ h (c.subset l);refine⟨bkAt ws a,u,by rw[D,k,af];rfl,by rw[f];rfl,?_⟩;have d:=eG _ ws t _ l (by rw[k];dsimp only;omega) (by rw[k];dsimp only;omega);rw[k] at d;dsimp only at d;rw[kqj,w] at d;unfold eU;show (!((mkB x (bkAt ws a)).mark==((seenL ws)[(bkAt ws a).at_.toNat]?.getD false)))=false;have C:(mkB x (bkAt ws a)).mark=eZ ws (bkAt ws a):=by show tG x (bkAt ws a).at_.toNat=_;rw[af,kqj];unfold tG;rw[d,(jn s r _).2.1]
  rw[C];unfold eZ;simp
 obtain⟨Q,R,E,S,F⟩:=g 0 (by omega);obtain⟨O,M,k,K,J⟩:=g 1 (by omega);have y:Q≠O:=by rintro rfl;have o:=ey h;rw[kzj] at o;have:=o 0 1 (by omega) (by omega) (by omega);rw[kql (by omega)] at E k;simp only[kzz,kq5] at E k;omega
 refine xP (p:=λb=>!eU (seenL ws) b) (q:=(λb=>!eU (seenL ws) b) ∘ mkB x) (λb v m=>?_) R M y S F K J;dsimp only[Function.comp_apply] at m |-;cases B:eU (seenL ws) b with
 | false=>rfl
 | true =>
  exfalso;have u:=z b v (λe l o=>by
   obtain⟨a,u,G,I,P,s,r,rfl,f⟩:=dZ h (c.subset l);dsimp only at o;have:bkAt ws a=b:=Dd j.2 u v (by rw[af];exact o);rw[this,B] at f;cases f)
  unfold eU at B m;rw[u] at m
  change (!(b.mark==((seenL ws)[b.at_.toNat]?.getD false)))=true at m
  rw[B] at m;exact absurd m (by decide)
theorem CP{xs:List Nat}:∀ {l:List Bk} {s:Int},l.Pairwise (λa b=>a.at_<b.at_)->(∀b∈l,0<=b.at_)->(∀b∈l,b.kind=1->wd xs (b.at_.toNat+1)=b.next\/∃e∈aY l s,e.a=b.at_+1/\wd xs (b.at_.toNat+1)=e.v) ->
 (aY (l.map (nxB xs)) s).length+((aY l s).filter (λe=>wd xs e.a.toNat==e.v)).length<=(aY l s).length:=by
 intro l
 induction l with
 | nil=>intro s _ _ _;exact kqa _
 | cons b l ih =>
  intro s m y x;rw[kjr] at m;have j:∀c∈l,c.kind=1->wd xs (c.at_.toNat+1)=c.next\/∃e∈aY l (fg b s),e.a=c.at_+1/\wd xs (c.at_.toNat+1)=e.v:=by
   intro c k f;rcases x c (by simp[k]) f with i|⟨e,d,r,o⟩
   .exact .inl i
   simp only[aY,kzo] at d;rcases d with d|d
   .split at d
    .rw[kqy] at d;subst d;dsimp only at r;have:=m.1 c k;omega
    simp at d
   exact .inr ⟨e,d,r,o⟩
  have i1:=ih (s:=fg b s) m.2 (λc k=>y c (by simp[k])) j;have hb0:=y b (by simp);rw[kxm];simp only[aY];have B:fg (nxB xs b) s=fg b s:=rfl;have A:bG (nxB xs b) s=bG b s:=rfl;rw[B,A,kjc,kqs,kqs,kqs];have u:(nxB xs b).next=wd xs (b.at_.toNat+1):=rfl;have t:(nxB xs b).kind=b.kind:=rfl;have q:(nxB xs b).at_=b.at_:=rfl;have g:b.kind=1->wd xs (b.at_.toNat+1)=b.next\/wd xs (b.at_.toNat+1)=bG b s:=by
   intro f;rcases x b (by simp) f with i|⟨e,d,r,o⟩
   .exact .inl i
   simp only[aY,kzo] at d;rcases d with d|d
   .split at d
    .rw[kqy] at d;subst d;exact .inr o
    simp at d
   obtain⟨c,k,-,h4⟩:=gA d;have:=m.1 c k;omega
  have w:(b.at_+1).toNat=b.at_.toNat+1:=by omega
  have hle:(if (nxB xs b).kind=1/\(nxB xs b).next≠bG b s then [(⟨(nxB xs b).at_+1,bG b s⟩:En)] else []).length+((if b.kind=1/\b.next≠bG b s then [(⟨b.at_+1,bG b s⟩:En)] else []).filter (λe=>wd xs e.a.toNat==e.v)).length<=(if b.kind=1/\b.next≠bG b s then [(⟨b.at_+1,bG b s⟩:En)] else []).length:=by
   rw[u,t,q];by_cases f:b.kind=1
   .by_cases p:b.next=bG b s
    .have z:wd xs (b.at_.toNat+1)=bG b s:=by
      rcases g f with i|i
      .rw[i];exact p
      exact i
     rw[if_neg (show ¬ (b.kind=1/\b.next≠bG b s) from λh=>h.2 p),if_neg (show ¬ (b.kind=1/\wd xs (b.at_.toNat+1)≠bG b s) from λh=>h.2 z)];exact kqa _
    rw[if_pos (show b.kind=1/\b.next≠bG b s from ⟨f,p⟩)];by_cases n:wd xs (b.at_.toNat+1)=bG b s
    .rw[if_neg (λh=>h.2 n)];simp[w,n]
    rw[if_pos ⟨f,n⟩];have:(wd xs (b.at_+1).toNat==bG b s)=false:=by rw[w,kqi];exact n
    simp[this]
   rw[if_neg (λh=>f h.1),if_neg (λh=>f h.1)];exact kqa _
  omega
theorem EJ(h:aj ws=0)(h32:32<=(aK ws).length):(aK (ai ws ((aK ws).take 31))).length+2<=(aK ws).length:=by
 obtain⟨E,z,i3⟩:=pD h;have p:aK ws=aY (ah ws) 128:=tA h;have f:=cr h;have c:((aK ws).take 31).Sublist (aK ws):=kjz _ _;have m:((aK ws).take 31).Pairwise (λa b=>a.a<b.a):=E.sublist c;have k:∀e∈aK ws,∃a:Nat,e.a=((a+1:Nat):Int)/\a%2=0/\128<=a:=by intro e d;rw[p] at d;obtain⟨b,j,-,D⟩:=gA d;obtain⟨a,rfl,t,u,-⟩:=f.1 b j;exact⟨a,by rw[D,af];rfl,u,t⟩
 have q:Ev ws (ai ws ((aK ws).take 31)):=by refine⟨au _ _,λi hi=>aP _ _ _ λe d n=>?_⟩;obtain⟨a,w,t,u⟩:=k e (c.subset d);omega
 obtain⟨y,C⟩:=q.heap h;have o:aK (ai ws ((aK ws).take 31))=aY ((ah ws).map (nxB (ai ws ((aK ws).take 31)))) 128:=by rw[tA y,C]
 rw[o];have g:∀e∈(aK ws).take 31,wd (ai ws ((aK ws).take 31)) e.a.toNat=e.v:=λe d=>by
  have hin:=z _ (c.subset d);exact eG _ ws m _ d (by omega) (by omega)
 have r:=CP (xs:=ai ws ((aK ws).take 31)) (l:=ah ws) (s:=128) f.2 (λb j=>by obtain⟨a,rfl,-⟩:=f.1 b j;rw[af];omega) (λb j hk=>by
  obtain⟨a,rfl,t,u,a3,B⟩:=f.1 b j;have hsz:=aJ B;rw[af,kqj];by_cases x:∃e∈(aK ws).take 31,e.a=((a+1:Nat):Int)
  .obtain ⟨e,d,w⟩:=x;refine .inr ⟨e,by rw[<-p];exact c.subset d,by rw[w];omega,?_⟩;have:=g e d;rw[w,kqj] at this;exact this
  exact .inl (by rw[aP _ _ _ (λe d n=>x ⟨e,d,n⟩)];rfl))
 rw[<-p] at r;have hfl:31<=((aK ws).filter (λe=>wd (ai ws ((aK ws).take 31)) e.a.toNat==e.v)).length:=by
  have A:(aK ws).take 31=((aK ws).take 31).filter (λe=>wd (ai ws ((aK ws).take 31)) e.a.toNat==e.v):=by symm;rw[kvo];intro e d;rw[kqx];exact g e d
  have n:=(c.filter (λe=>wd (ai ws ((aK ws).take 31)) e.a.toNat==e.v)).length_le;rw[<-A,kq4] at n;omega
 omega
theorem In(hck:ax x=0)(p3:wd x 16=3)(h:(sgFix x).1=0):
 (wd (ai x (sgFix x).2) 16=3/\wd (ai x (sgFix x).2) 17<=x.length/\(wd x 17=0->wd (ai x (sgFix x).2) 17=128)/\(wd x 17≠0->wd x 17+2<=wd (ai x (sgFix x).2) 17))\/(wd (ai x (sgFix x).2) 16=4/\wd (ai x (sgFix x).2) 17=128/\wd x 17≠0):=by
 obtain⟨-,B,u,hph⟩:=cQ hck;have hb:=(ab _).1 B;obtain⟨⟨l1,C,l3⟩,-⟩:=(bE x).1 u;by_cases z:wd x 17=0
 .have i:eI x=0:=by
   by_cases j:eI x=0
   .exact j
   unfold sgFix at h;rw[if_pos z,if_neg j] at h;exact absurd h j
  have d:sgFix x=(0,⟨17,128⟩::eC x):=by unfold sgFix;rw[if_pos z,if_pos i]
  obtain⟨-,-,-,-,-,-,-,o,w,q3,-⟩:=kk i;obtain⟨n,r,q,g,b,p⟩:=j9 (f:=128) (l:=eC x) hck p3 (by decide) (by omega) (by omega) (by omega) w (λe a=>by have:=(o e a).1;omega) (λe a=>(o e a).2);rw[d];exact .inl ⟨g,by rw[b];omega,λ_=>b,λc=>absurd z c⟩
 have d:sgFix x=lA x (wd x 17):=by unfold sgFix;rw[if_neg z]
 have v:(lA x (wd x 17)).1=0:=by rw[<-d];exact h
 rcases py x.length (wd x 17) (by omega) C v with c|⟨m,m1,m2,m3,m4,m5,s,t,y⟩
 .rw[d,c];obtain⟨n,r,q,g,b,p⟩:=ig hck p3;exact .inr ⟨g,b,z⟩
 obtain⟨f,-,-,-,-,q5,-,-,-,A⟩:=jh t;have k:=Gp t;obtain⟨n,r,q,g,b,p⟩:=j9 (f:=m+szAt x m) (l:=cR x (m:Int)) hck p3 ((a9 _).2 (by omega)) s (by omega) (by omega) A (λe a=>by have:=k e a;omega) (λe a=>by have:=k e a;omega);rw[d,y];exact .inl ⟨g,by rw[b];exact s,λc=>absurd c z,λ_=>by rw[b];omega⟩
theorem AC(ho:∀v∈x,v<18446744073709551616)(hck:ax x=0)(p4:wd x 16=4)(h:(sgSld x).1=0):
 wd (ai x (sgSld x).2) 16=4/\wd (ai x (sgSld x).2) 17<=x.length/\wd x 17+2<=wd (ai x (sgSld x).2) 17:=by
 obtain⟨-,E,A,p⟩:=cQ hck;have hb:=(ab _).1 E;obtain⟨⟨l1,l2,l3⟩,-⟩:=(bE x).1 A;have b:bt x ((wd x 17:Nat):Int)=0:=by
  by_cases d:bt x ((wd x 17:Nat):Int)=0
  .exact d
  unfold sgSld at h;rw[if_neg d] at h;exact absurd h (by decide)
 obtain⟨-,a1,a2,m,z,m1,m2,m3,m4,m5,m6,m7,m8,-⟩:=fO b;have c:dY x (m:Int) ((wd x 18:Nat):Int)=0:=by
  by_cases d:dY x (m:Int) ((wd x 18:Nat):Int)=0
  .exact d
  unfold sgSld at h;rw[if_pos b,z,af,if_neg d] at h;exact absurd h d
 have D:sgSld x=(0,⟨17,m+szAt x m⟩::⟨18,wd x 18+szAt x m⟩::kx x m (wd x 18)):=by unfold sgSld;rw[if_pos b,z,af,if_pos c,bo,show ((m:Int)+((szAt x m:Nat):Int)).toNat=m+szAt x m by omega,show (((wd x 18:Nat):Int)+((szAt x m:Nat):Int)).toNat=wd x 18+szAt x m by omega];unfold jA;rw[if_pos c,kqj,kqj]
 obtain⟨a,u,n,w,s,B,n2,n10,hu,hua,han,hst,hlv,-,-,o⟩:=gI c;have w:a=m:=by omega
 have s:u=wd x 18:=by omega
 subst w s;subst B;have r:=(dd _ _ _).1 p;have g:me (wd x 17)=true/\me (wd x 18)=true/\wd x 18<=wd x 17:=by
  rcases r with q|q|q
  .exact q.2
  .omega
  omega
 have i1:=(a9 _).1 g.1;have i2:=(a9 _).1 g.2.1;rw[D];obtain⟨g1,g2,g3,F,y,g6⟩:=oz (f:=a+szAt x a) (t:=wd x 18+szAt x a) (l:=kx x a (wd x 18)) hck p4 ((a9 _).2 (by omega)) ((a9 _).2 (by omega)) (by omega) (by omega) (by omega) (by omega) (by rw[jp];omega) (by
  rw[kzj];intro i j hi hj hij;rw[gU,gU];omega) (λe C=>by
  obtain⟨k,G,rfl⟩:=kq0 C;rw[gU];rw[jp] at G;omega) (uK ho o)
 exact⟨F,by rw[y];omega,by rw[y];omega⟩
noncomputable def rzM (x:List Nat):Nat:=
 if wd x 16=1 then (aW x).length/2+1+((x.length-128)/2/2+1)+((x.length-128)/2+2)+((x.length-128)/2+1)
 else if wd x 16=2 then (aK x).length/2+1+((x.length-128)/2+2)+((x.length-128)/2+1)
 else if wd x 16=3 then (if wd x 17=0 then (x.length-128)/2+2 else (x.length-wd x 17)/2+1)+((x.length-128)/2+1)
 else if wd x 16=4 then (x.length-wd x 17)/2+1 else 0
theorem BC(x:List Nat)(hs:128<=x.length):(aK x).length<=(x.length-128)/2:=by
 by_cases h:aj x=0
 .rw[tA h];have h1:=nD (ah x) 128;have h2:=Bg x h;omega
 unfold aK;rw[if_neg h];simp
theorem Kq(x:List Nat)(hs:128<=x.length):(aW x).length<=(x.length-128)/2:=by
 by_cases h:aC x=0
 .rw[dU h,kzg];have h1:=nq (seenL x) (ah x);have h2:=Bg x (aH h).1;omega
 unfold aW;rw[if_neg h];simp
theorem F4(ho:∀v∈x,v<18446744073709551616)(h:(ag x).1=0):rzM (ai x (ag x).2)<rzM x:=by
 obtain⟨a,-,-,-,-,k6,-,-⟩:=mE ho h;obtain⟨-,I,A,r⟩:=cQ a;have hb:=(ab _).1 I;obtain⟨⟨l1,l2,l3⟩,-⟩:=(bE x).1 A;have t:=(dd _ _ _).1 r;have k:(ai x (ag x).2).length=x.length:=au _ _;have g:=BC (ai x (ag x).2) (by omega);rw[k] at g;unfold rzM;rw[k];by_cases c:wd x 16=1
 .have d:aC x=0:=by
   by_cases o:aC x=0
   .exact o
   unfold ag at h;rw[if_pos a,if_pos c,if_neg o] at h;exact absurd h o
  have e:ag x=(0,iZ (aW x) 2):=by unfold ag;rw[if_pos a,if_pos c,if_pos d]
  obtain⟨s,w⟩:=ry d;obtain⟨C,G,D,f,n,p⟩:=fW a c (.inl rfl) (ey d) (λy J=>by
   obtain⟨i,B⟩:=kj6.1 J;exact s i y B) (rI d)
  simp only[Nat.reduceAdd] at f;rw[e] at g |-;dsimp only at g |-;rw[if_pos c,f];by_cases b:32<=(aW x).length
  .have E:=Au d b;rw[if_pos b,if_pos rfl,cN b];omega
  rw[if_neg b,if_neg (by decide),if_pos rfl];omega
 by_cases j:wd x 16=2
 .have m:aj x=0:=by
   by_cases o:aj x=0
   .exact o
   unfold ag at h;rw[if_pos a,if_neg c,if_pos j,if_neg o] at h;exact absurd h o
  have e:ag x=(0,iZ (aK x) 3):=by unfold ag;rw[if_pos a,if_neg c,if_pos j,if_pos m]
  obtain⟨s,w,F⟩:=pD m;obtain⟨C,G,D,f,n,p⟩:=fW a j (.inr rfl) s w F;simp only[Nat.reduceAdd] at f n;rw[e] at g |-;dsimp only at g |-;rw[if_neg c,if_pos j,f,n];by_cases b:32<=(aK x).length
  .have E:=EJ m b;rw[if_pos b,if_neg (by decide),if_pos rfl,cN b];omega
  rw[if_neg b,if_neg (by decide),if_neg (by decide),if_pos rfl,if_pos rfl];omega
 by_cases q:wd x 16=3
 .have e:ag x=sgFix x:=by unfold ag;rw[if_pos a,if_neg c,if_neg j,if_pos q]
  rw[e] at h |-;have hF:wd x 17=0\/128<=wd x 17:=by
   rcases t with l|⟨-,-,l⟩|l
   .omega
   .rcases l with l|l
    .exact .inl l
    exact .inr ((a9 _).1 l).1
   omega
  rcases In a q h with⟨f,n,p,H⟩|⟨f,n,p⟩
  .rw[f,if_neg (by decide),if_neg (by decide),if_pos rfl,if_neg c,if_neg j,if_pos q];by_cases z:wd x 17=0
   .rw[if_pos z,p z,if_neg (by decide)];omega
   have:=H z;rw[if_neg z,if_neg (by omega)];omega
  rw[f,n,if_neg (by decide),if_neg (by decide),if_neg (by decide),if_pos rfl,if_neg c,if_neg j,if_pos q,if_neg p];omega
 have u:wd x 16=4:=by omega
 have e:ag x=sgSld x:=by unfold ag;rw[if_pos a,if_neg c,if_neg j,if_neg q,if_pos u]
 rw[e] at h |-;obtain⟨f,n,p⟩:=AC ho a u h;rw[f,if_neg (by decide),if_neg (by decide),if_neg (by decide),if_pos rfl,if_neg c,if_neg j,if_neg q,if_pos u];omega
theorem Hu(hs:ak (x.length:Int)=true):rzM x<=(x.length-128)/2*3+5:=by
 have hb:=(ab _).1 hs;have h1:=Kq x (by omega);have h2:=BC x (by omega);unfold rzM;by_cases b:wd x 16=1
 .rw[if_pos b];omega
 rw[if_neg b];by_cases a:wd x 16=2
 .rw[if_pos a];omega
 rw[if_neg a];by_cases c:wd x 16=3
 .rw[if_pos c];split
  .omega
  have:(x.length-wd x 17)/2<=x.length/2:=by omega
  omega
 rw[if_neg c];split<;>omega
theorem nl(h:dK x=0):Small x.length (dp x)/\wd (ai x (dp x)) 16=0:=by
 obtain⟨i,-,-,-,g,d,-,j⟩:=gn h;have hb:=(ab _).1 i;have f:=(a9 _).1 g;rw[<-j] at f d;refine⟨?_,by rw[DW h,if_pos (.inl rfl)]⟩;unfold dp;rw[if_pos h];have b:=λb=>qt (uu h b);generalize fp x=t at f d b;have c:phE 0 0 0=[⟨16,0⟩,⟨17,0⟩,⟨18,0⟩]:=rfl;rw[c];by_cases a:t=x.length
 .rw[if_pos a];refine⟨by decide,by decide,by simp,λe a=>?_,λe a=>?_⟩ <;>
  .simp only[kzt,kqw,kzk,or_false] at a;rcases a with rfl|rfl|rfl<;>(dsimp only;omega)
 have hv:=b a;rw[if_neg a];refine⟨by simp,by simp,?_,λe a=>?_,λe a=>?_⟩
 .simp only[kzn,kz2,kjr,kqw,kzk,or_false,forall_eq_or_imp,forall_eq,List.Pairwise.nil,and_true,false_implies,implies_true];omega
 .simp only[kzn,kz2,kqw,kzk,or_false] at a;rcases a with rfl|rfl|rfl|rfl|rfl<;>(dsimp only;omega)
 simp only[kzn,kz2,kqw,kzk,or_false] at a;rcases a with rfl|rfl|rfl|rfl|rfl<;>(dsimp only;omega)
theorem rY(ho:∀v∈x,v<18446744073709551616)(h:(de x).1=0)(hd:(de x).2.1=false):Small x.length (de x).2.2/\(∀v∈ai x (de x).2.2,v<18446744073709551616)/\rzM (ai x (de x).2.2)<rzM x:=by
 by_cases a:(ag x).1=6
 .by_cases b:wd x 16=0
  .unfold de at hd;rw[if_pos a,if_pos b] at hd;cases hd
  have e:de x=(dK x,false,dp x):=by unfold de;rw[if_pos a,if_neg b]
  rw[e] at h |-;dsimp only at h |-;obtain⟨c,d⟩:=nl h;refine⟨c,oU _ _ ho c.val,?_⟩;have f:wd x 16=4:=(gn h).2.2.2.1;unfold rzM;rw[d,if_neg (by decide),if_neg (by decide),if_neg (by decide),if_neg (by decide),f,if_neg (by decide),if_neg (by decide),if_neg (by decide),if_pos rfl];omega
 have e:de x=((ag x).1,false,(ag x).2):=by unfold de;rw[if_neg a]
 rw[e] at h |-;dsimp only at h |-;exact⟨(mE ho h).2.1,dA ho h,F4 ho h⟩
noncomputable def rsG:Nat->List Nat->Int × List (List En) × List Nat
 | 0,x=>(0,[],x)
 | f+1,x=>if (de x).1=0 then (if (de x).2.1=true then (0,[],x)
  else if (rsG f (ai x (de x).2.2)).1=0 then (0,(de x).2.2::(rsG f (ai x (de x).2.2)).2.1,(rsG f (ai x (de x).2.2)).2.2) else ((rsG f (ai x (de x).2.2)).1,[],[]))
  else ((de x).1,[],[])
theorem Ej:∀ {f g:Nat} {x:List Nat},(∀v∈x,v<18446744073709551616)->rzM x<f->rzM x<g->rsG f x=rsG g x:=by
 intro f
 induction f with
 | zero=>intro g x _ h;omega
 | succ f ih =>
  intro g x b hf hg;cases g with
  | zero=>omega
  | succ g =>
   simp only[rsG];by_cases a:(de x).1=0
   .cases d:(de x).2.1 with
    | true=>simp only[if_true]
    | false =>obtain⟨-,c,h3⟩:=rY b a d;rw[ih (g:=g) c (by omega) (by omega)]
   simp only[a,if_false]
noncomputable def rsE (x:List Nat):Int × List (List En) × List Nat:=rsG (rzM x+1) x
theorem mD(h:(de x).1≠0):rsE x=((de x).1,[],[]):=by unfold rsE;simp only[rsG];rw[if_neg h]
theorem ii(h:(de x).1=0)(hd:(de x).2.1=true):rsE x=(0,[],x):=by unfold rsE;simp only[rsG];rw[if_pos h,if_pos hd]
theorem jo(ho:∀v∈x,v<18446744073709551616)(h:(de x).1=0)(hd:(de x).2.1=false):rsE x=(if (rsE (ai x (de x).2.2)).1=0 then (0,(de x).2.2::(rsE (ai x (de x).2.2)).2.1,(rsE (ai x (de x).2.2)).2.2) else ((rsE (ai x (de x).2.2)).1,[],[])):=by
 obtain⟨-,b,a⟩:=rY ho h hd;have e:rsG (rzM x) (ai x (de x).2.2)=rsE (ai x (de x).2.2):=Ej b a (kjs _)
 conv=>lhs;unfold rsE
 simp only[rsG];rw[if_pos h,if_neg (by rw[hd];decide),e]
theorem H6(ho:∀v∈x,v<18446744073709551616)(h:(rsE x).1≠0):rsE x=((rsE x).1,[],[]):=by
 by_cases a:(de x).1=0
 .cases c:(de x).2.1 with
  | true=>rw[ii a c] at h;exact absurd rfl h
  | false =>
   rw[jo ho a c] at h |-;by_cases b:(rsE (ai x (de x).2.2)).1=0
   .rw[if_pos b] at h;exact absurd rfl h
   rw[if_neg b]
 rw[mD a]
noncomputable def f9 (ws:List Nat):Int × List (List En) × List Nat:=if ax ws=0 then rsE ws else (ax ws,[],[])
def mj (ws:List Nat) (outs:List (List En)) (x:List Nat):Prop:=rsE ws=if (rsE x).1=0 then (0,outs++(rsE x).2.1,(rsE x).2.2) else ((rsE x).1,[],[])
theorem jd(ho:∀v∈ws,v<18446744073709551616):mj ws [] ws:=by
 unfold mj;by_cases h:(rsE ws).1=0
 .rw[if_pos h,kz2,<-h]
 rw[if_neg h];exact H6 ho h
theorem xW{outs:List (List En)}(h:mj ws outs x)(ho:∀v∈x,v<18446744073709551616)(h0:(de x).1=0)(hd:(de x).2.1=false):mj ws (outs++[(de x).2.2]) (ai x (de x).2.2):=by
 unfold mj at h |-;rw[h,jo ho h0 hd];by_cases a:(rsE (ai x (de x).2.2)).1=0
 .rw[if_pos a,if_pos rfl,if_pos a];simp
 rw[if_neg a,if_neg (by exact a),if_neg a]
theorem AJ{outs:List (List En)}(h:mj ws outs x)(h0:(de x).1=0)(hd:(de x).2.1=true):rsE ws=(0,outs,x):=by unfold mj at h;rw[h,ii h0 hd];simp
theorem CX{outs:List (List En)}(h:mj ws outs x)(h0:(de x).1≠0):rsE ws=((de x).1,[],[]):=by unfold mj at h;rw[h,mD h0,if_neg (by exact h0)]
theorem qI{E:List En}{outs:List (List En)}(ho:∀v∈x,v<18446744073709551616)(h:rsE x=(0,E::outs,y)):de x=(0,false,E)/\rsE (ai x E)=(0,outs,y):=by
 by_cases a:(de x).1=0
 .cases c:(de x).2.1 with
  | true=>rw[ii a c] at h;simp at h
  | false =>
   rw[jo ho a c] at h;by_cases b:(rsE (ai x (de x).2.2)).1=0
   .rw[if_pos b] at h;simp only[Prod.mk.injEq,List.cons.injEq,true_and] at h;obtain⟨⟨d,e⟩,f⟩:=h;refine⟨by rw[<-a,<-c,<-d],?_⟩;rw[<-d,<-e,<-f,<-b]
   rw[if_neg b] at h;simp at h
 rw[mD a] at h;simp at h
theorem Kc:∀ {a:List (List En)} {x y:List Nat},(∀v∈x,v<18446744073709551616)->rsE x=(0,a,y)->∀n,n<=a.length->(∀v∈stX x a n,v<18446744073709551616)/\(stX x a n).length=x.length/\rsE (stX x a n)=(0,a.drop n,y)/\(de (stX x a n)).1=0/\∀h:n<a.length,de (stX x a n)=(0,false,a[n])/\Small x.length a[n]:=by
 intro a
 induction a with
 | nil =>
  intro x y c h n e;have:n=0:=by simpa using e
  subst this;refine⟨c,rfl,h,?_,λh=>absurd h (by simp)⟩;rw[wR];by_cases g:(de x).1=0
  .exact g
  rw[mD g] at h;simp only[Prod.mk.injEq] at h;exact h.1
 | cons E a ih =>
  intro x y c h n e;obtain⟨d,i⟩:=qI c h;have b:=rY c (by rw[d]) (by rw[d]);rw[d] at b;cases n with
  | zero=>exact⟨c,rfl,h,by rw[wR,d],λ_=>⟨d,b.1⟩⟩
  | succ n =>rw[E7];obtain⟨j,m,l,q,o⟩:=ih b.2.1 i n (by simpa using e);refine⟨j,by rw[m,au],l,q,λp=>?_⟩;obtain⟨k,f⟩:=o (by simpa using p);rw[au] at f;exact⟨k,f⟩
theorem uG{outs:List (List En)}(ho:∀v∈x,v<18446744073709551616)(h:rsE x=(0,outs,y)):stX x outs outs.length=y/\(de y).1=0/\(de y).2.1=true:=by
 obtain⟨d,g2,a,c,-⟩:=Kc ho h outs.length (kqa _);rw[kkf] at a;cases b:(de (stX x outs outs.length)).2.1 with
 | true =>rw[ii c b] at a;simp only[Prod.mk.injEq,true_and] at a;rw[a] at c b;exact⟨a,c,b⟩
 | false =>
  rw[jo d c b] at a;split at a
  .simp at a
  rename_i h1;simp only[Prod.mk.injEq] at a;exact absurd a.1 h1
theorem rs_len:∀ {a:List (List En)} {x y:List Nat},(∀v∈x,v<18446744073709551616)->rsE x=(0,a,y)->a.length<=rzM x:=by
 intro a
 induction a with
 | nil=>intro x y _ _;exact kqz _
 | cons E a ih =>intro x y d h;obtain⟨c,e⟩:=qI d h;have b:=rY d (by rw[c]) (by rw[c]);rw[c] at b;have:=ih b.2.1 e;rw[kq2];have:=b.2.2;dsimp only at this;omega
theorem gi{outs:List (List En)}(ho:∀v∈ws,v<18446744073709551616)(h:f9 ws=(0,outs,y)):ax ws=0/\rsE ws=(0,outs,y)/\outs.length<=(ws.length-128)/2*3+5/\stX ws outs outs.length=y/\(∀n,n<=outs.length->(∀v∈stX ws outs n,v<18446744073709551616)/\(stX ws outs n).length=ws.length/\f9 (stX ws outs n)=(0,outs.drop n,y))/\∀n (h:n<outs.length),Small ws.length outs[n]:=by
 have a:ax ws=0:=by
  by_cases d:ax ws=0
  .exact d
  unfold f9 at h;rw[if_neg d] at h;simp only[Prod.mk.injEq] at h;exact absurd h.1 d
 have b:rsE ws=(0,outs,y):=by unfold f9 at h;rw[if_pos a] at h;exact h
 obtain⟨-,g,-⟩:=cQ a;refine⟨a,b,kz7 (rs_len ho b) (Hu g),(uG ho b).1,λn c=>?_,λn c=>((Kc ho b n (kjv c)).2.2.2.2 c).2⟩;obtain⟨j,e,f,i,-⟩:=Kc ho b n c;refine⟨j,e,?_⟩;unfold f9;rw[if_pos (rs_ck i)];exact f
theorem CD :∀n x,(∀v∈x,v<18446744073709551616)->mzS p x<=n->((cA p x).1≠0->rsE x=((cA p x).1,[],[]))/\((cA p x).1=0->mj x (cA p x).2.1 (cA p x).2.2):=by
 intro n
 induction n with
 | zero =>
  intro x c h;have b:wd x 16≠p:=λb=>by unfold mzS at h;rw[if_pos b] at h;omega
  rw[cE b];exact⟨λh=>absurd rfl h,λ_=>jd c⟩
 | succ n ih =>
  intro x c h;by_cases b:wd x 16=p
  .by_cases i:(ag x).1=6
   .rw[iD b i];exact⟨λh=>absurd rfl h,λ_=>jd c⟩
   have a:de x=((ag x).1,false,(ag x).2):=by unfold de;rw[if_neg i]
   by_cases d:(ag x).1=0
   .have hd:=fE c b d;obtain⟨l,k⟩:=ih (ai x (ag x).2) (dA c d) (by omega);have g:=jo c (by rw[a];exact d) (by rw[a]);rw[a] at g;dsimp only at g;rw[dt c b d];by_cases e:(cA p (ai x (ag x).2)).1=0
    .rw[if_pos e];refine⟨λh=>absurd rfl h,λ_=>?_⟩;have j:=k e;unfold mj at j |-;rw[g,j];dsimp only;by_cases f:(rsE (cA p (ai x (ag x).2)).2.2).1=0
     .rw[if_pos f,if_pos rfl,if_pos f];rfl
     rw[if_neg f,if_neg (by exact f),if_neg f]
    rw[if_neg e];refine⟨λ_=>?_,λh=>absurd h e⟩;rw[g,l e,if_neg (by exact e)]
   rw[lT b i d];refine⟨λ_=>?_,λh=>absurd h d⟩;rw[mD (by rw[a];exact d),a]
  rw[cE b];exact⟨λh=>absurd rfl h,λ_=>jd c⟩
theorem gP :∀n x,(∀v∈x,v<18446744073709551616)->mzS p x<=n->(cA p x).1=0->(∀v∈(cA p x).2.2,v<18446744073709551616)/\(cA p x).2.2.length=x.length:=by
 intro n
 induction n with
 | zero =>
  intro x b h _;have a:wd x 16≠p:=λa=>by unfold mzS at h;rw[if_pos a] at h;omega
  rw[cE a];exact⟨b,rfl⟩
 | succ n ih =>
  intro x b h c;by_cases a:wd x 16=p
  .by_cases f:(ag x).1=6
   .rw[iD a f];exact⟨b,rfl⟩
   by_cases d:(ag x).1=0
   .have hd:=fE b a d;rw[dt b a d] at c |-;by_cases e:(cA p (ai x (ag x).2)).1=0
    .rw[if_pos e];obtain⟨i,g⟩:=ih (ai x (ag x).2) (dA b d) (by omega) e;exact⟨i,g.trans (au _ _)⟩
    rw[if_neg e] at c;exact absurd c e
   rw[lT a f d] at c;exact absurd c d
  rw[cE a];exact⟨b,rfl⟩
end Go.Proofs.YtpcajamacpbjcaaGreat
