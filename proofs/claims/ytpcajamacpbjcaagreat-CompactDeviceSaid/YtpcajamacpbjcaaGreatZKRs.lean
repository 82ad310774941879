/- Texts laid together: FinP RsP RsQ RsE RsPh. -/
import Derived.Test.YtpcajamacpbjcaaGreatZKStg1
import Derived.Test.YtpcajamacpbjcaaGreatZKImage
import Derived.Test.YtpcajamacpbjcaaGreatZKStg3
import Derived.Test.YtpcajamacpbjcaaGreatZKStg2
set_option maxHeartbeats 16000000
set_option linter.all false
namespace Go.Proofs.YtpcajamacpbjcaaGreat
variable {ws x y:List Nat}{p:Nat}
def el (ws:List Nat):Int:=if az ws=0 then (if wd ws 16=4/\lfN ws=0 then 0 else 6) else az ws
def fo (ws:List Nat):Nat:=if el ws=0 then wd ws 18 else 0
theorem D6{r:Int}(h:az ws=r)(h0:r≠0):el ws=r:=by subst h;simp[el,h0]
theorem Fg(h:az ws=0)(h2:¬ (wd ws 16=4/\lfN ws=0)):el ws=6:=by unfold el;rw[if_pos h,if_neg h2]
theorem FI(h:az ws=0)(h2:wd ws 16=4)(h3:lfN ws=0):el ws=0/\fo ws=wd ws 18:=by simp[fo,el,h,h2,h3]
theorem xN(h:el ws=0):az ws=0/\wd ws 16=4/\lfN ws=0:=by
 unfold el at h;split at h
 .split at h
  .rename_i h1 h2;exact⟨h1,h2⟩
  simp at h
 rename_i h1;exact absurd h h1
theorem gO(h:el ws=0):aj (ws.length:Int)=true/\cP ws=0/\jd ws=true/\wd ws 16=4/\kA (wd ws 18)=true/\wd ws 18<=ws.length/\mvd ws 128 (wd ws 18)=true/\fo ws=wd ws 18:=by
 obtain⟨a,c,h3⟩:=xN h;have b:=kQ a;obtain⟨i,-⟩:=iJ b;obtain⟨e,d,g⟩:=f8 i;obtain⟨⟨l0,l1,f⟩,-⟩:=(bo ws).1 d;rcases (co _ _ _).1 g with⟨-,i1,j,i3⟩|⟨p3,-⟩|⟨p0,-⟩
 .refine ⟨e,b,d,c,j,f,?_,by simp[fo,h]⟩;unfold az at a;rw[if_pos b,if_pos c] at a;split at a
  .assumption
  simp at a
 .omega
 omega
def dl (ws:List Nat):List En:=if el ws=0 then phE 0 0 0++(if fo ws=ws.length then [] else [⟨(fo ws:Int),cV (ep (ws.length-fo ws))⟩,⟨((fo ws+1:Nat):Int),0⟩]) else []
theorem GN{n:Nat}(h2:2<=n)(he:n%2=0)(h:n<=1920):je (ep n)=true:=by rw[bD];exact⟨⟨by show (2:Int)<=(n:Int);omega,by show (n:Int)%2=0;omega⟩,.inr ⟨rfl,rfl,rfl,by show (n:Int)<=1920;omega⟩⟩
theorem th(h:el ws=0)(hne:fo ws≠ws.length):je (ep (ws.length-fo ws))=true:=by obtain⟨a,-,-,-,c,h6,-,b⟩:=gO h;have hb:=(aa _).1 a;have hi:=(aL _).1 c;rw[b] at hne |-;exact GN (by omega) (by omega) (by omega)
def uE:List Bk->Int->Int
 | [],s=>s
 | b::l,s=>uE l (s+b.size)
theorem FT{t:Nat}:∀n i,t-i<=n->mvd ws i t=true->∃g:List Bk,(∀b∈g,b.kind=1/\b.mark=false/\cZ ws b=true/\2<=b.size/\b.size<=10/\0<=b.typ/\b.typ<8)/\uE g i=(t:Int)/\g.length<=t-i /\
 ∀xs l,(∀j,i<=j->j<t->wd xs j=wd ws j)->t<=xs.length->blocks xs t=some l->blocks xs i=some (g++l):=by
 intro n
 induction n with
 | zero =>intro i h c;rw[kj (by omega),kqw] at c;subst c;exact⟨[],(λb f=>by cases f),rfl,kqy _,λxs l _ _ k=>k⟩
 | succ n ih =>
  intro i h c;by_cases A:t<=i
  .rw[kj A,kqw] at c;subst c;exact⟨[],(λb f=>by cases f),rfl,kqy _,λxs l _ _ k=>k⟩
  cases a:mdOk ws i with
  | false=>rw[tq (by omega) a] at c;cases c
  | true =>
   rw[k8 (by omega) a] at c;have hsz:=l5 a;have hle:i+szAt ws i<=t:=by
    rcases kq6 t (i+szAt ws i) with o|o
    .rw[kj (by omega),kqw] at c;omega
    exact o
   obtain⟨g,y,z,o3,B⟩:=ih (i+szAt ws i) (by omega) c;unfold mdOk at a;simp only[kqt,kqw,kx4] at a;obtain⟨d,x,p,m⟩:=a;have hhd:=(bD _).1 (show je (aq (wd ws i))=true by unfold aD at d;simp only[kqt] at d;exact d.1);refine⟨bkAt ws i::g,λb f=>?_,?_,by rw[kq0];omega,λxs l s v k=>?_⟩
   .rcases kqx.1 f with rfl|f
    .have e:(bkAt ws i).size=((szAt ws i:Nat):Int):=rfl;have w:(bkAt ws i).typ=(aq (wd ws i)).typ:=rfl;refine⟨x,p,?_,by omega,by omega,by omega,by omega⟩;unfold cZ at m |-;exact m
    exact y b f
   .show uE g (i+(szAt ws i:Nat))=_;rw[<-z];congr 1
   have r:wd xs i=wd ws i:=s i (kqa _) (by omega);have q:wd xs (i+1)=wd ws (i+1):=s (i+1) (by omega) (by omega);have C:szAt xs i=szAt ws i:=by unfold szAt;rw[r]
   have w:bkAt xs i=bkAt ws i:=by unfold bkAt;rw[r,q]
   have u:stands xs i=true:=by unfold stands;rw[r,d,kzq,kzc];have:(aq (wd ws i)).size=((szAt ws i:Nat):Int):=rfl;omega
   rw[aR (by omega) u,C,w,B xs l (λj o D=>s j (by omega) D) v k];rfl
theorem y8(h:el ws=0):∀j,wd (ak ws (dl ws)) j=if j=16\/j=17\/j=18 then 0 else if fo ws<ws.length/\j=fo ws then cV (ep (ws.length-fo ws)) else if fo ws<ws.length/\j=fo ws+1 then 0 else wd ws j:=by
 obtain⟨o,-,-,-,p,q,-,n⟩:=gO h;have hb:=(aa _).1 o;have m:=(aL _).1 p;rw[<-n] at m q;intro j;have c:∀j,wd (ak ws (phE 0 0 0)) j=if j=16\/j=17\/j=18 then 0 else wd ws j:=by
  intro j;unfold phE;rw[show (16:Int)=((16:Nat):Int) from rfl,show (17:Int)=((17:Nat):Int) from rfl,show (18:Int)=((18:Nat):Int) from rfl];rw[fK 16 _ _ (by omega),fK 17 _ _ (by rw[kq4];omega),fK 18 _ _ (by rw[kq4,kq4];omega)];show wd (((ws.set 16 0).set 17 0).set 18 0) j=_;rw[l9,l9,l9];simp only[kq4];by_cases i:j=18
  .subst i;rw[if_pos ⟨rfl,by omega⟩,if_pos (by omega)]
  rw[if_neg (by omega)];by_cases e:j=17
  .subst e;rw[if_pos ⟨rfl,by omega⟩,if_pos (by omega)]
  rw[if_neg (by omega)];by_cases f:j=16
  .subst f;rw[if_pos ⟨rfl,by omega⟩,if_pos (by omega)]
  rw[if_neg (by omega),if_neg (by omega)]
 have g:dl ws=phE 0 0 0++(if fo ws=ws.length then [] else [⟨(fo ws:Int),cV (ep (ws.length-fo ws))⟩,⟨((fo ws+1:Nat):Int),0⟩]):=by simp[dl,h]
 rw[g,eK];have b:(ak ws (phE 0 0 0)).length=ws.length:=ax _ _;by_cases d:fo ws=ws.length
 .rw[if_pos d];show wd (ak ws (phE 0 0 0)) j=_;rw[c];by_cases a:j=16\/j=17\/j=18
  .rw[if_pos a,if_pos a]
  rw[if_neg a,if_neg a,if_neg (λh=>absurd h.1 (by omega)),if_neg (λh=>absurd h.1 (by omega))]
 rw[if_neg d,fK _ _ _ (by rw[b];omega),fK _ _ _ (by rw[kq4,b];omega)];show wd (((ak ws (phE 0 0 0)).set _ _).set _ _) j=_;rw[l9,l9,c,kq4,b];by_cases l:j=fo ws+1
 .subst l;rw[if_pos ⟨rfl,by omega⟩,if_neg (by omega),if_neg (by omega),if_pos ⟨by omega,rfl⟩]
 rw[if_neg (by omega)];by_cases k:j=fo ws
 .subst k;rw[if_pos ⟨rfl,by omega⟩,if_neg (by omega),if_pos ⟨by omega,rfl⟩]
 rw[if_neg (by omega)];by_cases a:j=16\/j=17\/j=18
 .rw[if_pos a,if_pos a]
 rw[if_neg a,if_neg a,if_neg (λh=>k h.2),if_neg (λh=>l h.2)]
def ED (ws:List Nat):List Bk:=if fo ws=ws.length then [] else [{ ep (ws.length-fo ws) with at_:=(fo ws:Int) }]
theorem Cr(h:el ws=0):∃g:List Bk,(∀b∈g,b.kind=1/\b.mark=false/\2<=b.size/\b.size<=10)/\uE g 128=(fo ws:Int)/\g.length<=2048/\ah (ak ws (dl ws))=0 /\
 af (ak ws (dl ws))=g++ED ws/\blocks (ak ws (dl ws)) 128=some (g++ED ws)/\cP (ak ws (dl ws))=0/\lnV (ak ws (dl ws))=phV 0 0 0/\eG (g++ED ws)=[]/\(ak ws (dl ws)).length=ws.length:=by
 obtain⟨J,-,N,-,Y,W,o,h8⟩:=gO h;have hb:=(aa _).1 J;have Z:=(aL _).1 Y;have c:=y8 h;have i:(ak ws (dl ws)).length=ws.length:=ax _ _;have z:=th h;rw[<-h8] at W Z o;obtain⟨g,A,X,o3,o4⟩:=FT _ 128 (kqa _) o;generalize ak ws (dl ws)=x at c i |-;have G:blocks x (fo ws)=some (ED ws):=by
  unfold ED;by_cases m:fo ws=ws.length
  .rw[if_pos m,aH (by omega)]
  rw[if_neg m];have q:=z m;have B:wd x (fo ws)=cV (ep (ws.length-fo ws)):=by rw[c,if_neg (by omega),if_pos ⟨by omega,rfl⟩]
  have e1:wd x (fo ws+1)=0:=by rw[c,if_neg (by omega),if_neg (λh=>absurd h.2 (by omega)),if_pos ⟨by omega,rfl⟩]
  have d:=mI q;have t:szAt x (fo ws)=ws.length-fo ws:=by have Q:(aq (wd x (fo ws))).size=((szAt x (fo ws):Nat):Int):=rfl;rw[B,d] at Q;have e3:(ep (ws.length-fo ws)).size=((ws.length-fo ws:Nat):Int):=rfl;dsimp only at Q;omega
  have H:stands x (fo ws)=true:=by unfold stands;rw[B,pB q,kzq,kzc,d];show ((ws.length-fo ws:Nat):Int)<=_;omega
  rw[aR (by omega) H,t,aH (by omega)];have s:bkAt x (fo ws)={ ep (ws.length-fo ws) with at_:=(fo ws:Int) }:=by unfold bkAt;rw[B,d,e1];rfl
  rw[s];rfl
 have e:=o4 x (ED ws) (λj h1 h2=>by rw[c,if_neg (by omega),if_neg (λh=>absurd h.2 (by omega)),if_neg (λh=>absurd h.2 (by omega))]) (by omega) G;have p:(g++ED ws).all (dK x)=true:=by
  rw[kzu];intro b a;rcases kz0.1 a with a|a
  .obtain ⟨R,U,E,S,T,g6,V⟩:=A b a;unfold dK cZ;unfold cZ at E;have hty:tyA b+1<128:=by unfold tyA;omega
   rw[c (tyA b),c (tyA b+1)];have hty2:96<=tyA b:=by unfold tyA;omega
   rw[if_neg (by omega),if_neg (λh=>absurd h.2 (by omega)),if_neg (λh=>absurd h.2 (by omega)),if_neg (by omega),if_neg (λh=>absurd h.2 (by omega)),if_neg (λh=>absurd h.2 (by omega)),E,kvc]
  unfold ED at a;split at a
  .cases a
  rw[kq1] at a;subst a;rfl
 obtain⟨p1,p2⟩:=fT (by rw[i];exact J) e p;obtain⟨-,F,P,O,C,M⟩:=(bo ws).1 N;have n:∀j,j<24->(j=16\/j=17\/j=18)/\wd x j=0\/wd x j=wd ws j:=by
  intro j hj;rw[c];by_cases w:j=16\/j=17\/j=18
  .left;exact⟨w,by rw[if_pos w]⟩
  right;rw[if_neg w,if_neg (λh=>absurd h.2 (by omega)),if_neg (λh=>absurd h.2 (by omega))]
 have f:wd x 16=0:=by rw[c,if_pos (by omega)]
 have l:wd x 17=0:=by rw[c,if_pos (by omega)]
 have k:wd x 18=0:=by rw[c,if_pos (by omega)]
 have v:wd x 19=0:=by rcases n 19 (by omega) with h|h;exact h.2;rw[h];exact F
 have y:wd x 20=0:=by rcases n 20 (by omega) with h|h;exact h.2;rw[h];exact P
 have L:wd x 21=0:=by rcases n 21 (by omega) with h|h;exact h.2;rw[h];exact O
 have D:wd x 22=0:=by rcases n 22 (by omega) with h|h;exact h.2;rw[h];exact C
 have I:wd x 23=0:=by rcases n 23 (by omega) with h|h;exact h.2;rw[h];exact M
 have u:jd x=true:=by rw[bo,f,l,k];exact⟨⟨by omega,by omega,by omega⟩,v,y,L,D,I⟩
 have K:=(mQ (ws:=x) (by rw[i];exact J) (by rw[u,f,l,k];rfl)).1;have r:cP x=0:=by unfold cP;rw[if_pos K,if_neg (by rw[f];omega)]
 refine⟨g,λb a=>?_,X,by omega,p1,p2,e,r,by simp[lnV,r,f,l,k],?_,i⟩
 .obtain ⟨R,U,E,S,T,g6,V⟩:=A b a;exact⟨R,U,S,T⟩
 unfold eG;rw[List.map_eq_nil_iff,kke];intro b a;rcases kz0.1 a with a|a
 .rw[(A b a).2.1];simp
 unfold ED at a;split at a
 .cases a
 rw[kq1] at a;subst a;simp[ep]
open Go.RowKit
noncomputable def cJ (x:List Nat):Int × Bool × List En:=if (ae x).1=6 then (if wd x 16=0 then (0,true,[]) else (el x,false,dl x)) else ((ae x).1,false,(ae x).2)
theorem rX(ws:List Nat)(f s:Int):bh ws f s≠6:=by
 unfold bh lB;split
 .split
  .decide
  split
  .decide
  split<;>decide
 decide
theorem B9(x:List Nat):az x≠6:=by
 unfold az;split
 .split
  .split
   .exact rX _ _ _
   decide
  split
  .exact rX _ _ _
  rcases CX x with h|h|h<;>rw[h]<;>decide
 rcases B6 x with h|h|h<;>rw[h]<;>decide
theorem Gc(h:(ae x).1=6):az x=0:=by
 by_cases a:az x=0
 .exact a
 unfold ae at h;rw[if_neg a] at h;exact absurd h (B9 x)
theorem rs_ck(h:(cJ x).1=0):az x=0:=by
 by_cases b:(ae x).1=6
 .exact Gc b
 unfold cJ at h;rw[if_neg b] at h;by_cases a:az x=0
 .exact a
 unfold ae at h;rw[if_neg a] at h;exact absurd h a
theorem CA(x:List Nat)(h:ah x=0):2*(af x).length+128<=x.length:=by obtain⟨c,l,a,-,b⟩:=aA h;have hb:=(aa _).1 c;rw[b];exact (bK (by omega) _ _ a (by omega) (by omega) (by omega)).1
theorem xX{α:Type}{p q:α->Bool}:∀ {l:List α},(∀b∈l,q b=true->p b=true)->∀ {d a:α},d∈l->a∈l->d≠a->p d=true->q d=false->p a=true->q a=false->(l.filter q).length+2<=(l.filter p).length:=by
 intro l
 induction l with
 | nil=>intro _ d a h;exact absurd h (by simp)
 | cons c l ih =>
  intro h d a w s f n g m j;have i:=λx u=>h x (kxw _ u);rw[kxr,kxr];rcases kqx.1 w with rfl|r
  .rw[n,g];have o:a∈l:=by
    rcases kqx.1 s with e|k
    .exact absurd e.symm f
    exact k
   have:=(ns i).2 ⟨a,o,m,j⟩;simp only[if_true,if_false,kzh,kq0];omega
  rcases kqx.1 s with rfl|k
  .rw[m,j];have:=(ns i).2 ⟨d,r,n,g⟩;simp only[if_true,if_false,kzh,kq0];omega
  have:=ih i r k f n g m j;have v:=h c (by simp);cases t:q c with
  | true=>rw[v t];simp only[if_true,kq0];omega
  | false=>cases hp:p c<;>simp only[if_true,if_false,kzh,kq0]<;>omega
theorem od{l:List Bk}(h:l.Pairwise (λa b=>a.at_<b.at_)){a b:Bk}(ha:a∈l)(hb:b∈l)(e:a.at_=b.at_):a=b:=by
 obtain⟨i,d,rfl⟩:=kqz ha;obtain⟨j,f,rfl⟩:=kqz hb;rw[kzd] at h;rcases kj6 i j with c|c|c
 .have:=h i j d f c;omega
 .subst c;rfl
 have:=h j i f d c;omega
theorem BJ(h:aC ws=0)(h32:32<=(aK ws).length):(aK (ak ws ((aK ws).take 31))).length+2<=(aK ws).length:=by
 have c:((aK ws).take 31).Sublist (aK ws):=kxt _ _;have n:((aK ws).take 31).Pairwise (λa b=>a.a<b.a):=(dg h).sublist c;obtain⟨H,g2,O,g4,M⟩:=(gp h c).same h;rw[dd H,O,M,kzo,dd h,kzo];rw[<-dd h];obtain⟨x,w⟩:=xq (ak ws ((aK ws).take 31));rw[w];unfold lw;rw[List.filter_map,kzo];have j:=ch (aI h).1;have y:∀b∈af ws,(∀e∈(aK ws).take 31,e.a≠b.at_)->(mkB x b).mark=b.mark:=by intro b v C;obtain⟨a,rfl,a1,a2,a3,a4⟩:=j.1 b v;show oC x (bkAt ws a).at_.toNat=_;rw[ab,kqj];unfold oC;rw[<-w,aU _ _ _ (λe m=>by have:=C e m;rwa [ab] at this)];rfl
 have g:∀i,i<31->∃b∈af ws,b.at_=((aK ws)[i]?.map En.a).getD 0/\(!cG (seenL ws) b)=true/\(!(cG (seenL ws) (mkB x b)))=false:=by
  intro i hi;have s:i<((aK ws).take 31).length:=by rw[kq3];omega
  have m:=kqq s;have A:(aK ws)[i]? = some ((aK ws).take 31)[i]:=by rw[kkk,kql (by omega)]
  obtain⟨a,r,G,P,L,t,o,k,f⟩:=dh h (c.subset m);refine⟨bkAt ws a,r,by rw[A,k,ab];rfl,by rw[f];rfl,?_⟩;have d:=du _ ws n _ m (by rw[k];dsimp only;omega) (by rw[k];dsimp only;omega);rw[k] at d;dsimp only at d;rw[kqj,w] at d;unfold cG;show (!((mkB x (bkAt ws a)).mark==((seenL ws)[(bkAt ws a).at_.toNat]?.getD false)))=false;have B:(mkB x (bkAt ws a)).mark=ew ws (bkAt ws a):=by show oC x (bkAt ws a).at_.toNat=_;rw[ab,kqj];unfold oC;rw[d,(hU t o _).2.1]
  rw[B];unfold ew;simp
 obtain⟨K,I,E,N,J⟩:=g 0 (by omega);obtain⟨Q,S,k,R,F⟩:=g 1 (by omega);have D:K≠Q:=by rintro rfl;have u:=dg h;rw[kzd] at u;have:=u 0 1 (by omega) (by omega) (by omega);rw[kql (by omega)] at E k;simp only[kzy,kq8] at E k;omega
 refine xX (p:=λb=>!cG (seenL ws) b) (q:=(λb=>!cG (seenL ws) b) ∘ mkB x) (λb v l=>?_) I S D N J R F;dsimp only[Function.comp_apply] at l |-;cases z:cG (seenL ws) b with
 | false=>rfl
 | true =>
  exfalso;have r:=y b v (λe m u=>by
   obtain⟨a,r,G,P,L,t,o,rfl,f⟩:=dh h (c.subset m);dsimp only at u;have:bkAt ws a=b:=od j.2 r v (by rw[ab];exact u);rw[this,z] at f;cases f)
  unfold cG at z l;rw[r] at l
  change (!(b.mark==((seenL ws)[b.at_.toNat]?.getD false)))=true at l
  rw[z] at l;exact absurd l (by decide)
theorem rz{xs:List Nat}:∀ {l:List Bk} {s:Int},l.Pairwise (λa b=>a.at_<b.at_)->(∀b∈l,0<=b.at_)->(∀b∈l,b.kind=1->wd xs (b.at_.toNat+1)=b.next\/∃e∈aV l s,e.a=b.at_+1/\wd xs (b.at_.toNat+1)=e.v) ->
 (aV (l.map (nxB xs)) s).length+((aV l s).filter (λe=>wd xs e.a.toNat==e.v)).length<=(aV l s).length:=by
 intro l
 induction l with
 | nil=>intro s _ _ _;exact kqa _
 | cons b l ih =>
  intro s n x w;rw[kkh] at n;have j:∀c∈l,c.kind=1->wd xs (c.at_.toNat+1)=c.next\/∃e∈aV l (eX b s),e.a=c.at_+1/\wd xs (c.at_.toNat+1)=e.v:=by
   intro c k f;rcases w c (by simp[k]) f with i|⟨e,d,u,q⟩
   .exact .inl i
   simp only[aV,kz0] at d;rcases d with d|d
   .split at d
    .rw[kq1] at d;subst d;dsimp only at u;have:=n.1 c k;omega
    simp at d
   exact .inr ⟨e,d,u,q⟩
  have i1:=ih (s:=eX b s) n.2 (λc k=>x c (by simp[k])) j;have hb0:=x b (by simp);rw[kxj];simp only[aV];have B:eX (nxB xs b) s=eX b s:=rfl;have z:bE (nxB xs b) s=bE b s:=rfl;rw[B,z,kx8,kqu,kqu,kqu];have o:(nxB xs b).next=wd xs (b.at_.toNat+1):=rfl;have p:(nxB xs b).kind=b.kind:=rfl;have t:(nxB xs b).at_=b.at_:=rfl;have g:b.kind=1->wd xs (b.at_.toNat+1)=b.next\/wd xs (b.at_.toNat+1)=bE b s:=by
   intro f;rcases w b (by simp) f with i|⟨e,d,u,q⟩
   .exact .inl i
   simp only[aV,kz0] at d;rcases d with d|d
   .split at d
    .rw[kq1] at d;subst d;exact .inr q
    simp at d
   obtain⟨c,k,-,h4⟩:=fu d;have:=n.1 c k;omega
  have y:(b.at_+1).toNat=b.at_.toNat+1:=by omega
  have hle:(if (nxB xs b).kind=1/\(nxB xs b).next≠bE b s then [(⟨(nxB xs b).at_+1,bE b s⟩:En)] else []).length+((if b.kind=1/\b.next≠bE b s then [(⟨b.at_+1,bE b s⟩:En)] else []).filter (λe=>wd xs e.a.toNat==e.v)).length<=(if b.kind=1/\b.next≠bE b s then [(⟨b.at_+1,bE b s⟩:En)] else []).length:=by
   rw[o,p,t];by_cases f:b.kind=1
   .by_cases r:b.next=bE b s
    .have A:wd xs (b.at_.toNat+1)=bE b s:=by
      rcases g f with i|i
      .rw[i];exact r
      exact i
     rw[if_neg (show ¬ (b.kind=1/\b.next≠bE b s) from λh=>h.2 r),if_neg (show ¬ (b.kind=1/\wd xs (b.at_.toNat+1)≠bE b s) from λh=>h.2 A)];exact kqa _
    rw[if_pos (show b.kind=1/\b.next≠bE b s from ⟨f,r⟩)];by_cases m:wd xs (b.at_.toNat+1)=bE b s
    .rw[if_neg (λh=>h.2 m)];simp[y,m]
    rw[if_pos ⟨f,m⟩];have:(wd xs (b.at_+1).toNat==bE b s)=false:=by rw[y,kqi];exact m
    simp[this]
   rw[if_neg (λh=>f h.1),if_neg (λh=>f h.1)];exact kqa _
  omega
theorem Fo(h:ah ws=0)(h32:32<=(ay ws).length):(ay (ak ws ((ay ws).take 31))).length+2<=(ay ws).length:=by
 obtain⟨C,D,i3⟩:=mu h;have t:ay ws=aV (af ws) 128:=oL h;have f:=ch h;have c:((ay ws).take 31).Sublist (ay ws):=kxt _ _;have g:((ay ws).take 31).Pairwise (λa b=>a.a<b.a):=C.sublist c;have m:∀e∈ay ws,∃a:Nat,e.a=((a+1:Nat):Int)/\a%2=0/\128<=a:=by intro e d;rw[t] at d;obtain⟨b,k,-,z⟩:=fu d;obtain⟨a,rfl,q,w,-⟩:=f.1 b k;exact⟨a,by rw[z,ab];rfl,w,q⟩
 have r:Ev ws (ak ws ((ay ws).take 31)):=by refine⟨ax _ _,λi hi=>aU _ _ _ λe d n=>?_⟩;obtain⟨a,u,q,w⟩:=m e (c.subset d);omega
 obtain⟨B,E⟩:=r.heap h;have p:ay (ak ws ((ay ws).take 31))=aV ((af ws).map (nxB (ak ws ((ay ws).take 31)))) 128:=by rw[oL B,E]
 rw[p];have j:∀e∈(ay ws).take 31,wd (ak ws ((ay ws).take 31)) e.a.toNat=e.v:=λe d=>by
  have hin:=D _ (c.subset d);exact du _ ws g _ d (by omega) (by omega)
 have o:=rz (xs:=ak ws ((ay ws).take 31)) (l:=af ws) (s:=128) f.2 (λb k=>by obtain⟨a,rfl,-⟩:=f.1 b k;rw[ab];omega) (λb k hk=>by
  obtain⟨a,rfl,q,w,a3,y⟩:=f.1 b k;have hsz:=aF y;rw[ab,kqj];by_cases x:∃e∈(ay ws).take 31,e.a=((a+1:Nat):Int)
  .obtain ⟨e,d,u⟩:=x;refine .inr ⟨e,by rw[<-t];exact c.subset d,by rw[u];omega,?_⟩;have:=j e d;rw[u,kqj] at this;exact this
  exact .inl (by rw[aU _ _ _ (λe d n=>x ⟨e,d,n⟩)];rfl))
 rw[<-t] at o;have hfl:31<=((ay ws).filter (λe=>wd (ak ws ((ay ws).take 31)) e.a.toNat==e.v)).length:=by
  have A:(ay ws).take 31=((ay ws).take 31).filter (λe=>wd (ak ws ((ay ws).take 31)) e.a.toNat==e.v):=by symm;rw[kkb];intro e d;rw[kqw];exact j e d
  have n:=(c.filter (λe=>wd (ak ws ((ay ws).take 31)) e.a.toNat==e.v)).length_le;rw[<-A,kq3] at n;omega
 omega
theorem Hn(hck:az x=0)(p3:wd x 16=3)(h:(sgFix x).1=0):
 (wd (ak x (sgFix x).2) 16=3/\wd (ak x (sgFix x).2) 17<=x.length/\(wd x 17=0->wd (ak x (sgFix x).2) 17=128)/\(wd x 17≠0->wd x 17+2<=wd (ak x (sgFix x).2) 17))\/(wd (ak x (sgFix x).2) 16=4/\wd (ak x (sgFix x).2) 17=128/\wd x 17≠0):=by
 obtain⟨-,C,w,hph⟩:=cg hck;have hb:=(aa _).1 C;obtain⟨⟨l1,A,l3⟩,-⟩:=(bo x).1 w;by_cases z:wd x 17=0
 .have g:dZ x=0:=by
   by_cases j:dZ x=0
   .exact j
   unfold sgFix at h;rw[if_pos z,if_neg j] at h;exact absurd h j
  have c:sgFix x=(0,⟨17,128⟩::dL x):=by unfold sgFix;rw[if_pos z,if_pos g]
  obtain⟨-,-,-,-,-,-,-,n,y,q3,-⟩:=iQ g;obtain⟨o,q,s,i,a,r⟩:=gb (f:=128) (l:=dL x) hck p3 (by decide) (by omega) (by omega) (by omega) y (λe b=>by have:=(n e b).1;omega) (λe b=>(n e b).2);rw[c];exact .inl ⟨i,by rw[a];omega,λ_=>a,λd=>absurd z d⟩
 have c:sgFix x=ke x (wd x 17):=by unfold sgFix;rw[if_neg z]
 have B:(ke x (wd x 17)).1=0:=by rw[<-c];exact h
 rcases lW x.length (wd x 17) (by omega) A B with d|⟨m,m1,m2,m3,m4,m5,k,t,u⟩
 .rw[c,d];obtain⟨o,q,s,i,a,r⟩:=fE hck p3;exact .inr ⟨i,a,z⟩
 obtain⟨f,-,-,-,-,q5,-,-,-,v⟩:=gN t;have p:=De t;obtain⟨o,q,s,i,a,r⟩:=gb (f:=m+szAt x m) (l:=cD x (m:Int)) hck p3 ((aL _).2 (by omega)) k (by omega) (by omega) v (λe b=>by have:=p e b;omega) (λe b=>by have:=p e b;omega);rw[c,u];exact .inl ⟨i,by rw[a];exact k,λd=>absurd d z,λ_=>by rw[a];omega⟩
theorem tS(ho:∀v∈x,v<18446744073709551616)(hck:az x=0)(p4:wd x 16=4)(h:(sgSld x).1=0):
 wd (ak x (sgSld x).2) 16=4/\wd (ak x (sgSld x).2) 17<=x.length/\wd x 17+2<=wd (ak x (sgSld x).2) 17:=by
 obtain⟨-,G,C,o⟩:=cg hck;have hb:=(aa _).1 G;obtain⟨⟨l1,l2,l3⟩,-⟩:=(bo x).1 C;have b:bj x ((wd x 17:Nat):Int)=0:=by
  by_cases d:bj x ((wd x 17:Nat):Int)=0
  .exact d
  unfold sgSld at h;rw[if_neg d] at h;exact absurd h (by decide)
 obtain⟨-,a1,a2,m,w,m1,m2,m3,m4,m5,m6,m7,m8,-⟩:=fm b;have c:dG x (m:Int) ((wd x 18:Nat):Int)=0:=by
  by_cases d:dG x (m:Int) ((wd x 18:Nat):Int)=0
  .exact d
  unfold sgSld at h;rw[if_pos b,w,ab,if_neg d] at h;exact absurd h d
 have A:sgSld x=(0,⟨17,m+szAt x m⟩::⟨18,wd x 18+szAt x m⟩::ju x m (wd x 18)):=by unfold sgSld;rw[if_pos b,w,ab,if_pos c,bq,show ((m:Int)+((szAt x m:Nat):Int)).toNat=m+szAt x m by omega,show (((wd x 18:Nat):Int)+((szAt x m:Nat):Int)).toNat=wd x 18+szAt x m by omega];unfold iO;rw[if_pos c,kqj,kqj]
 obtain⟨a,u,n,s,y,F,n2,n10,hu,hua,han,hst,hlv,-,-,r⟩:=fB c;have s:a=m:=by omega
 have y:u=wd x 18:=by omega
 subst s y;subst F;have q:=(co _ _ _).1 o;have g:kA (wd x 17)=true/\kA (wd x 18)=true/\wd x 18<=wd x 17:=by
  rcases q with p|p|p
  .exact p.2
  .omega
  omega
 have i1:=(aL _).1 g.1;have i2:=(aL _).1 g.2.1;rw[A];obtain⟨g1,g2,g3,D,z,g6⟩:=k9 (f:=a+szAt x a) (t:=wd x 18+szAt x a) (l:=ju x a (wd x 18)) hck p4 ((aL _).2 (by omega)) ((aL _).2 (by omega)) (by omega) (by omega) (by omega) (by omega) (by rw[fD];omega) (by
  rw[kzd];intro i j hi hj hij;rw[fa,fa];omega) (λe E=>by
  obtain⟨k,B,rfl⟩:=kqz E;rw[fa];rw[fD] at B;omega) (qy ho r)
 exact⟨D,by rw[z];omega,by rw[z];omega⟩
noncomputable def rzM (x:List Nat):Nat:=
 if wd x 16=1 then (aK x).length/2+1+((x.length-128)/2/2+1)+((x.length-128)/2+2)+((x.length-128)/2+1)
 else if wd x 16=2 then (ay x).length/2+1+((x.length-128)/2+2)+((x.length-128)/2+1)
 else if wd x 16=3 then (if wd x 17=0 then (x.length-128)/2+2 else (x.length-wd x 17)/2+1)+((x.length-128)/2+1)
 else if wd x 16=4 then (x.length-wd x 17)/2+1 else 0
theorem qT(x:List Nat)(hs:128<=x.length):(ay x).length<=(x.length-128)/2:=by
 by_cases h:ah x=0
 .rw[oL h];have h1:=om (af x) 128;have h2:=CA x h;omega
 unfold ay;rw[if_neg h];simp
theorem Bj(x:List Nat)(hs:128<=x.length):(aK x).length<=(x.length-128)/2:=by
 by_cases h:aC x=0
 .rw[dd h,kzo];have h1:=qv (seenL x) (af x);have h2:=CA x (aI h).1;omega
 unfold aK;rw[if_neg h];simp
theorem Fa(ho:∀v∈x,v<18446744073709551616)(h:(ae x).1=0):rzM (ak x (ae x).2)<rzM x:=by
 obtain⟨a,-,-,-,-,k6,-,-⟩:=lC ho h;obtain⟨-,G,C,r⟩:=cg a;have hb:=(aa _).1 G;obtain⟨⟨l1,l2,l3⟩,-⟩:=(bo x).1 C;have u:=(co _ _ _).1 r;have k:(ak x (ae x).2).length=x.length:=ax _ _;have g:=qT (ak x (ae x).2) (by omega);rw[k] at g;unfold rzM;rw[k];by_cases c:wd x 16=1
 .have d:aC x=0:=by
   by_cases m:aC x=0
   .exact m
   unfold ae at h;rw[if_pos a,if_pos c,if_neg m] at h;exact absurd h m
  have e:ae x=(0,ie (aK x) 2):=by unfold ae;rw[if_pos a,if_pos c,if_pos d]
  obtain⟨t,w⟩:=nU d;obtain⟨B,E,F,f,n,q⟩:=eE a c (.inl rfl) (dg d) (λy J=>by
   obtain⟨i,D⟩:=kjr.1 J;exact t i y D) (nP d)
  simp only[Nat.reduceAdd] at f;rw[e] at g |-;dsimp only at g |-;rw[if_pos c,f];by_cases b:32<=(aK x).length
  .have I:=BJ d b;rw[if_pos b,if_pos rfl,cm b];omega
  rw[if_neg b,if_neg (by decide),if_pos rfl];omega
 by_cases j:wd x 16=2
 .have o:ah x=0:=by
   by_cases m:ah x=0
   .exact m
   unfold ae at h;rw[if_pos a,if_neg c,if_pos j,if_neg m] at h;exact absurd h m
  have e:ae x=(0,ie (ay x) 3):=by unfold ae;rw[if_pos a,if_neg c,if_pos j,if_pos o]
  obtain⟨t,w,H⟩:=mu o;obtain⟨B,E,F,f,n,q⟩:=eE a j (.inr rfl) t w H;simp only[Nat.reduceAdd] at f n;rw[e] at g |-;dsimp only at g |-;rw[if_neg c,if_pos j,f,n];by_cases b:32<=(ay x).length
  .have I:=Fo o b;rw[if_pos b,if_neg (by decide),if_pos rfl,cm b];omega
  rw[if_neg b,if_neg (by decide),if_neg (by decide),if_pos rfl,if_pos rfl];omega
 by_cases p:wd x 16=3
 .have e:ae x=sgFix x:=by unfold ae;rw[if_pos a,if_neg c,if_neg j,if_pos p]
  rw[e] at h |-;have hF:wd x 17=0\/128<=wd x 17:=by
   rcases u with l|⟨-,-,l⟩|l
   .omega
   .rcases l with l|l
    .exact .inl l
    exact .inr ((aL _).1 l).1
   omega
  rcases Hn a p h with⟨f,n,q,A⟩|⟨f,n,q⟩
  .rw[f,if_neg (by decide),if_neg (by decide),if_pos rfl,if_neg c,if_neg j,if_pos p];by_cases z:wd x 17=0
   .rw[if_pos z,q z,if_neg (by decide)];omega
   have:=A z;rw[if_neg z,if_neg (by omega)];omega
  rw[f,n,if_neg (by decide),if_neg (by decide),if_neg (by decide),if_pos rfl,if_neg c,if_neg j,if_pos p,if_neg q];omega
 have s:wd x 16=4:=by omega
 have e:ae x=sgSld x:=by unfold ae;rw[if_pos a,if_neg c,if_neg j,if_neg p,if_pos s]
 rw[e] at h |-;obtain⟨f,n,q⟩:=tS ho a s h;rw[f,if_neg (by decide),if_neg (by decide),if_neg (by decide),if_pos rfl,if_neg c,if_neg j,if_neg p,if_pos s];omega
theorem Ga(hs:aj (x.length:Int)=true):rzM x<=(x.length-128)/2*3+5:=by
 have hb:=(aa _).1 hs;have h1:=Bj x (by omega);have h2:=qT x (by omega);unfold rzM;by_cases c:wd x 16=1
 .rw[if_pos c];omega
 rw[if_neg c];by_cases b:wd x 16=2
 .rw[if_pos b];omega
 rw[if_neg b];by_cases a:wd x 16=3
 .rw[if_pos a];split
  .omega
  have:(x.length-wd x 17)/2<=x.length/2:=by omega
  omega
 rw[if_neg a];split<;>omega
theorem ql(h:el x=0):Small x.length (dl x)/\wd (ak x (dl x)) 16=0:=by
 obtain⟨g,-,-,-,j,f,-,i⟩:=gO h;have hb:=(aa _).1 g;have d:=(aL _).1 j;rw[<-i] at d f;refine⟨?_,by rw[y8 h,if_pos (.inl rfl)]⟩;unfold dl;rw[if_pos h];have b:=λb=>qn (th h b);generalize fo x=t at d f b;have c:phE 0 0 0=[⟨16,0⟩,⟨17,0⟩,⟨18,0⟩]:=rfl;rw[c];by_cases a:t=x.length
 .rw[if_pos a];refine⟨by decide,by decide,by simp,λe a=>?_,λe a=>?_⟩ <;>
  .simp only[kzs,kqx,kzf,or_false] at a;rcases a with rfl|rfl|rfl<;>(dsimp only;omega)
 have hv:=b a;rw[if_neg a];refine⟨by simp,by simp,?_,λe a=>?_,λe a=>?_⟩
 .simp only[kzm,kz1,kkh,kqx,kzf,or_false,forall_eq_or_imp,forall_eq,List.Pairwise.nil,and_true,false_implies,implies_true];omega
 .simp only[kzm,kz1,kqx,kzf,or_false] at a;rcases a with rfl|rfl|rfl|rfl|rfl<;>(dsimp only;omega)
 simp only[kzm,kz1,kqx,kzf,or_false] at a;rcases a with rfl|rfl|rfl|rfl|rfl<;>(dsimp only;omega)
theorem si(ho:∀v∈x,v<18446744073709551616)(h:(cJ x).1=0)(hd:(cJ x).2.1=false):Small x.length (cJ x).2.2/\(∀v∈ak x (cJ x).2.2,v<18446744073709551616)/\rzM (ak x (cJ x).2.2)<rzM x:=by
 by_cases a:(ae x).1=6
 .by_cases c:wd x 16=0
  .unfold cJ at hd;rw[if_pos a,if_pos c] at hd;cases hd
  have e:cJ x=(el x,false,dl x):=by unfold cJ;rw[if_pos a,if_neg c]
  rw[e] at h |-;dsimp only at h |-;obtain⟨b,d⟩:=ql h;refine⟨b,tT _ _ ho b.val,?_⟩;have f:wd x 16=4:=(gO h).2.2.2.1;unfold rzM;rw[d,if_neg (by decide),if_neg (by decide),if_neg (by decide),if_neg (by decide),f,if_neg (by decide),if_neg (by decide),if_neg (by decide),if_pos rfl];omega
 have e:cJ x=((ae x).1,false,(ae x).2):=by unfold cJ;rw[if_neg a]
 rw[e] at h |-;dsimp only at h |-;exact⟨(lC ho h).2.1,dH ho h,Fa ho h⟩
noncomputable def rsG:Nat->List Nat->Int × List (List En) × List Nat
 | 0,x=>(0,[],x)
 | f+1,x=>if (cJ x).1=0 then (if (cJ x).2.1=true then (0,[],x)
  else if (rsG f (ak x (cJ x).2.2)).1=0 then (0,(cJ x).2.2::(rsG f (ak x (cJ x).2.2)).2.1,(rsG f (ak x (cJ x).2.2)).2.2) else ((rsG f (ak x (cJ x).2.2)).1,[],[]))
  else ((cJ x).1,[],[])
theorem Fu:∀ {f g:Nat} {x:List Nat},(∀v∈x,v<18446744073709551616)->rzM x<f->rzM x<g->rsG f x=rsG g x:=by
 intro f
 induction f with
 | zero=>intro g x _ h;omega
 | succ f ih =>
  intro g x b hf hg;cases g with
  | zero=>omega
  | succ g =>
   simp only[rsG];by_cases a:(cJ x).1=0
   .cases d:(cJ x).2.1 with
    | true=>simp only[if_true]
    | false =>obtain⟨-,c,h3⟩:=si b a d;rw[ih (g:=g) c (by omega) (by omega)]
   simp only[a,if_false]
noncomputable def rsE (x:List Nat):Int × List (List En) × List Nat:=rsG (rzM x+1) x
theorem lV(h:(cJ x).1≠0):rsE x=((cJ x).1,[],[]):=by unfold rsE;simp only[rsG];rw[if_neg h]
theorem jP(h:(cJ x).1=0)(hd:(cJ x).2.1=true):rsE x=(0,[],x):=by unfold rsE;simp only[rsG];rw[if_pos h,if_pos hd]
theorem iR(ho:∀v∈x,v<18446744073709551616)(h:(cJ x).1=0)(hd:(cJ x).2.1=false):rsE x=(if (rsE (ak x (cJ x).2.2)).1=0 then (0,(cJ x).2.2::(rsE (ak x (cJ x).2.2)).2.1,(rsE (ak x (cJ x).2.2)).2.2) else ((rsE (ak x (cJ x).2.2)).1,[],[])):=by
 obtain⟨-,b,a⟩:=si ho h hd;have e:rsG (rzM x) (ak x (cJ x).2.2)=rsE (ak x (cJ x).2.2):=Fu b a (kjz _)
 conv=>lhs;unfold rsE
 simp only[rsG];rw[if_pos h,if_neg (by rw[hd];decide),e]
theorem I0(ho:∀v∈x,v<18446744073709551616)(h:(rsE x).1≠0):rsE x=((rsE x).1,[],[]):=by
 by_cases a:(cJ x).1=0
 .cases b:(cJ x).2.1 with
  | true=>rw[jP a b] at h;exact absurd rfl h
  | false =>
   rw[iR ho a b] at h |-;by_cases c:(rsE (ak x (cJ x).2.2)).1=0
   .rw[if_pos c] at h;exact absurd rfl h
   rw[if_neg c]
 rw[lV a]
noncomputable def gU (ws:List Nat):Int × List (List En) × List Nat:=if az ws=0 then rsE ws else (az ws,[],[])
def lI (ws:List Nat) (outs:List (List En)) (x:List Nat):Prop:=rsE ws=if (rsE x).1=0 then (0,outs++(rsE x).2.1,(rsE x).2.2) else ((rsE x).1,[],[])
theorem i9(ho:∀v∈ws,v<18446744073709551616):lI ws [] ws:=by
 unfold lI;by_cases h:(rsE ws).1=0
 .rw[if_pos h,kz1,<-h]
 rw[if_neg h];exact I0 ho h
theorem wl{outs:List (List En)}(h:lI ws outs x)(ho:∀v∈x,v<18446744073709551616)(h0:(cJ x).1=0)(hd:(cJ x).2.1=false):lI ws (outs++[(cJ x).2.2]) (ak x (cJ x).2.2):=by
 unfold lI at h |-;rw[h,iR ho h0 hd];by_cases a:(rsE (ak x (cJ x).2.2)).1=0
 .rw[if_pos a,if_pos rfl,if_pos a];simp
 rw[if_neg a,if_neg (by exact a),if_neg a]
theorem Am{outs:List (List En)}(h:lI ws outs x)(h0:(cJ x).1=0)(hd:(cJ x).2.1=true):rsE ws=(0,outs,x):=by unfold lI at h;rw[h,jP h0 hd];simp
theorem CC{outs:List (List En)}(h:lI ws outs x)(h0:(cJ x).1≠0):rsE ws=((cJ x).1,[],[]):=by unfold lI at h;rw[h,lV h0,if_neg (by exact h0)]
theorem pQ{E:List En}{outs:List (List En)}(ho:∀v∈x,v<18446744073709551616)(h:rsE x=(0,E::outs,y)):cJ x=(0,false,E)/\rsE (ak x E)=(0,outs,y):=by
 by_cases a:(cJ x).1=0
 .cases c:(cJ x).2.1 with
  | true=>rw[jP a c] at h;simp at h
  | false =>
   rw[iR ho a c] at h;by_cases b:(rsE (ak x (cJ x).2.2)).1=0
   .rw[if_pos b] at h;simp only[Prod.mk.injEq,List.cons.injEq,true_and] at h;obtain⟨⟨d,e⟩,f⟩:=h;refine⟨by rw[<-a,<-c,<-d],?_⟩;rw[<-d,<-e,<-f,<-b]
   rw[if_neg b] at h;simp at h
 rw[lV a] at h;simp at h
theorem I6:∀ {a:List (List En)} {x y:List Nat},(∀v∈x,v<18446744073709551616)->rsE x=(0,a,y)->∀n,n<=a.length->(∀v∈stX x a n,v<18446744073709551616)/\(stX x a n).length=x.length/\rsE (stX x a n)=(0,a.drop n,y)/\(cJ (stX x a n)).1=0/\∀h:n<a.length,cJ (stX x a n)=(0,false,a[n])/\Small x.length a[n]:=by
 intro a
 induction a with
 | nil =>
  intro x y c h n e;have:n=0:=by simpa using e
  subst this;refine⟨c,rfl,h,?_,λh=>absurd h (by simp)⟩;rw[v6];by_cases g:(cJ x).1=0
  .exact g
  rw[lV g] at h;simp only[Prod.mk.injEq] at h;exact h.1
 | cons E a ih =>
  intro x y c h n e;obtain⟨d,j⟩:=pQ c h;have b:=si c (by rw[d]) (by rw[d]);rw[d] at b;cases n with
  | zero=>exact⟨c,rfl,h,by rw[v6,d],λ_=>⟨d,b.1⟩⟩
  | succ n =>rw[FV];obtain⟨i,o,q,l,m⟩:=ih b.2.1 j n (by simpa using e);refine⟨i,by rw[o,ax],q,l,λk=>?_⟩;obtain⟨p,f⟩:=m (by simpa using k);rw[ax] at f;exact⟨p,f⟩
theorem BY{outs:List (List En)}(ho:∀v∈x,v<18446744073709551616)(h:rsE x=(0,outs,y)):stX x outs outs.length=y/\(cJ y).1=0/\(cJ y).2.1=true:=by
 obtain⟨d,g2,a,c,-⟩:=I6 ho h outs.length (kqa _);rw[kkc] at a;cases b:(cJ (stX x outs outs.length)).2.1 with
 | true =>rw[jP c b] at a;simp only[Prod.mk.injEq,true_and] at a;rw[a] at c b;exact⟨a,c,b⟩
 | false =>
  rw[iR d c b] at a;split at a
  .simp at a
  rename_i h1;simp only[Prod.mk.injEq] at a;exact absurd a.1 h1
theorem rs_len:∀ {a:List (List En)} {x y:List Nat},(∀v∈x,v<18446744073709551616)->rsE x=(0,a,y)->a.length<=rzM x:=by
 intro a
 induction a with
 | nil=>intro x y _ _;exact kqy _
 | cons E a ih =>intro x y d h;obtain⟨c,e⟩:=pQ d h;have b:=si d (by rw[c]) (by rw[c]);rw[c] at b;have:=ih b.2.1 e;rw[kq0];have:=b.2.2;dsimp only at this;omega
theorem jS{outs:List (List En)}(ho:∀v∈ws,v<18446744073709551616)(h:gU ws=(0,outs,y)):az ws=0/\rsE ws=(0,outs,y)/\outs.length<=(ws.length-128)/2*3+5/\stX ws outs outs.length=y/\(∀n,n<=outs.length->(∀v∈stX ws outs n,v<18446744073709551616)/\(stX ws outs n).length=ws.length/\gU (stX ws outs n)=(0,outs.drop n,y))/\∀n (h:n<outs.length),Small ws.length outs[n]:=by
 have a:az ws=0:=by
  by_cases d:az ws=0
  .exact d
  unfold gU at h;rw[if_neg d] at h;simp only[Prod.mk.injEq] at h;exact absurd h.1 d
 have b:rsE ws=(0,outs,y):=by unfold gU at h;rw[if_pos a] at h;exact h
 obtain⟨-,f,-⟩:=cg a;refine⟨a,b,kz3 (rs_len ho b) (Ga f),(BY ho b).1,λn c=>?_,λn c=>((I6 ho b n (kxn c)).2.2.2.2 c).2⟩;obtain⟨e,g,i,j,-⟩:=I6 ho b n c;refine⟨e,g,?_⟩;unfold gU;rw[if_pos (rs_ck j)];exact i
theorem Cw :∀n x,(∀v∈x,v<18446744073709551616)->mzS p x<=n->((dx p x).1≠0->rsE x=((dx p x).1,[],[]))/\((dx p x).1=0->lI x (dx p x).2.1 (dx p x).2.2):=by
 intro n
 induction n with
 | zero =>
  intro x c h;have b:wd x 16≠p:=λb=>by unfold mzS at h;rw[if_pos b] at h;omega
  rw[cM b];exact⟨λh=>absurd rfl h,λ_=>i9 c⟩
 | succ n ih =>
  intro x c h;by_cases b:wd x 16=p
  .by_cases i:(ae x).1=6
   .rw[kH b i];exact⟨λh=>absurd rfl h,λ_=>i9 c⟩
   have a:cJ x=((ae x).1,false,(ae x).2):=by unfold cJ;rw[if_neg i]
   by_cases d:(ae x).1=0
   .have hd:=fL c b d;obtain⟨k,l⟩:=ih (ak x (ae x).2) (dH c d) (by omega);have g:=iR c (by rw[a];exact d) (by rw[a]);rw[a] at g;dsimp only at g;rw[dM c b d];by_cases e:(dx p (ak x (ae x).2)).1=0
    .rw[if_pos e];refine⟨λh=>absurd rfl h,λ_=>?_⟩;have j:=l e;unfold lI at j |-;rw[g,j];dsimp only;by_cases f:(rsE (dx p (ak x (ae x).2)).2.2).1=0
     .rw[if_pos f,if_pos rfl,if_pos f];rfl
     rw[if_neg f,if_neg (by exact f),if_neg f]
    rw[if_neg e];refine⟨λ_=>?_,λh=>absurd h e⟩;rw[g,k e,if_neg (by exact e)]
   rw[qY b i d];refine⟨λ_=>?_,λh=>absurd h d⟩;rw[lV (by rw[a];exact d),a]
  rw[cM b];exact⟨λh=>absurd rfl h,λ_=>i9 c⟩
theorem kW :∀n x,(∀v∈x,v<18446744073709551616)->mzS p x<=n->(dx p x).1=0->(∀v∈(dx p x).2.2,v<18446744073709551616)/\(dx p x).2.2.length=x.length:=by
 intro n
 induction n with
 | zero =>
  intro x b h _;have a:wd x 16≠p:=λa=>by unfold mzS at h;rw[if_pos a] at h;omega
  rw[cM a];exact⟨b,rfl⟩
 | succ n ih =>
  intro x b h c;by_cases a:wd x 16=p
  .by_cases f:(ae x).1=6
   .rw[kH a f];exact⟨b,rfl⟩
   by_cases d:(ae x).1=0
   .have hd:=fL b a d;rw[dM b a d] at c |-;by_cases e:(dx p (ak x (ae x).2)).1=0
    .rw[if_pos e];obtain⟨g,i⟩:=ih (ak x (ae x).2) (dH b d) (by omega) e;exact⟨g,i.trans (ax _ _)⟩
    rw[if_neg e] at c;exact absurd c e
   rw[qY a f d] at c;exact absurd c d
  rw[cM a];exact⟨b,rfl⟩
end Go.Proofs.YtpcajamacpbjcaaGreat
