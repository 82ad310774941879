/- Texts laid together: FinP RsP RsQ RsE RsPh. -/
import Derived.Test.YtpcajamacpbjcaaGreatZKStg1
import Derived.Test.YtpcajamacpbjcaaGreatZKImage
import Derived.Test.YtpcajamacpbjcaaGreatZKStg3
import Derived.Test.YtpcajamacpbjcaaGreatZKStg2
set_option maxHeartbeats 16000000
set_option linter.all false
namespace Go.Proofs.YtpcajamacpbjcaaGreat
variable {ws x y:List Nat}{p:Nat}
def el (ws:List Nat):Int:=if aw ws=0 then (if wd ws 16=4/\lfN ws=0 then 0 else 6) else aw ws
def fh (ws:List Nat):Nat:=if el ws=0 then wd ws 18 else 0
theorem BV{r:Int}(h:aw ws=r)(h0:r≠0):el ws=r:=by subst h;simp[el,h0]
theorem Cl(h:aw ws=0)(h2:¬ (wd ws 16=4/\lfN ws=0)):el ws=6:=by unfold el;rw[if_pos h,if_neg h2]
theorem DV(h:aw ws=0)(h2:wd ws 16=4)(h3:lfN ws=0):el ws=0/\fh ws=wd ws 18:=by simp[fh,el,h,h2,h3]
theorem vV(h:el ws=0):aw ws=0/\wd ws 16=4/\lfN ws=0:=by
 unfold el at h;split at h
 .split at h
  .rename_i h1 h2;exact⟨h1,h2⟩
  simp at h
 rename_i h1;exact absurd h h1
theorem iA(h:el ws=0):ap (ws.length:Int)=true/\cF ws=0/\iY ws=true/\wd ws 16=4/\lz (wd ws 18)=true/\wd ws 18<=ws.length/\mvd ws 128 (wd ws 18)=true/\fh ws=wd ws 18:=by
 obtain⟨a,c,h3⟩:=vV h;have b:=kP a;obtain⟨i,-⟩:=ic b;obtain⟨f,d,g⟩:=fV i;obtain⟨⟨l0,l1,e⟩,-⟩:=(bq ws).1 d;rcases (cG _ _ _).1 g with⟨-,i1,j,i3⟩|⟨p3,-⟩|⟨p0,-⟩
 .refine ⟨f,b,d,c,j,e,?_,by simp[fh,h]⟩;unfold aw at a;rw[if_pos b,if_pos c] at a;split at a
  .assumption
  simp at a
 .omega
 omega
def dm (ws:List Nat):List En:=if el ws=0 then phE 0 0 0++(if fh ws=ws.length then [] else [⟨(fh ws:Int),da (eh (ws.length-fh ws))⟩,⟨((fh ws+1:Nat):Int),0⟩]) else []
theorem Fl{n:Nat}(h2:2<=n)(he:n%2=0)(h:n<=1920):jO (eh n)=true:=by rw[bt];exact⟨⟨by show (2:Int)<=(n:Int);omega,by show (n:Int)%2=0;omega⟩,.inr ⟨rfl,rfl,rfl,by show (n:Int)<=1920;omega⟩⟩
theorem sP(h:el ws=0)(hne:fh ws≠ws.length):jO (eh (ws.length-fh ws))=true:=by obtain⟨a,-,-,-,b,h6,-,c⟩:=iA h;have hb:=(ae _).1 a;have hi:=(aT _).1 b;rw[c] at hne |-;exact Fl (by omega) (by omega) (by omega)
def tv:List Bk->Int->Int
 | [],s=>s
 | b::l,s=>tv l (s+b.size)
theorem CI{t:Nat}:∀n i,t-i<=n->mvd ws i t=true->∃g:List Bk,(∀b∈g,b.kind=1/\b.mark=false/\cK ws b=true/\2<=b.size/\b.size<=10/\0<=b.typ/\b.typ<8)/\tv g i=(t:Int)/\g.length<=t-i /\
 ∀xs l,(∀j,i<=j->j<t->wd xs j=wd ws j)->t<=xs.length->blocks xs t=some l->blocks xs i=some (g++l):=by
 intro n
 induction n with
 | zero =>intro i h c;rw[jY (by omega),kqw] at c;subst c;exact⟨[],(λb f=>by cases f),rfl,kqy _,λxs l _ _ k=>k⟩
 | succ n ih =>
  intro i h c;by_cases B:t<=i
  .rw[jY B,kqw] at c;subst c;exact⟨[],(λb f=>by cases f),rfl,kqy _,λxs l _ _ k=>k⟩
  cases a:mdOk ws i with
  | false=>rw[sN (by omega) a] at c;cases c
  | true =>
   rw[kH (by omega) a] at c;have hsz:=lB a;have hle:i+szAt ws i<=t:=by
    rcases kq6 t (i+szAt ws i) with r|r
    .rw[jY (by omega),kqw] at c;omega
    exact r
   obtain⟨g,y,D,o3,C⟩:=ih (i+szAt ws i) (by omega) c;unfold mdOk at a;simp only[kqo,kqw,kx6] at a;obtain⟨d,x,o,m⟩:=a;have hhd:=(bt _).1 (show jO (ar (wd ws i))=true by unfold aM at d;simp only[kqo] at d;exact d.1);refine⟨bkAt ws i::g,λb f=>?_,?_,by rw[kq1];omega,λxs l u q k=>?_⟩
   .rcases kqt.1 f with rfl|f
    .have e:(bkAt ws i).size=((szAt ws i:Nat):Int):=rfl;have w:(bkAt ws i).typ=(ar (wd ws i)).typ:=rfl;refine⟨x,o,?_,by omega,by omega,by omega,by omega⟩;unfold cK at m |-;exact m
    exact y b f
   .show tv g (i+(szAt ws i:Nat))=_;rw[<-D];congr 1
   have p:wd xs i=wd ws i:=u i (kqa _) (by omega);have s:wd xs (i+1)=wd ws (i+1):=u (i+1) (by omega) (by omega);have z:szAt xs i=szAt ws i:=by unfold szAt;rw[p]
   have w:bkAt xs i=bkAt ws i:=by unfold bkAt;rw[p,s]
   have v:stands xs i=true:=by unfold stands;rw[p,d,kzx,kzc];have:(ar (wd ws i)).size=((szAt ws i:Nat):Int):=rfl;omega
   rw[aP (by omega) v,z,w,C xs l (λj r A=>u j (by omega) A) q k];rfl
theorem AD(h:el ws=0):∀j,wd (aj ws (dm ws)) j=if j=16\/j=17\/j=18 then 0 else if fh ws<ws.length/\j=fh ws then da (eh (ws.length-fh ws)) else if fh ws<ws.length/\j=fh ws+1 then 0 else wd ws j:=by
 obtain⟨m,-,-,-,n,q,-,o⟩:=iA h;have hb:=(ae _).1 m;have p:=(aT _).1 n;rw[<-o] at p q;intro j;have d:∀j,wd (aj ws (phE 0 0 0)) j=if j=16\/j=17\/j=18 then 0 else wd ws j:=by
  intro j;unfold phE;rw[show (16:Int)=((16:Nat):Int) from rfl,show (17:Int)=((17:Nat):Int) from rfl,show (18:Int)=((18:Nat):Int) from rfl];rw[fC 16 _ _ (by omega),fC 17 _ _ (by rw[kq4];omega),fC 18 _ _ (by rw[kq4,kq4];omega)];show wd (((ws.set 16 0).set 17 0).set 18 0) j=_;rw[l6,l6,l6];simp only[kq4];by_cases e:j=18
  .subst e;rw[if_pos ⟨rfl,by omega⟩,if_pos (by omega)]
  rw[if_neg (by omega)];by_cases i:j=17
  .subst i;rw[if_pos ⟨rfl,by omega⟩,if_pos (by omega)]
  rw[if_neg (by omega)];by_cases g:j=16
  .subst g;rw[if_pos ⟨rfl,by omega⟩,if_pos (by omega)]
  rw[if_neg (by omega),if_neg (by omega)]
 have f:dm ws=phE 0 0 0++(if fh ws=ws.length then [] else [⟨(fh ws:Int),da (eh (ws.length-fh ws))⟩,⟨((fh ws+1:Nat):Int),0⟩]):=by simp[dm,h]
 rw[f,eI];have b:(aj ws (phE 0 0 0)).length=ws.length:=av _ _;by_cases c:fh ws=ws.length
 .rw[if_pos c];show wd (aj ws (phE 0 0 0)) j=_;rw[d];by_cases a:j=16\/j=17\/j=18
  .rw[if_pos a,if_pos a]
  rw[if_neg a,if_neg a,if_neg (λh=>absurd h.1 (by omega)),if_neg (λh=>absurd h.1 (by omega))]
 rw[if_neg c,fC _ _ _ (by rw[b];omega),fC _ _ _ (by rw[kq4,b];omega)];show wd (((aj ws (phE 0 0 0)).set _ _).set _ _) j=_;rw[l6,l6,d,kq4,b];by_cases l:j=fh ws+1
 .subst l;rw[if_pos ⟨rfl,by omega⟩,if_neg (by omega),if_neg (by omega),if_pos ⟨by omega,rfl⟩]
 rw[if_neg (by omega)];by_cases k:j=fh ws
 .subst k;rw[if_pos ⟨rfl,by omega⟩,if_neg (by omega),if_pos ⟨by omega,rfl⟩]
 rw[if_neg (by omega)];by_cases a:j=16\/j=17\/j=18
 .rw[if_pos a,if_pos a]
 rw[if_neg a,if_neg a,if_neg (λh=>k h.2),if_neg (λh=>l h.2)]
def C8 (ws:List Nat):List Bk:=if fh ws=ws.length then [] else [{ eh (ws.length-fh ws) with at_:=(fh ws:Int) }]
theorem zm(h:el ws=0):∃i:List Bk,(∀b∈i,b.kind=1/\b.mark=false/\2<=b.size/\b.size<=10)/\tv i 128=(fh ws:Int)/\i.length<=2048/\ah (aj ws (dm ws))=0 /\
 af (aj ws (dm ws))=i++C8 ws/\blocks (aj ws (dm ws)) 128=some (i++C8 ws)/\cF (aj ws (dm ws))=0/\lnV (aj ws (dm ws))=phV 0 0 0/\eG (i++C8 ws)=[]/\(aj ws (dm ws)).length=ws.length:=by
 obtain⟨K,-,H,-,W,Z,o,X⟩:=iA h;have hb:=(ae _).1 K;have Y:=(aT _).1 W;have c:=AD h;have g:(aj ws (dm ws)).length=ws.length:=av _ _;have E:=sP h;rw[<-X] at Z Y o;obtain⟨i,v,o2,o3,o4⟩:=CI _ 128 (kqa _) o;generalize aj ws (dm ws)=x at c g |-;have w:blocks x (fh ws)=some (C8 ws):=by
  unfold C8;by_cases l:fh ws=ws.length
  .rw[if_pos l,aE (by omega)]
  rw[if_neg l];have q:=E l;have C:wd x (fh ws)=da (eh (ws.length-fh ws)):=by rw[c,if_neg (by omega),if_pos ⟨by omega,rfl⟩]
  have V:wd x (fh ws+1)=0:=by rw[c,if_neg (by omega),if_neg (λh=>absurd h.2 (by omega)),if_pos ⟨by omega,rfl⟩]
  have e:=mw q;have N:szAt x (fh ws)=ws.length-fh ws:=by have S:(ar (wd x (fh ws))).size=((szAt x (fh ws):Nat):Int):=rfl;rw[C,e] at S;have e3:(eh (ws.length-fh ws)).size=((ws.length-fh ws:Nat):Int):=rfl;dsimp only at S;omega
  have L:stands x (fh ws)=true:=by unfold stands;rw[C,n9 q,kzx,kzc,e];show ((ws.length-fh ws:Nat):Int)<=_;omega
  rw[aP (by omega) L,N,aE (by omega)];have P:bkAt x (fh ws)={ eh (ws.length-fh ws) with at_:=(fh ws:Int) }:=by unfold bkAt;rw[C,e,V];rfl
  rw[P];rfl
 have d:=o4 x (C8 ws) (λj h1 h2=>by rw[c,if_neg (by omega),if_neg (λh=>absurd h.2 (by omega)),if_neg (λh=>absurd h.2 (by omega))]) (by omega) w;have r:(i++C8 ws).all (du x)=true:=by
  rw[kzo];intro b a;rcases kzu.1 a with a|a
  .obtain ⟨U,Q,J,R,T,g6,g7⟩:=v b a;unfold du cK;unfold cK at J;have hty:tyA b+1<128:=by unfold tyA;omega
   rw[c (tyA b),c (tyA b+1)];have hty2:96<=tyA b:=by unfold tyA;omega
   rw[if_neg (by omega),if_neg (λh=>absurd h.2 (by omega)),if_neg (λh=>absurd h.2 (by omega)),if_neg (by omega),if_neg (λh=>absurd h.2 (by omega)),if_neg (λh=>absurd h.2 (by omega)),J,kvh]
  unfold C8 at a;split at a
  .cases a
  rw[kqx] at a;subst a;rfl
 obtain⟨p1,p2⟩:=fM (by rw[g];exact K) d r;obtain⟨-,B,A,F,M,z⟩:=(bq ws).1 H;have n:∀j,j<24->(j=16\/j=17\/j=18)/\wd x j=0\/wd x j=wd ws j:=by
  intro j hj;rw[c];by_cases s:j=16\/j=17\/j=18
  .left;exact⟨s,by rw[if_pos s]⟩
  right;rw[if_neg s,if_neg (λh=>absurd h.2 (by omega)),if_neg (λh=>absurd h.2 (by omega))]
 have f:wd x 16=0:=by rw[c,if_pos (by omega)]
 have m:wd x 17=0:=by rw[c,if_pos (by omega)]
 have k:wd x 18=0:=by rw[c,if_pos (by omega)]
 have t:wd x 19=0:=by rcases n 19 (by omega) with h|h;exact h.2;rw[h];exact B
 have I:wd x 20=0:=by rcases n 20 (by omega) with h|h;exact h.2;rw[h];exact A
 have y:wd x 21=0:=by rcases n 21 (by omega) with h|h;exact h.2;rw[h];exact F
 have u:wd x 22=0:=by rcases n 22 (by omega) with h|h;exact h.2;rw[h];exact M
 have G:wd x 23=0:=by rcases n 23 (by omega) with h|h;exact h.2;rw[h];exact z
 have D:iY x=true:=by rw[bq,f,m,k];exact⟨⟨by omega,by omega,by omega⟩,t,I,y,u,G⟩
 have O:=(mm (ws:=x) (by rw[g];exact K) (by rw[D,f,m,k];rfl)).1;have p:cF x=0:=by unfold cF;rw[if_pos O,if_neg (by rw[f];omega)]
 refine⟨i,λb a=>?_,o2,by omega,p1,p2,d,p,by simp[lnV,p,f,m,k],?_,g⟩
 .obtain ⟨U,Q,J,R,T,g6,g7⟩:=v b a;exact⟨U,Q,R,T⟩
 unfold eG;rw[List.map_eq_nil_iff,kku];intro b a;rcases kzu.1 a with a|a
 .rw[(v b a).2.1];simp
 unfold C8 at a;split at a
 .cases a
 rw[kqx] at a;subst a;simp[eh]
open Go.RowKit
noncomputable def cJ (x:List Nat):Int × Bool × List En:=if (ag x).1=6 then (if wd x 16=0 then (0,true,[]) else (el x,false,dm x)) else ((ag x).1,false,(ag x).2)
theorem qQ(ws:List Nat)(f s:Int):aW ws f s≠6:=by
 unfold aW lq;split
 .split
  .decide
  split
  .decide
  split<;>decide
 decide
theorem xR(x:List Nat):aw x≠6:=by
 unfold aw;split
 .split
  .split
   .exact qQ _ _ _
   decide
  split
  .exact qQ _ _ _
  rcases yO x with h|h|h<;>rw[h]<;>decide
 rcases Bh x with h|h|h<;>rw[h]<;>decide
theorem EA(h:(ag x).1=6):aw x=0:=by
 by_cases a:aw x=0
 .exact a
 unfold ag at h;rw[if_neg a] at h;exact absurd h (xR x)
theorem rs_ck(h:(cJ x).1=0):aw x=0:=by
 by_cases b:(ag x).1=6
 .exact EA b
 unfold cJ at h;rw[if_neg b] at h;by_cases a:aw x=0
 .exact a
 unfold ag at h;rw[if_neg a] at h;exact absurd h a
theorem yI(x:List Nat)(h:ah x=0):2*(af x).length+128<=x.length:=by obtain⟨b,l,a,-,c⟩:=ay h;have hb:=(ae _).1 b;rw[c];exact (cd (by omega) _ _ a (by omega) (by omega) (by omega)).1
theorem vS{α:Type}{p q:α->Bool}:∀ {l:List α},(∀b∈l,q b=true->p b=true)->∀ {d a:α},d∈l->a∈l->d≠a->p d=true->q d=false->p a=true->q a=false->(l.filter q).length+2<=(l.filter p).length:=by
 intro l
 induction l with
 | nil=>intro _ d a h;exact absurd h (by simp)
 | cons c l ih =>
  intro h d a w r f i k m n;have o:=λx t=>h x (kx2 _ t);rw[kjg,kjg];rcases kqt.1 w with rfl|s
  .rw[i,k];have g:a∈l:=by
    rcases kqt.1 r with e|j
    .exact absurd e.symm f
    exact j
   have:=(mO o).2 ⟨a,g,m,n⟩;simp only[if_true,if_false,kzs,kq1];omega
  rcases kqt.1 r with rfl|j
  .rw[m,n];have:=(mO o).2 ⟨d,s,i,k⟩;simp only[if_true,if_false,kzs,kq1];omega
  have:=ih o s j f i k m n;have v:=h c (by simp);cases u:q c with
  | true=>rw[v u];simp only[if_true,kq1];omega
  | false=>cases hp:p c<;>simp only[if_true,if_false,kzs,kq1]<;>omega
theorem yx{l:List Bk}(h:l.Pairwise (λa b=>a.at_<b.at_)){a b:Bk}(ha:a∈l)(hb:b∈l)(e:a.at_=b.at_):a=b:=by
 obtain⟨i,d,rfl⟩:=kq2 ha;obtain⟨j,f,rfl⟩:=kq2 hb;rw[kze] at h;rcases kjz i j with c|c|c
 .have:=h i j d f c;omega
 .subst c;rfl
 have:=h j i f d c;omega
theorem xp(h:aA ws=0)(h32:32<=(aL ws).length):(aL (aj ws ((aL ws).take 31))).length+2<=(aL ws).length:=by
 have c:((aL ws).take 31).Sublist (aL ws):=kjj _ _;have s:((aL ws).take 31).Pairwise (λa b=>a.a<b.a):=(dx h).sublist c;obtain⟨R,g2,Q,g4,O⟩:=(iH h c).same h;rw[d6 R,Q,O,kz2,d6 h,kz2];rw[<-d6 h];obtain⟨x,y⟩:=xq (aj ws ((aL ws).take 31));rw[y];unfold lu;rw[List.filter_map,kz2];have j:=b8 (aC h).1;have A:∀b∈af ws,(∀e∈(aL ws).take 31,e.a≠b.at_)->(mkB x b).mark=b.mark:=by intro b v z;obtain⟨a,rfl,a1,a2,a3,a4⟩:=j.1 b v;show qm x (bkAt ws a).at_.toNat=_;rw[ab,kqi];unfold qm;rw[<-y,aQ _ _ _ (λe m=>by have:=z e m;rwa [ab] at this)];rfl
 have g:∀i,i<31->∃b∈af ws,b.at_=((aL ws)[i]?.map En.a).getD 0/\(!eJ (seenL ws) b)=true/\(!(eJ (seenL ws) (mkB x b)))=false:=by
  intro i hi;have r:i<((aL ws).take 31).length:=by rw[kq3];omega
  have m:=kqp r;have D:(aL ws)[i]? = some ((aL ws).take 31)[i]:=by rw[kka,kql (by omega)]
  obtain⟨a,o,F,J,G,u,t,k,f⟩:=dH h (c.subset m);refine⟨bkAt ws a,o,by rw[D,k,ab];rfl,by rw[f];rfl,?_⟩;have d:=dX _ ws s _ m (by rw[k];dsimp only;omega) (by rw[k];dsimp only;omega);rw[k] at d;dsimp only at d;rw[kqi,y] at d;unfold eJ;show (!((mkB x (bkAt ws a)).mark==((seenL ws)[(bkAt ws a).at_.toNat]?.getD false)))=false;have C:(mkB x (bkAt ws a)).mark=eQ ws (bkAt ws a):=by show qm x (bkAt ws a).at_.toNat=_;rw[ab,kqi];unfold qm;rw[d,(iC u t _).2.1]
  rw[C];unfold eQ;simp
 obtain⟨M,H,E,I,L⟩:=g 0 (by omega);obtain⟨S,P,k,K,N⟩:=g 1 (by omega);have B:M≠S:=by rintro rfl;have n:=dx h;rw[kze] at n;have:=n 0 1 (by omega) (by omega) (by omega);rw[kql (by omega)] at E k;simp only[kzt,kq8] at E k;omega
 refine vS (p:=λb=>!eJ (seenL ws) b) (q:=(λb=>!eJ (seenL ws) b) ∘ mkB x) (λb v l=>?_) H P B I L K N;dsimp only[Function.comp_apply] at l |-;cases w:eJ (seenL ws) b with
 | false=>rfl
 | true =>
  exfalso;have o:=A b v (λe m n=>by
   obtain⟨a,o,F,J,G,u,t,rfl,f⟩:=dH h (c.subset m);dsimp only at n;have:bkAt ws a=b:=yx j.2 o v (by rw[ab];exact n);rw[this,w] at f;cases f)
  unfold eJ at w l;rw[o] at l
  change (!(b.mark==((seenL ws)[b.at_.toNat]?.getD false)))=true at l
  rw[w] at l;exact absurd l (by decide)
theorem zU{xs:List Nat}:∀ {l:List Bk} {s:Int},l.Pairwise (λa b=>a.at_<b.at_)->(∀b∈l,0<=b.at_)->(∀b∈l,b.kind=1->wd xs (b.at_.toNat+1)=b.next\/∃e∈aN l s,e.a=b.at_+1/\wd xs (b.at_.toNat+1)=e.v) ->
 (aN (l.map (nxB xs)) s).length+((aN l s).filter (λe=>wd xs e.a.toNat==e.v)).length<=(aN l s).length:=by
 intro l
 induction l with
 | nil=>intro s _ _ _;exact kqa _
 | cons b l ih =>
  intro s m x w;rw[kj7] at m;have g:∀c∈l,c.kind=1->wd xs (c.at_.toNat+1)=c.next\/∃e∈aN l (eU b s),e.a=c.at_+1/\wd xs (c.at_.toNat+1)=e.v:=by
   intro c k f;rcases w c (by simp[k]) f with j|⟨e,d,p,q⟩
   .exact .inl j
   simp only[aN,kzu] at d;rcases d with d|d
   .split at d
    .rw[kqx] at d;subst d;dsimp only at p;have:=m.1 c k;omega
    simp at d
   exact .inr ⟨e,d,p,q⟩
  have i1:=ih (s:=eU b s) m.2 (λc k=>x c (by simp[k])) g;have hb0:=x b (by simp);rw[kx9];simp only[aN];have A:eU (nxB xs b) s=eU b s:=rfl;have B:bu (nxB xs b) s=bu b s:=rfl;rw[A,B,kxx,kqs,kqs,kqs];have t:(nxB xs b).next=wd xs (b.at_.toNat+1):=rfl;have r:(nxB xs b).kind=b.kind:=rfl;have o:(nxB xs b).at_=b.at_:=rfl;have i:b.kind=1->wd xs (b.at_.toNat+1)=b.next\/wd xs (b.at_.toNat+1)=bu b s:=by
   intro f;rcases w b (by simp) f with j|⟨e,d,p,q⟩
   .exact .inl j
   simp only[aN,kzu] at d;rcases d with d|d
   .split at d
    .rw[kqx] at d;subst d;exact .inr q
    simp at d
   obtain⟨c,k,-,h4⟩:=fU d;have:=m.1 c k;omega
  have y:(b.at_+1).toNat=b.at_.toNat+1:=by omega
  have hle:(if (nxB xs b).kind=1/\(nxB xs b).next≠bu b s then [(⟨(nxB xs b).at_+1,bu b s⟩:En)] else []).length+((if b.kind=1/\b.next≠bu b s then [(⟨b.at_+1,bu b s⟩:En)] else []).filter (λe=>wd xs e.a.toNat==e.v)).length<=(if b.kind=1/\b.next≠bu b s then [(⟨b.at_+1,bu b s⟩:En)] else []).length:=by
   rw[t,r,o];by_cases f:b.kind=1
   .by_cases u:b.next=bu b s
    .have z:wd xs (b.at_.toNat+1)=bu b s:=by
      rcases i f with j|j
      .rw[j];exact u
      exact j
     rw[if_neg (show ¬ (b.kind=1/\b.next≠bu b s) from λh=>h.2 u),if_neg (show ¬ (b.kind=1/\wd xs (b.at_.toNat+1)≠bu b s) from λh=>h.2 z)];exact kqa _
    rw[if_pos (show b.kind=1/\b.next≠bu b s from ⟨f,u⟩)];by_cases n:wd xs (b.at_.toNat+1)=bu b s
    .rw[if_neg (λh=>h.2 n)];simp[y,n]
    rw[if_pos ⟨f,n⟩];have:(wd xs (b.at_+1).toNat==bu b s)=false:=by rw[y,kqj];exact n
    simp[this]
   rw[if_neg (λh=>f h.1),if_neg (λh=>f h.1)];exact kqa _
  omega
theorem Dx(h:ah ws=0)(h32:32<=(aD ws).length):(aD (aj ws ((aD ws).take 31))).length+2<=(aD ws).length:=by
 obtain⟨D,B,i3⟩:=nW h;have w:aD ws=aN (af ws) 128:=rt h;have f:=b8 h;have c:((aD ws).take 31).Sublist (aD ws):=kjj _ _;have m:((aD ws).take 31).Pairwise (λa b=>a.a<b.a):=D.sublist c;have k:∀e∈aD ws,∃a:Nat,e.a=((a+1:Nat):Int)/\a%2=0/\128<=a:=by intro e d;rw[w] at d;obtain⟨b,g,-,C⟩:=fU d;obtain⟨a,rfl,r,q,-⟩:=f.1 b g;exact⟨a,by rw[C,ab];rfl,q,r⟩
 have t:Ev ws (aj ws ((aD ws).take 31)):=by refine⟨av _ _,λi hi=>aQ _ _ _ λe d n=>?_⟩;obtain⟨a,o,r,q⟩:=k e (c.subset d);omega
 obtain⟨E,y⟩:=t.heap h;have u:aD (aj ws ((aD ws).take 31))=aN ((af ws).map (nxB (aj ws ((aD ws).take 31)))) 128:=by rw[rt E,y]
 rw[u];have j:∀e∈(aD ws).take 31,wd (aj ws ((aD ws).take 31)) e.a.toNat=e.v:=λe d=>by
  have hin:=B _ (c.subset d);exact dX _ ws m _ d (by omega) (by omega)
 have p:=zU (xs:=aj ws ((aD ws).take 31)) (l:=af ws) (s:=128) f.2 (λb g=>by obtain⟨a,rfl,-⟩:=f.1 b g;rw[ab];omega) (λb g hk=>by
  obtain⟨a,rfl,r,q,a3,z⟩:=f.1 b g;have hsz:=aG z;rw[ab,kqi];by_cases x:∃e∈(aD ws).take 31,e.a=((a+1:Nat):Int)
  .obtain ⟨e,d,o⟩:=x;refine .inr ⟨e,by rw[<-w];exact c.subset d,by rw[o];omega,?_⟩;have:=j e d;rw[o,kqi] at this;exact this
  exact .inl (by rw[aQ _ _ _ (λe d n=>x ⟨e,d,n⟩)];rfl))
 rw[<-w] at p;have hfl:31<=((aD ws).filter (λe=>wd (aj ws ((aD ws).take 31)) e.a.toNat==e.v)).length:=by
  have A:(aD ws).take 31=((aD ws).take 31).filter (λe=>wd (aj ws ((aD ws).take 31)) e.a.toNat==e.v):=by symm;rw[kvd];intro e d;rw[kqw];exact j e d
  have n:=(c.filter (λe=>wd (aj ws ((aD ws).take 31)) e.a.toNat==e.v)).length_le;rw[<-A,kq3] at n;omega
 omega
theorem F8(hck:aw x=0)(p3:wd x 16=3)(h:(sgFix x).1=0):
 (wd (aj x (sgFix x).2) 16=3/\wd (aj x (sgFix x).2) 17<=x.length/\(wd x 17=0->wd (aj x (sgFix x).2) 17=128)/\(wd x 17≠0->wd x 17+2<=wd (aj x (sgFix x).2) 17))\/(wd (aj x (sgFix x).2) 16=4/\wd (aj x (sgFix x).2) 17=128/\wd x 17≠0):=by
 obtain⟨-,B,A,hph⟩:=cC hck;have hb:=(ae _).1 B;obtain⟨⟨l1,v,l3⟩,-⟩:=(bq x).1 A;by_cases z:wd x 17=0
 .have d:ei x=0:=by
   by_cases j:ei x=0
   .exact j
   unfold sgFix at h;rw[if_pos z,if_neg j] at h;exact absurd h j
  have i:sgFix x=(0,⟨17,128⟩::dK x):=by unfold sgFix;rw[if_pos z,if_pos d]
  obtain⟨-,-,-,-,-,-,-,o,y,q3,-⟩:=jE d;obtain⟨t,k,p,c,b,r⟩:=jf (f:=128) (l:=dK x) hck p3 (by decide) (by omega) (by omega) (by omega) y (λe a=>by have:=(o e a).1;omega) (λe a=>(o e a).2);rw[i];exact .inl ⟨c,by rw[b];omega,λ_=>b,λg=>absurd z g⟩
 have i:sgFix x=kM x (wd x 17):=by unfold sgFix;rw[if_neg z]
 have u:(kM x (wd x 17)).1=0:=by rw[<-i];exact h
 rcases oA x.length (wd x 17) (by omega) v u with g|⟨m,m1,m2,m3,m4,m5,n,s,C⟩
 .rw[i,g];obtain⟨t,k,p,c,b,r⟩:=gz hck p3;exact .inr ⟨c,b,z⟩
 obtain⟨f,-,-,-,-,q5,-,-,-,w⟩:=iz s;have q:=D5 s;obtain⟨t,k,p,c,b,r⟩:=jf (f:=m+szAt x m) (l:=cr x (m:Int)) hck p3 ((aT _).2 (by omega)) n (by omega) (by omega) w (λe a=>by have:=q e a;omega) (λe a=>by have:=q e a;omega);rw[i,C];exact .inl ⟨c,by rw[b];exact n,λg=>absurd g z,λ_=>by rw[b];omega⟩
theorem zX(ho:∀v∈x,v<18446744073709551616)(hck:aw x=0)(p4:wd x 16=4)(h:(sgSld x).1=0):
 wd (aj x (sgSld x).2) 16=4/\wd (aj x (sgSld x).2) 17<=x.length/\wd x 17+2<=wd (aj x (sgSld x).2) 17:=by
 obtain⟨-,G,F,o⟩:=cC hck;have hb:=(ae _).1 G;obtain⟨⟨l1,l2,l3⟩,-⟩:=(bq x).1 F;have c:a9 x ((wd x 17:Nat):Int)=0:=by
  by_cases d:a9 x ((wd x 17:Nat):Int)=0
  .exact d
  unfold sgSld at h;rw[if_neg d] at h;exact absurd h (by decide)
 obtain⟨-,a1,a2,m,y,m1,m2,m3,m4,m5,m6,m7,m8,-⟩:=fu c;have b:dA x (m:Int) ((wd x 18:Nat):Int)=0:=by
  by_cases d:dA x (m:Int) ((wd x 18:Nat):Int)=0
  .exact d
  unfold sgSld at h;rw[if_pos c,y,ab,if_neg d] at h;exact absurd h d
 have E:sgSld x=(0,⟨17,m+szAt x m⟩::⟨18,wd x 18+szAt x m⟩::jM x m (wd x 18)):=by unfold sgSld;rw[if_pos c,y,ab,if_pos b,bC,show ((m:Int)+((szAt x m:Nat):Int)).toNat=m+szAt x m by omega,show (((wd x 18:Nat):Int)+((szAt x m:Nat):Int)).toNat=wd x 18+szAt x m by omega];unfold iW;rw[if_pos b,kqi,kqi]
 obtain⟨a,u,n,z,s,B,n2,n10,hu,hua,han,hst,hlv,-,-,q⟩:=gj b;have z:a=m:=by omega
 have s:u=wd x 18:=by omega
 subst z s;subst B;have p:=(cG _ _ _).1 o;have g:lz (wd x 17)=true/\lz (wd x 18)=true/\wd x 18<=wd x 17:=by
  rcases p with r|r|r
  .exact r.2
  .omega
  omega
 have i1:=(aT _).1 g.1;have i2:=(aT _).1 g.2.1;rw[E];obtain⟨g1,g2,g3,C,w,g6⟩:=nm (f:=a+szAt x a) (t:=wd x 18+szAt x a) (l:=jM x a (wd x 18)) hck p4 ((aT _).2 (by omega)) ((aT _).2 (by omega)) (by omega) (by omega) (by omega) (by omega) (by rw[iP];omega) (by
  rw[kze];intro i j hi hj hij;rw[ge,ge];omega) (λe D=>by
  obtain⟨k,A,rfl⟩:=kq2 D;rw[ge];rw[iP] at A;omega) (rR ho q)
 exact⟨C,by rw[w];omega,by rw[w];omega⟩
noncomputable def rzM (x:List Nat):Nat:=
 if wd x 16=1 then (aL x).length/2+1+((x.length-128)/2/2+1)+((x.length-128)/2+2)+((x.length-128)/2+1)
 else if wd x 16=2 then (aD x).length/2+1+((x.length-128)/2+2)+((x.length-128)/2+1)
 else if wd x 16=3 then (if wd x 17=0 then (x.length-128)/2+2 else (x.length-wd x 17)/2+1)+((x.length-128)/2+1)
 else if wd x 16=4 then (x.length-wd x 17)/2+1 else 0
theorem Bw(x:List Nat)(hs:128<=x.length):(aD x).length<=(x.length-128)/2:=by
 by_cases h:ah x=0
 .rw[rt h];have h1:=mI (af x) 128;have h2:=yI x h;omega
 unfold aD;rw[if_neg h];simp
theorem Gl(x:List Nat)(hs:128<=x.length):(aL x).length<=(x.length-128)/2:=by
 by_cases h:aA x=0
 .rw[d6 h,kz2];have h1:=pV (seenL x) (af x);have h2:=yI x (aC h).1;omega
 unfold aL;rw[if_neg h];simp
theorem CG(ho:∀v∈x,v<18446744073709551616)(h:(ag x).1=0):rzM (aj x (ag x).2)<rzM x:=by
 obtain⟨a,-,-,-,-,k6,-,-⟩:=l8 ho h;obtain⟨-,H,G,r⟩:=cC a;have hb:=(ae _).1 H;obtain⟨⟨l1,l2,l3⟩,-⟩:=(bq x).1 G;have t:=(cG _ _ _).1 r;have k:(aj x (ag x).2).length=x.length:=av _ _;have d:=Bw (aj x (ag x).2) (by omega);rw[k] at d;unfold rzM;rw[k];by_cases c:wd x 16=1
 .have f:aA x=0:=by
   by_cases n:aA x=0
   .exact n
   unfold ag at h;rw[if_pos a,if_pos c,if_neg n] at h;exact absurd h n
  have e:ag x=(0,ir (aL x) 2):=by unfold ag;rw[if_pos a,if_pos c,if_pos f]
  obtain⟨u,w⟩:=pn f;obtain⟨J,B,F,g,o,q⟩:=fA a c (.inl rfl) (dx f) (λy C=>by
   obtain⟨i,E⟩:=kjt.1 C;exact u i y E) (oO f)
  simp only[Nat.reduceAdd] at g;rw[e] at d |-;dsimp only at d |-;rw[if_pos c,g];by_cases b:32<=(aL x).length
  .have D:=xp f b;rw[if_pos b,if_pos rfl,cm b];omega
  rw[if_neg b,if_neg (by decide),if_pos rfl];omega
 by_cases j:wd x 16=2
 .have l:ah x=0:=by
   by_cases n:ah x=0
   .exact n
   unfold ag at h;rw[if_pos a,if_neg c,if_pos j,if_neg n] at h;exact absurd h n
  have e:ag x=(0,ir (aD x) 3):=by unfold ag;rw[if_pos a,if_neg c,if_pos j,if_pos l]
  obtain⟨u,w,A⟩:=nW l;obtain⟨J,B,F,g,o,q⟩:=fA a j (.inr rfl) u w A;simp only[Nat.reduceAdd] at g o;rw[e] at d |-;dsimp only at d |-;rw[if_neg c,if_pos j,g,o];by_cases b:32<=(aD x).length
  .have D:=Dx l b;rw[if_pos b,if_neg (by decide),if_pos rfl,cm b];omega
  rw[if_neg b,if_neg (by decide),if_neg (by decide),if_pos rfl,if_pos rfl];omega
 by_cases p:wd x 16=3
 .have e:ag x=sgFix x:=by unfold ag;rw[if_pos a,if_neg c,if_neg j,if_pos p]
  rw[e] at h |-;have hF:wd x 17=0\/128<=wd x 17:=by
   rcases t with m|⟨-,-,m⟩|m
   .omega
   .rcases m with m|m
    .exact .inl m
    exact .inr ((aT _).1 m).1
   omega
  rcases F8 a p h with⟨g,o,q,I⟩|⟨g,o,q⟩
  .rw[g,if_neg (by decide),if_neg (by decide),if_pos rfl,if_neg c,if_neg j,if_pos p];by_cases z:wd x 17=0
   .rw[if_pos z,q z,if_neg (by decide)];omega
   have:=I z;rw[if_neg z,if_neg (by omega)];omega
  rw[g,o,if_neg (by decide),if_neg (by decide),if_neg (by decide),if_pos rfl,if_neg c,if_neg j,if_pos p,if_neg q];omega
 have s:wd x 16=4:=by omega
 have e:ag x=sgSld x:=by unfold ag;rw[if_pos a,if_neg c,if_neg j,if_neg p,if_pos s]
 rw[e] at h |-;obtain⟨g,o,q⟩:=zX ho a s h;rw[g,if_neg (by decide),if_neg (by decide),if_neg (by decide),if_pos rfl,if_neg c,if_neg j,if_neg p,if_pos s];omega
theorem Eu(hs:ap (x.length:Int)=true):rzM x<=(x.length-128)/2*3+5:=by
 have hb:=(ae _).1 hs;have h1:=Gl x (by omega);have h2:=Bw x (by omega);unfold rzM;by_cases a:wd x 16=1
 .rw[if_pos a];omega
 rw[if_neg a];by_cases c:wd x 16=2
 .rw[if_pos c];omega
 rw[if_neg c];by_cases b:wd x 16=3
 .rw[if_pos b];split
  .omega
  have:(x.length-wd x 17)/2<=x.length/2:=by omega
  omega
 rw[if_neg b];split<;>omega
theorem t6(h:el x=0):Small x.length (dm x)/\wd (aj x (dm x)) 16=0:=by
 obtain⟨g,-,-,-,i,f,-,j⟩:=iA h;have hb:=(ae _).1 g;have d:=(aT _).1 i;rw[<-j] at d f;refine⟨?_,by rw[AD h,if_pos (.inl rfl)]⟩;unfold dm;rw[if_pos h];have b:=λb=>oZ (sP h b);generalize fh x=t at d f b;have c:phE 0 0 0=[⟨16,0⟩,⟨17,0⟩,⟨18,0⟩]:=rfl;rw[c];by_cases a:t=x.length
 .rw[if_pos a];refine⟨by decide,by decide,by simp,λe a=>?_,λe a=>?_⟩ <;>
  .simp only[kzr,kqt,kzb,or_false] at a;rcases a with rfl|rfl|rfl<;>(dsimp only;omega)
 have hv:=b a;rw[if_neg a];refine⟨by simp,by simp,?_,λe a=>?_,λe a=>?_⟩
 .simp only[kzg,kzv,kj7,kqt,kzb,or_false,forall_eq_or_imp,forall_eq,List.Pairwise.nil,and_true,false_implies,implies_true];omega
 .simp only[kzg,kzv,kqt,kzb,or_false] at a;rcases a with rfl|rfl|rfl|rfl|rfl<;>(dsimp only;omega)
 simp only[kzg,kzv,kqt,kzb,or_false] at a;rcases a with rfl|rfl|rfl|rfl|rfl<;>(dsimp only;omega)
theorem rS(ho:∀v∈x,v<18446744073709551616)(h:(cJ x).1=0)(hd:(cJ x).2.1=false):Small x.length (cJ x).2.2/\(∀v∈aj x (cJ x).2.2,v<18446744073709551616)/\rzM (aj x (cJ x).2.2)<rzM x:=by
 by_cases a:(ag x).1=6
 .by_cases b:wd x 16=0
  .unfold cJ at hd;rw[if_pos a,if_pos b] at hd;cases hd
  have e:cJ x=(el x,false,dm x):=by unfold cJ;rw[if_pos a,if_neg b]
  rw[e] at h |-;dsimp only at h |-;obtain⟨c,d⟩:=t6 h;refine⟨c,si _ _ ho c.val,?_⟩;have f:wd x 16=4:=(iA h).2.2.2.1;unfold rzM;rw[d,if_neg (by decide),if_neg (by decide),if_neg (by decide),if_neg (by decide),f,if_neg (by decide),if_neg (by decide),if_neg (by decide),if_pos rfl];omega
 have e:cJ x=((ag x).1,false,(ag x).2):=by unfold cJ;rw[if_neg a]
 rw[e] at h |-;dsimp only at h |-;exact⟨(l8 ho h).2.1,dr ho h,CG ho h⟩
noncomputable def rsG:Nat->List Nat->Int × List (List En) × List Nat
 | 0,x=>(0,[],x)
 | f+1,x=>if (cJ x).1=0 then (if (cJ x).2.1=true then (0,[],x)
  else if (rsG f (aj x (cJ x).2.2)).1=0 then (0,(cJ x).2.2::(rsG f (aj x (cJ x).2.2)).2.1,(rsG f (aj x (cJ x).2.2)).2.2) else ((rsG f (aj x (cJ x).2.2)).1,[],[]))
  else ((cJ x).1,[],[])
theorem BS:∀ {f g:Nat} {x:List Nat},(∀v∈x,v<18446744073709551616)->rzM x<f->rzM x<g->rsG f x=rsG g x:=by
 intro f
 induction f with
 | zero=>intro g x _ h;omega
 | succ f ih =>
  intro g x c hf hg;cases g with
  | zero=>omega
  | succ g =>
   simp only[rsG];by_cases a:(cJ x).1=0
   .cases d:(cJ x).2.1 with
    | true=>simp only[if_true]
    | false =>obtain⟨-,b,h3⟩:=rS c a d;rw[ih (g:=g) b (by omega) (by omega)]
   simp only[a,if_false]
noncomputable def rsE (x:List Nat):Int × List (List En) × List Nat:=rsG (rzM x+1) x
theorem lK(h:(cJ x).1≠0):rsE x=((cJ x).1,[],[]):=by unfold rsE;simp only[rsG];rw[if_neg h]
theorem jH(h:(cJ x).1=0)(hd:(cJ x).2.1=true):rsE x=(0,[],x):=by unfold rsE;simp only[rsG];rw[if_pos h,if_pos hd]
theorem iK(ho:∀v∈x,v<18446744073709551616)(h:(cJ x).1=0)(hd:(cJ x).2.1=false):rsE x=(if (rsE (aj x (cJ x).2.2)).1=0 then (0,(cJ x).2.2::(rsE (aj x (cJ x).2.2)).2.1,(rsE (aj x (cJ x).2.2)).2.2) else ((rsE (aj x (cJ x).2.2)).1,[],[])):=by
 obtain⟨-,a,b⟩:=rS ho h hd;have e:rsG (rzM x) (aj x (cJ x).2.2)=rsE (aj x (cJ x).2.2):=BS a b (kjp _)
 conv=>lhs;unfold rsE
 simp only[rsG];rw[if_pos h,if_neg (by rw[hd];decide),e]
theorem ES(ho:∀v∈x,v<18446744073709551616)(h:(rsE x).1≠0):rsE x=((rsE x).1,[],[]):=by
 by_cases a:(cJ x).1=0
 .cases c:(cJ x).2.1 with
  | true=>rw[jH a c] at h;exact absurd rfl h
  | false =>
   rw[iK ho a c] at h |-;by_cases b:(rsE (aj x (cJ x).2.2)).1=0
   .rw[if_pos b] at h;exact absurd rfl h
   rw[if_neg b]
 rw[lK a]
noncomputable def ip (ws:List Nat):Int × List (List En) × List Nat:=if aw ws=0 then rsE ws else (aw ws,[],[])
def lP (ws:List Nat) (outs:List (List En)) (x:List Nat):Prop:=rsE ws=if (rsE x).1=0 then (0,outs++(rsE x).2.1,(rsE x).2.2) else ((rsE x).1,[],[])
theorem iI(ho:∀v∈ws,v<18446744073709551616):lP ws [] ws:=by
 unfold lP;by_cases h:(rsE ws).1=0
 .rw[if_pos h,kzv,<-h]
 rw[if_neg h];exact ES ho h
theorem vn{outs:List (List En)}(h:lP ws outs x)(ho:∀v∈x,v<18446744073709551616)(h0:(cJ x).1=0)(hd:(cJ x).2.1=false):lP ws (outs++[(cJ x).2.2]) (aj x (cJ x).2.2):=by
 unfold lP at h |-;rw[h,iK ho h0 hd];by_cases a:(rsE (aj x (cJ x).2.2)).1=0
 .rw[if_pos a,if_pos rfl,if_pos a];simp
 rw[if_neg a,if_neg (by exact a),if_neg a]
theorem zL{outs:List (List En)}(h:lP ws outs x)(h0:(cJ x).1=0)(hd:(cJ x).2.1=true):rsE ws=(0,outs,x):=by unfold lP at h;rw[h,jH h0 hd];simp
theorem Br{outs:List (List En)}(h:lP ws outs x)(h0:(cJ x).1≠0):rsE ws=((cJ x).1,[],[]):=by unfold lP at h;rw[h,lK h0,if_neg (by exact h0)]
theorem sh{E:List En}{outs:List (List En)}(ho:∀v∈x,v<18446744073709551616)(h:rsE x=(0,E::outs,y)):cJ x=(0,false,E)/\rsE (aj x E)=(0,outs,y):=by
 by_cases a:(cJ x).1=0
 .cases b:(cJ x).2.1 with
  | true=>rw[jH a b] at h;simp at h
  | false =>
   rw[iK ho a b] at h;by_cases c:(rsE (aj x (cJ x).2.2)).1=0
   .rw[if_pos c] at h;simp only[Prod.mk.injEq,List.cons.injEq,true_and] at h;obtain⟨⟨d,e⟩,f⟩:=h;refine⟨by rw[<-a,<-b,<-d],?_⟩;rw[<-d,<-e,<-f,<-c]
   rw[if_neg c] at h;simp at h
 rw[lK a] at h;simp at h
theorem Gd:∀ {a:List (List En)} {x y:List Nat},(∀v∈x,v<18446744073709551616)->rsE x=(0,a,y)->∀n,n<=a.length->(∀v∈stX x a n,v<18446744073709551616)/\(stX x a n).length=x.length/\rsE (stX x a n)=(0,a.drop n,y)/\(cJ (stX x a n)).1=0/\∀h:n<a.length,cJ (stX x a n)=(0,false,a[n])/\Small x.length a[n]:=by
 intro a
 induction a with
 | nil =>
  intro x y d h n e;have:n=0:=by simpa using e
  subst this;refine⟨d,rfl,h,?_,λh=>absurd h (by simp)⟩;rw[uM];by_cases f:(cJ x).1=0
  .exact f
  rw[lK f] at h;simp only[Prod.mk.injEq] at h;exact h.1
 | cons E a ih =>
  intro x y d h n e;obtain⟨c,k⟩:=sh d h;have b:=rS d (by rw[c]) (by rw[c]);rw[c] at b;cases n with
  | zero=>exact⟨d,rfl,h,by rw[uM,c],λ_=>⟨c,b.1⟩⟩
  | succ n =>rw[Ct];obtain⟨q,i,m,j,l⟩:=ih b.2.1 k n (by simpa using e);refine⟨q,by rw[i,av],m,j,λo=>?_⟩;obtain⟨p,g⟩:=l (by simpa using o);rw[av] at g;exact⟨p,g⟩
theorem xh{outs:List (List En)}(ho:∀v∈x,v<18446744073709551616)(h:rsE x=(0,outs,y)):stX x outs outs.length=y/\(cJ y).1=0/\(cJ y).2.1=true:=by
 obtain⟨d,g2,a,c,-⟩:=Gd ho h outs.length (kqa _);rw[kj5] at a;cases b:(cJ (stX x outs outs.length)).2.1 with
 | true =>rw[jH c b] at a;simp only[Prod.mk.injEq,true_and] at a;rw[a] at c b;exact⟨a,c,b⟩
 | false =>
  rw[iK d c b] at a;split at a
  .simp at a
  rename_i h1;simp only[Prod.mk.injEq] at a;exact absurd a.1 h1
theorem rs_len:∀ {a:List (List En)} {x y:List Nat},(∀v∈x,v<18446744073709551616)->rsE x=(0,a,y)->a.length<=rzM x:=by
 intro a
 induction a with
 | nil=>intro x y _ _;exact kqy _
 | cons E a ih =>intro x y d h;obtain⟨c,e⟩:=sh d h;have b:=rS d (by rw[c]) (by rw[c]);rw[c] at b;have:=ih b.2.1 e;rw[kq1];have:=b.2.2;dsimp only at this;omega
theorem ml{outs:List (List En)}(ho:∀v∈ws,v<18446744073709551616)(h:ip ws=(0,outs,y)):aw ws=0/\rsE ws=(0,outs,y)/\outs.length<=(ws.length-128)/2*3+5/\stX ws outs outs.length=y/\(∀n,n<=outs.length->(∀v∈stX ws outs n,v<18446744073709551616)/\(stX ws outs n).length=ws.length/\ip (stX ws outs n)=(0,outs.drop n,y))/\∀n (h:n<outs.length),Small ws.length outs[n]:=by
 have a:aw ws=0:=by
  by_cases d:aw ws=0
  .exact d
  unfold ip at h;rw[if_neg d] at h;simp only[Prod.mk.injEq] at h;exact absurd h.1 d
 have b:rsE ws=(0,outs,y):=by unfold ip at h;rw[if_pos a] at h;exact h
 obtain⟨-,f,-⟩:=cC a;refine⟨a,b,kz1 (rs_len ho b) (Eu f),(xh ho b).1,λn c=>?_,λn c=>((Gd ho b n (kxr c)).2.2.2.2 c).2⟩;obtain⟨j,g,e,i,-⟩:=Gd ho b n c;refine⟨j,g,?_⟩;unfold ip;rw[if_pos (rs_ck i)];exact e
theorem AT :∀n x,(∀v∈x,v<18446744073709551616)->mzS p x<=n->((db p x).1≠0->rsE x=((db p x).1,[],[]))/\((db p x).1=0->lP x (db p x).2.1 (db p x).2.2):=by
 intro n
 induction n with
 | zero =>
  intro x c h;have b:wd x 16≠p:=λb=>by unfold mzS at h;rw[if_pos b] at h;omega
  rw[cB b];exact⟨λh=>absurd rfl h,λ_=>iI c⟩
 | succ n ih =>
  intro x c h;by_cases b:wd x 16=p
  .by_cases i:(ag x).1=6
   .rw[kT b i];exact⟨λh=>absurd rfl h,λ_=>iI c⟩
   have a:cJ x=((ag x).1,false,(ag x).2):=by unfold cJ;rw[if_neg i]
   by_cases d:(ag x).1=0
   .have hd:=fG c b d;obtain⟨l,k⟩:=ih (aj x (ag x).2) (dr c d) (by omega);have g:=iK c (by rw[a];exact d) (by rw[a]);rw[a] at g;dsimp only at g;rw[dE c b d];by_cases e:(db p (aj x (ag x).2)).1=0
    .rw[if_pos e];refine⟨λh=>absurd rfl h,λ_=>?_⟩;have j:=k e;unfold lP at j |-;rw[g,j];dsimp only;by_cases f:(rsE (db p (aj x (ag x).2)).2.2).1=0
     .rw[if_pos f,if_pos rfl,if_pos f];rfl
     rw[if_neg f,if_neg (by exact f),if_neg f]
    rw[if_neg e];refine⟨λ_=>?_,λh=>absurd h e⟩;rw[g,l e,if_neg (by exact e)]
   rw[pU b i d];refine⟨λ_=>?_,λh=>absurd h d⟩;rw[lK (by rw[a];exact d),a]
  rw[cB b];exact⟨λh=>absurd rfl h,λ_=>iI c⟩
theorem kJ :∀n x,(∀v∈x,v<18446744073709551616)->mzS p x<=n->(db p x).1=0->(∀v∈(db p x).2.2,v<18446744073709551616)/\(db p x).2.2.length=x.length:=by
 intro n
 induction n with
 | zero =>
  intro x b h _;have a:wd x 16≠p:=λa=>by unfold mzS at h;rw[if_pos a] at h;omega
  rw[cB a];exact⟨b,rfl⟩
 | succ n ih =>
  intro x b h c;by_cases a:wd x 16=p
  .by_cases f:(ag x).1=6
   .rw[kT a f];exact⟨b,rfl⟩
   by_cases d:(ag x).1=0
   .have hd:=fG b a d;rw[dE b a d] at c |-;by_cases e:(db p (aj x (ag x).2)).1=0
    .rw[if_pos e];obtain⟨i,g⟩:=ih (aj x (ag x).2) (dr b d) (by omega) e;exact⟨i,g.trans (av _ _)⟩
    rw[if_neg e] at c;exact absurd c e
   rw[pU a f d] at c;exact absurd c d
  rw[cB a];exact⟨b,rfl⟩
end Go.Proofs.YtpcajamacpbjcaaGreat
