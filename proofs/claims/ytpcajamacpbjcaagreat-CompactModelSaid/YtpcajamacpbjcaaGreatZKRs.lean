/- Texts laid together: FinP RsP RsQ RsE RsPh. -/
import Derived.Test.YtpcajamacpbjcaaGreatZKStg1
import Derived.Test.YtpcajamacpbjcaaGreatZKImage
import Derived.Test.YtpcajamacpbjcaaGreatZKStg3
import Derived.Test.YtpcajamacpbjcaaGreatZKStg2
set_option maxHeartbeats 16000000
set_option linter.all false
namespace Go.Proofs.YtpcajamacpbjcaaGreat
variable {ws x y:List Nat}{p:Nat}
def eF (ws:List Nat):Int:=if av ws=0 then (if wd ws 16=4/\lfN ws=0 then 0 else 6) else av ws
def eU (ws:List Nat):Nat:=if eF ws=0 then wd ws 18 else 0
theorem D0{r:Int}(h:av ws=r)(h0:r≠0):eF ws=r:=by subst h;simp[eF,h0]
theorem DN(h:av ws=0)(h2:¬ (wd ws 16=4/\lfN ws=0)):eF ws=6:=by unfold eF;rw[if_pos h,if_neg h2]
theorem CR(h:av ws=0)(h2:wd ws 16=4)(h3:lfN ws=0):eF ws=0/\eU ws=wd ws 18:=by simp[eU,eF,h,h2,h3]
theorem vg(h:eF ws=0):av ws=0/\wd ws 16=4/\lfN ws=0:=by
 unfold eF at h;split at h
 .split at h
  .rename_i h1 h2;exact⟨h1,h2⟩
  simp at h
 rename_i h1;exact absurd h h1
theorem hG(h:eF ws=0):al (ws.length:Int)=true/\cC ws=0/\iY ws=true/\wd ws 16=4/\kT (wd ws 18)=true/\wd ws 18<=ws.length/\mvd ws 128 (wd ws 18)=true/\eU ws=wd ws 18:=by
 obtain⟨a,c,h3⟩:=vg h;have b:=kv a;obtain⟨e,-⟩:=gz b;obtain⟨f,d,j⟩:=fv e;obtain⟨⟨l0,l1,g⟩,-⟩:=(bj ws).1 d;rcases (cq _ _ _).1 j with⟨-,i1,i,i3⟩|⟨p3,-⟩|⟨p0,-⟩
 .refine ⟨f,b,d,c,i,g,?_,by simp[eU,h]⟩;unfold av at a;rw[if_pos b,if_pos c] at a;split at a
  .assumption
  simp at a
 .omega
 omega
def du (ws:List Nat):List En:=if eF ws=0 then phE 0 0 0++(if eU ws=ws.length then [] else [⟨(eU ws:Int),cg (cJ (ws.length-eU ws))⟩,⟨((eU ws+1:Nat):Int),0⟩]) else []
theorem AU{n:Nat}(h2:2<=n)(he:n%2=0)(h:n<=1920):iF (cJ n)=true:=by rw[bn];exact⟨⟨by show (2:Int)<=(n:Int);omega,by show (n:Int)%2=0;omega⟩,.inr ⟨rfl,rfl,rfl,by show (n:Int)<=1920;omega⟩⟩
theorem sQ(h:eF ws=0)(hne:eU ws≠ws.length):iF (cJ (ws.length-eU ws))=true:=by obtain⟨b,-,-,-,a,h6,-,c⟩:=hG h;have hb:=(ac _).1 b;have hi:=(aQ _).1 a;rw[c] at hne |-;exact AU (by omega) (by omega) (by omega)
def uA:List Bk->Int->Int
 | [],s=>s
 | b::l,s=>uA l (s+b.size)
theorem DF{t:Nat}:∀n i,t-i<=n->mvd ws i t=true->∃g:List Bk,(∀b∈g,b.kind=1/\b.mark=false/\cD ws b=true/\2<=b.size/\b.size<=10/\0<=b.typ/\b.typ<8)/\uA g i=(t:Int)/\g.length<=t-i /\
 ∀xs l,(∀j,i<=j->j<t->wd xs j=wd ws j)->t<=xs.length->blocks xs t=some l->blocks xs i=some (g++l):=by
 intro n
 induction n with
 | zero =>intro i h c;rw[jx (by omega),kqx] at c;subst c;exact⟨[],(λb f=>by cases f),rfl,kqy _,λxs l _ _ m=>m⟩
 | succ n ih =>
  intro i h c;by_cases A:t<=i
  .rw[jx A,kqx] at c;subst c;exact⟨[],(λb f=>by cases f),rfl,kqy _,λxs l _ _ m=>m⟩
  cases a:mdOk ws i with
  | false=>rw[sj (by omega) a] at c;cases c
  | true =>
   rw[ku (by omega) a] at c;have hsz:=kZ a;have hle:i+szAt ws i<=t:=by
    rcases kq9 t (i+szAt ws i) with q|q
    .rw[jx (by omega),kqx] at c;omega
    exact q
   obtain⟨g,C,z,o3,B⟩:=ih (i+szAt ws i) (by omega) c;unfold mdOk at a;simp only[kqz,kqx,kjf] at a;obtain⟨d,D,p,k⟩:=a;have hhd:=(bn _).1 (show iF (ah (wd ws i))=true by unfold az at d;simp only[kqz] at d;exact d.1);refine⟨bkAt ws i::g,λb f=>?_,?_,by rw[kzc];omega,λxs l s o m=>?_⟩
   .rcases kq0.1 f with rfl|f
    .have e:(bkAt ws i).size=((szAt ws i:Nat):Int):=rfl;have w:(bkAt ws i).typ=(ah (wd ws i)).typ:=rfl;refine⟨D,p,?_,by omega,by omega,by omega,by omega⟩;unfold cD at k |-;exact k
    exact C b f
   .show uA g (i+(szAt ws i:Nat))=_;rw[<-z];congr 1
   have v:wd xs i=wd ws i:=s i (kqg _) (by omega);have u:wd xs (i+1)=wd ws (i+1):=s (i+1) (by omega) (by omega);have x:szAt xs i=szAt ws i:=by unfold szAt;rw[v]
   have w:bkAt xs i=bkAt ws i:=by unfold bkAt;rw[v,u]
   have r:stands xs i=true:=by unfold stands;rw[v,d,kzx,kzz];have:(ah (wd ws i)).size=((szAt ws i:Nat):Int):=rfl;omega
   rw[aG (by omega) r,x,w,B xs l (λj q y=>s j (by omega) y) o m];rfl
theorem zt(h:eF ws=0):∀j,wd (ak ws (du ws)) j=if j=16\/j=17\/j=18 then 0 else if eU ws<ws.length/\j=eU ws then cg (cJ (ws.length-eU ws)) else if eU ws<ws.length/\j=eU ws+1 then 0 else wd ws j:=by
 obtain⟨m,-,-,-,n,o,-,q⟩:=hG h;have hb:=(ac _).1 m;have p:=(aQ _).1 n;rw[<-q] at p o;intro j;have d:∀j,wd (ak ws (phE 0 0 0)) j=if j=16\/j=17\/j=18 then 0 else wd ws j:=by
  intro j;unfold phE;rw[show (16:Int)=((16:Nat):Int) from rfl,show (17:Int)=((17:Nat):Int) from rfl,show (18:Int)=((18:Nat):Int) from rfl];rw[fj 16 _ _ (by omega),fj 17 _ _ (by rw[kze];omega),fj 18 _ _ (by rw[kze,kze];omega)];show wd (((ws.set 16 0).set 17 0).set 18 0) j=_;rw[lE,lE,lE];simp only[kze];by_cases f:j=18
  .subst f;rw[if_pos ⟨rfl,by omega⟩,if_pos (by omega)]
  rw[if_neg (by omega)];by_cases e:j=17
  .subst e;rw[if_pos ⟨rfl,by omega⟩,if_pos (by omega)]
  rw[if_neg (by omega)];by_cases i:j=16
  .subst i;rw[if_pos ⟨rfl,by omega⟩,if_pos (by omega)]
  rw[if_neg (by omega),if_neg (by omega)]
 have g:du ws=phE 0 0 0++(if eU ws=ws.length then [] else [⟨(eU ws:Int),cg (cJ (ws.length-eU ws))⟩,⟨((eU ws+1:Nat):Int),0⟩]):=by simp[du,h]
 rw[g,dR];have b:(ak ws (phE 0 0 0)).length=ws.length:=aD _ _;by_cases c:eU ws=ws.length
 .rw[if_pos c];show wd (ak ws (phE 0 0 0)) j=_;rw[d];by_cases a:j=16\/j=17\/j=18
  .rw[if_pos a,if_pos a]
  rw[if_neg a,if_neg a,if_neg (λh=>absurd h.1 (by omega)),if_neg (λh=>absurd h.1 (by omega))]
 rw[if_neg c,fj _ _ _ (by rw[b];omega),fj _ _ _ (by rw[kze,b];omega)];show wd (((ak ws (phE 0 0 0)).set _ _).set _ _) j=_;rw[lE,lE,d,kze,b];by_cases k:j=eU ws+1
 .subst k;rw[if_pos ⟨rfl,by omega⟩,if_neg (by omega),if_neg (by omega),if_pos ⟨by omega,rfl⟩]
 rw[if_neg (by omega)];by_cases l:j=eU ws
 .subst l;rw[if_pos ⟨rfl,by omega⟩,if_neg (by omega),if_pos ⟨by omega,rfl⟩]
 rw[if_neg (by omega)];by_cases a:j=16\/j=17\/j=18
 .rw[if_pos a,if_pos a]
 rw[if_neg a,if_neg a,if_neg (λh=>l h.2),if_neg (λh=>k h.2)]
def CN (ws:List Nat):List Bk:=if eU ws=ws.length then [] else [{ cJ (ws.length-eU ws) with at_:=(eU ws:Int) }]
theorem zv(h:eF ws=0):∃i:List Bk,(∀b∈i,b.kind=1/\b.mark=false/\2<=b.size/\b.size<=10)/\uA i 128=(eU ws:Int)/\i.length<=2048/\af (ak ws (du ws))=0 /\
 aa (ak ws (du ws))=i++CN ws/\blocks (ak ws (du ws)) 128=some (i++CN ws)/\cC (ak ws (du ws))=0/\lnV (ak ws (du ws))=phV 0 0 0/\dG (i++CN ws)=[]/\(ak ws (du ws)).length=ws.length:=by
 obtain⟨G,-,C,-,h5,h6,q,h8⟩:=hG h;have hb:=(ac _).1 G;have Z:=(aQ _).1 h5;have c:=zt h;have f:(ak ws (du ws)).length=ws.length:=aD _ _;have y:=sQ h;rw[<-h8] at h6 Z q;obtain⟨i,O,Y,o3,o4⟩:=DF _ 128 (kqg _) q;generalize ak ws (du ws)=x at c f |-;have t:blocks x (eU ws)=some (CN ws):=by
  unfold CN;by_cases k:eU ws=ws.length
  .rw[if_pos k,ay (by omega)]
  rw[if_neg k];have r:=y k;have z:wd x (eU ws)=cg (cJ (ws.length-eU ws)):=by rw[c,if_neg (by omega),if_pos ⟨by omega,rfl⟩]
  have W:wd x (eU ws+1)=0:=by rw[c,if_neg (by omega),if_neg (λh=>absurd h.2 (by omega)),if_pos ⟨by omega,rfl⟩]
  have e:=jf r;have P:szAt x (eU ws)=ws.length-eU ws:=by have Q:(ah (wd x (eU ws))).size=((szAt x (eU ws):Nat):Int):=rfl;rw[z,e] at Q;have e3:(cJ (ws.length-eU ws)).size=((ws.length-eU ws:Nat):Int):=rfl;dsimp only at Q;omega
  have D:stands x (eU ws)=true:=by unfold stands;rw[z,jn r,kzx,kzz,e];show ((ws.length-eU ws:Nat):Int)<=_;omega
  rw[aG (by omega) D,P,ay (by omega)];have v:bkAt x (eU ws)={ cJ (ws.length-eU ws) with at_:=(eU ws:Int) }:=by unfold bkAt;rw[z,e,W];rfl
  rw[v];rfl
 have d:=o4 x (CN ws) (λj h1 h2=>by rw[c,if_neg (by omega),if_neg (λh=>absurd h.2 (by omega)),if_neg (λh=>absurd h.2 (by omega))]) (by omega) t;have o:(i++CN ws).all (dm x)=true:=by
  rw[kzq];intro b a;rcases kzo.1 a with a|a
  .obtain ⟨R,U,K,S,T,g6,X⟩:=O b a;unfold dm cD;unfold cD at K;have hty:tyA b+1<128:=by unfold tyA;omega
   rw[c (tyA b),c (tyA b+1)];have hty2:96<=tyA b:=by unfold tyA;omega
   rw[if_neg (by omega),if_neg (λh=>absurd h.2 (by omega)),if_neg (λh=>absurd h.2 (by omega)),if_neg (by omega),if_neg (λh=>absurd h.2 (by omega)),if_neg (λh=>absurd h.2 (by omega)),K,kvj]
  unfold CN at a;split at a
  .cases a
  rw[kq1] at a;subst a;rfl
 obtain⟨p1,V⟩:=eV (by rw[f];exact G) d o;obtain⟨-,E,I,u,s,B⟩:=(bj ws).1 C;have n:∀j,j<24->(j=16\/j=17\/j=18)/\wd x j=0\/wd x j=wd ws j:=by
  intro j hj;rw[c];by_cases M:j=16\/j=17\/j=18
  .left;exact⟨M,by rw[if_pos M]⟩
  right;rw[if_neg M,if_neg (λh=>absurd h.2 (by omega)),if_neg (λh=>absurd h.2 (by omega))]
 have g:wd x 16=0:=by rw[c,if_pos (by omega)]
 have m:wd x 17=0:=by rw[c,if_pos (by omega)]
 have l:wd x 18=0:=by rw[c,if_pos (by omega)]
 have L:wd x 19=0:=by rcases n 19 (by omega) with h|h;exact h.2;rw[h];exact E
 have N:wd x 20=0:=by rcases n 20 (by omega) with h|h;exact h.2;rw[h];exact I
 have F:wd x 21=0:=by rcases n 21 (by omega) with h|h;exact h.2;rw[h];exact u
 have J:wd x 22=0:=by rcases n 22 (by omega) with h|h;exact h.2;rw[h];exact s
 have A:wd x 23=0:=by rcases n 23 (by omega) with h|h;exact h.2;rw[h];exact B
 have w:iY x=true:=by rw[bj,g,m,l];exact⟨⟨by omega,by omega,by omega⟩,L,N,F,J,A⟩
 have H:=(ml (ws:=x) (by rw[f];exact G) (by rw[w,g,m,l];rfl)).1;have p:cC x=0:=by unfold cC;rw[if_pos H,if_neg (by rw[g];omega)]
 refine⟨i,λb a=>?_,Y,by omega,p1,V,d,p,by simp[lnV,p,g,m,l],?_,f⟩
 .obtain ⟨R,U,K,S,T,g6,X⟩:=O b a;exact⟨R,U,S,T⟩
 unfold dG;rw[List.map_eq_nil_iff,List.filter_eq_nil_iff];intro b a;rcases kzo.1 a with a|a
 .rw[(O b a).2.1];simp
 unfold CN at a;split at a
 .cases a
 rw[kq1] at a;subst a;simp[cJ]
open Go.RowKit
noncomputable def cQ (x:List Nat):Int × Bool × List En:=if (ae x).1=6 then (if wd x 16=0 then (0,true,[]) else (eF x,false,du x)) else ((ae x).1,false,(ae x).2)
theorem qO(ws:List Nat)(f s:Int):a9 ws f s≠6:=by
 unfold a9 lj;split
 .split
  .decide
  split
  .decide
  split<;>decide
 decide
theorem A8(x:List Nat):av x≠6:=by
 unfold av;split
 .split
  .split
   .exact qO _ _ _
   decide
  split
  .exact qO _ _ _
  rcases Bt x with h|h|h<;>rw[h]<;>decide
 rcases Cd x with h|h|h<;>rw[h]<;>decide
theorem Fj(h:(ae x).1=6):av x=0:=by
 by_cases a:av x=0
 .exact a
 unfold ae at h;rw[if_neg a] at h;exact absurd h (A8 x)
theorem rs_ck(h:(cQ x).1=0):av x=0:=by
 by_cases b:(ae x).1=6
 .exact Fj b
 unfold cQ at h;rw[if_neg b] at h;by_cases a:av x=0
 .exact a
 unfold ae at h;rw[if_neg a] at h;exact absurd h a
theorem yM(x:List Nat)(h:af x=0):2*(aa x).length+128<=x.length:=by obtain⟨a,l,c,-,b⟩:=ao h;have hb:=(ac _).1 a;rw[b];exact (bq (by omega) _ _ c (by omega) (by omega) (by omega)).1
theorem wU{α:Type}{p q:α->Bool}:∀ {l:List α},(∀b∈l,q b=true->p b=true)->∀ {d a:α},d∈l->a∈l->d≠a->p d=true->q d=false->p a=true->q a=false->(l.filter q).length+2<=(l.filter p).length:=by
 intro l
 induction l with
 | nil=>intro _ d a h;exact absurd h (by simp)
 | cons c l ih =>
  intro h d a u s f m k i j;have o:=λx t=>h x (kzj _ t);rw[kjy,kjy];rcases kq0.1 u with rfl|r
  .rw[m,k];have g:a∈l:=by
    rcases kq0.1 s with e|n
    .exact absurd e.symm f
    exact n
   have:=(nh o).2 ⟨a,g,i,j⟩;simp only[if_true,if_false,kzp,kzc];omega
  rcases kq0.1 s with rfl|n
  .rw[i,j];have:=(nh o).2 ⟨d,r,m,k⟩;simp only[if_true,if_false,kzp,kzc];omega
  have:=ih o r n f m k i j;have v:=h c (by simp);cases w:q c with
  | true=>rw[v w];simp only[if_true,kzc];omega
  | false=>cases hp:p c<;>simp only[if_true,if_false,kzp,kzc]<;>omega
theorem BE{l:List Bk}(h:l.Pairwise (λa b=>a.at_<b.at_)){a b:Bk}(ha:a∈l)(hb:b∈l)(e:a.at_=b.at_):a=b:=by
 obtain⟨i,d,rfl⟩:=kqu ha;obtain⟨j,f,rfl⟩:=kqu hb;rw[kzf] at h;rcases kjt i j with c|c|c
 .have:=h i j d f c;omega
 .subst c;rfl
 have:=h j i f d c;omega
theorem y4(h:ax ws=0)(h32:32<=(aM ws).length):(aM (ak ws ((aM ws).take 31))).length+2<=(aM ws).length:=by
 have c:((aM ws).take 31).Sublist (aM ws):=kjs _ _;have t:((aM ws).take 31).Pairwise (λa b=>a.a<b.a):=(dg h).sublist c;obtain⟨I,g2,P,g4,N⟩:=(iw h c).same h;rw[dx I,P,N,kqs,dx h,kqs];rw[<-dx h];obtain⟨x,y⟩:=xq (ak ws ((aM ws).take 31));rw[y];unfold lf;rw[List.filter_map,kqs];have g:=bG (aA h).1;have z:∀b∈aa ws,(∀e∈(aM ws).take 31,e.a≠b.at_)->(mkB x b).mark=b.mark:=by intro b v B;obtain⟨a,rfl,a1,a2,a3,a4⟩:=g.1 b v;show qJ x (bkAt ws a).at_.toNat=_;rw[ab,kqk];unfold qJ;rw[<-y,aT _ _ _ (λe m=>by have:=B e m;rwa [ab] at this)];rfl
 have j:∀i,i<31->∃b∈aa ws,b.at_=((aM ws)[i]?.map En.a).getD 0/\(!dS (seenL ws) b)=true/\(!(dS (seenL ws) (mkB x b)))=false:=by
  intro i hi;have s:i<((aM ws).take 31).length:=by rw[kq6];omega
  have m:=kqm s;have A:(aM ws)[i]? = some ((aM ws).take 31)[i]:=by rw[kk5,kqj (by omega)]
  obtain⟨a,n,O,S,R,u,o,k,f⟩:=dl h (c.subset m);refine⟨bkAt ws a,n,by rw[A,k,ab];rfl,by rw[f];rfl,?_⟩;have d:=dy _ ws t _ m (by rw[k];dsimp only;omega) (by rw[k];dsimp only;omega);rw[k] at d;dsimp only at d;rw[kqk,y] at d;unfold dS;show (!((mkB x (bkAt ws a)).mark==((seenL ws)[(bkAt ws a).at_.toNat]?.getD false)))=false;have C:(mkB x (bkAt ws a)).mark=dU ws (bkAt ws a):=by show qJ x (bkAt ws a).at_.toNat=_;rw[ab,kqk];unfold qJ;rw[d,(iy u o _).2.1]
  rw[C];unfold dU;simp
 obtain⟨K,F,E,Q,L⟩:=j 0 (by omega);obtain⟨G,M,k,J,H⟩:=j 1 (by omega);have w:K≠G:=by rintro rfl;have r:=dg h;rw[kzf] at r;have:=r 0 1 (by omega) (by omega) (by omega);rw[kqj (by omega)] at E k;simp only[kzk,kq2] at E k;omega
 refine wU (p:=λb=>!dS (seenL ws) b) (q:=(λb=>!dS (seenL ws) b) ∘ mkB x) (λb v l=>?_) F M w Q L J H;dsimp only[Function.comp_apply] at l |-;cases D:dS (seenL ws) b with
 | false=>rfl
 | true =>
  exfalso;have n:=z b v (λe m r=>by
   obtain⟨a,n,O,S,R,u,o,rfl,f⟩:=dl h (c.subset m);dsimp only at r;have:bkAt ws a=b:=BE g.2 n v (by rw[ab];exact r);rw[this,D] at f;cases f)
  unfold dS at D l;rw[n] at l
  change (!(b.mark==((seenL ws)[b.at_.toNat]?.getD false)))=true at l
  rw[D] at l;exact absurd l (by decide)
theorem zk{xs:List Nat}:∀ {l:List Bk} {s:Int},l.Pairwise (λa b=>a.at_<b.at_)->(∀b∈l,0<=b.at_)->(∀b∈l,b.kind=1->wd xs (b.at_.toNat+1)=b.next\/∃e∈aN l s,e.a=b.at_+1/\wd xs (b.at_.toNat+1)=e.v) ->
 (aN (l.map (nxB xs)) s).length+((aN l s).filter (λe=>wd xs e.a.toNat==e.v)).length<=(aN l s).length:=by
 intro l
 induction l with
 | nil=>intro s _ _ _;exact kqg _
 | cons b l ih =>
  intro s m y x;rw[kjn] at m;have j:∀c∈l,c.kind=1->wd xs (c.at_.toNat+1)=c.next\/∃e∈aN l (d7 b s),e.a=c.at_+1/\wd xs (c.at_.toNat+1)=e.v:=by
   intro c k f;rcases x c (by simp[k]) f with g|⟨e,d,q,r⟩
   .exact .inl g
   simp only[aN,kzo] at d;rcases d with d|d
   .split at d
    .rw[kq1] at d;subst d;dsimp only at q;have:=m.1 c k;omega
    simp at d
   exact .inr ⟨e,d,q,r⟩
  have i1:=ih (s:=d7 b s) m.2 (λc k=>y c (by simp[k])) j;have hb0:=y b (by simp);rw[kxk];simp only[aN];have z:d7 (nxB xs b) s=d7 b s:=rfl;have B:bo (nxB xs b) s=bo b s:=rfl;rw[z,B,kjl,kqw,kqw,kqw];have p:(nxB xs b).next=wd xs (b.at_.toNat+1):=rfl;have o:(nxB xs b).kind=b.kind:=rfl;have t:(nxB xs b).at_=b.at_:=rfl;have i:b.kind=1->wd xs (b.at_.toNat+1)=b.next\/wd xs (b.at_.toNat+1)=bo b s:=by
   intro f;rcases x b (by simp) f with g|⟨e,d,q,r⟩
   .exact .inl g
   simp only[aN,kzo] at d;rcases d with d|d
   .split at d
    .rw[kq1] at d;subst d;exact .inr r
    simp at d
   obtain⟨c,k,-,h4⟩:=fu d;have:=m.1 c k;omega
  have w:(b.at_+1).toNat=b.at_.toNat+1:=by omega
  have hle:(if (nxB xs b).kind=1/\(nxB xs b).next≠bo b s then [(⟨(nxB xs b).at_+1,bo b s⟩:En)] else []).length+((if b.kind=1/\b.next≠bo b s then [(⟨b.at_+1,bo b s⟩:En)] else []).filter (λe=>wd xs e.a.toNat==e.v)).length<=(if b.kind=1/\b.next≠bo b s then [(⟨b.at_+1,bo b s⟩:En)] else []).length:=by
   rw[p,o,t];by_cases f:b.kind=1
   .by_cases u:b.next=bo b s
    .have A:wd xs (b.at_.toNat+1)=bo b s:=by
      rcases i f with g|g
      .rw[g];exact u
      exact g
     rw[if_neg (show ¬ (b.kind=1/\b.next≠bo b s) from λh=>h.2 u),if_neg (show ¬ (b.kind=1/\wd xs (b.at_.toNat+1)≠bo b s) from λh=>h.2 A)];exact kqg _
    rw[if_pos (show b.kind=1/\b.next≠bo b s from ⟨f,u⟩)];by_cases n:wd xs (b.at_.toNat+1)=bo b s
    .rw[if_neg (λh=>h.2 n)];simp[w,n]
    rw[if_pos ⟨f,n⟩];have:(wd xs (b.at_+1).toNat==bo b s)=false:=by rw[w,kqi];exact n
    simp[this]
   rw[if_neg (λh=>f h.1),if_neg (λh=>f h.1)];exact kqg _
  omega
theorem C3(h:af ws=0)(h32:32<=(aH ws).length):(aH (ak ws ((aH ws).take 31))).length+2<=(aH ws).length:=by
 obtain⟨C,D,i3⟩:=nV h;have w:aH ws=aN (aa ws) 128:=qW h;have d:=bG h;have c:((aH ws).take 31).Sublist (aH ws):=kjs _ _;have j:((aH ws).take 31).Pairwise (λa b=>a.a<b.a):=C.sublist c;have g:∀e∈aH ws,∃a:Nat,e.a=((a+1:Nat):Int)/\a%2=0/\128<=a:=by intro e f;rw[w] at f;obtain⟨b,m,-,z⟩:=fu f;obtain⟨a,rfl,r,q,-⟩:=d.1 b m;exact⟨a,by rw[z,ab];rfl,q,r⟩
 have p:Ev ws (ak ws ((aH ws).take 31)):=by refine⟨aD _ _,λi hi=>aT _ _ _ λe f n=>?_⟩;obtain⟨a,o,r,q⟩:=g e (c.subset f);omega
 obtain⟨A,E⟩:=p.heap h;have t:aH (ak ws ((aH ws).take 31))=aN ((aa ws).map (nxB (ak ws ((aH ws).take 31)))) 128:=by rw[qW A,E]
 rw[t];have k:∀e∈(aH ws).take 31,wd (ak ws ((aH ws).take 31)) e.a.toNat=e.v:=λe f=>by
  have hin:=D _ (c.subset f);exact dy _ ws j _ f (by omega) (by omega)
 have u:=zk (xs:=ak ws ((aH ws).take 31)) (l:=aa ws) (s:=128) d.2 (λb m=>by obtain⟨a,rfl,-⟩:=d.1 b m;rw[ab];omega) (λb m hk=>by
  obtain⟨a,rfl,r,q,a3,B⟩:=d.1 b m;have hsz:=aC B;rw[ab,kqk];by_cases x:∃e∈(aH ws).take 31,e.a=((a+1:Nat):Int)
  .obtain ⟨e,f,o⟩:=x;refine .inr ⟨e,by rw[<-w];exact c.subset f,by rw[o];omega,?_⟩;have:=k e f;rw[o,kqk] at this;exact this
  exact .inl (by rw[aT _ _ _ (λe f n=>x ⟨e,f,n⟩)];rfl))
 rw[<-w] at u;have hfl:31<=((aH ws).filter (λe=>wd (ak ws ((aH ws).take 31)) e.a.toNat==e.v)).length:=by
  have y:(aH ws).take 31=((aH ws).take 31).filter (λe=>wd (ak ws ((aH ws).take 31)) e.a.toNat==e.v):=by symm;rw[List.filter_eq_self];intro e f;rw[kqx];exact k e f
  have n:=(c.filter (λe=>wd (ak ws ((aH ws).take 31)) e.a.toNat==e.v)).length_le;rw[<-y,kq6] at n;omega
 omega
theorem GU(hck:av x=0)(p3:wd x 16=3)(h:(cZ x).1=0):
 (wd (ak x (cZ x).2) 16=3/\wd (ak x (cZ x).2) 17<=x.length/\(wd x 17=0->wd (ak x (cZ x).2) 17=128)/\(wd x 17≠0->wd x 17+2<=wd (ak x (cZ x).2) 17))\/(wd (ak x (cZ x).2) 16=4/\wd (ak x (cZ x).2) 17=128/\wd x 17≠0):=by
 obtain⟨-,A,B,hph⟩:=cr hck;have hb:=(ac _).1 A;obtain⟨⟨l1,w,l3⟩,-⟩:=(bj x).1 B;by_cases z:wd x 17=0
 .have i:eE x=0:=by
   by_cases j:eE x=0
   .exact j
   unfold cZ at h;rw[if_pos z,if_neg j] at h;exact absurd h j
  have d:cZ x=(0,⟨17,128⟩::dK x):=by unfold cZ;rw[if_pos z,if_pos i]
  obtain⟨-,-,-,-,-,-,-,k,u,q3,-⟩:=jj i;obtain⟨n,s,r,g,a,p⟩:=jc (f:=128) (l:=dK x) hck p3 (by decide) (by omega) (by omega) (by omega) u (λe b=>by have:=(k e b).1;omega) (λe b=>(k e b).2);rw[d];exact .inl ⟨g,by rw[a];omega,λ_=>a,λc=>absurd z c⟩
 have d:cZ x=kM x (wd x 17):=by unfold cZ;rw[if_neg z]
 have C:(kM x (wd x 17)).1=0:=by rw[<-d];exact h
 rcases oL x.length (wd x 17) (by omega) w C with c|⟨m,m1,m2,m3,m4,m5,q,o,y⟩
 .rw[d,c];obtain⟨n,s,r,g,a,p⟩:=fV hck p3;exact .inr ⟨g,a,z⟩
 obtain⟨f,-,-,-,-,q5,-,-,-,v⟩:=iu o;have t:=Dv o;obtain⟨n,s,r,g,a,p⟩:=jc (f:=m+szAt x m) (l:=cw x (m:Int)) hck p3 ((aQ _).2 (by omega)) q (by omega) (by omega) v (λe b=>by have:=t e b;omega) (λe b=>by have:=t e b;omega);rw[d,y];exact .inl ⟨g,by rw[a];exact q,λc=>absurd c z,λ_=>by rw[a];omega⟩
theorem Bl(ho:∀v∈x,v<18446744073709551616)(hck:av x=0)(p4:wd x 16=4)(h:(ey x).1=0):
 wd (ak x (ey x).2) 16=4/\wd (ak x (ey x).2) 17<=x.length/\wd x 17+2<=wd (ak x (ey x).2) 17:=by
 obtain⟨-,E,F,p⟩:=cr hck;have hb:=(ac _).1 E;obtain⟨⟨l1,l2,l3⟩,-⟩:=(bj x).1 F;have b:be x ((wd x 17:Nat):Int)=0:=by
  by_cases d:be x ((wd x 17:Nat):Int)=0
  .exact d
  unfold ey at h;rw[if_neg d] at h;exact absurd h (by decide)
 obtain⟨-,a1,a2,m,s,m1,m2,m3,m4,m5,m6,m7,m8,-⟩:=eW b;have c:eG x (m:Int) ((wd x 18:Nat):Int)=0:=by
  by_cases d:eG x (m:Int) ((wd x 18:Nat):Int)=0
  .exact d
  unfold ey at h;rw[if_pos b,s,ab,if_neg d] at h;exact absurd h d
 have B:ey x=(0,⟨17,m+szAt x m⟩::⟨18,wd x 18+szAt x m⟩::jt x m (wd x 18)):=by unfold ey;rw[if_pos b,s,ab,if_pos c,aV,show ((m:Int)+((szAt x m:Nat):Int)).toNat=m+szAt x m by omega,show (((wd x 18:Nat):Int)+((szAt x m:Nat):Int)).toNat=wd x 18+szAt x m by omega];unfold jO;rw[if_pos c,kqk,kqk]
 obtain⟨a,u,n,z,w,C,n2,n10,hu,hua,han,hst,hlv,-,-,o⟩:=fG c;have z:a=m:=by omega
 have w:u=wd x 18:=by omega
 subst z w;subst C;have r:=(cq _ _ _).1 p;have g:kT (wd x 17)=true/\kT (wd x 18)=true/\wd x 18<=wd x 17:=by
  rcases r with q|q|q
  .exact q.2
  .omega
  omega
 have i1:=(aQ _).1 g.1;have i2:=(aQ _).1 g.2.1;rw[B];obtain⟨g1,g2,g3,D,y,g6⟩:=mS (f:=a+szAt x a) (t:=wd x 18+szAt x a) (l:=jt x a (wd x 18)) hck p4 ((aQ _).2 (by omega)) ((aQ _).2 (by omega)) (by omega) (by omega) (by omega) (by omega) (by rw[iz];omega) (by
  rw[kzf];intro i j hi hj hij;rw[fL,fL];omega) (λe G=>by
  obtain⟨k,A,rfl⟩:=kqu G;rw[fL];rw[iz] at A;omega) (sS ho o)
 exact⟨D,by rw[y];omega,by rw[y];omega⟩
noncomputable def rzM (x:List Nat):Nat:=
 if wd x 16=1 then (aM x).length/2+1+((x.length-128)/2/2+1)+((x.length-128)/2+2)+((x.length-128)/2+1)
 else if wd x 16=2 then (aH x).length/2+1+((x.length-128)/2+2)+((x.length-128)/2+1)
 else if wd x 16=3 then (if wd x 17=0 then (x.length-128)/2+2 else (x.length-wd x 17)/2+1)+((x.length-128)/2+1)
 else if wd x 16=4 then (x.length-wd x 17)/2+1 else 0
theorem BP(x:List Nat)(hs:128<=x.length):(aH x).length<=(x.length-128)/2:=by
 by_cases h:af x=0
 .rw[qW h];have h1:=mw (aa x) 128;have h2:=yM x h;omega
 unfold aH;rw[if_neg h];simp
theorem Hh(x:List Nat)(hs:128<=x.length):(aM x).length<=(x.length-128)/2:=by
 by_cases h:ax x=0
 .rw[dx h,kqs];have h1:=pX (seenL x) (aa x);have h2:=yM x (aA h).1;omega
 unfold aM;rw[if_neg h];simp
theorem Df(ho:∀v∈x,v<18446744073709551616)(h:(ae x).1=0):rzM (ak x (ae x).2)<rzM x:=by
 obtain⟨a,-,-,-,-,k6,-,-⟩:=lQ ho h;obtain⟨-,G,H,r⟩:=cr a;have hb:=(ac _).1 G;obtain⟨⟨l1,l2,l3⟩,-⟩:=(bj x).1 H;have t:=(cq _ _ _).1 r;have k:(ak x (ae x).2).length=x.length:=aD _ _;have g:=BP (ak x (ae x).2) (by omega);rw[k] at g;unfold rzM;rw[k];by_cases c:wd x 16=1
 .have d:ax x=0:=by
   by_cases o:ax x=0
   .exact o
   unfold ae at h;rw[if_pos a,if_pos c,if_neg o] at h;exact absurd h o
  have e:ae x=(0,gN (aM x) 2):=by unfold ae;rw[if_pos a,if_pos c,if_pos d]
  obtain⟨u,w⟩:=pT d;obtain⟨E,J,I,f,n,q⟩:=fa a c (.inl rfl) (dg d) (λy C=>by
   obtain⟨i,B⟩:=kj1.1 C;exact u i y B) (qg d)
  simp only[Nat.reduceAdd] at f;rw[e] at g |-;dsimp only at g |-;rw[if_pos c,f];by_cases b:32<=(aM x).length
  .have D:=y4 d b;rw[if_pos b,if_pos rfl,b9 b];omega
  rw[if_neg b,if_neg (by decide),if_pos rfl];omega
 by_cases j:wd x 16=2
 .have m:af x=0:=by
   by_cases o:af x=0
   .exact o
   unfold ae at h;rw[if_pos a,if_neg c,if_pos j,if_neg o] at h;exact absurd h o
  have e:ae x=(0,gN (aH x) 3):=by unfold ae;rw[if_pos a,if_neg c,if_pos j,if_pos m]
  obtain⟨u,w,F⟩:=nV m;obtain⟨E,J,I,f,n,q⟩:=fa a j (.inr rfl) u w F;simp only[Nat.reduceAdd] at f n;rw[e] at g |-;dsimp only at g |-;rw[if_neg c,if_pos j,f,n];by_cases b:32<=(aH x).length
  .have D:=C3 m b;rw[if_pos b,if_neg (by decide),if_pos rfl,b9 b];omega
  rw[if_neg b,if_neg (by decide),if_neg (by decide),if_pos rfl,if_pos rfl];omega
 by_cases p:wd x 16=3
 .have e:ae x=cZ x:=by unfold ae;rw[if_pos a,if_neg c,if_neg j,if_pos p]
  rw[e] at h |-;have hF:wd x 17=0\/128<=wd x 17:=by
   rcases t with l|⟨-,-,l⟩|l
   .omega
   .rcases l with l|l
    .exact .inl l
    exact .inr ((aQ _).1 l).1
   omega
  rcases GU a p h with⟨f,n,q,A⟩|⟨f,n,q⟩
  .rw[f,if_neg (by decide),if_neg (by decide),if_pos rfl,if_neg c,if_neg j,if_pos p];by_cases z:wd x 17=0
   .rw[if_pos z,q z,if_neg (by decide)];omega
   have:=A z;rw[if_neg z,if_neg (by omega)];omega
  rw[f,n,if_neg (by decide),if_neg (by decide),if_neg (by decide),if_pos rfl,if_neg c,if_neg j,if_pos p,if_neg q];omega
 have s:wd x 16=4:=by omega
 have e:ae x=ey x:=by unfold ae;rw[if_pos a,if_neg c,if_neg j,if_neg p,if_pos s]
 rw[e] at h |-;obtain⟨f,n,q⟩:=Bl ho a s h;rw[f,if_neg (by decide),if_neg (by decide),if_neg (by decide),if_pos rfl,if_neg c,if_neg j,if_neg p,if_pos s];omega
theorem ET(hs:al (x.length:Int)=true):rzM x<=(x.length-128)/2*3+5:=by
 have hb:=(ac _).1 hs;have h1:=Hh x (by omega);have h2:=BP x (by omega);unfold rzM;by_cases c:wd x 16=1
 .rw[if_pos c];omega
 rw[if_neg c];by_cases a:wd x 16=2
 .rw[if_pos a];omega
 rw[if_neg a];by_cases b:wd x 16=3
 .rw[if_pos b];split
  .omega
  have:(x.length-wd x 17)/2<=x.length/2:=by omega
  omega
 rw[if_neg b];split<;>omega
theorem pC(h:eF x=0):Small x.length (du x)/\wd (ak x (du x)) 16=0:=by
 obtain⟨i,-,-,-,g,f,-,j⟩:=hG h;have hb:=(ac _).1 i;have d:=(aQ _).1 g;rw[<-j] at d f;refine⟨?_,by rw[zt h,if_pos (.inl rfl)]⟩;unfold du;rw[if_pos h];have b:=λb=>pN (sQ h b);generalize eU x=t at d f b;have c:phE 0 0 0=[⟨16,0⟩,⟨17,0⟩,⟨18,0⟩]:=rfl;rw[c];by_cases a:t=x.length
 .rw[if_pos a];refine⟨by decide,by decide,by simp,λe a=>?_,λe a=>?_⟩ <;>
  .simp only[kz1,kq0,kzu,or_false] at a;rcases a with rfl|rfl|rfl<;>(dsimp only;omega)
 have hv:=b a;rw[if_neg a];refine⟨by simp,by simp,?_,λe a=>?_,λe a=>?_⟩
 .simp only[kz0,kz5,kjn,kq0,kzu,or_false,forall_eq_or_imp,forall_eq,List.Pairwise.nil,and_true,false_implies,implies_true];omega
 .simp only[kz0,kz5,kq0,kzu,or_false] at a;rcases a with rfl|rfl|rfl|rfl|rfl<;>(dsimp only;omega)
 simp only[kz0,kz5,kq0,kzu,or_false] at a;rcases a with rfl|rfl|rfl|rfl|rfl<;>(dsimp only;omega)
theorem vG(ho:∀v∈x,v<18446744073709551616)(h:(cQ x).1=0)(hd:(cQ x).2.1=false):Small x.length (cQ x).2.2/\(∀v∈ak x (cQ x).2.2,v<18446744073709551616)/\rzM (ak x (cQ x).2.2)<rzM x:=by
 by_cases a:(ae x).1=6
 .by_cases c:wd x 16=0
  .unfold cQ at hd;rw[if_pos a,if_pos c] at hd;cases hd
  have e:cQ x=(eF x,false,du x):=by unfold cQ;rw[if_pos a,if_neg c]
  rw[e] at h |-;dsimp only at h |-;obtain⟨b,f⟩:=pC h;refine⟨b,pj _ _ ho b.val,?_⟩;have d:wd x 16=4:=(hG h).2.2.2.1;unfold rzM;rw[f,if_neg (by decide),if_neg (by decide),if_neg (by decide),if_neg (by decide),d,if_neg (by decide),if_neg (by decide),if_neg (by decide),if_pos rfl];omega
 have e:cQ x=((ae x).1,false,(ae x).2):=by unfold cQ;rw[if_neg a]
 rw[e] at h |-;dsimp only at h |-;exact⟨(lQ ho h).2.1,cY ho h,Df ho h⟩
noncomputable def rsG:Nat->List Nat->Int × List (List En) × List Nat
 | 0,x=>(0,[],x)
 | f+1,x=>if (cQ x).1=0 then (if (cQ x).2.1=true then (0,[],x)
  else if (rsG f (ak x (cQ x).2.2)).1=0 then (0,(cQ x).2.2::(rsG f (ak x (cQ x).2.2)).2.1,(rsG f (ak x (cQ x).2.2)).2.2) else ((rsG f (ak x (cQ x).2.2)).1,[],[]))
  else ((cQ x).1,[],[])
theorem Dq:∀ {f g:Nat} {x:List Nat},(∀v∈x,v<18446744073709551616)->rzM x<f->rzM x<g->rsG f x=rsG g x:=by
 intro f
 induction f with
 | zero=>intro g x _ h;omega
 | succ f ih =>
  intro g x c hf hg;cases g with
  | zero=>omega
  | succ g =>
   simp only[rsG];by_cases a:(cQ x).1=0
   .cases d:(cQ x).2.1 with
    | true=>simp only[if_true]
    | false =>obtain⟨-,b,h3⟩:=vG c a d;rw[ih (g:=g) b (by omega) (by omega)]
   simp only[a,if_false]
noncomputable def rsE (x:List Nat):Int × List (List En) × List Nat:=rsG (rzM x+1) x
theorem kR(h:(cQ x).1≠0):rsE x=((cQ x).1,[],[]):=by unfold rsE;simp only[rsG];rw[if_neg h]
theorem jq(h:(cQ x).1=0)(hd:(cQ x).2.1=true):rsE x=(0,[],x):=by unfold rsE;simp only[rsG];rw[if_pos h,if_pos hd]
theorem im(ho:∀v∈x,v<18446744073709551616)(h:(cQ x).1=0)(hd:(cQ x).2.1=false):rsE x=(if (rsE (ak x (cQ x).2.2)).1=0 then (0,(cQ x).2.2::(rsE (ak x (cQ x).2.2)).2.1,(rsE (ak x (cQ x).2.2)).2.2) else ((rsE (ak x (cQ x).2.2)).1,[],[])):=by
 obtain⟨-,a,b⟩:=vG ho h hd;have e:rsG (rzM x) (ak x (cQ x).2.2)=rsE (ak x (cQ x).2.2):=Dq a b (kxs _)
 conv=>lhs;unfold rsE
 simp only[rsG];rw[if_pos h,if_neg (by rw[hd];decide),e]
theorem FU(ho:∀v∈x,v<18446744073709551616)(h:(rsE x).1≠0):rsE x=((rsE x).1,[],[]):=by
 by_cases a:(cQ x).1=0
 .cases c:(cQ x).2.1 with
  | true=>rw[jq a c] at h;exact absurd rfl h
  | false =>
   rw[im ho a c] at h |-;by_cases b:(rsE (ak x (cQ x).2.2)).1=0
   .rw[if_pos b] at h;exact absurd rfl h
   rw[if_neg b]
 rw[kR a]
noncomputable def gD (ws:List Nat):Int × List (List En) × List Nat:=if av ws=0 then rsE ws else (av ws,[],[])
def ll (ws:List Nat) (outs:List (List En)) (x:List Nat):Prop:=rsE ws=if (rsE x).1=0 then (0,outs++(rsE x).2.1,(rsE x).2.2) else ((rsE x).1,[],[])
theorem gQ(ho:∀v∈ws,v<18446744073709551616):ll ws [] ws:=by
 unfold ll;by_cases h:(rsE ws).1=0
 .rw[if_pos h,kz5,<-h]
 rw[if_neg h];exact FU ho h
theorem xe{outs:List (List En)}(h:ll ws outs x)(ho:∀v∈x,v<18446744073709551616)(h0:(cQ x).1=0)(hd:(cQ x).2.1=false):ll ws (outs++[(cQ x).2.2]) (ak x (cQ x).2.2):=by
 unfold ll at h |-;rw[h,im ho h0 hd];by_cases a:(rsE (ak x (cQ x).2.2)).1=0
 .rw[if_pos a,if_pos rfl,if_pos a];simp
 rw[if_neg a,if_neg (by exact a),if_neg a]
theorem Cg{outs:List (List En)}(h:ll ws outs x)(h0:(cQ x).1=0)(hd:(cQ x).2.1=true):rsE ws=(0,outs,x):=by unfold ll at h;rw[h,jq h0 hd];simp
theorem zx{outs:List (List En)}(h:ll ws outs x)(h0:(cQ x).1≠0):rsE ws=((cQ x).1,[],[]):=by unfold ll at h;rw[h,kR h0,if_neg (by exact h0)]
theorem yU{E:List En}{outs:List (List En)}(ho:∀v∈x,v<18446744073709551616)(h:rsE x=(0,E::outs,y)):cQ x=(0,false,E)/\rsE (ak x E)=(0,outs,y):=by
 by_cases a:(cQ x).1=0
 .cases c:(cQ x).2.1 with
  | true=>rw[jq a c] at h;simp at h
  | false =>
   rw[im ho a c] at h;by_cases b:(rsE (ak x (cQ x).2.2)).1=0
   .rw[if_pos b] at h;simp only[Prod.mk.injEq,List.cons.injEq,true_and] at h;obtain⟨⟨d,f⟩,e⟩:=h;refine⟨by rw[<-a,<-c,<-d],?_⟩;rw[<-d,<-f,<-e,<-b]
   rw[if_neg b] at h;simp at h
 rw[kR a] at h;simp at h
theorem FW:∀ {a:List (List En)} {x y:List Nat},(∀v∈x,v<18446744073709551616)->rsE x=(0,a,y)->∀n,n<=a.length->(∀v∈stX x a n,v<18446744073709551616)/\(stX x a n).length=x.length/\rsE (stX x a n)=(0,a.drop n,y)/\(cQ (stX x a n)).1=0/\∀h:n<a.length,cQ (stX x a n)=(0,false,a[n])/\Small x.length a[n]:=by
 intro a
 induction a with
 | nil =>
  intro x y d h n e;have:n=0:=by simpa using e
  subst this;refine⟨d,rfl,h,?_,λh=>absurd h (by simp)⟩;rw[vb];by_cases g:(cQ x).1=0
  .exact g
  rw[kR g] at h;simp only[Prod.mk.injEq] at h;exact h.1
 | cons E a ih =>
  intro x y d h n e;obtain⟨c,i⟩:=yU d h;have b:=vG d (by rw[c]) (by rw[c]);rw[c] at b;cases n with
  | zero=>exact⟨d,rfl,h,by rw[vb,c],λ_=>⟨c,b.1⟩⟩
  | succ n =>rw[Eh];obtain⟨k,q,p,l,o⟩:=ih b.2.1 i n (by simpa using e);refine⟨k,by rw[q,aD],p,l,λj=>?_⟩;obtain⟨m,f⟩:=o (by simpa using j);rw[aD] at f;exact⟨m,f⟩
theorem Ho{outs:List (List En)}(ho:∀v∈x,v<18446744073709551616)(h:rsE x=(0,outs,y)):stX x outs outs.length=y/\(cQ y).1=0/\(cQ y).2.1=true:=by
 obtain⟨d,g2,a,b,-⟩:=FW ho h outs.length (kqg _);rw[kvc] at a;cases c:(cQ (stX x outs outs.length)).2.1 with
 | true =>rw[jq b c] at a;simp only[Prod.mk.injEq,true_and] at a;rw[a] at b c;exact⟨a,b,c⟩
 | false =>
  rw[im d b c] at a;split at a
  .simp at a
  rename_i h1;simp only[Prod.mk.injEq] at a;exact absurd a.1 h1
theorem rs_len:∀ {a:List (List En)} {x y:List Nat},(∀v∈x,v<18446744073709551616)->rsE x=(0,a,y)->a.length<=rzM x:=by
 intro a
 induction a with
 | nil=>intro x y _ _;exact kqy _
 | cons E a ih =>intro x y d h;obtain⟨c,e⟩:=yU d h;have b:=vG d (by rw[c]) (by rw[c]);rw[c] at b;have:=ih b.2.1 e;rw[kzc];have:=b.2.2;dsimp only at this;omega
theorem uk{outs:List (List En)}(ho:∀v∈ws,v<18446744073709551616)(h:gD ws=(0,outs,y)):av ws=0/\rsE ws=(0,outs,y)/\outs.length<=(ws.length-128)/2*3+5/\stX ws outs outs.length=y/\(∀n,n<=outs.length->(∀v∈stX ws outs n,v<18446744073709551616)/\(stX ws outs n).length=ws.length/\gD (stX ws outs n)=(0,outs.drop n,y))/\∀n (h:n<outs.length),Small ws.length outs[n]:=by
 have a:av ws=0:=by
  by_cases d:av ws=0
  .exact d
  unfold gD at h;rw[if_neg d] at h;simp only[Prod.mk.injEq] at h;exact absurd h.1 d
 have b:rsE ws=(0,outs,y):=by unfold gD at h;rw[if_pos a] at h;exact h
 obtain⟨-,f,-⟩:=cr a;refine⟨a,b,kza (rs_len ho b) (ET f),(Ho ho b).1,λn c=>?_,λn c=>((FW ho b n (kjq c)).2.2.2.2 c).2⟩;obtain⟨g,j,i,e,-⟩:=FW ho b n c;refine⟨g,j,?_⟩;unfold gD;rw[if_pos (rs_ck e)];exact i
theorem y8 :∀n x,(∀v∈x,v<18446744073709551616)->mzS p x<=n->((cK p x).1≠0->rsE x=((cK p x).1,[],[]))/\((cK p x).1=0->ll x (cK p x).2.1 (cK p x).2.2):=by
 intro n
 induction n with
 | zero =>
  intro x c h;have b:wd x 16≠p:=λb=>by unfold mzS at h;rw[if_pos b] at h;omega
  rw[ci b];exact⟨λh=>absurd rfl h,λ_=>gQ c⟩
 | succ n ih =>
  intro x c h;by_cases b:wd x 16=p
  .by_cases i:(ae x).1=6
   .rw[kJ b i];exact⟨λh=>absurd rfl h,λ_=>gQ c⟩
   have a:cQ x=((ae x).1,false,(ae x).2):=by unfold cQ;rw[if_neg i]
   by_cases d:(ae x).1=0
   .have hd:=fi c b d;obtain⟨k,l⟩:=ih (ak x (ae x).2) (cY c d) (by omega);have g:=im c (by rw[a];exact d) (by rw[a]);rw[a] at g;dsimp only at g;rw[dh c b d];by_cases e:(cK p (ak x (ae x).2)).1=0
    .rw[if_pos e];refine⟨λh=>absurd rfl h,λ_=>?_⟩;have j:=l e;unfold ll at j |-;rw[g,j];dsimp only;by_cases f:(rsE (cK p (ak x (ae x).2)).2.2).1=0
     .rw[if_pos f,if_pos rfl,if_pos f];rfl
     rw[if_neg f,if_neg (by exact f),if_neg f]
    rw[if_neg e];refine⟨λ_=>?_,λh=>absurd h e⟩;rw[g,k e,if_neg (by exact e)]
   rw[qc b i d];refine⟨λ_=>?_,λh=>absurd h d⟩;rw[kR (by rw[a];exact d),a]
  rw[ci b];exact⟨λh=>absurd rfl h,λ_=>gQ c⟩
theorem kE :∀n x,(∀v∈x,v<18446744073709551616)->mzS p x<=n->(cK p x).1=0->(∀v∈(cK p x).2.2,v<18446744073709551616)/\(cK p x).2.2.length=x.length:=by
 intro n
 induction n with
 | zero =>
  intro x b h _;have a:wd x 16≠p:=λa=>by unfold mzS at h;rw[if_pos a] at h;omega
  rw[ci a];exact⟨b,rfl⟩
 | succ n ih =>
  intro x b h d;by_cases a:wd x 16=p
  .by_cases f:(ae x).1=6
   .rw[kJ a f];exact⟨b,rfl⟩
   by_cases c:(ae x).1=0
   .have hd:=fi b a c;rw[dh b a c] at d |-;by_cases e:(cK p (ak x (ae x).2)).1=0
    .rw[if_pos e];obtain⟨g,i⟩:=ih (ak x (ae x).2) (cY b c) (by omega) e;exact⟨g,i.trans (aD _ _)⟩
    rw[if_neg e] at d;exact absurd d e
   rw[qc a f c] at d;exact absurd d c
  rw[ci a];exact⟨b,rfl⟩
end Go.Proofs.YtpcajamacpbjcaaGreat
