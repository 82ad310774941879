/- Texts laid together: FinP RsP RsQ RsE RsPh. -/
import Derived.Test.YtpcajamacpbjcaaGreatZKStg1
import Derived.Test.YtpcajamacpbjcaaGreatZKImage
import Derived.Test.YtpcajamacpbjcaaGreatZKStg3
import Derived.Test.YtpcajamacpbjcaaGreatZKStg2
set_option maxHeartbeats 16000000
set_option linter.all false
namespace Go.Proofs.YtpcajamacpbjcaaGreat
variable {ws x y:List Nat}{p:Nat}
def dX (ws:List Nat):Int:=if aw ws=0 then (if wd ws 16=4/\lfN ws=0 then 0 else 6) else aw ws
def fk (ws:List Nat):Nat:=if dX ws=0 then wd ws 18 else 0
theorem Ao{r:Int}(h:aw ws=r)(h0:r≠0):dX ws=r:=by subst h;simp[dX,h0]
theorem Cp(h:aw ws=0)(h2:¬ (wd ws 16=4/\lfN ws=0)):dX ws=6:=by unfold dX;rw[if_pos h,if_neg h2]
theorem CK(h:aw ws=0)(h2:wd ws 16=4)(h3:lfN ws=0):dX ws=0/\fk ws=wd ws 18:=by simp[fk,dX,h,h2,h3]
theorem jx(h:dX ws=0):aw ws=0/\wd ws 16=4/\lfN ws=0:=by
 unfold dX at h;split at h
 .split at h
  .rename_i h1 h2;exact⟨h1,h2⟩
  simp at h
 rename_i h1;exact absurd h h1
theorem fj(h:dX ws=0):ak (ws.length:Int)=true/\cF ws=0/\iP ws=true/\wd ws 16=4/\kU (wd ws 18)=true/\wd ws 18<=ws.length/\mvd ws 128 (wd ws 18)=true/\fk ws=wd ws 18:=by
 obtain⟨a,d,h3⟩:=jx h;have b:=iX a;obtain⟨j,-⟩:=dt b;obtain⟨e,c,g⟩:=cK j;obtain⟨⟨l0,l1,i⟩,-⟩:=(aY ws).1 c;rcases (b8 _ _ _).1 g with⟨-,i1,f,i3⟩|⟨p3,-⟩|⟨p0,-⟩
 .refine ⟨e,b,c,d,f,i,?_,by simp[fk,h]⟩;unfold aw at a;rw[if_pos b,if_pos d] at a;split at a
  .assumption
  simp at a
 .omega
 omega
def dj (ws:List Nat):List En:=if dX ws=0 then phE 0 0 0++(if fk ws=ws.length then [] else [⟨(fk ws:Int),cC (dV (ws.length-fk ws))⟩,⟨((fk ws+1:Nat):Int),0⟩]) else []
theorem DW{n:Nat}(h2:2<=n)(he:n%2=0)(h:n<=1920):iF (dV n)=true:=by rw[bj];exact⟨⟨by show (2:Int)<=(n:Int);omega,by show (n:Int)%2=0;omega⟩,.inr ⟨rfl,rfl,rfl,by show (n:Int)<=1920;omega⟩⟩
theorem rJ(h:dX ws=0)(hne:fk ws≠ws.length):iF (dV (ws.length-fk ws))=true:=by obtain⟨a,-,-,-,c,h6,-,b⟩:=fj h;have hb:=(af _).1 a;have hi:=(aQ _).1 c;rw[b] at hne |-;exact DW (by omega) (by omega) (by omega)
def tN:List Bk->Int->Int
 | [],s=>s
 | b::l,s=>tN l (s+b.size)
theorem Bn{t:Nat}:∀n i,t-i<=n->mvd ws i t=true->∃g:List Bk,(∀b∈g,b.kind=1/\b.mark=false/\db ws b=true/\2<=b.size/\b.size<=10/\0<=b.typ/\b.typ<8)/\tN g i=(t:Int)/\g.length<=t-i /\
 ∀xs l,(∀j,i<=j->j<t->wd xs j=wd ws j)->t<=xs.length->blocks xs t=some l->blocks xs i=some (g++l):=by
 intro n
 induction n with
 | zero =>intro i h c;rw[iU (by omega),kqu] at c;subst c;exact⟨[],(λb f=>by cases f),rfl,kqx _,λxs l _ _ m=>m⟩
 | succ n ih =>
  intro i h c;by_cases C:t<=i
  .rw[iU C,kqu] at c;subst c;exact⟨[],(λb f=>by cases f),rfl,kqx _,λxs l _ _ m=>m⟩
  cases a:lR ws i with
  | false=>rw[pU (by omega) a] at c;cases c
  | true =>
   rw[jC (by omega) a] at c;have hsz:=jR a;have hle:i+szAt ws i<=t:=by
    rcases kq6 t (i+szAt ws i) with s|s
    .rw[iU (by omega),kqu] at c;omega
    exact s
   obtain⟨g,D,y,o3,A⟩:=ih (i+szAt ws i) (by omega) c;unfold lR at a;simp only[kqw,kqu,kxo] at a;obtain⟨d,B,o,k⟩:=a;have hhd:=(bj _).1 (show iF (ah (wd ws i))=true by unfold ay at d;simp only[kqw] at d;exact d.1);refine⟨bkAt ws i::g,λb f=>?_,?_,by rw[kq3];omega,λxs l p u m=>?_⟩
   .rcases kq0.1 f with rfl|f
    .have e:(bkAt ws i).size=((szAt ws i:Nat):Int):=rfl;have w:(bkAt ws i).typ=(ah (wd ws i)).typ:=rfl;refine⟨B,o,?_,by omega,by omega,by omega,by omega⟩;unfold db at k |-;exact k
    exact D b f
   .show tN g (i+(szAt ws i:Nat))=_;rw[<-y];congr 1
   have q:wd xs i=wd ws i:=p i (kqb _) (by omega);have v:wd xs (i+1)=wd ws (i+1):=p (i+1) (by omega) (by omega);have x:szAt xs i=szAt ws i:=by unfold szAt;rw[q]
   have w:bkAt xs i=bkAt ws i:=by unfold bkAt;rw[q,v]
   have r:stands xs i=true:=by unfold stands;rw[q,d,kzz,kzw];have:(ah (wd ws i)).size=((szAt ws i:Nat):Int):=rfl;omega
   rw[aO (by omega) r,x,w,A xs l (λj s z=>p j (by omega) z) u m];rfl
theorem zo(h:dX ws=0):∀j,wd (aj ws (dj ws)) j=if j=16\/j=17\/j=18 then 0 else if fk ws<ws.length/\j=fk ws then cC (dV (ws.length-fk ws)) else if fk ws<ws.length/\j=fk ws+1 then 0 else wd ws j:=by
 obtain⟨m,-,-,-,q,p,-,n⟩:=fj h;have hb:=(af _).1 m;have o:=(aQ _).1 q;rw[<-n] at o p;intro j;have c:∀j,wd (aj ws (phE 0 0 0)) j=if j=16\/j=17\/j=18 then 0 else wd ws j:=by
  intro j;unfold phE;rw[show (16:Int)=((16:Nat):Int) from rfl,show (17:Int)=((17:Nat):Int) from rfl,show (18:Int)=((18:Nat):Int) from rfl];rw[fK 16 _ _ (by omega),fK 17 _ _ (by rw[kza];omega),fK 18 _ _ (by rw[kza,kza];omega)];show wd (((ws.set 16 0).set 17 0).set 18 0) j=_;rw[lv,lv,lv];simp only[kza];by_cases i:j=18
  .subst i;rw[if_pos ⟨rfl,by omega⟩,if_pos (by omega)]
  rw[if_neg (by omega)];by_cases e:j=17
  .subst e;rw[if_pos ⟨rfl,by omega⟩,if_pos (by omega)]
  rw[if_neg (by omega)];by_cases f:j=16
  .subst f;rw[if_pos ⟨rfl,by omega⟩,if_pos (by omega)]
  rw[if_neg (by omega),if_neg (by omega)]
 have g:dj ws=phE 0 0 0++(if fk ws=ws.length then [] else [⟨(fk ws:Int),cC (dV (ws.length-fk ws))⟩,⟨((fk ws+1:Nat):Int),0⟩]):=by simp[dj,h]
 rw[g,ey];have b:(aj ws (phE 0 0 0)).length=ws.length:=aE _ _;by_cases d:fk ws=ws.length
 .rw[if_pos d];show wd (aj ws (phE 0 0 0)) j=_;rw[c];by_cases a:j=16\/j=17\/j=18
  .rw[if_pos a,if_pos a]
  rw[if_neg a,if_neg a,if_neg (λh=>absurd h.1 (by omega)),if_neg (λh=>absurd h.1 (by omega))]
 rw[if_neg d,fK _ _ _ (by rw[b];omega),fK _ _ _ (by rw[kza,b];omega)];show wd (((aj ws (phE 0 0 0)).set _ _).set _ _) j=_;rw[lv,lv,c,kza,b];by_cases l:j=fk ws+1
 .subst l;rw[if_pos ⟨rfl,by omega⟩,if_neg (by omega),if_neg (by omega),if_pos ⟨by omega,rfl⟩]
 rw[if_neg (by omega)];by_cases k:j=fk ws
 .subst k;rw[if_pos ⟨rfl,by omega⟩,if_neg (by omega),if_pos ⟨by omega,rfl⟩]
 rw[if_neg (by omega)];by_cases a:j=16\/j=17\/j=18
 .rw[if_pos a,if_pos a]
 rw[if_neg a,if_neg a,if_neg (λh=>k h.2),if_neg (λh=>l h.2)]
def CH (ws:List Nat):List Bk:=if fk ws=ws.length then [] else [{ dV (ws.length-fk ws) with at_:=(fk ws:Int) }]
theorem zJ(h:dX ws=0):∃i:List Bk,(∀b∈i,b.kind=1/\b.mark=false/\2<=b.size/\b.size<=10)/\tN i 128=(fk ws:Int)/\i.length<=2048/\ag (aj ws (dj ws))=0 /\
 aa (aj ws (dj ws))=i++CH ws/\blocks (aj ws (dj ws)) 128=some (i++CH ws)/\cF (aj ws (dj ws))=0/\lnV (aj ws (dj ws))=phV 0 0 0/\ed (i++CH ws)=[]/\(aj ws (dj ws)).length=ws.length:=by
 obtain⟨u,-,w,-,h5,h6,q,W⟩:=fj h;have hb:=(af _).1 u;have hi:=(aQ _).1 h5;have c:=zo h;have g:(aj ws (dj ws)).length=ws.length:=aE _ _;have D:=rJ h;rw[<-W] at h6 hi q;obtain⟨i,N,Y,o3,o4⟩:=Bn _ 128 (kqb _) q;generalize aj ws (dj ws)=x at c g |-;have E:blocks x (fk ws)=some (CH ws):=by
  unfold CH;by_cases m:fk ws=ws.length
  .rw[if_pos m,aC (by omega)]
  rw[if_neg m];have r:=D m;have t:wd x (fk ws)=cC (dV (ws.length-fk ws)):=by rw[c,if_neg (by omega),if_pos ⟨by omega,rfl⟩]
  have V:wd x (fk ws+1)=0:=by rw[c,if_neg (by omega),if_neg (λh=>absurd h.2 (by omega)),if_pos ⟨by omega,rfl⟩]
  have e:=kF r;have J:szAt x (fk ws)=ws.length-fk ws:=by have S:(ah (wd x (fk ws))).size=((szAt x (fk ws):Nat):Int):=rfl;rw[t,e] at S;have e3:(dV (ws.length-fk ws)).size=((ws.length-fk ws:Nat):Int):=rfl;dsimp only at S;omega
  have C:stands x (fk ws)=true:=by unfold stands;rw[t,nW r,kzz,kzw,e];show ((ws.length-fk ws:Nat):Int)<=_;omega
  rw[aO (by omega) C,J,aC (by omega)];have B:bkAt x (fk ws)={ dV (ws.length-fk ws) with at_:=(fk ws:Int) }:=by unfold bkAt;rw[t,e,V];rfl
  rw[B];rfl
 have d:=o4 x (CH ws) (λj h1 h2=>by rw[c,if_neg (by omega),if_neg (λh=>absurd h.2 (by omega)),if_neg (λh=>absurd h.2 (by omega))]) (by omega) E;have o:(i++CH ws).all (dA x)=true:=by
  rw[kzq];intro b a;rcases kzt.1 a with a|a
  .obtain ⟨U,T,s,R,Q,g6,Z⟩:=N b a;unfold dA db;unfold db at s;have hty:tyA b+1<128:=by unfold tyA;omega
   rw[c (tyA b),c (tyA b+1)];have hty2:96<=tyA b:=by unfold tyA;omega
   rw[if_neg (by omega),if_neg (λh=>absurd h.2 (by omega)),if_neg (λh=>absurd h.2 (by omega)),if_neg (by omega),if_neg (λh=>absurd h.2 (by omega)),if_neg (λh=>absurd h.2 (by omega)),s,Bool.or_true]
  unfold CH at a;split at a
  .cases a
  rw[kq7] at a;subst a;rfl
 obtain⟨p1,X⟩:=fT (by rw[g];exact u) d o;obtain⟨-,H,v,P,A,M⟩:=(aY ws).1 w;have n:∀j,j<24->(j=16\/j=17\/j=18)/\wd x j=0\/wd x j=wd ws j:=by
  intro j hj;rw[c];by_cases K:j=16\/j=17\/j=18
  .left;exact⟨K,by rw[if_pos K]⟩
  right;rw[if_neg K,if_neg (λh=>absurd h.2 (by omega)),if_neg (λh=>absurd h.2 (by omega))]
 have f:wd x 16=0:=by rw[c,if_pos (by omega)]
 have l:wd x 17=0:=by rw[c,if_pos (by omega)]
 have k:wd x 18=0:=by rw[c,if_pos (by omega)]
 have I:wd x 19=0:=by rcases n 19 (by omega) with h|h;exact h.2;rw[h];exact H
 have y:wd x 20=0:=by rcases n 20 (by omega) with h|h;exact h.2;rw[h];exact v
 have L:wd x 21=0:=by rcases n 21 (by omega) with h|h;exact h.2;rw[h];exact P
 have O:wd x 22=0:=by rcases n 22 (by omega) with h|h;exact h.2;rw[h];exact A
 have G:wd x 23=0:=by rcases n 23 (by omega) with h|h;exact h.2;rw[h];exact M
 have F:iP x=true:=by rw[aY,f,l,k];exact⟨⟨by omega,by omega,by omega⟩,I,y,L,O,G⟩
 have z:=(lW (ws:=x) (by rw[g];exact u) (by rw[F,f,l,k];rfl)).1;have p:cF x=0:=by unfold cF;rw[if_pos z,if_neg (by rw[f];omega)]
 refine⟨i,λb a=>?_,Y,by omega,p1,X,d,p,by simp[lnV,p,f,l,k],?_,g⟩
 .obtain ⟨U,T,s,R,Q,g6,Z⟩:=N b a;exact⟨U,T,R,Q⟩
 unfold ed;rw[List.map_eq_nil_iff,kj6];intro b a;rcases kzt.1 a with a|a
 .rw[(N b a).2.1];simp
 unfold CH at a;split at a
 .cases a
 rw[kq7] at a;subst a;simp[dV]
open Go.RowKit
noncomputable def cJ (x:List Nat):Int × Bool × List En:=if (ac x).1=6 then (if wd x 16=0 then (0,true,[]) else (dX x,false,dj x)) else ((ac x).1,false,(ac x).2)
theorem qZ(ws:List Nat)(f s:Int):bi ws f s≠6:=by
 unfold bi lf;split
 .split
  .decide
  split
  .decide
  split<;>decide
 decide
theorem xV(x:List Nat):aw x≠6:=by
 unfold aw;split
 .split
  .split
   .exact qZ _ _ _
   decide
  split
  .exact qZ _ _ _
  rcases Aa x with h|h|h<;>rw[h]<;>decide
 rcases z4 x with h|h|h<;>rw[h]<;>decide
theorem yJ(h:(ac x).1=6):aw x=0:=by
 by_cases a:aw x=0
 .exact a
 unfold ac at h;rw[if_neg a] at h;exact absurd h (xV x)
theorem rs_ck(h:(cJ x).1=0):aw x=0:=by
 by_cases b:(ac x).1=6
 .exact yJ b
 unfold cJ at h;rw[if_neg b] at h;by_cases a:aw x=0
 .exact a
 unfold ac at h;rw[if_neg a] at h;exact absurd h a
theorem wV(x:List Nat)(h:ag x=0):2*(aa x).length+128<=x.length:=by obtain⟨c,l,b,-,a⟩:=al h;have hb:=(af _).1 c;rw[a];exact (a9 (by omega) _ _ b (by omega) (by omega) (by omega)).1
theorem uB{α:Type}{p q:α->Bool}:∀ {l:List α},(∀b∈l,q b=true->p b=true)->∀ {d a:α},d∈l->a∈l->d≠a->p d=true->q d=false->p a=true->q a=false->(l.filter q).length+2<=(l.filter p).length:=by
 intro l
 induction l with
 | nil=>intro _ d a h;exact absurd h (by simp)
 | cons c l ih =>
  intro h d a v r f k n j i;have m:=λx t=>h x (kx3 _ t);rw[kx6,kx6];rcases kq0.1 v with rfl|s
  .rw[k,n];have g:a∈l:=by
    rcases kq0.1 r with e|o
    .exact absurd e.symm f
    exact o
   have:=(nb m).2 ⟨a,g,j,i⟩;simp only[if_true,if_false,kzn,kq3];omega
  rcases kq0.1 r with rfl|o
  .rw[j,i];have:=(nb m).2 ⟨d,s,k,n⟩;simp only[if_true,if_false,kzn,kq3];omega
  have:=ih m s o f k n j i;have u:=h c (by simp);cases w:q c with
  | true=>rw[u w];simp only[if_true,kq3];omega
  | false=>cases hp:p c<;>simp only[if_true,if_false,kzn,kq3]<;>omega
theorem z7{l:List Bk}(h:l.Pairwise (λa b=>a.at_<b.at_)){a b:Bk}(ha:a∈l)(hb:b∈l)(e:a.at_=b.at_):a=b:=by
 obtain⟨i,f,rfl⟩:=kqv ha;obtain⟨j,d,rfl⟩:=kqv hb;rw[kzf] at h;rcases kjp i j with c|c|c
 .have:=h i j f d c;omega
 .subst c;rfl
 have:=h j i d f c;omega
theorem y4(h:aF ws=0)(h32:32<=(aN ws).length):(aN (aj ws ((aN ws).take 31))).length+2<=(aN ws).length:=by
 have c:((aN ws).take 31).Sublist (aN ws):=kjo _ _;have o:((aN ws).take 31).Pairwise (λa b=>a.a<b.a):=(dJ h).sublist c;obtain⟨Q,g2,H,g4,F⟩:=(ip h c).same h;rw[dS Q,H,F,kzl,dS h,kzl];rw[<-dS h];obtain⟨x,w⟩:=xq (aj ws ((aN ws).take 31));rw[w];unfold ku;rw[List.filter_map,kzl];have j:=cb (av h).1;have y:∀b∈aa ws,(∀e∈(aN ws).take 31,e.a≠b.at_)->(mkB x b).mark=b.mark:=by intro b v C;obtain⟨a,rfl,a1,a2,a3,a4⟩:=j.1 b v;show qL x (bkAt ws a).at_.toNat=_;rw[ab,kqj];unfold qL;rw[<-w,bg _ _ _ (λe l=>by have:=C e l;rwa [ab] at this)];rfl
 have g:∀i,i<31->∃b∈aa ws,b.at_=((aN ws)[i]?.map En.a).getD 0/\(!di (seenL ws) b)=true/\(!(di (seenL ws) (mkB x b)))=false:=by
  intro i hi;have s:i<((aN ws).take 31).length:=by rw[kzd];omega
  have l:=kqs s;have A:(aN ws)[i]? = some ((aN ws).take 31)[i]:=by rw[kkb,kqm (by omega)]
  obtain⟨a,t,I,L,K,u,n,k,d⟩:=dN h (c.subset l);refine⟨bkAt ws a,t,by rw[A,k,ab];rfl,by rw[d];rfl,?_⟩;have f:=dQ _ ws o _ l (by rw[k];dsimp only;omega) (by rw[k];dsimp only;omega);rw[k] at f;dsimp only at f;rw[kqj,w] at f;unfold di;show (!((mkB x (bkAt ws a)).mark==((seenL ws)[(bkAt ws a).at_.toNat]?.getD false)))=false;have z:(mkB x (bkAt ws a)).mark=cE ws (bkAt ws a):=by show qL x (bkAt ws a).at_.toNat=_;rw[ab,kqj];unfold qL;rw[f,(ij u n _).2.1]
  rw[z];unfold cE;simp
 obtain⟨M,S,E,O,J⟩:=g 0 (by omega);obtain⟨G,P,k,N,R⟩:=g 1 (by omega);have D:M≠G:=by rintro rfl;have r:=dJ h;rw[kzf] at r;have:=r 0 1 (by omega) (by omega) (by omega);rw[kqm (by omega)] at E k;simp only[kzp,kq4] at E k;omega
 refine uB (p:=λb=>!di (seenL ws) b) (q:=(λb=>!di (seenL ws) b) ∘ mkB x) (λb v m=>?_) S P D O J N R;dsimp only[Function.comp_apply] at m |-;cases B:di (seenL ws) b with
 | false=>rfl
 | true =>
  exfalso;have t:=y b v (λe l r=>by
   obtain⟨a,t,I,L,K,u,n,rfl,d⟩:=dN h (c.subset l);dsimp only at r;have:bkAt ws a=b:=z7 j.2 t v (by rw[ab];exact r);rw[this,B] at d;cases d)
  unfold di at B m;rw[t] at m
  change (!(b.mark==((seenL ws)[b.at_.toNat]?.getD false)))=true at m
  rw[B] at m;exact absurd m (by decide)
theorem zi{xs:List Nat}:∀ {l:List Bk} {s:Int},l.Pairwise (λa b=>a.at_<b.at_)->(∀b∈l,0<=b.at_)->(∀b∈l,b.kind=1->wd xs (b.at_.toNat+1)=b.next\/∃e∈aT l s,e.a=b.at_+1/\wd xs (b.at_.toNat+1)=e.v) ->
 (aT (l.map (nxB xs)) s).length+((aT l s).filter (λe=>wd xs e.a.toNat==e.v)).length<=(aT l s).length:=by
 intro l
 induction l with
 | nil=>intro s _ _ _;exact kqb _
 | cons b l ih =>
  intro s m w x;rw[kj9] at m;have g:∀c∈l,c.kind=1->wd xs (c.at_.toNat+1)=c.next\/∃e∈aT l (eP b s),e.a=c.at_+1/\wd xs (c.at_.toNat+1)=e.v:=by
   intro c k f;rcases x c (by simp[k]) f with j|⟨e,d,p,u⟩
   .exact .inl j
   simp only[aT,kzt] at d;rcases d with d|d
   .split at d
    .rw[kq7] at d;subst d;dsimp only at p;have:=m.1 c k;omega
    simp at d
   exact .inr ⟨e,d,p,u⟩
  have i1:=ih (s:=eP b s) m.2 (λc k=>w c (by simp[k])) g;have hb0:=w b (by simp);rw[kx0];simp only[aT];have A:eP (nxB xs b) s=eP b s:=rfl;have B:br (nxB xs b) s=br b s:=rfl;rw[A,B,kxj,kqz,kqz,kqz];have t:(nxB xs b).next=wd xs (b.at_.toNat+1):=rfl;have r:(nxB xs b).kind=b.kind:=rfl;have q:(nxB xs b).at_=b.at_:=rfl;have i:b.kind=1->wd xs (b.at_.toNat+1)=b.next\/wd xs (b.at_.toNat+1)=br b s:=by
   intro f;rcases x b (by simp) f with j|⟨e,d,p,u⟩
   .exact .inl j
   simp only[aT,kzt] at d;rcases d with d|d
   .split at d
    .rw[kq7] at d;subst d;exact .inr u
    simp at d
   obtain⟨c,k,-,h4⟩:=fY d;have:=m.1 c k;omega
  have y:(b.at_+1).toNat=b.at_.toNat+1:=by omega
  have hle:(if (nxB xs b).kind=1/\(nxB xs b).next≠br b s then [(⟨(nxB xs b).at_+1,br b s⟩:En)] else []).length+((if b.kind=1/\b.next≠br b s then [(⟨b.at_+1,br b s⟩:En)] else []).filter (λe=>wd xs e.a.toNat==e.v)).length<=(if b.kind=1/\b.next≠br b s then [(⟨b.at_+1,br b s⟩:En)] else []).length:=by
   rw[t,r,q];by_cases f:b.kind=1
   .by_cases o:b.next=br b s
    .have z:wd xs (b.at_.toNat+1)=br b s:=by
      rcases i f with j|j
      .rw[j];exact o
      exact j
     rw[if_neg (show ¬ (b.kind=1/\b.next≠br b s) from λh=>h.2 o),if_neg (show ¬ (b.kind=1/\wd xs (b.at_.toNat+1)≠br b s) from λh=>h.2 z)];exact kqb _
    rw[if_pos (show b.kind=1/\b.next≠br b s from ⟨f,o⟩)];by_cases n:wd xs (b.at_.toNat+1)=br b s
    .rw[if_neg (λh=>h.2 n)];simp[y,n]
    rw[if_pos ⟨f,n⟩];have:(wd xs (b.at_+1).toNat==br b s)=false:=by rw[y,kqi];exact n
    simp[this]
   rw[if_neg (λh=>f h.1),if_neg (λh=>f h.1)];exact kqb _
  omega
theorem AT(h:ag ws=0)(h32:32<=(aG ws).length):(aG (aj ws ((aG ws).take 31))).length+2<=(aG ws).length:=by
 obtain⟨y,z,i3⟩:=nT h;have r:aG ws=aT (aa ws) 128:=qv h;have d:=cb h;have c:((aG ws).take 31).Sublist (aG ws):=kjo _ _;have j:((aG ws).take 31).Pairwise (λa b=>a.a<b.a):=y.sublist c;have g:∀e∈aG ws,∃a:Nat,e.a=((a+1:Nat):Int)/\a%2=0/\128<=a:=by intro e f;rw[r] at f;obtain⟨b,k,-,A⟩:=fY f;obtain⟨a,rfl,p,t,-⟩:=d.1 b k;exact⟨a,by rw[A,ab];rfl,t,p⟩
 have u:Ev ws (aj ws ((aG ws).take 31)):=by refine⟨aE _ _,λi hi=>bg _ _ _ λe f n=>?_⟩;obtain⟨a,o,p,t⟩:=g e (c.subset f);omega
 obtain⟨E,C⟩:=u.heap h;have q:aG (aj ws ((aG ws).take 31))=aT ((aa ws).map (nxB (aj ws ((aG ws).take 31)))) 128:=by rw[qv E,C]
 rw[q];have m:∀e∈(aG ws).take 31,wd (aj ws ((aG ws).take 31)) e.a.toNat=e.v:=λe f=>by
  have hin:=z _ (c.subset f);exact dQ _ ws j _ f (by omega) (by omega)
 have w:=zi (xs:=aj ws ((aG ws).take 31)) (l:=aa ws) (s:=128) d.2 (λb k=>by obtain⟨a,rfl,-⟩:=d.1 b k;rw[ab];omega) (λb k hk=>by
  obtain⟨a,rfl,p,t,a3,B⟩:=d.1 b k;have hsz:=ax B;rw[ab,kqj];by_cases x:∃e∈(aG ws).take 31,e.a=((a+1:Nat):Int)
  .obtain ⟨e,f,o⟩:=x;refine .inr ⟨e,by rw[<-r];exact c.subset f,by rw[o];omega,?_⟩;have:=m e f;rw[o,kqj] at this;exact this
  exact .inl (by rw[bg _ _ _ (λe f n=>x ⟨e,f,n⟩)];rfl))
 rw[<-r] at w;have hfl:31<=((aG ws).filter (λe=>wd (aj ws ((aG ws).take 31)) e.a.toNat==e.v)).length:=by
  have D:(aG ws).take 31=((aG ws).take 31).filter (λe=>wd (aj ws ((aG ws).take 31)) e.a.toNat==e.v):=by symm;rw[List.filter_eq_self];intro e f;rw[kqu];exact m e f
  have n:=(c.filter (λe=>wd (aj ws ((aG ws).take 31)) e.a.toNat==e.v)).length_le;rw[<-D,kzd] at n;omega
 omega
theorem E3(hck:aw x=0)(p3:wd x 16=3)(h:(dp x).1=0):
 (wd (aj x (dp x).2) 16=3/\wd (aj x (dp x).2) 17<=x.length/\(wd x 17=0->wd (aj x (dp x).2) 17=128)/\(wd x 17≠0->wd x 17+2<=wd (aj x (dp x).2) 17))\/(wd (aj x (dp x).2) 16=4/\wd (aj x (dp x).2) 17=128/\wd x 17≠0):=by
 obtain⟨-,v,C,hph⟩:=ch hck;have hb:=(af _).1 v;obtain⟨⟨l1,A,l3⟩,-⟩:=(aY x).1 C;by_cases z:wd x 17=0
 .have d:dm x=0:=by
   by_cases j:dm x=0
   .exact j
   unfold dp at h;rw[if_pos z,if_neg j] at h;exact absurd h j
  have g:dp x=(0,⟨17,128⟩::dd x):=by unfold dp;rw[if_pos z,if_pos d]
  obtain⟨-,-,-,-,-,-,-,t,w,q3,-⟩:=jE d;obtain⟨r,p,n,c,a,s⟩:=jn (f:=128) (l:=dd x) hck p3 (by decide) (by omega) (by omega) (by omega) w (λe b=>by have:=(t e b).1;omega) (λe b=>(t e b).2);rw[g];exact .inl ⟨c,by rw[a];omega,λ_=>a,λi=>absurd z i⟩
 have g:dp x=iK x (wd x 17):=by unfold dp;rw[if_neg z]
 have u:(iK x (wd x 17)).1=0:=by rw[<-g];exact h
 rcases nY x.length (wd x 17) (by omega) A u with i|⟨m,m1,m2,m3,m4,m5,o,q,y⟩
 .rw[g,i];obtain⟨r,p,n,c,a,s⟩:=gu hck p3;exact .inr ⟨c,a,z⟩
 obtain⟨f,-,-,-,-,q5,-,-,-,B⟩:=gy q;have k:=Bq q;obtain⟨r,p,n,c,a,s⟩:=jn (f:=m+szAt x m) (l:=cr x (m:Int)) hck p3 ((aQ _).2 (by omega)) o (by omega) (by omega) B (λe b=>by have:=k e b;omega) (λe b=>by have:=k e b;omega);rw[g,y];exact .inl ⟨c,by rw[a];exact o,λi=>absurd i z,λ_=>by rw[a];omega⟩
theorem yl(ho:∀v∈x,v<18446744073709551616)(hck:aw x=0)(p4:wd x 16=4)(h:(eO x).1=0):
 wd (aj x (eO x).2) 16=4/\wd (aj x (eO x).2) 17<=x.length/\wd x 17+2<=wd (aj x (eO x).2) 17:=by
 obtain⟨-,B,F,q⟩:=ch hck;have hb:=(af _).1 B;obtain⟨⟨l1,l2,l3⟩,-⟩:=(aY x).1 F;have b:bp x ((wd x 17:Nat):Int)=0:=by
  by_cases d:bp x ((wd x 17:Nat):Int)=0
  .exact d
  unfold eO at h;rw[if_neg d] at h;exact absurd h (by decide)
 obtain⟨-,a1,a2,m,y,m1,m2,m3,m4,m5,m6,m7,m8,-⟩:=eK b;have c:eW x (m:Int) ((wd x 18:Nat):Int)=0:=by
  by_cases d:eW x (m:Int) ((wd x 18:Nat):Int)=0
  .exact d
  unfold eO at h;rw[if_pos b,y,ab,if_neg d] at h;exact absurd h d
 have C:eO x=(0,⟨17,m+szAt x m⟩::⟨18,wd x 18+szAt x m⟩::iG x m (wd x 18)):=by unfold eO;rw[if_pos b,y,ab,if_pos c,aP,show ((m:Int)+((szAt x m:Nat):Int)).toNat=m+szAt x m by omega,show (((wd x 18:Nat):Int)+((szAt x m:Nat):Int)).toNat=wd x 18+szAt x m by omega];unfold jH;rw[if_pos c,kqj,kqj]
 obtain⟨a,u,n,z,w,E,n2,n10,hu,hua,han,hst,hlv,-,-,p⟩:=fg c;have z:a=m:=by omega
 have w:u=wd x 18:=by omega
 subst z w;subst E;have o:=(b8 _ _ _).1 q;have g:kU (wd x 17)=true/\kU (wd x 18)=true/\wd x 18<=wd x 17:=by
  rcases o with r|r|r
  .exact r.2
  .omega
  omega
 have i1:=(aQ _).1 g.1;have i2:=(aQ _).1 g.2.1;rw[C];obtain⟨g1,g2,g3,A,s,g6⟩:=my (f:=a+szAt x a) (t:=wd x 18+szAt x a) (l:=iG x a (wd x 18)) hck p4 ((aQ _).2 (by omega)) ((aQ _).2 (by omega)) (by omega) (by omega) (by omega) (by omega) (by rw[gn];omega) (by
  rw[kzf];intro i j hi hj hij;rw[gh,gh];omega) (λe G=>by
  obtain⟨k,D,rfl⟩:=kqv G;rw[gh];rw[gn] at D;omega) (rV ho p)
 exact⟨A,by rw[s];omega,by rw[s];omega⟩
noncomputable def rzM (x:List Nat):Nat:=
 if wd x 16=1 then (aN x).length/2+1+((x.length-128)/2/2+1)+((x.length-128)/2+2)+((x.length-128)/2+1)
 else if wd x 16=2 then (aG x).length/2+1+((x.length-128)/2+2)+((x.length-128)/2+1)
 else if wd x 16=3 then (if wd x 17=0 then (x.length-128)/2+2 else (x.length-wd x 17)/2+1)+((x.length-128)/2+1)
 else if wd x 16=4 then (x.length-wd x 17)/2+1 else 0
theorem zr(x:List Nat)(hs:128<=x.length):(aG x).length<=(x.length-128)/2:=by
 by_cases h:ag x=0
 .rw[qv h];have h1:=kP (aa x) 128;have h2:=wV x h;omega
 unfold aG;rw[if_neg h];simp
theorem Dp(x:List Nat)(hs:128<=x.length):(aN x).length<=(x.length-128)/2:=by
 by_cases h:aF x=0
 .rw[dS h,kzl];have h1:=l7 (seenL x) (aa x);have h2:=wV x (av h).1;omega
 unfold aN;rw[if_neg h];simp
theorem AF(ho:∀v∈x,v<18446744073709551616)(h:(ac x).1=0):rzM (aj x (ac x).2)<rzM x:=by
 obtain⟨a,-,-,-,-,k6,-,-⟩:=lI ho h;obtain⟨-,B,I,s⟩:=ch a;have hb:=(af _).1 B;obtain⟨⟨l1,l2,l3⟩,-⟩:=(aY x).1 I;have r:=(b8 _ _ _).1 s;have k:(aj x (ac x).2).length=x.length:=aE _ _;have g:=zr (aj x (ac x).2) (by omega);rw[k] at g;unfold rzM;rw[k];by_cases c:wd x 16=1
 .have f:aF x=0:=by
   by_cases o:aF x=0
   .exact o
   unfold ac at h;rw[if_pos a,if_pos c,if_neg o] at h;exact absurd h o
  have e:ac x=(0,gE (aN x) 2):=by unfold ac;rw[if_pos a,if_pos c,if_pos f]
  obtain⟨t,w⟩:=oM f;obtain⟨J,F,A,d,l,q⟩:=fD a c (.inl rfl) (dJ f) (λy C=>by
   obtain⟨i,G⟩:=kjv.1 C;exact t i y G) (o0 f)
  simp only[Nat.reduceAdd] at d;rw[e] at g |-;dsimp only at g |-;rw[if_pos c,d];by_cases b:32<=(aN x).length
  .have E:=y4 f b;rw[if_pos b,if_pos rfl,ce b];omega
  rw[if_neg b,if_neg (by decide),if_pos rfl];omega
 by_cases j:wd x 16=2
 .have m:ag x=0:=by
   by_cases o:ag x=0
   .exact o
   unfold ac at h;rw[if_pos a,if_neg c,if_pos j,if_neg o] at h;exact absurd h o
  have e:ac x=(0,gE (aG x) 3):=by unfold ac;rw[if_pos a,if_neg c,if_pos j,if_pos m]
  obtain⟨t,w,H⟩:=nT m;obtain⟨J,F,A,d,l,q⟩:=fD a j (.inr rfl) t w H;simp only[Nat.reduceAdd] at d l;rw[e] at g |-;dsimp only at g |-;rw[if_neg c,if_pos j,d,l];by_cases b:32<=(aG x).length
  .have E:=AT m b;rw[if_pos b,if_neg (by decide),if_pos rfl,ce b];omega
  rw[if_neg b,if_neg (by decide),if_neg (by decide),if_pos rfl,if_pos rfl];omega
 by_cases p:wd x 16=3
 .have e:ac x=dp x:=by unfold ac;rw[if_pos a,if_neg c,if_neg j,if_pos p]
  rw[e] at h |-;have hF:wd x 17=0\/128<=wd x 17:=by
   rcases r with n|⟨-,-,n⟩|n
   .omega
   .rcases n with n|n
    .exact .inl n
    exact .inr ((aQ _).1 n).1
   omega
  rcases E3 a p h with⟨d,l,q,D⟩|⟨d,l,q⟩
  .rw[d,if_neg (by decide),if_neg (by decide),if_pos rfl,if_neg c,if_neg j,if_pos p];by_cases z:wd x 17=0
   .rw[if_pos z,q z,if_neg (by decide)];omega
   have:=D z;rw[if_neg z,if_neg (by omega)];omega
  rw[d,l,if_neg (by decide),if_neg (by decide),if_neg (by decide),if_pos rfl,if_neg c,if_neg j,if_pos p,if_neg q];omega
 have u:wd x 16=4:=by omega
 have e:ac x=eO x:=by unfold ac;rw[if_pos a,if_neg c,if_neg j,if_neg p,if_pos u]
 rw[e] at h |-;obtain⟨d,l,q⟩:=yl ho a u h;rw[d,if_neg (by decide),if_neg (by decide),if_neg (by decide),if_pos rfl,if_neg c,if_neg j,if_neg p,if_pos u];omega
theorem y7(hs:ak (x.length:Int)=true):rzM x<=(x.length-128)/2*3+5:=by
 have hb:=(af _).1 hs;have h1:=Dp x (by omega);have h2:=zr x (by omega);unfold rzM;by_cases c:wd x 16=1
 .rw[if_pos c];omega
 rw[if_neg c];by_cases b:wd x 16=2
 .rw[if_pos b];omega
 rw[if_neg b];by_cases a:wd x 16=3
 .rw[if_pos a];split
  .omega
  have:(x.length-wd x 17)/2<=x.length/2:=by omega
  omega
 rw[if_neg a];split<;>omega
theorem sJ(h:dX x=0):Small x.length (dj x)/\wd (aj x (dj x)) 16=0:=by
 obtain⟨g,-,-,-,j,f,-,i⟩:=fj h;have hb:=(af _).1 g;have d:=(aQ _).1 j;rw[<-i] at d f;refine⟨?_,by rw[zo h,if_pos (.inl rfl)]⟩;unfold dj;rw[if_pos h];have b:=λb=>po (rJ h b);generalize fk x=t at d f b;have c:phE 0 0 0=[⟨16,0⟩,⟨17,0⟩,⟨18,0⟩]:=rfl;rw[c];by_cases a:t=x.length
 .rw[if_pos a];refine⟨by decide,by decide,by simp,λe a=>?_,λe a=>?_⟩ <;>
  .simp only[kzm,kq0,kzs,or_false] at a;rcases a with rfl|rfl|rfl<;>(dsimp only;omega)
 have hv:=b a;rw[if_neg a];refine⟨by simp,by simp,?_,λe a=>?_,λe a=>?_⟩
 .simp only[kzr,kz5,kj9,kq0,kzs,or_false,forall_eq_or_imp,forall_eq,List.Pairwise.nil,and_true,false_implies,implies_true];omega
 .simp only[kzr,kz5,kq0,kzs,or_false] at a;rcases a with rfl|rfl|rfl|rfl|rfl<;>(dsimp only;omega)
 simp only[kzr,kz5,kq0,kzs,or_false] at a;rcases a with rfl|rfl|rfl|rfl|rfl<;>(dsimp only;omega)
theorem v9(ho:∀v∈x,v<18446744073709551616)(h:(cJ x).1=0)(hd:(cJ x).2.1=false):Small x.length (cJ x).2.2/\(∀v∈aj x (cJ x).2.2,v<18446744073709551616)/\rzM (aj x (cJ x).2.2)<rzM x:=by
 by_cases a:(ac x).1=6
 .by_cases b:wd x 16=0
  .unfold cJ at hd;rw[if_pos a,if_pos b] at hd;cases hd
  have e:cJ x=(dX x,false,dj x):=by unfold cJ;rw[if_pos a,if_neg b]
  rw[e] at h |-;dsimp only at h |-;obtain⟨c,f⟩:=sJ h;refine⟨c,sj _ _ ho c.val,?_⟩;have d:wd x 16=4:=(fj h).2.2.2.1;unfold rzM;rw[f,if_neg (by decide),if_neg (by decide),if_neg (by decide),if_neg (by decide),d,if_neg (by decide),if_neg (by decide),if_neg (by decide),if_pos rfl];omega
 have e:cJ x=((ac x).1,false,(ac x).2):=by unfold cJ;rw[if_neg a]
 rw[e] at h |-;dsimp only at h |-;exact⟨(lI ho h).2.1,dy ho h,AF ho h⟩
noncomputable def rsG:Nat->List Nat->Int × List (List En) × List Nat
 | 0,x=>(0,[],x)
 | f+1,x=>if (cJ x).1=0 then (if (cJ x).2.1=true then (0,[],x)
  else if (rsG f (aj x (cJ x).2.2)).1=0 then (0,(cJ x).2.2::(rsG f (aj x (cJ x).2.2)).2.1,(rsG f (aj x (cJ x).2.2)).2.2) else ((rsG f (aj x (cJ x).2.2)).1,[],[]))
  else ((cJ x).1,[],[])
theorem Cb:∀ {f g:Nat} {x:List Nat},(∀v∈x,v<18446744073709551616)->rzM x<f->rzM x<g->rsG f x=rsG g x:=by
 intro f
 induction f with
 | zero=>intro g x _ h;omega
 | succ f ih =>
  intro g x c hf hg;cases g with
  | zero=>omega
  | succ g =>
   simp only[rsG];by_cases a:(cJ x).1=0
   .cases b:(cJ x).2.1 with
    | true=>simp only[if_true]
    | false =>obtain⟨-,d,h3⟩:=v9 c a b;rw[ih (g:=g) d (by omega) (by omega)]
   simp only[a,if_false]
noncomputable def rsE (x:List Nat):Int × List (List En) × List Nat:=rsG (rzM x+1) x
theorem mR(h:(cJ x).1≠0):rsE x=((cJ x).1,[],[]):=by unfold rsE;simp only[rsG];rw[if_neg h]
theorem kv(h:(cJ x).1=0)(hd:(cJ x).2.1=true):rsE x=(0,[],x):=by unfold rsE;simp only[rsG];rw[if_pos h,if_pos hd]
theorem ju(ho:∀v∈x,v<18446744073709551616)(h:(cJ x).1=0)(hd:(cJ x).2.1=false):rsE x=(if (rsE (aj x (cJ x).2.2)).1=0 then (0,(cJ x).2.2::(rsE (aj x (cJ x).2.2)).2.1,(rsE (aj x (cJ x).2.2)).2.2) else ((rsE (aj x (cJ x).2.2)).1,[],[])):=by
 obtain⟨-,a,b⟩:=v9 ho h hd;have e:rsG (rzM x) (aj x (cJ x).2.2)=rsE (aj x (cJ x).2.2):=Cb a b (kj5 _)
 conv=>lhs;unfold rsE
 simp only[rsG];rw[if_pos h,if_neg (by rw[hd];decide),e]
theorem Ff(ho:∀v∈x,v<18446744073709551616)(h:(rsE x).1≠0):rsE x=((rsE x).1,[],[]):=by
 by_cases a:(cJ x).1=0
 .cases c:(cJ x).2.1 with
  | true=>rw[kv a c] at h;exact absurd rfl h
  | false =>
   rw[ju ho a c] at h |-;by_cases b:(rsE (aj x (cJ x).2.2)).1=0
   .rw[if_pos b] at h;exact absurd rfl h
   rw[if_neg b]
 rw[mR a]
noncomputable def fH (ws:List Nat):Int × List (List En) × List Nat:=if aw ws=0 then rsE ws else (aw ws,[],[])
def kL (ws:List Nat) (outs:List (List En)) (x:List Nat):Prop:=rsE ws=if (rsE x).1=0 then (0,outs++(rsE x).2.1,(rsE x).2.2) else ((rsE x).1,[],[])
theorem f8(ho:∀v∈ws,v<18446744073709551616):kL ws [] ws:=by
 unfold kL;by_cases h:(rsE ws).1=0
 .rw[if_pos h,kz5,<-h]
 rw[if_neg h];exact Ff ho h
theorem ot{outs:List (List En)}(h:kL ws outs x)(ho:∀v∈x,v<18446744073709551616)(h0:(cJ x).1=0)(hd:(cJ x).2.1=false):kL ws (outs++[(cJ x).2.2]) (aj x (cJ x).2.2):=by
 unfold kL at h |-;rw[h,ju ho h0 hd];by_cases a:(rsE (aj x (cJ x).2.2)).1=0
 .rw[if_pos a,if_pos rfl,if_pos a];simp
 rw[if_neg a,if_neg (by exact a),if_neg a]
theorem qn{outs:List (List En)}(h:kL ws outs x)(h0:(cJ x).1=0)(hd:(cJ x).2.1=true):rsE ws=(0,outs,x):=by unfold kL at h;rw[h,kv h0 hd];simp
theorem qY{outs:List (List En)}(h:kL ws outs x)(h0:(cJ x).1≠0):rsE ws=((cJ x).1,[],[]):=by unfold kL at h;rw[h,mR h0,if_neg (by exact h0)]
theorem x8{E:List En}{outs:List (List En)}(ho:∀v∈x,v<18446744073709551616)(h:rsE x=(0,E::outs,y)):cJ x=(0,false,E)/\rsE (aj x E)=(0,outs,y):=by
 by_cases a:(cJ x).1=0
 .cases b:(cJ x).2.1 with
  | true=>rw[kv a b] at h;simp at h
  | false =>
   rw[ju ho a b] at h;by_cases c:(rsE (aj x (cJ x).2.2)).1=0
   .rw[if_pos c] at h;simp only[Prod.mk.injEq,List.cons.injEq,true_and] at h;obtain⟨⟨d,f⟩,e⟩:=h;refine⟨by rw[<-a,<-b,<-d],?_⟩;rw[<-d,<-f,<-e,<-c]
   rw[if_neg c] at h;simp at h
 rw[mR a] at h;simp at h
theorem E4:∀ {a:List (List En)} {x y:List Nat},(∀v∈x,v<18446744073709551616)->rsE x=(0,a,y)->∀n,n<=a.length->(∀v∈stX x a n,v<18446744073709551616)/\(stX x a n).length=x.length/\rsE (stX x a n)=(0,a.drop n,y)/\(cJ (stX x a n)).1=0/\∀h:n<a.length,cJ (stX x a n)=(0,false,a[n])/\Small x.length a[n]:=by
 intro a
 induction a with
 | nil =>
  intro x y c h n e;have:n=0:=by simpa using e
  subst this;refine⟨c,rfl,h,?_,λh=>absurd h (by simp)⟩;rw[tJ];by_cases g:(cJ x).1=0
  .exact g
  rw[mR g] at h;simp only[Prod.mk.injEq] at h;exact h.1
 | cons E a ih =>
  intro x y c h n e;obtain⟨d,q⟩:=x8 c h;have b:=v9 c (by rw[d]) (by rw[d]);rw[d] at b;cases n with
  | zero=>exact⟨c,rfl,h,by rw[tJ,d],λ_=>⟨d,b.1⟩⟩
  | succ n =>rw[Cl];obtain⟨o,l,k,j,i⟩:=ih b.2.1 q n (by simpa using e);refine⟨o,by rw[l,aE],k,j,λm=>?_⟩;obtain⟨p,f⟩:=i (by simpa using m);rw[aE] at f;exact⟨p,f⟩
theorem Fd{outs:List (List En)}(ho:∀v∈x,v<18446744073709551616)(h:rsE x=(0,outs,y)):stX x outs outs.length=y/\(cJ y).1=0/\(cJ y).2.1=true:=by
 obtain⟨d,g2,a,b,-⟩:=E4 ho h outs.length (kqb _);rw[kk2] at a;cases c:(cJ (stX x outs outs.length)).2.1 with
 | true =>rw[kv b c] at a;simp only[Prod.mk.injEq,true_and] at a;rw[a] at b c;exact⟨a,b,c⟩
 | false =>
  rw[ju d b c] at a;split at a
  .simp at a
  rename_i h1;simp only[Prod.mk.injEq] at a;exact absurd a.1 h1
theorem rs_len:∀ {a:List (List En)} {x y:List Nat},(∀v∈x,v<18446744073709551616)->rsE x=(0,a,y)->a.length<=rzM x:=by
 intro a
 induction a with
 | nil=>intro x y _ _;exact kqx _
 | cons E a ih =>intro x y d h;obtain⟨c,e⟩:=x8 d h;have b:=v9 d (by rw[c]) (by rw[c]);rw[c] at b;have:=ih b.2.1 e;rw[kq3];have:=b.2.2;dsimp only at this;omega
theorem jD{outs:List (List En)}(ho:∀v∈ws,v<18446744073709551616)(h:fH ws=(0,outs,y)):aw ws=0/\rsE ws=(0,outs,y)/\outs.length<=(ws.length-128)/2*3+5/\stX ws outs outs.length=y/\(∀n,n<=outs.length->(∀v∈stX ws outs n,v<18446744073709551616)/\(stX ws outs n).length=ws.length/\fH (stX ws outs n)=(0,outs.drop n,y))/\∀n (h:n<outs.length),Small ws.length outs[n]:=by
 have a:aw ws=0:=by
  by_cases d:aw ws=0
  .exact d
  unfold fH at h;rw[if_neg d] at h;simp only[Prod.mk.injEq] at h;exact absurd h.1 d
 have b:rsE ws=(0,outs,y):=by unfold fH at h;rw[if_pos a] at h;exact h
 obtain⟨-,e,-⟩:=ch a;refine⟨a,b,kzv (rs_len ho b) (y7 e),(Fd ho b).1,λn c=>?_,λn c=>((E4 ho b n (kjf c)).2.2.2.2 c).2⟩;obtain⟨g,i,j,f,-⟩:=E4 ho b n c;refine⟨g,i,?_⟩;unfold fH;rw[if_pos (rs_ck f)];exact j
theorem zW :∀n x,(∀v∈x,v<18446744073709551616)->mzS p x<=n->((dh p x).1≠0->rsE x=((dh p x).1,[],[]))/\((dh p x).1=0->kL x (dh p x).2.1 (dh p x).2.2):=by
 intro n
 induction n with
 | zero =>
  intro x c h;have b:wd x 16≠p:=λb=>by unfold mzS at h;rw[if_pos b] at h;omega
  rw[cM b];exact⟨λh=>absurd rfl h,λ_=>f8 c⟩
 | succ n ih =>
  intro x c h;by_cases b:wd x 16=p
  .by_cases i:(ac x).1=6
   .rw[kJ b i];exact⟨λh=>absurd rfl h,λ_=>f8 c⟩
   have a:cJ x=((ac x).1,false,(ac x).2):=by unfold cJ;rw[if_neg i]
   by_cases d:(ac x).1=0
   .have hd:=fL c b d;obtain⟨l,k⟩:=ih (aj x (ac x).2) (dy c d) (by omega);have g:=ju c (by rw[a];exact d) (by rw[a]);rw[a] at g;dsimp only at g;rw[dH c b d];by_cases e:(dh p (aj x (ac x).2)).1=0
    .rw[if_pos e];refine⟨λh=>absurd rfl h,λ_=>?_⟩;have j:=k e;unfold kL at j |-;rw[g,j];dsimp only;by_cases f:(rsE (dh p (aj x (ac x).2)).2.2).1=0
     .rw[if_pos f,if_pos rfl,if_pos f];rfl
     rw[if_neg f,if_neg (by exact f),if_neg f]
    rw[if_neg e];refine⟨λ_=>?_,λh=>absurd h e⟩;rw[g,l e,if_neg (by exact e)]
   rw[oZ b i d];refine⟨λ_=>?_,λh=>absurd h d⟩;rw[mR (by rw[a];exact d),a]
  rw[cM b];exact⟨λh=>absurd rfl h,λ_=>f8 c⟩
theorem kQ :∀n x,(∀v∈x,v<18446744073709551616)->mzS p x<=n->(dh p x).1=0->(∀v∈(dh p x).2.2,v<18446744073709551616)/\(dh p x).2.2.length=x.length:=by
 intro n
 induction n with
 | zero =>
  intro x b h _;have a:wd x 16≠p:=λa=>by unfold mzS at h;rw[if_pos a] at h;omega
  rw[cM a];exact⟨b,rfl⟩
 | succ n ih =>
  intro x b h d;by_cases a:wd x 16=p
  .by_cases f:(ac x).1=6
   .rw[kJ a f];exact⟨b,rfl⟩
   by_cases c:(ac x).1=0
   .have hd:=fL b a c;rw[dH b a c] at d |-;by_cases e:(dh p (aj x (ac x).2)).1=0
    .rw[if_pos e];obtain⟨i,g⟩:=ih (aj x (ac x).2) (dy b c) (by omega) e;exact⟨i,g.trans (aE _ _)⟩
    rw[if_neg e] at d;exact absurd d e
   rw[oZ a f c] at d;exact absurd d c
  rw[cM a];exact⟨b,rfl⟩
end Go.Proofs.YtpcajamacpbjcaaGreat
