/- Texts laid together: FinP RsP RsQ RsE RsPh. -/
import Derived.Test.YtpcajamacpbjcaaGreatZKStg1
import Derived.Test.YtpcajamacpbjcaaGreatZKImage
import Derived.Test.YtpcajamacpbjcaaGreatZKStg3
import Derived.Test.YtpcajamacpbjcaaGreatZKStg2
set_option maxHeartbeats 16000000
set_option linter.all false
namespace Go.Proofs.YtpcajamacpbjcaaGreat
variable {ws x y:List Nat}{p:Nat}
def el (ws:List Nat):Int:=if aw ws=0 then (if wd ws 16=4/\lfN ws=0 then 0 else 6) else aw ws
def fj (ws:List Nat):Nat:=if el ws=0 then wd ws 18 else 0
theorem Ef{r:Int}(h:aw ws=r)(h0:r≠0):el ws=r:=by subst h;simp[el,h0]
theorem Dt(h:aw ws=0)(h2:¬ (wd ws 16=4/\lfN ws=0)):el ws=6:=by unfold el;rw[if_pos h,if_neg h2]
theorem Dk(h:aw ws=0)(h2:wd ws 16=4)(h3:lfN ws=0):el ws=0/\fj ws=wd ws 18:=by simp[fj,el,h,h2,h3]
theorem xr(h:el ws=0):aw ws=0/\wd ws 16=4/\lfN ws=0:=by
 unfold el at h;split at h
 .split at h
  .rename_i h1 h2;exact⟨h1,h2⟩
  simp at h
 rename_i h1;exact absurd h h1
theorem iT(h:el ws=0):aj (ws.length:Int)=true/\cM ws=0/\iF ws=true/\wd ws 16=4/\lx (wd ws 18)=true/\wd ws 18<=ws.length/\mvd ws 128 (wd ws 18)=true/\fj ws=wd ws 18:=by
 obtain⟨a,c,h3⟩:=xr h;have b:=ky a;obtain⟨j,-⟩:=ix b;obtain⟨e,d,i⟩:=fU j;obtain⟨⟨l0,l1,g⟩,-⟩:=(bt ws).1 d;rcases (cI _ _ _).1 i with⟨-,i1,f,i3⟩|⟨p3,-⟩|⟨p0,-⟩
 .refine ⟨e,b,d,c,f,g,?_,by simp[fj,h]⟩;unfold aw at a;rw[if_pos b,if_pos c] at a;split at a
  .assumption
  simp at a
 .omega
 omega
def dx (ws:List Nat):List En:=if el ws=0 then phE 0 0 0++(if fj ws=ws.length then [] else [⟨(fj ws:Int),cR (ei (ws.length-fj ws))⟩,⟨((fj ws+1:Nat):Int),0⟩]) else []
theorem GW{n:Nat}(h2:2<=n)(he:n%2=0)(h:n<=1920):iY (ei n)=true:=by rw[bA];exact⟨⟨by show (2:Int)<=(n:Int);omega,by show (n:Int)%2=0;omega⟩,.inr ⟨rfl,rfl,rfl,by show (n:Int)<=1920;omega⟩⟩
theorem tr(h:el ws=0)(hne:fj ws≠ws.length):iY (ei (ws.length-fj ws))=true:=by obtain⟨a,-,-,-,c,h6,-,b⟩:=iT h;have hb:=(aa _).1 a;have hi:=(aT _).1 c;rw[b] at hne |-;exact GW (by omega) (by omega) (by omega)
def tQ:List Bk->Int->Int
 | [],s=>s
 | b::l,s=>tQ l (s+b.size)
theorem D9{t:Nat}:∀n i,t-i<=n->mvd ws i t=true->∃f:List Bk,(∀b∈f,b.kind=1/\b.mark=false/\cZ ws b=true/\2<=b.size/\b.size<=10/\0<=b.typ/\b.typ<8)/\tQ f i=(t:Int)/\f.length<=t-i /\
 ∀xs l,(∀j,i<=j->j<t->wd xs j=wd ws j)->t<=xs.length->blocks xs t=some l->blocks xs i=some (f++l):=by
 intro n
 induction n with
 | zero =>intro i h c;rw[kj (by omega),kqw] at c;subst c;exact⟨[],(λb g=>by cases g),rfl,kqy _,λxs l _ _ k=>k⟩
 | succ n ih =>
  intro i h c;by_cases B:t<=i
  .rw[kj B,kqw] at c;subst c;exact⟨[],(λb g=>by cases g),rfl,kqy _,λxs l _ _ k=>k⟩
  cases a:mdOk ws i with
  | false=>rw[sI (by omega) a] at c;cases c
  | true =>
   rw[kY (by omega) a] at c;have hsz:=lh a;have hle:i+szAt ws i<=t:=by
    rcases kq6 t (i+szAt ws i) with p|p
    .rw[kj (by omega),kqw] at c;omega
    exact p
   obtain⟨f,y,A,o3,x⟩:=ih (i+szAt ws i) (by omega) c;unfold mdOk at a;simp only[kqt,kqw,kx2] at a;obtain⟨d,C,o,m⟩:=a;have hhd:=(bA _).1 (show iY (ar (wd ws i))=true by unfold aB at d;simp only[kqt] at d;exact d.1);refine⟨bkAt ws i::f,λb g=>?_,?_,by rw[kq2];omega,λxs l s r k=>?_⟩
   .rcases kqx.1 g with rfl|g
    .have e:(bkAt ws i).size=((szAt ws i:Nat):Int):=rfl;have w:(bkAt ws i).typ=(ar (wd ws i)).typ:=rfl;refine⟨C,o,?_,by omega,by omega,by omega,by omega⟩;unfold cZ at m |-;exact m
    exact y b g
   .show tQ f (i+(szAt ws i:Nat))=_;rw[<-A];congr 1
   have q:wd xs i=wd ws i:=s i (kqd _) (by omega);have u:wd xs (i+1)=wd ws (i+1):=s (i+1) (by omega) (by omega);have z:szAt xs i=szAt ws i:=by unfold szAt;rw[q]
   have w:bkAt xs i=bkAt ws i:=by unfold bkAt;rw[q,u]
   have v:stands xs i=true:=by unfold stands;rw[q,d,kzr,kzc];have:(ar (wd ws i)).size=((szAt ws i:Nat):Int):=rfl;omega
   rw[aL (by omega) v,z,w,x xs l (λj p D=>s j (by omega) D) r k];rfl
theorem zI(h:el ws=0):∀j,wd (am ws (dx ws)) j=if j=16\/j=17\/j=18 then 0 else if fj ws<ws.length/\j=fj ws then cR (ei (ws.length-fj ws)) else if fj ws<ws.length/\j=fj ws+1 then 0 else wd ws j:=by
 obtain⟨m,-,-,-,q,p,-,o⟩:=iT h;have hb:=(aa _).1 m;have n:=(aT _).1 q;rw[<-o] at n p;intro j;have d:∀j,wd (am ws (phE 0 0 0)) j=if j=16\/j=17\/j=18 then 0 else wd ws j:=by
  intro j;unfold phE;rw[show (16:Int)=((16:Nat):Int) from rfl,show (17:Int)=((17:Nat):Int) from rfl,show (18:Int)=((18:Nat):Int) from rfl];rw[fD 16 _ _ (by omega),fD 17 _ _ (by rw[kq4];omega),fD 18 _ _ (by rw[kq4,kq4];omega)];show wd (((ws.set 16 0).set 17 0).set 18 0) j=_;rw[lR,lR,lR];simp only[kq4];by_cases f:j=18
  .subst f;rw[if_pos ⟨rfl,by omega⟩,if_pos (by omega)]
  rw[if_neg (by omega)];by_cases g:j=17
  .subst g;rw[if_pos ⟨rfl,by omega⟩,if_pos (by omega)]
  rw[if_neg (by omega)];by_cases i:j=16
  .subst i;rw[if_pos ⟨rfl,by omega⟩,if_pos (by omega)]
  rw[if_neg (by omega),if_neg (by omega)]
 have e:dx ws=phE 0 0 0++(if fj ws=ws.length then [] else [⟨(fj ws:Int),cR (ei (ws.length-fj ws))⟩,⟨((fj ws+1:Nat):Int),0⟩]):=by simp[dx,h]
 rw[e,eI];have b:(am ws (phE 0 0 0)).length=ws.length:=ax _ _;by_cases c:fj ws=ws.length
 .rw[if_pos c];show wd (am ws (phE 0 0 0)) j=_;rw[d];by_cases a:j=16\/j=17\/j=18
  .rw[if_pos a,if_pos a]
  rw[if_neg a,if_neg a,if_neg (λh=>absurd h.1 (by omega)),if_neg (λh=>absurd h.1 (by omega))]
 rw[if_neg c,fD _ _ _ (by rw[b];omega),fD _ _ _ (by rw[kq4,b];omega)];show wd (((am ws (phE 0 0 0)).set _ _).set _ _) j=_;rw[lR,lR,d,kq4,b];by_cases l:j=fj ws+1
 .subst l;rw[if_pos ⟨rfl,by omega⟩,if_neg (by omega),if_neg (by omega),if_pos ⟨by omega,rfl⟩]
 rw[if_neg (by omega)];by_cases k:j=fj ws
 .subst k;rw[if_pos ⟨rfl,by omega⟩,if_neg (by omega),if_pos ⟨by omega,rfl⟩]
 rw[if_neg (by omega)];by_cases a:j=16\/j=17\/j=18
 .rw[if_pos a,if_pos a]
 rw[if_neg a,if_neg a,if_neg (λh=>k h.2),if_neg (λh=>l h.2)]
def C3 (ws:List Nat):List Bk:=if fj ws=ws.length then [] else [{ ei (ws.length-fj ws) with at_:=(fj ws:Int) }]
theorem zw(h:el ws=0):∃g:List Bk,(∀b∈g,b.kind=1/\b.mark=false/\2<=b.size/\b.size<=10)/\tQ g 128=(fj ws:Int)/\g.length<=2048/\ah (am ws (dx ws))=0 /\
 ag (am ws (dx ws))=g++C3 ws/\blocks (am ws (dx ws)) 128=some (g++C3 ws)/\cM (am ws (dx ws))=0/\lnV (am ws (dx ws))=phV 0 0 0/\eE (g++C3 ws)=[]/\(am ws (dx ws)).length=ws.length:=by
 obtain⟨y,-,D,-,h5,X,p,h8⟩:=iT h;have hb:=(aa _).1 y;have hi:=(aT _).1 h5;have c:=zI h;have i:(am ws (dx ws)).length=ws.length:=ax _ _;have N:=tr h;rw[<-h8] at X hi p;obtain⟨g,A,o2,o3,Y⟩:=D9 _ 128 (kqd _) p;generalize am ws (dx ws)=x at c i |-;have E:blocks x (fj ws)=some (C3 ws):=by
  unfold C3;by_cases m:fj ws=ws.length
  .rw[if_pos m,aD (by omega)]
  rw[if_neg m];have o:=N m;have F:wd x (fj ws)=cR (ei (ws.length-fj ws)):=by rw[c,if_neg (by omega),if_pos ⟨by omega,rfl⟩]
  have Z:wd x (fj ws+1)=0:=by rw[c,if_neg (by omega),if_neg (λh=>absurd h.2 (by omega)),if_pos ⟨by omega,rfl⟩]
  have d:=mw o;have J:szAt x (fj ws)=ws.length-fj ws:=by have S:(ar (wd x (fj ws))).size=((szAt x (fj ws):Nat):Int):=rfl;rw[F,d] at S;have e3:(ei (ws.length-fj ws)).size=((ws.length-fj ws:Nat):Int):=rfl;dsimp only at S;omega
  have O:stands x (fj ws)=true:=by unfold stands;rw[F,oG o,kzr,kzc,d];show ((ws.length-fj ws:Nat):Int)<=_;omega
  rw[aL (by omega) O,J,aD (by omega)];have z:bkAt x (fj ws)={ ei (ws.length-fj ws) with at_:=(fj ws:Int) }:=by unfold bkAt;rw[F,d,Z];rfl
  rw[z];rfl
 have e:=Y x (C3 ws) (λj h1 h2=>by rw[c,if_neg (by omega),if_neg (λh=>absurd h.2 (by omega)),if_neg (λh=>absurd h.2 (by omega))]) (by omega) E;have r:(g++C3 ws).all (dC x)=true:=by
  rw[kzu];intro b a;rcases kz1.1 a with a|a
  .obtain ⟨Q,U,t,R,T,g6,V⟩:=A b a;unfold dC cZ;unfold cZ at t;have hty:tyA b+1<128:=by unfold tyA;omega
   rw[c (tyA b),c (tyA b+1)];have hty2:96<=tyA b:=by unfold tyA;omega
   rw[if_neg (by omega),if_neg (λh=>absurd h.2 (by omega)),if_neg (λh=>absurd h.2 (by omega)),if_neg (by omega),if_neg (λh=>absurd h.2 (by omega)),if_neg (λh=>absurd h.2 (by omega)),t,Bool.or_true]
  unfold C3 at a;split at a
  .cases a
  rw[kq0] at a;subst a;rfl
 obtain⟨p1,W⟩:=fS (by rw[i];exact y) e r;obtain⟨-,G,B,K,u,L⟩:=(bt ws).1 D;have q:∀j,j<24->(j=16\/j=17\/j=18)/\wd x j=0\/wd x j=wd ws j:=by
  intro j hj;rw[c];by_cases P:j=16\/j=17\/j=18
  .left;exact⟨P,by rw[if_pos P]⟩
  right;rw[if_neg P,if_neg (λh=>absurd h.2 (by omega)),if_neg (λh=>absurd h.2 (by omega))]
 have f:wd x 16=0:=by rw[c,if_pos (by omega)]
 have k:wd x 17=0:=by rw[c,if_pos (by omega)]
 have l:wd x 18=0:=by rw[c,if_pos (by omega)]
 have v:wd x 19=0:=by rcases q 19 (by omega) with h|h;exact h.2;rw[h];exact G
 have s:wd x 20=0:=by rcases q 20 (by omega) with h|h;exact h.2;rw[h];exact B
 have I:wd x 21=0:=by rcases q 21 (by omega) with h|h;exact h.2;rw[h];exact K
 have w:wd x 22=0:=by rcases q 22 (by omega) with h|h;exact h.2;rw[h];exact u
 have M:wd x 23=0:=by rcases q 23 (by omega) with h|h;exact h.2;rw[h];exact L
 have C:iF x=true:=by rw[bt,f,k,l];exact⟨⟨by omega,by omega,by omega⟩,v,s,I,w,M⟩
 have H:=(mj (ws:=x) (by rw[i];exact y) (by rw[C,f,k,l];rfl)).1;have n:cM x=0:=by unfold cM;rw[if_pos H,if_neg (by rw[f];omega)]
 refine⟨g,λb a=>?_,o2,by omega,p1,W,e,n,by simp[lnV,n,f,k,l],?_,i⟩
 .obtain ⟨Q,U,t,R,T,g6,V⟩:=A b a;exact⟨Q,U,R,T⟩
 unfold eE;rw[List.map_eq_nil_iff,kkb];intro b a;rcases kz1.1 a with a|a
 .rw[(A b a).2.1];simp
 unfold C3 at a;split at a
 .cases a
 rw[kq0] at a;subst a;simp[ei]
open Go.RowKit
noncomputable def cO (x:List Nat):Int × Bool × List En:=if (af x).1=6 then (if wd x 16=0 then (0,true,[]) else (el x,false,dx x)) else ((af x).1,false,(af x).2)
theorem qy(ws:List Nat)(f s:Int):aW ws f s≠6:=by
 unfold aW ls;split
 .split
  .decide
  split
  .decide
  split<;>decide
 decide
theorem xV(x:List Nat):aw x≠6:=by
 unfold aw;split
 .split
  .split
   .exact qy _ _ _
   decide
  split
  .exact qy _ _ _
  rcases zB x with h|h|h<;>rw[h]<;>decide
 rcases zX x with h|h|h<;>rw[h]<;>decide
theorem Fb(h:(af x).1=6):aw x=0:=by
 by_cases a:aw x=0
 .exact a
 unfold af at h;rw[if_neg a] at h;exact absurd h (xV x)
theorem rs_ck(h:(cO x).1=0):aw x=0:=by
 by_cases b:(af x).1=6
 .exact Fb b
 unfold cO at h;rw[if_neg b] at h;by_cases a:aw x=0
 .exact a
 unfold af at h;rw[if_neg a] at h;exact absurd h a
theorem AH(x:List Nat)(h:ah x=0):2*(ag x).length+128<=x.length:=by obtain⟨b,l,a,-,c⟩:=ay h;have hb:=(aa _).1 b;rw[c];exact (bG (by omega) _ _ a (by omega) (by omega) (by omega)).1
theorem wL{α:Type}{p q:α->Bool}:∀ {l:List α},(∀b∈l,q b=true->p b=true)->∀ {d a:α},d∈l->a∈l->d≠a->p d=true->q d=false->p a=true->q a=false->(l.filter q).length+2<=(l.filter p).length:=by
 intro l
 induction l with
 | nil=>intro _ d a h;exact absurd h (by simp)
 | cons c l ih =>
  intro h d a u s f k n i g;have j:=λx v=>h x (kjb _ v);rw[kjn,kjn];rcases kqx.1 u with rfl|r
  .rw[k,n];have o:a∈l:=by
    rcases kqx.1 s with e|m
    .exact absurd e.symm f
    exact m
   have:=(mH j).2 ⟨a,o,i,g⟩;simp only[if_true,if_false,kzm,kq2];omega
  rcases kqx.1 s with rfl|m
  .rw[i,g];have:=(mH j).2 ⟨d,r,k,n⟩;simp only[if_true,if_false,kzm,kq2];omega
  have:=ih j r m f k n i g;have t:=h c (by simp);cases w:q c with
  | true=>rw[t w];simp only[if_true,kq2];omega
  | false=>cases hp:p c<;>simp only[if_true,if_false,kzm,kq2]<;>omega
theorem xW{l:List Bk}(h:l.Pairwise (λa b=>a.at_<b.at_)){a b:Bk}(ha:a∈l)(hb:b∈l)(e:a.at_=b.at_):a=b:=by
 obtain⟨i,d,rfl⟩:=kqz ha;obtain⟨j,f,rfl⟩:=kqz hb;rw[kzj] at h;rcases kj6 i j with c|c|c
 .have:=h i j d f c;omega
 .subst c;rfl
 have:=h j i f d c;omega
theorem Cc(h:aA ws=0)(h32:32<=(aO ws).length):(aO (am ws ((aO ws).take 31))).length+2<=(aO ws).length:=by
 have c:((aO ws).take 31).Sublist (aO ws):=kjr _ _;have u:((aO ws).take 31).Pairwise (λa b=>a.a<b.a):=(dQ h).sublist c;obtain⟨F,g2,G,g4,S⟩:=(iJ h c).same h;rw[eg F,G,S,kz3,eg h,kz3];rw[<-eg h];obtain⟨x,C⟩:=xq (am ws ((aO ws).take 31));rw[C];unfold lm;rw[List.filter_map,kz3];have g:=cg (aF h).1;have w:∀b∈ag ws,(∀e∈(aO ws).take 31,e.a≠b.at_)->(mkB x b).mark=b.mark:=by intro b v A;obtain⟨a,rfl,a1,a2,a3,a4⟩:=g.1 b v;show rO x (bkAt ws a).at_.toNat=_;rw[ae,kqj];unfold rO;rw[<-C,aP _ _ _ (λe l=>by have:=A e l;rwa [ae] at this)];rfl
 have j:∀i,i<31->∃b∈ag ws,b.at_=((aO ws)[i]?.map En.a).getD 0/\(!eG (seenL ws) b)=true/\(!(eG (seenL ws) (mkB x b)))=false:=by
  intro i hi;have r:i<((aO ws).take 31).length:=by rw[kq3];omega
  have l:=kqp r;have y:(aO ws)[i]? = some ((aO ws).take 31)[i]:=by rw[kkf,kqk (by omega)]
  obtain⟨a,n,J,Q,I,o,s,k,d⟩:=dN h (c.subset l);refine⟨bkAt ws a,n,by rw[y,k,ae];rfl,by rw[d];rfl,?_⟩;have f:=dR _ ws u _ l (by rw[k];dsimp only;omega) (by rw[k];dsimp only;omega);rw[k] at f;dsimp only at f;rw[kqj,C] at f;unfold eG;show (!((mkB x (bkAt ws a)).mark==((seenL ws)[(bkAt ws a).at_.toNat]?.getD false)))=false;have D:(mkB x (bkAt ws a)).mark=eO ws (bkAt ws a):=by show rO x (bkAt ws a).at_.toNat=_;rw[ae,kqj];unfold rO;rw[f,(iS o s _).2.1]
  rw[D];unfold eO;simp
 obtain⟨H,R,E,N,P⟩:=j 0 (by omega);obtain⟨L,O,k,K,M⟩:=j 1 (by omega);have z:H≠L:=by rintro rfl;have t:=dQ h;rw[kzj] at t;have:=t 0 1 (by omega) (by omega) (by omega);rw[kqk (by omega)] at E k;simp only[kzz,kq9] at E k;omega
 refine wL (p:=λb=>!eG (seenL ws) b) (q:=(λb=>!eG (seenL ws) b) ∘ mkB x) (λb v m=>?_) R O z N P K M;dsimp only[Function.comp_apply] at m |-;cases B:eG (seenL ws) b with
 | false=>rfl
 | true =>
  exfalso;have n:=w b v (λe l t=>by
   obtain⟨a,n,J,Q,I,o,s,rfl,d⟩:=dN h (c.subset l);dsimp only at t;have:bkAt ws a=b:=xW g.2 n v (by rw[ae];exact t);rw[this,B] at d;cases d)
  unfold eG at B m;rw[n] at m
  change (!(b.mark==((seenL ws)[b.at_.toNat]?.getD false)))=true at m
  rw[B] at m;exact absurd m (by decide)
theorem yn{xs:List Nat}:∀ {l:List Bk} {s:Int},l.Pairwise (λa b=>a.at_<b.at_)->(∀b∈l,0<=b.at_)->(∀b∈l,b.kind=1->wd xs (b.at_.toNat+1)=b.next\/∃e∈aQ l s,e.a=b.at_+1/\wd xs (b.at_.toNat+1)=e.v) ->
 (aQ (l.map (nxB xs)) s).length+((aQ l s).filter (λe=>wd xs e.a.toNat==e.v)).length<=(aQ l s).length:=by
 intro l
 induction l with
 | nil=>intro s _ _ _;exact kqd _
 | cons b l ih =>
  intro s n w y;rw[kke] at n;have i:∀c∈l,c.kind=1->wd xs (c.at_.toNat+1)=c.next\/∃e∈aQ l (eU b s),e.a=c.at_+1/\wd xs (c.at_.toNat+1)=e.v:=by
   intro c k f;rcases y c (by simp[k]) f with g|⟨e,d,t,p⟩
   .exact .inl g
   simp only[aQ,kz1] at d;rcases d with d|d
   .split at d
    .rw[kq0] at d;subst d;dsimp only at t;have:=n.1 c k;omega
    simp at d
   exact .inr ⟨e,d,t,p⟩
  have i1:=ih (s:=eU b s) n.2 (λc k=>w c (by simp[k])) i;have hb0:=w b (by simp);rw[kxz];simp only[aQ];have z:eU (nxB xs b) s=eU b s:=rfl;have A:bv (nxB xs b) s=bv b s:=rfl;rw[z,A,kx8,kqu,kqu,kqu];have u:(nxB xs b).next=wd xs (b.at_.toNat+1):=rfl;have r:(nxB xs b).kind=b.kind:=rfl;have o:(nxB xs b).at_=b.at_:=rfl;have j:b.kind=1->wd xs (b.at_.toNat+1)=b.next\/wd xs (b.at_.toNat+1)=bv b s:=by
   intro f;rcases y b (by simp) f with g|⟨e,d,t,p⟩
   .exact .inl g
   simp only[aQ,kz1] at d;rcases d with d|d
   .split at d
    .rw[kq0] at d;subst d;exact .inr p
    simp at d
   obtain⟨c,k,-,h4⟩:=fV d;have:=n.1 c k;omega
  have x:(b.at_+1).toNat=b.at_.toNat+1:=by omega
  have hle:(if (nxB xs b).kind=1/\(nxB xs b).next≠bv b s then [(⟨(nxB xs b).at_+1,bv b s⟩:En)] else []).length+((if b.kind=1/\b.next≠bv b s then [(⟨b.at_+1,bv b s⟩:En)] else []).filter (λe=>wd xs e.a.toNat==e.v)).length<=(if b.kind=1/\b.next≠bv b s then [(⟨b.at_+1,bv b s⟩:En)] else []).length:=by
   rw[u,r,o];by_cases f:b.kind=1
   .by_cases q:b.next=bv b s
    .have B:wd xs (b.at_.toNat+1)=bv b s:=by
      rcases j f with g|g
      .rw[g];exact q
      exact g
     rw[if_neg (show ¬ (b.kind=1/\b.next≠bv b s) from λh=>h.2 q),if_neg (show ¬ (b.kind=1/\wd xs (b.at_.toNat+1)≠bv b s) from λh=>h.2 B)];exact kqd _
    rw[if_pos (show b.kind=1/\b.next≠bv b s from ⟨f,q⟩)];by_cases m:wd xs (b.at_.toNat+1)=bv b s
    .rw[if_neg (λh=>h.2 m)];simp[x,m]
    rw[if_pos ⟨f,m⟩];have:(wd xs (b.at_+1).toNat==bv b s)=false:=by rw[x,kqi];exact m
    simp[this]
   rw[if_neg (λh=>f h.1),if_neg (λh=>f h.1)];exact kqd _
  omega
theorem CE(h:ah ws=0)(h32:32<=(aG ws).length):(aG (am ws ((aG ws).take 31))).length+2<=(aG ws).length:=by
 obtain⟨D,B,i3⟩:=ot h;have t:aG ws=aQ (ag ws) 128:=qC h;have d:=cg h;have c:((aG ws).take 31).Sublist (aG ws):=kjr _ _;have m:((aG ws).take 31).Pairwise (λa b=>a.a<b.a):=D.sublist c;have j:∀e∈aG ws,∃a:Nat,e.a=((a+1:Nat):Int)/\a%2=0/\128<=a:=by intro e f;rw[t] at f;obtain⟨b,k,-,C⟩:=fV f;obtain⟨a,rfl,p,u,-⟩:=d.1 b k;exact⟨a,by rw[C,ae];rfl,u,p⟩
 have w:Ev ws (am ws ((aG ws).take 31)):=by refine⟨ax _ _,λi hi=>aP _ _ _ λe f n=>?_⟩;obtain⟨a,q,p,u⟩:=j e (c.subset f);omega
 obtain⟨y,z⟩:=w.heap h;have r:aG (am ws ((aG ws).take 31))=aQ ((ag ws).map (nxB (am ws ((aG ws).take 31)))) 128:=by rw[qC y,z]
 rw[r];have g:∀e∈(aG ws).take 31,wd (am ws ((aG ws).take 31)) e.a.toNat=e.v:=λe f=>by
  have hin:=B _ (c.subset f);exact dR _ ws m _ f (by omega) (by omega)
 have o:=yn (xs:=am ws ((aG ws).take 31)) (l:=ag ws) (s:=128) d.2 (λb k=>by obtain⟨a,rfl,-⟩:=d.1 b k;rw[ae];omega) (λb k hk=>by
  obtain⟨a,rfl,p,u,a3,E⟩:=d.1 b k;have hsz:=aH E;rw[ae,kqj];by_cases x:∃e∈(aG ws).take 31,e.a=((a+1:Nat):Int)
  .obtain ⟨e,f,q⟩:=x;refine .inr ⟨e,by rw[<-t];exact c.subset f,by rw[q];omega,?_⟩;have:=g e f;rw[q,kqj] at this;exact this
  exact .inl (by rw[aP _ _ _ (λe f n=>x ⟨e,f,n⟩)];rfl))
 rw[<-t] at o;have hfl:31<=((aG ws).filter (λe=>wd (am ws ((aG ws).take 31)) e.a.toNat==e.v)).length:=by
  have A:(aG ws).take 31=((aG ws).take 31).filter (λe=>wd (am ws ((aG ws).take 31)) e.a.toNat==e.v):=by symm;rw[kvj];intro e f;rw[kqw];exact g e f
  have n:=(c.filter (λe=>wd (am ws ((aG ws).take 31)) e.a.toNat==e.v)).length_le;rw[<-A,kq3] at n;omega
 omega
theorem GS(hck:aw x=0)(p3:wd x 16=3)(h:(sgFix x).1=0):
 (wd (am x (sgFix x).2) 16=3/\wd (am x (sgFix x).2) 17<=x.length/\(wd x 17=0->wd (am x (sgFix x).2) 17=128)/\(wd x 17≠0->wd x 17+2<=wd (am x (sgFix x).2) 17))\/(wd (am x (sgFix x).2) 16=4/\wd (am x (sgFix x).2) 17=128/\wd x 17≠0):=by
 obtain⟨-,A,v,hph⟩:=cP hck;have hb:=(aa _).1 A;obtain⟨⟨l1,B,l3⟩,-⟩:=(bt x).1 v;by_cases z:wd x 17=0
 .have i:ep x=0:=by
   by_cases j:ep x=0
   .exact j
   unfold sgFix at h;rw[if_pos z,if_neg j] at h;exact absurd h j
  have g:sgFix x=(0,⟨17,128⟩::dV x):=by unfold sgFix;rw[if_pos z,if_pos i]
  obtain⟨-,-,-,-,-,-,-,p,u,q3,-⟩:=jG i;obtain⟨k,o,n,d,a,q⟩:=jd (f:=128) (l:=dV x) hck p3 (by decide) (by omega) (by omega) (by omega) u (λe b=>by have:=(p e b).1;omega) (λe b=>(p e b).2);rw[g];exact .inl ⟨d,by rw[a];omega,λ_=>a,λc=>absurd z c⟩
 have g:sgFix x=kK x (wd x 17):=by unfold sgFix;rw[if_neg z]
 have y:(kK x (wd x 17)).1=0:=by rw[<-g];exact h
 rcases oz x.length (wd x 17) (by omega) B y with c|⟨m,m1,m2,m3,m4,m5,s,t,C⟩
 .rw[g,c];obtain⟨k,o,n,d,a,q⟩:=gq hck p3;exact .inr ⟨d,a,z⟩
 obtain⟨f,-,-,-,-,q5,-,-,-,w⟩:=iQ t;have r:=Dq t;obtain⟨k,o,n,d,a,q⟩:=jd (f:=m+szAt x m) (l:=cD x (m:Int)) hck p3 ((aT _).2 (by omega)) s (by omega) (by omega) w (λe b=>by have:=r e b;omega) (λe b=>by have:=r e b;omega);rw[g,C];exact .inl ⟨d,by rw[a];exact s,λc=>absurd c z,λ_=>by rw[a];omega⟩
theorem Bz(ho:∀v∈x,v<18446744073709551616)(hck:aw x=0)(p4:wd x 16=4)(h:(sgSld x).1=0):
 wd (am x (sgSld x).2) 16=4/\wd (am x (sgSld x).2) 17<=x.length/\wd x 17+2<=wd (am x (sgSld x).2) 17:=by
 obtain⟨-,C,A,r⟩:=cP hck;have hb:=(aa _).1 C;obtain⟨⟨l1,l2,l3⟩,-⟩:=(bt x).1 A;have b:bg x ((wd x 17:Nat):Int)=0:=by
  by_cases d:bg x ((wd x 17:Nat):Int)=0
  .exact d
  unfold sgSld at h;rw[if_neg d] at h;exact absurd h (by decide)
 obtain⟨-,a1,a2,m,w,m1,m2,m3,m4,m5,m6,m7,m8,-⟩:=fq b;have c:dK x (m:Int) ((wd x 18:Nat):Int)=0:=by
  by_cases d:dK x (m:Int) ((wd x 18:Nat):Int)=0
  .exact d
  unfold sgSld at h;rw[if_pos b,w,ae,if_neg d] at h;exact absurd h d
 have D:sgSld x=(0,⟨17,m+szAt x m⟩::⟨18,wd x 18+szAt x m⟩::jN x m (wd x 18)):=by unfold sgSld;rw[if_pos b,w,ae,if_pos c,bq,show ((m:Int)+((szAt x m:Nat):Int)).toNat=m+szAt x m by omega,show (((wd x 18:Nat):Int)+((szAt x m:Nat):Int)).toNat=wd x 18+szAt x m by omega];unfold iW;rw[if_pos c,kqj,kqj]
 obtain⟨a,u,n,y,s,G,n2,n10,hu,hua,han,hst,hlv,-,-,o⟩:=gb c;have y:a=m:=by omega
 have s:u=wd x 18:=by omega
 subst y s;subst G;have q:=(cI _ _ _).1 r;have g:lx (wd x 17)=true/\lx (wd x 18)=true/\wd x 18<=wd x 17:=by
  rcases q with p|p|p
  .exact p.2
  .omega
  omega
 have i1:=(aT _).1 g.1;have i2:=(aT _).1 g.2.1;rw[D];obtain⟨g1,g2,g3,B,z,g6⟩:=nq (f:=a+szAt x a) (t:=wd x 18+szAt x a) (l:=jN x a (wd x 18)) hck p4 ((aT _).2 (by omega)) ((aT _).2 (by omega)) (by omega) (by omega) (by omega) (by omega) (by rw[iD];omega) (by
  rw[kzj];intro i j hi hj hij;rw[ga,ga];omega) (λe F=>by
  obtain⟨k,E,rfl⟩:=kqz F;rw[ga];rw[iD] at E;omega) (tg ho o)
 exact⟨B,by rw[z];omega,by rw[z];omega⟩
noncomputable def rzM (x:List Nat):Nat:=
 if wd x 16=1 then (aO x).length/2+1+((x.length-128)/2/2+1)+((x.length-128)/2+2)+((x.length-128)/2+1)
 else if wd x 16=2 then (aG x).length/2+1+((x.length-128)/2+2)+((x.length-128)/2+1)
 else if wd x 16=3 then (if wd x 17=0 then (x.length-128)/2+2 else (x.length-wd x 17)/2+1)+((x.length-128)/2+1)
 else if wd x 16=4 then (x.length-wd x 17)/2+1 else 0
theorem yM(x:List Nat)(hs:128<=x.length):(aG x).length<=(x.length-128)/2:=by
 by_cases h:ah x=0
 .rw[qC h];have h1:=nF (ag x) 128;have h2:=AH x h;omega
 unfold aG;rw[if_neg h];simp
theorem FL(x:List Nat)(hs:128<=x.length):(aO x).length<=(x.length-128)/2:=by
 by_cases h:aA x=0
 .rw[eg h,kz3];have h1:=qe (seenL x) (ag x);have h2:=AH x (aF h).1;omega
 unfold aO;rw[if_neg h];simp
theorem Ep(ho:∀v∈x,v<18446744073709551616)(h:(af x).1=0):rzM (am x (af x).2)<rzM x:=by
 obtain⟨a,-,-,-,-,k6,-,-⟩:=l7 ho h;obtain⟨-,E,D,u⟩:=cP a;have hb:=(aa _).1 E;obtain⟨⟨l1,l2,l3⟩,-⟩:=(bt x).1 D;have t:=(cI _ _ _).1 u;have k:(am x (af x).2).length=x.length:=ax _ _;have g:=yM (am x (af x).2) (by omega);rw[k] at g;unfold rzM;rw[k];by_cases c:wd x 16=1
 .have f:aA x=0:=by
   by_cases n:aA x=0
   .exact n
   unfold af at h;rw[if_pos a,if_pos c,if_neg n] at h;exact absurd h n
  have e:af x=(0,iA (aO x) 2):=by unfold af;rw[if_pos a,if_pos c,if_pos f]
  obtain⟨s,w⟩:=pg f;obtain⟨B,I,C,d,o,q⟩:=fp a c (.inl rfl) (dQ f) (λy F=>by
   obtain⟨i,G⟩:=kj0.1 F;exact s i y G) (pt f)
  simp only[Nat.reduceAdd] at d;rw[e] at g |-;dsimp only at g |-;rw[if_pos c,d];by_cases b:32<=(aO x).length
  .have H:=Cc f b;rw[if_pos b,if_pos rfl,cr b];omega
  rw[if_neg b,if_neg (by decide),if_pos rfl];omega
 by_cases j:wd x 16=2
 .have m:ah x=0:=by
   by_cases n:ah x=0
   .exact n
   unfold af at h;rw[if_pos a,if_neg c,if_pos j,if_neg n] at h;exact absurd h n
  have e:af x=(0,iA (aG x) 3):=by unfold af;rw[if_pos a,if_neg c,if_pos j,if_pos m]
  obtain⟨s,w,J⟩:=ot m;obtain⟨B,I,C,d,o,q⟩:=fp a j (.inr rfl) s w J;simp only[Nat.reduceAdd] at d o;rw[e] at g |-;dsimp only at g |-;rw[if_neg c,if_pos j,d,o];by_cases b:32<=(aG x).length
  .have H:=CE m b;rw[if_pos b,if_neg (by decide),if_pos rfl,cr b];omega
  rw[if_neg b,if_neg (by decide),if_neg (by decide),if_pos rfl,if_pos rfl];omega
 by_cases p:wd x 16=3
 .have e:af x=sgFix x:=by unfold af;rw[if_pos a,if_neg c,if_neg j,if_pos p]
  rw[e] at h |-;have hF:wd x 17=0\/128<=wd x 17:=by
   rcases t with l|⟨-,-,l⟩|l
   .omega
   .rcases l with l|l
    .exact .inl l
    exact .inr ((aT _).1 l).1
   omega
  rcases GS a p h with⟨d,o,q,A⟩|⟨d,o,q⟩
  .rw[d,if_neg (by decide),if_neg (by decide),if_pos rfl,if_neg c,if_neg j,if_pos p];by_cases z:wd x 17=0
   .rw[if_pos z,q z,if_neg (by decide)];omega
   have:=A z;rw[if_neg z,if_neg (by omega)];omega
  rw[d,o,if_neg (by decide),if_neg (by decide),if_neg (by decide),if_pos rfl,if_neg c,if_neg j,if_pos p,if_neg q];omega
 have r:wd x 16=4:=by omega
 have e:af x=sgSld x:=by unfold af;rw[if_pos a,if_neg c,if_neg j,if_neg p,if_pos r]
 rw[e] at h |-;obtain⟨d,o,q⟩:=Bz ho a r h;rw[d,if_neg (by decide),if_neg (by decide),if_neg (by decide),if_pos rfl,if_neg c,if_neg j,if_neg p,if_pos r];omega
theorem EV(hs:aj (x.length:Int)=true):rzM x<=(x.length-128)/2*3+5:=by
 have hb:=(aa _).1 hs;have h1:=FL x (by omega);have h2:=yM x (by omega);unfold rzM;by_cases c:wd x 16=1
 .rw[if_pos c];omega
 rw[if_neg c];by_cases b:wd x 16=2
 .rw[if_pos b];omega
 rw[if_neg b];by_cases a:wd x 16=3
 .rw[if_pos a];split
  .omega
  have:(x.length-wd x 17)/2<=x.length/2:=by omega
  omega
 rw[if_neg a];split<;>omega
theorem pH(h:el x=0):Small x.length (dx x)/\wd (am x (dx x)) 16=0:=by
 obtain⟨g,-,-,-,j,f,-,i⟩:=iT h;have hb:=(aa _).1 g;have d:=(aT _).1 j;rw[<-i] at d f;refine⟨?_,by rw[zI h,if_pos (.inl rfl)]⟩;unfold dx;rw[if_pos h];have b:=λb=>qi (tr h b);generalize fj x=t at d f b;have c:phE 0 0 0=[⟨16,0⟩,⟨17,0⟩,⟨18,0⟩]:=rfl;rw[c];by_cases a:t=x.length
 .rw[if_pos a];refine⟨by decide,by decide,by simp,λe a=>?_,λe a=>?_⟩ <;>
  .simp only[kzs,kqx,kzf,or_false] at a;rcases a with rfl|rfl|rfl<;>(dsimp only;omega)
 have hv:=b a;rw[if_neg a];refine⟨by simp,by simp,?_,λe a=>?_,λe a=>?_⟩
 .simp only[kzq,kz2,kke,kqx,kzf,or_false,forall_eq_or_imp,forall_eq,List.Pairwise.nil,and_true,false_implies,implies_true];omega
 .simp only[kzq,kz2,kqx,kzf,or_false] at a;rcases a with rfl|rfl|rfl|rfl|rfl<;>(dsimp only;omega)
 simp only[kzq,kz2,kqx,kzf,or_false] at a;rcases a with rfl|rfl|rfl|rfl|rfl<;>(dsimp only;omega)
theorem qn(ho:∀v∈x,v<18446744073709551616)(h:(cO x).1=0)(hd:(cO x).2.1=false):Small x.length (cO x).2.2/\(∀v∈am x (cO x).2.2,v<18446744073709551616)/\rzM (am x (cO x).2.2)<rzM x:=by
 by_cases a:(af x).1=6
 .by_cases c:wd x 16=0
  .unfold cO at hd;rw[if_pos a,if_pos c] at hd;cases hd
  have e:cO x=(el x,false,dx x):=by unfold cO;rw[if_pos a,if_neg c]
  rw[e] at h |-;dsimp only at h |-;obtain⟨b,f⟩:=pH h;refine⟨b,qc _ _ ho b.val,?_⟩;have d:wd x 16=4:=(iT h).2.2.2.1;unfold rzM;rw[f,if_neg (by decide),if_neg (by decide),if_neg (by decide),if_neg (by decide),d,if_neg (by decide),if_neg (by decide),if_neg (by decide),if_pos rfl];omega
 have e:cO x=((af x).1,false,(af x).2):=by unfold cO;rw[if_neg a]
 rw[e] at h |-;dsimp only at h |-;exact⟨(l7 ho h).2.1,du ho h,Ep ho h⟩
noncomputable def rsG:Nat->List Nat->Int × List (List En) × List Nat
 | 0,x=>(0,[],x)
 | f+1,x=>if (cO x).1=0 then (if (cO x).2.1=true then (0,[],x)
  else if (rsG f (am x (cO x).2.2)).1=0 then (0,(cO x).2.2::(rsG f (am x (cO x).2.2)).2.1,(rsG f (am x (cO x).2.2)).2.2) else ((rsG f (am x (cO x).2.2)).1,[],[]))
  else ((cO x).1,[],[])
theorem Cz:∀ {f g:Nat} {x:List Nat},(∀v∈x,v<18446744073709551616)->rzM x<f->rzM x<g->rsG f x=rsG g x:=by
 intro f
 induction f with
 | zero=>intro g x _ h;omega
 | succ f ih =>
  intro g x c hf hg;cases g with
  | zero=>omega
  | succ g =>
   simp only[rsG];by_cases a:(cO x).1=0
   .cases d:(cO x).2.1 with
    | true=>simp only[if_true]
    | false =>obtain⟨-,b,h3⟩:=qn c a d;rw[ih (g:=g) b (by omega) (by omega)]
   simp only[a,if_false]
noncomputable def rsE (x:List Nat):Int × List (List En) × List Nat:=rsG (rzM x+1) x
theorem kc(h:(cO x).1≠0):rsE x=((cO x).1,[],[]):=by unfold rsE;simp only[rsG];rw[if_neg h]
theorem fJ(h:(cO x).1=0)(hd:(cO x).2.1=true):rsE x=(0,[],x):=by unfold rsE;simp only[rsG];rw[if_pos h,if_pos hd]
theorem gt(ho:∀v∈x,v<18446744073709551616)(h:(cO x).1=0)(hd:(cO x).2.1=false):rsE x=(if (rsE (am x (cO x).2.2)).1=0 then (0,(cO x).2.2::(rsE (am x (cO x).2.2)).2.1,(rsE (am x (cO x).2.2)).2.2) else ((rsE (am x (cO x).2.2)).1,[],[])):=by
 obtain⟨-,a,b⟩:=qn ho h hd;have e:rsG (rzM x) (am x (cO x).2.2)=rsE (am x (cO x).2.2):=Cz a b (kjw _)
 conv=>lhs;unfold rsE
 simp only[rsG];rw[if_pos h,if_neg (by rw[hd];decide),e]
theorem Ih(ho:∀v∈x,v<18446744073709551616)(h:(rsE x).1≠0):rsE x=((rsE x).1,[],[]):=by
 by_cases a:(cO x).1=0
 .cases c:(cO x).2.1 with
  | true=>rw[fJ a c] at h;exact absurd rfl h
  | false =>
   rw[gt ho a c] at h |-;by_cases b:(rsE (am x (cO x).2.2)).1=0
   .rw[if_pos b] at h;exact absurd rfl h
   rw[if_neg b]
 rw[kc a]
noncomputable def fR (ws:List Nat):Int × List (List En) × List Nat:=if aw ws=0 then rsE ws else (aw ws,[],[])
def lC (ws:List Nat) (outs:List (List En)) (x:List Nat):Prop:=rsE ws=if (rsE x).1=0 then (0,outs++(rsE x).2.1,(rsE x).2.2) else ((rsE x).1,[],[])
theorem iL(ho:∀v∈ws,v<18446744073709551616):lC ws [] ws:=by
 unfold lC;by_cases h:(rsE ws).1=0
 .rw[if_pos h,kz2,<-h]
 rw[if_neg h];exact Ih ho h
theorem wm{outs:List (List En)}(h:lC ws outs x)(ho:∀v∈x,v<18446744073709551616)(h0:(cO x).1=0)(hd:(cO x).2.1=false):lC ws (outs++[(cO x).2.2]) (am x (cO x).2.2):=by
 unfold lC at h |-;rw[h,gt ho h0 hd];by_cases a:(rsE (am x (cO x).2.2)).1=0
 .rw[if_pos a,if_pos rfl,if_pos a];simp
 rw[if_neg a,if_neg (by exact a),if_neg a]
theorem Bw{outs:List (List En)}(h:lC ws outs x)(h0:(cO x).1=0)(hd:(cO x).2.1=true):rsE ws=(0,outs,x):=by unfold lC at h;rw[h,fJ h0 hd];simp
theorem zG{outs:List (List En)}(h:lC ws outs x)(h0:(cO x).1≠0):rsE ws=((cO x).1,[],[]):=by unfold lC at h;rw[h,kc h0,if_neg (by exact h0)]
theorem pF{E:List En}{outs:List (List En)}(ho:∀v∈x,v<18446744073709551616)(h:rsE x=(0,E::outs,y)):cO x=(0,false,E)/\rsE (am x E)=(0,outs,y):=by
 by_cases a:(cO x).1=0
 .cases c:(cO x).2.1 with
  | true=>rw[fJ a c] at h;simp at h
  | false =>
   rw[gt ho a c] at h;by_cases b:(rsE (am x (cO x).2.2)).1=0
   .rw[if_pos b] at h;simp only[Prod.mk.injEq,List.cons.injEq,true_and] at h;obtain⟨⟨d,f⟩,e⟩:=h;refine⟨by rw[<-a,<-c,<-d],?_⟩;rw[<-d,<-f,<-e,<-b]
   rw[if_neg b] at h;simp at h
 rw[kc a] at h;simp at h
theorem Gb:∀ {a:List (List En)} {x y:List Nat},(∀v∈x,v<18446744073709551616)->rsE x=(0,a,y)->∀n,n<=a.length->(∀v∈stX x a n,v<18446744073709551616)/\(stX x a n).length=x.length/\rsE (stX x a n)=(0,a.drop n,y)/\(cO (stX x a n)).1=0/\∀h:n<a.length,cO (stX x a n)=(0,false,a[n])/\Small x.length a[n]:=by
 intro a
 induction a with
 | nil =>
  intro x y c h n e;have:n=0:=by simpa using e
  subst this;refine⟨c,rfl,h,?_,λh=>absurd h (by simp)⟩;rw[u9];by_cases g:(cO x).1=0
  .exact g
  rw[kc g] at h;simp only[Prod.mk.injEq] at h;exact h.1
 | cons E a ih =>
  intro x y c h n e;obtain⟨d,l⟩:=pF c h;have b:=qn c (by rw[d]) (by rw[d]);rw[d] at b;cases n with
  | zero=>exact⟨c,rfl,h,by rw[u9,d],λ_=>⟨d,b.1⟩⟩
  | succ n =>rw[DT];obtain⟨i,q,j,k,p⟩:=ih b.2.1 l n (by simpa using e);refine⟨i,by rw[q,ax],j,k,λm=>?_⟩;obtain⟨o,f⟩:=p (by simpa using m);rw[ax] at f;exact⟨o,f⟩
theorem ta{outs:List (List En)}(ho:∀v∈x,v<18446744073709551616)(h:rsE x=(0,outs,y)):stX x outs outs.length=y/\(cO y).1=0/\(cO y).2.1=true:=by
 obtain⟨d,g2,a,c,-⟩:=Gb ho h outs.length (kqd _);rw[kj9] at a;cases b:(cO (stX x outs outs.length)).2.1 with
 | true =>rw[fJ c b] at a;simp only[Prod.mk.injEq,true_and] at a;rw[a] at c b;exact⟨a,c,b⟩
 | false =>
  rw[gt d c b] at a;split at a
  .simp at a
  rename_i h1;simp only[Prod.mk.injEq] at a;exact absurd a.1 h1
theorem rs_len:∀ {a:List (List En)} {x y:List Nat},(∀v∈x,v<18446744073709551616)->rsE x=(0,a,y)->a.length<=rzM x:=by
 intro a
 induction a with
 | nil=>intro x y _ _;exact kqy _
 | cons E a ih =>intro x y d h;obtain⟨c,e⟩:=pF d h;have b:=qn d (by rw[c]) (by rw[c]);rw[c] at b;have:=ih b.2.1 e;rw[kq2];have:=b.2.2;dsimp only at this;omega
theorem mp{outs:List (List En)}(ho:∀v∈ws,v<18446744073709551616)(h:fR ws=(0,outs,y)):aw ws=0/\rsE ws=(0,outs,y)/\outs.length<=(ws.length-128)/2*3+5/\stX ws outs outs.length=y/\(∀n,n<=outs.length->(∀v∈stX ws outs n,v<18446744073709551616)/\(stX ws outs n).length=ws.length/\fR (stX ws outs n)=(0,outs.drop n,y))/\∀n (h:n<outs.length),Small ws.length outs[n]:=by
 have a:aw ws=0:=by
  by_cases d:aw ws=0
  .exact d
  unfold fR at h;rw[if_neg d] at h;simp only[Prod.mk.injEq] at h;exact absurd h.1 d
 have b:rsE ws=(0,outs,y):=by unfold fR at h;rw[if_pos a] at h;exact h
 obtain⟨-,f,-⟩:=cP a;refine⟨a,b,kz5 (rs_len ho b) (EV f),(ta ho b).1,λn c=>?_,λn c=>((Gb ho b n (kz7 c)).2.2.2.2 c).2⟩;obtain⟨e,j,g,i,-⟩:=Gb ho b n c;refine⟨e,j,?_⟩;unfold fR;rw[if_pos (rs_ck i)];exact g
theorem Cb :∀n x,(∀v∈x,v<18446744073709551616)->mzS p x<=n->((dg p x).1≠0->rsE x=((dg p x).1,[],[]))/\((dg p x).1=0->lC x (dg p x).2.1 (dg p x).2.2):=by
 intro n
 induction n with
 | zero =>
  intro x c h;have b:wd x 16≠p:=λb=>by unfold mzS at h;rw[if_pos b] at h;omega
  rw[cG b];exact⟨λh=>absurd rfl h,λ_=>iL c⟩
 | succ n ih =>
  intro x c h;by_cases b:wd x 16=p
  .by_cases i:(af x).1=6
   .rw[kG b i];exact⟨λh=>absurd rfl h,λ_=>iL c⟩
   have a:cO x=((af x).1,false,(af x).2):=by unfold cO;rw[if_neg i]
   by_cases d:(af x).1=0
   .have hd:=fC c b d;obtain⟨l,k⟩:=ih (am x (af x).2) (du c d) (by omega);have g:=gt c (by rw[a];exact d) (by rw[a]);rw[a] at g;dsimp only at g;rw[dM c b d];by_cases e:(dg p (am x (af x).2)).1=0
    .rw[if_pos e];refine⟨λh=>absurd rfl h,λ_=>?_⟩;have j:=k e;unfold lC at j |-;rw[g,j];dsimp only;by_cases f:(rsE (dg p (am x (af x).2)).2.2).1=0
     .rw[if_pos f,if_pos rfl,if_pos f];rfl
     rw[if_neg f,if_neg (by exact f),if_neg f]
    rw[if_neg e];refine⟨λ_=>?_,λh=>absurd h e⟩;rw[g,l e,if_neg (by exact e)]
   rw[qu b i d];refine⟨λ_=>?_,λh=>absurd h d⟩;rw[kc (by rw[a];exact d),a]
  rw[cG b];exact⟨λh=>absurd rfl h,λ_=>iL c⟩
theorem kt :∀n x,(∀v∈x,v<18446744073709551616)->mzS p x<=n->(dg p x).1=0->(∀v∈(dg p x).2.2,v<18446744073709551616)/\(dg p x).2.2.length=x.length:=by
 intro n
 induction n with
 | zero =>
  intro x b h _;have a:wd x 16≠p:=λa=>by unfold mzS at h;rw[if_pos a] at h;omega
  rw[cG a];exact⟨b,rfl⟩
 | succ n ih =>
  intro x b h d;by_cases a:wd x 16=p
  .by_cases f:(af x).1=6
   .rw[kG a f];exact⟨b,rfl⟩
   by_cases c:(af x).1=0
   .have hd:=fC b a c;rw[dM b a c] at d |-;by_cases e:(dg p (am x (af x).2)).1=0
    .rw[if_pos e];obtain⟨i,g⟩:=ih (am x (af x).2) (du b c) (by omega) e;exact⟨i,g.trans (ax _ _)⟩
    rw[if_neg e] at d;exact absurd d e
   rw[qu a f c] at d;exact absurd d c
  rw[cG a];exact⟨b,rfl⟩
end Go.Proofs.YtpcajamacpbjcaaGreat
