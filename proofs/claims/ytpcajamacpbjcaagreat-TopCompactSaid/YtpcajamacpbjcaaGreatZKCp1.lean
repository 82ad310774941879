/- Texts laid together: CpP CpQ CpR CpS CpT CpU CpV CpW CpX CpY CpZ CpD. -/
import Derived.Test.YtpcajamacpbjcaaGreatZKStg3
import Derived.Test.YtpcajamacpbjcaaGreatZKRs
set_option maxHeartbeats 16000000
set_option linter.all false
namespace Go.Proofs.YtpcajamacpbjcaaGreat
open Go.RowKit
variable {b:Bk}{r:Int}{E:List En}{ws x xs y ys:List Nat}{F T a c f i j k m m' p:Nat}
theorem If(h:cP x=0)(h3:wd x 16≠3):cU x=0:=by unfold cU;rw[if_pos h,if_neg (λh=>h3 h.1)]
theorem uC(h:cP x=0)(h3:wd x 16≠3)(h4:wd x 16≠4)(hh:aj x=0):ax x=0:=by unfold ax;rw[if_pos (If h h3),if_neg h4,if_neg h3];exact hh
theorem vR:∀n x,(∀v∈x,v<18446744073709551616)->mzS 1 x<=n->wd x 16=1->ax x=0->aC x=0->(cA 1 x).1=0/\wd (cA 1 x).2.2 16=2/\cP (cA 1 x).2.2=0/\1<=(cA 1 x).2.1.length:=by
 intro n
 induction n with
 | zero=>intro x _ h d;exfalso;unfold mzS at h;rw[if_pos d] at h;omega
 | succ n ih =>
  intro x k h d g a;have e:ag x=(0,iZ (aW x) 2):=by unfold ag;rw[if_pos g,if_pos d,if_pos a]
  have l:(ag x).1=0:=by rw[e]
  have hd:=fE k d l;obtain⟨-,-,p,-,-,-,-,-⟩:=mE k l;obtain⟨t,r2⟩:=ry a;obtain⟨g1,g2,g3,j,g5,g6⟩:=fW g d (.inl rfl) (ey a) (λy u=>by
   obtain⟨i,q⟩:=kj6.1 u;exact t i y q) (rI a)
  simp only[Nat.reduceAdd] at j;rw[dt k d l];by_cases b:32<=(aW x).length
  .rw[if_pos b] at j;have c:aC (ai x (ag x).2)=0:=by rw[e,cN b];exact (wc a b).1
   have m:wd (ai x (ag x).2) 16=1:=by rw[e];exact j
   have f:ax (ai x (ag x).2)=0:=uC p (by omega) (by omega) (aH c).1;obtain⟨w,r,s,i4⟩:=ih _ (dA k l) (by omega) m f c;rw[if_pos w];exact⟨rfl,r,s,by simp⟩
  rw[if_neg b] at j;have o:wd (ai x (ag x).2) 16=2:=by rw[e];exact j
  rw[cE (by omega),if_pos rfl];exact⟨rfl,o,p,by simp⟩
theorem vZ(hhp:aj x=0)(hf:¬ 32<=(aK x).length):bj (ai x (iZ (aK x) 3)) 128 128=0/\iH (ai x (iZ (aK x) 3)) 128 128=az (ah x) 128/\aj (ai x (iZ (aK x) 3))=0/\ah (ai x (iZ (aK x) 3))=fwB (ah x) 128:=by
 have k:=qT (x:=x) (E:=[⟨16,3⟩]) (λe d=>by
  rw[kqy] at d;subst d;exact .inl (by dsimp only;omega))
 obtain⟨o,i⟩:=(k.ev hhp).heap hhp;have c:=cr hhp;have hid:(ah x).map (nxB (ai x [⟨16,3⟩]))=ah x:=by
  rw[kz5 (g:=id) (λb f=>?_),List.map_id];obtain⟨a,rfl,a1,a2,-⟩:=c.1 b f;show nxB (ai x [⟨16,3⟩]) (bkAt x a)=bkAt x a;unfold nxB;refine t9 ?_;rw[af,show ((a:Int)).toNat=a from kqj a,aP _ _ _ (λe d=>by
   rw[kqy] at d;subst d;dsimp only;omega)]
  rfl
 rw[hid] at i;have f:=pT o;obtain⟨l,-,h,-,j,n,m,p,-⟩:=f;rw[i] at h;subst h;have e:ai x (iZ (aK x) 3)=ai (ai x [⟨16,3⟩]) (aY (ah x) 128):=by rw[jb hf,<-eT,tA hhp];rfl
 rw[e];exact⟨j,n,m,p⟩
theorem wQ:∀n x,(∀v∈x,v<18446744073709551616)->mzS 2 x<=n->wd x 16=2->ax x=0->(cA 2 x).1=0/\wd (cA 2 x).2.2 16=3/\wd (cA 2 x).2.2 17=0/\cP (cA 2 x).2.2=0/\1<=(cA 2 x).2.1.length/\bj (cA 2 x).2.2 128 128=0/\aj (cA 2 x).2.2=0:=by
 intro n
 induction n with
 | zero=>intro x _ h d;exfalso;unfold mzS at h;rw[if_pos d] at h;omega
 | succ n ih =>
  intro x j h d a;have c:aj x=0:=by have:=a;unfold ax at this;rw[if_pos (jz a),if_neg (by omega),if_neg (by omega)] at this;exact this
  have e:ag x=(0,iZ (aK x) 3):=by unfold ag;rw[if_pos a,if_neg (by omega),if_pos d,if_pos c]
  have i:(ag x).1=0:=by rw[e]
  have hd:=fE j d i;obtain⟨-,-,m,-,-,-,-,-⟩:=mE j i;obtain⟨u,p,t⟩:=pD c;obtain⟨g1,g2,g3,g,o,g6⟩:=fW a d (.inr rfl) u p t;simp only[Nat.reduceAdd] at g o;rw[dt j d i];by_cases b:32<=(aK x).length
  .rw[if_pos b] at g;have l:wd (ai x (ag x).2) 16=2:=by rw[e];exact g
   have f:ax (ai x (ag x).2)=0:=uC m (by omega) (by omega) (wl d i).1;obtain⟨A,r,s,B,i5,z,q⟩:=ih _ (dA j i) (by omega) l f;rw[if_pos A];exact⟨rfl,r,s,B,by simp,z,q⟩
  rw[if_neg b] at g;have k:wd (ai x (ag x).2) 16=3:=by rw[e];exact g
  obtain⟨w,-,y,-⟩:=vZ c b;rw[cE (by omega),if_pos rfl];refine⟨rfl,k,by rw[e];exact o,m,by simp,?_,?_⟩
  .rw[e];exact w
  rw[e];exact y
structure Hd (ws xs:List Nat):Prop where
 len:xs.length=ws.length
 low:∀i:Nat,96<=i->i<112->wd xs i=wd ws i
 blk:∀b∈ah ws,wd xs b.at_.toNat=wd ws b.at_.toNat/\wd xs (b.at_.toNat+1)=wd ws (b.at_.toNat+1)
section
variable {ws xs:List Nat}
theorem Hd.blocks(h:Hd ws xs):∀i l,blocks ws i=some l->(∀b∈l,b∈ah ws)->Proofs.YtpcajamacpbjcaaGreat.blocks xs i=some l:=by
 refine dP (λi l=>(∀b∈l,b∈ah ws)->Proofs.YtpcajamacpbjcaaGreat.blocks xs i=some l) (λi f _=>?_) (λi l f m j e k=>?_)
 .exact aD (by rw[h.len];exact f)
 have e:=e (λb j=>k b (kz1 _ j));obtain⟨a,g⟩:=h.blk _ (k (bkAt ws i) (by simp));rw[af,kqj] at a g;have n:szAt xs i=szAt ws i:=by unfold szAt;rw[a]
 have d:stands xs i=true:=by unfold Proofs.YtpcajamacpbjcaaGreat.stands at m |-;rw[a,h.len];exact m
 have c:bkAt xs i=bkAt ws i:=by unfold bkAt;rw[a,g]
 rw[aL (by rw[h.len];exact f) d,n,e,c];rfl
theorem Hd.ty(h:Hd ws xs)(h0:aj ws=0)(hb:b∈ah ws)(hk:b.kind=1):wd xs (tyA b)=wd ws (tyA b)/\wd xs (tyA b+1)=wd ws (tyA b+1):=by obtain⟨k,a,rfl⟩:=kq0 hb;have ht:=iX (ga h0).2.2.2 (by omega) a hk;unfold tyA;exact⟨h.low _ (by omega) (by omega),h.low _ (by omega) (by omega)⟩
theorem Hd.fit(h:Hd ws xs)(h0:aj ws=0)(hb:b∈ah ws):dW xs b=dW ws b:=by
 unfold dW;by_cases a:b.kind=1
 .obtain ⟨c,d⟩:=h.ty h0 hb a;unfold dj;rw[c,d]
 have:(b.kind != 1)=true:=by rw[kqv];exact a
 rw[this,kkw,kkw]
theorem Hd.heap(h:Hd ws xs)(h0:aj ws=0):aj xs=0/\ah xs=ah ws:=by obtain⟨g,l,f,e,d⟩:=aA h0;have c:=h.blocks 128 l f (λb c=>by rw[d];exact c);rw[d];refine fM (by rw[h.len];exact g) c ?_;rw[kzv] at e |-;intro b a;rw[h.fit h0 (by rw[d];exact a)];exact e b a
theorem Hd.mv(h:Hd ws xs)(h0:aj ws=0):∀(l:List Bk) (s:Int),(∀b∈l,b∈ah ws)->cn xs l s=cn ws l s:=by
 intro l
 induction l with
 | nil=>intro s _;rfl
 | cons b l ih =>intro s a;simp only[cn];rw[h.fit h0 (a b (by simp)),ih _ (λc d=>a c (kz1 _ d)),ih _ (λc d=>a c (kz1 _ d))]
theorem Hd.rd(h:Hd ws xs)(h0:aj ws=0)(hr:bj ws 128 128=0):bj xs 128 128=0/\iH xs 128 128=iH ws 128 128:=by
 obtain⟨j,g,l,c,k,i⟩:=co hr;have e:l=ah ws:=by have:=(ga h0).2.2.2;rw[show ((128:Int)).toNat=128 from rfl] at c;rw[c] at this;exact Option.some.inj this
 have a:=h.blocks 128 l c (λb a=>by rw[<-e];exact a);have f:bj xs 128 128=0:=by rw[jc (by rw[h.len];exact j) (by rw[h.len];exact g) (l:=l) a,h.mv h0 l _ (λb a=>by rw[<-e];exact a),if_pos k]
 obtain⟨-,-,l2,d,-,m⟩:=co f;rw[show ((128:Int)).toNat=128 from rfl] at d;rw[a] at d;obtain rfl:=Option.some.inj d;exact⟨f,by rw[m,i]⟩
theorem Hd.fx(h:Hd ws xs)(h0:cH ws=0):cH xs=0/\fh xs=fh ws/\aT xs 128=aT ws 128:=by
 obtain⟨a,f,e⟩:=eH h0;obtain⟨c,d⟩:=h.heap a;obtain⟨g,i⟩:=h.rd a f;have b:cH xs=0:=by unfold cH;rw[if_pos c];exact g
 obtain⟨-,-,j⟩:=eH b;exact⟨b,by rw[j,e,i],by rw[(ga c).2.1,(ga a).2.1,d]⟩
theorem qj{M:List (Int × Int)}:∀ {R:List Int},(∀r∈R,wd xs r.toNat=wd ws r.toNat)->dH xs M R=dH ws M R:=by
 intro R
 induction R with
 | nil=>intro _;rfl
 | cons r R ih =>
  intro h;simp only[dH];rw[ih (λx a=>h x (kz1 _ a))];have:gb xs M r.toNat=gb ws M r.toNat:=by unfold gb;rw[h r (by simp)]
  rw[this]
theorem Hd.ob(h:Hd ws xs){a:Int}(h0:dR ws a=0)(hr:∀r∈b8 ws a,wd xs r.toNat=wd ws r.toNat):dR xs a=0/\cR xs a=cR ws a/\b8 xs a=b8 ws a:=by
 have e:cH ws=0:=by
  by_cases j:cH ws=0
  .exact j
  rw[(zN rfl j).1] at h0;exact absurd h0 j
 obtain⟨t,w,v⟩:=h.fx e;obtain⟨g,f2,f3⟩:=eH e;have k:=h.heap g;cases d:kz (aT ws 128) a with
 | none=>rw[(uM e d).1] at h0;cases h0
 | some b =>
  have f:kz (aT xs 128) a=some b:=by rw[v];exact d
  obtain⟨p,b2,y⟩:=jN d;rw[(ga g).2.1] at p;have m:wL xs b=wL ws b:=by obtain⟨x,B⟩:=h.ty g p y;unfold wL;rw[x,B]
  have s:fU xs b=fU ws b:=by unfold fU;rw[m]
  have q:b8 ws a=fU ws b:=by simp[b8,g,d]
  have n:b8 xs a=fU xs b:=by simp[b8,k.1,f]
  rw[q] at hr;cases c:b.mark with
  | false=>rw[(uA e d c).1] at h0;cases h0
  | true =>
   cases i:dH ws (fh ws) (fU ws b) with
   | none=>rw[(C8 e d c i).1] at h0;cases h0
   | some o =>
    have l:dH xs (fh xs) (fU xs b)=some o:=by rw[s,w,qj hr];exact i
    obtain⟨o1,z⟩:=Bp e d c i;obtain⟨u,A⟩:=Bp t f c l;exact⟨u,by rw[A,z],by rw[n,q,s]⟩
end
def Bd (ws:List Nat) (a:Nat):Prop:=128<=a/\∃k,k<=(ah ws).length/\blocks ws a=some ((ah ws).drop k)
theorem GD(h:aj ws=0):Bd ws 128:=⟨kqa _,0,kqz _,(ga h).2.2.2⟩
theorem qZ(h:Bd ws a)(hn:bt ws (a:Int)=0)(e:iO ws (a:Int)=bkAt ws m):a<=m/\2<=szAt ws m/\m+szAt ws m<=ws.length/\Bd ws (m+szAt ws m)/\bkAt ws m∈ah ws/\(bkAt ws m).mark=true/\(bkAt ws m).kind=1:=by
 obtain⟨h1,k,hk,d⟩:=h;obtain⟨-,-,-,f,v,t,p2,x,p4,q,p6,r,o,l,s,-,-,c,n,-,p⟩:=fO hn;have w:f=m:=by have:=v.symm.trans e;have j:=congrArg Bk.at_ this;rw[af,af] at j;omega
 subst w;rw[s] at d;obtain rfl:=Option.some.inj d;have b:f<ws.length:=by omega
 obtain⟨g,u,f3,i⟩:=cM p b;rw[kxx,kxx] at i;refine⟨t,x,q,⟨by omega,k+c+1,?_,?_⟩,?_,r,o⟩
 .rw[kzp] at n;omega
 .rw[i,kj3]
 rw[<-u];have y:gk ((List.drop k (ah ws)).drop c) 0∈(List.drop k (ah ws)).drop c:=by unfold gk;rw[kql g,kq5];exact kqn g
 exact kxz (kxz y)
theorem bd_of(h:aj ws=0)(hb:pu ws f=true):Bd ws f:=by
 obtain⟨-,-,-,d⟩:=ga h;obtain⟨i,-⟩:=aA h;have hbd:=(ab _).1 i;unfold pu at hb;rw[d] at hb;dsimp only at hb;rw[kx1,kx5] at hb;rcases hb with⟨b,l,c⟩|c
 .rw[kqx] at c;obtain⟨k,g,rfl⟩:=kq0 l;obtain⟨a,e,a1,j,a3,a4,m⟩:=cC 128 _ d (by omega) k g;rw[e,af] at c;obtain rfl:a=f:=by omega
  exact⟨j,k,by omega,m⟩
 rw[kqx] at c;subst c;exact⟨by omega,_,kqa _,by rw[kkf];exact aD (kqa _)⟩
theorem bd_is(h:aj ws=0)(hb:Bd ws f)(hf:f<=ws.length):pu ws f=true:=by
 obtain⟨-,-,-,c⟩:=ga h;obtain⟨h1,k,hk,b⟩:=hb;unfold pu;rw[c];dsimp only;rw[kx1,kx5];by_cases e:f=ws.length
 .right;rw[kqx];exact e
 left;obtain⟨a,d,f3,f4⟩:=cM b (by omega);refine⟨bkAt ws f,?_,by rw[kqx,af]⟩;rw[<-d];unfold gk;rw[kql a,kq5];exact kxz (kqn a)
def AH (ws:List Nat) (a:Nat):Prop:=∀m:Nat,bkAt ws m∈ah ws->(bkAt ws m).mark=true->a<=m->dR ws (m:Int)=0
theorem zI :∀k a,ws.length-a<=k->Bd ws a->AH ws a->(lA ws a).1=0/\(lA ws a=(0,cq)\/∃m:Nat,a<=m/\2<=szAt ws m/\m+szAt ws m<=ws.length/\Bd ws (m+szAt ws m)/\bkAt ws m∈ah ws/\(bkAt ws m).mark=true/\lA ws a=(0,⟨17,m+szAt ws m⟩::cR ws (m:Int))):=by
 intro k
 induction k with
 | zero =>
  intro a z d h;by_cases b:bt ws (a:Int)=0
  .obtain ⟨-,-,-,m,e,-⟩:=fO b;obtain⟨f,j,i,-⟩:=qZ d b e;omega
  rw[kL b];exact⟨rfl,.inl rfl⟩
 | succ k ih =>
  intro a z d h;by_cases b:bt ws (a:Int)=0
  .obtain ⟨-,-,-,m,e,-⟩:=fO b;obtain⟨f,j,i,o,l,p,n7⟩:=qZ d b e;by_cases n:b8 ws (m:Int)=[]
   .rw[ll b e n];obtain⟨A,c⟩:=ih (m+szAt ws m) (by omega) o (λg u w h3=>h g u w (by omega));refine⟨A,?_⟩;rcases c with c|⟨g,j1,x,s,v,y,t,r⟩
    .exact .inl c
    exact .inr ⟨g,by omega,x,s,v,y,t,r⟩
   have q:=h m l p f;rw[qN b e n q];exact⟨rfl,.inr ⟨m,f,j,i,o,l,p,rfl⟩⟩
  rw[kL b];exact⟨rfl,.inl rfl⟩
theorem iA(h:aj ws=0)(hr:r∈b8 ws (m:Int)):∃i:Nat,r=((m+2+i:Nat):Int)/\i<(flds ws m).length/\m+2+i<m+szAt ws m/\fi ws m:=by
 unfold b8 at hr;rw[if_pos h] at hr;cases d:kz (aT ws 128) (m:Int) with
 | none=>rw[d] at hr;cases hr
 | some b =>
  rw[d] at hr;dsimp only at hr;obtain⟨a,e1,j,e⟩:=Dc h d;obtain rfl:a=m:=by omega
  have n:wL ws b=flds ws a:=by rw[j];rfl
  have f:b.at_=(a:Int):=by rw[j,af]
  unfold fU at hr;obtain⟨i,k,-,l⟩:=kX.1 hr;rw[n] at k;have c:=e.2.2.2.2.2.1;rw[jY (ws:=ws) (b:=bkAt ws a) e.2.2.2.2.1] at c;simp only[kqu,kqx] at c;have g:=c.2;rw[bo] at g;have h8:(flds ws a).length=(bq (wd ws (tyA (bkAt ws a))) (wd ws (tyA (bkAt ws a)+1))).length:=rfl;unfold bg at g;exact⟨i,by rw[l,f];omega,k,by omega,e⟩
theorem iF(h:aj ws=0)(ho:fi ws a)(hb:b∈ah ws):b.at_<=(a:Int)/\(b.at_=(a:Int)\/b.at_+2<=(a:Int))\/((a+szAt ws a:Nat):Int)<=b.at_:=by
 obtain⟨o1,o2,m,q,o5,o6,k,r,e,d⟩:=ho;obtain⟨j,l,rfl⟩:=kq0 hb;rcases kq7 k j with n|n
 .rw[aL m q] at d;cases f:blocks ws (a+szAt ws a) with
  | none=>rw[f] at d;cases d
  | some l' =>
   rw[f] at d;simp only[kzz,Option.some.injEq] at d;have o:l'=(ah ws).drop (k+1):=by
    have:=congrArg (List.drop 1) d;rw[kxx] at this
    simpa using this
   have s:(ah ws)[j]∈l':=by rw[o];refine kvi.2 ⟨j-(k+1),by rw[kzp];omega,?_⟩;rw[kkb];congr 1;omega
   have:=(ml _ _ f).1 _ s;exact .inr this
 have g:=(cr h).2;rw[kzj] at g;have ha:(ah ws)[k].at_=(a:Int):=by rw[e,af]
 obtain⟨c,p,c1,c2,-⟩:=(cr h).1 _ (kqn l);have hc:(ah ws)[j].at_=(c:Int):=by rw[p,af]
 left;rcases kq7 j k with i|i
 .have:=g j k l r i;omega
 have:j=k:=by omega
 subst this;omega
structure I3 (x:List Nat):Prop where
 ck:ax x=0
 p3:wd x 16=3
 hp:aj x=0
 sl:wd x 17=0->eI x=0
 fx:AH x (wd x 17)
theorem I3.rd(h:I3 x):bj x 128 128=0:=by have:=h.ck;unfold ax at this;rw[if_pos (jz h.ck),if_neg (by rw[h.p3];decide),if_pos h.p3] at this;exact this
theorem hd_put(h:aj x=0)(hE:∀e∈E,e.a<19\/112<=e.a/\∀b∈ah x,e.a≠b.at_/\e.a≠b.at_+1):Hd x (ai x E):=by
 refine⟨au _ _,λi h1 h2=>aP _ _ _ λe f g=>?_,λb j=>?_⟩
 .rcases hE e f with c|c<;>omega
 obtain⟨a,rfl,a1,-⟩:=(cr h).1 b j;have d:(bkAt x a).at_=(a:Int):=af x a;rw[d,kqj];refine⟨aP _ _ _ λe f g=>?_,aP _ _ _ λe f g=>?_⟩
 .rcases hE e f with c|⟨-,c⟩
  .omega
  exact (c _ j).1 (by rw[d];exact g)
 rcases hE e f with c|⟨-,c⟩
 .omega
 exact (c _ j).2 (by rw[d,g];rfl)
theorem vO(h:aj x=0)(hE:∀e∈E,e.a<19\/112<=e.a/\e.a<128):Hd x (ai x E):=hd_put h λe g=>by
 rcases hE e g with c|c
 .exact .inl c
 .refine .inr ⟨c.1,λb f=>?_⟩;obtain⟨a,rfl,a1,-⟩:=(cr h).1 b f;have d:(bkAt x a).at_=(a:Int):=af x a;rw[d];omega
theorem BQ(h:Hd x xs)(h0:aj x=0)(hm:bkAt xs m∈ah xs):bkAt x m∈ah x/\bkAt xs m=bkAt x m:=by
 rw[(h.heap h0).2] at hm;obtain⟨a,e,-⟩:=(cr h0).1 _ hm;have b:=congrArg Bk.at_ e;rw[af,af] at b;obtain rfl:m=a:=by omega
 rw[e] at hm;exact⟨hm,e⟩
theorem hd_bd(h:Hd x xs)(h0:aj x=0)(c:Bd x a):Bd xs a:=by obtain⟨f,k,e,d⟩:=c;refine⟨f,k,by rw[(h.heap h0).2];exact e,?_⟩;rw[(h.heap h0).2];exact h.blocks a _ d λb c=>kxz c
theorem rn(ho:∀v∈x,v<18446744073709551616)(h:I3 x):(ag x).1=0/\(I3 (ai x (ag x).2)\/wd (ai x (ag x).2) 16=4/\wd (ai x (ag x).2) 17=128/\wd (ai x (ag x).2) 18=128/\Hd x (ai x (ag x).2)/\cP (ai x (ag x).2)=0):=by
 have p3:=h.p3;have e:ag x=sgFix x:=by unfold ag;rw[if_pos h.ck,if_neg (by omega),if_neg (by omega),if_pos p3]
 obtain⟨-,hs,hl,P⟩:=cQ h.ck;have L:=(ab _).1 hs;obtain⟨⟨l1,l2,l3⟩,-⟩:=(bE x).1 hl;have G:=h.rd;by_cases z:wd x 17=0
 .have J:=h.sl z;have D:sgFix x=(0,⟨17,128⟩::eC x):=by unfold sgFix;rw[if_pos z,if_pos J]
  have F:(ag x).1=0:=by rw[e,D]
  obtain⟨-,-,q,-⟩:=mE ho F;refine⟨F,.inl ?_⟩;obtain⟨-,-,-,-,-,-,-,K,q2,q3,-⟩:=kk J;obtain⟨Y,g2,g3,u,y,M⟩:=j9 (f:=128) (l:=eC x) h.ck p3 (by decide) (by omega) (by omega) (by omega) q2 (λe c=>by have:=(K e c).1;omega) (λe c=>(K e c).2);have o:Hd x (ai x (⟨17,128⟩::eC x)):=vO h.hp λe c=>by
   rcases kqw.1 c with rfl|c
   .exact .inl (by dsimp only;omega)
   exact .inr (K e c).1
  rw[e,D] at q |-;dsimp only at q |-;have n:=(o.heap h.hp).1;have d:cU (ai x (⟨17,128⟩::eC x))=0:=by unfold cU;rw[if_pos q,if_neg];rintro ⟨-,-,p⟩;rw[y,bd_is n (GD n) (by rw[o.len];omega)] at p;cases p
  refine⟨?_,u,n,λg=>?_,λm g C p=>?_⟩
  .unfold ax;rw[if_pos d,if_neg (by rw[u];decide),if_pos u];exact (o.rd h.hp G).1
  .rw[y] at g;cases g
  obtain⟨Q,m2⟩:=BQ o h.hp g;rw[m2] at C;have w:=h.fx m Q C (by omega);refine (o.ob w λr t=>?_).1;obtain⟨i,rfl,O,V,s⟩:=iA h.hp t;rw[kqj];refine aP _ _ _ λe c W=>?_;have:=s.1;rcases kqw.1 c with rfl|c
  .dsimp only at W;omega
  have:=(K e c).1;omega
 have hF:128<=wd x 17:=by
  rcases (dd _ _ _).1 P with g|⟨-,-,g⟩|g
  .omega
  .rcases g with g|g
   .exact absurd g z
   exact ((a9 _).1 g).1
  omega
 have D:sgFix x=lA x (wd x 17):=by unfold sgFix;rw[if_neg z]
 have N:Bd x (wd x 17):=by
  refine bd_of h.hp ?_;have d:=jz h.ck;unfold cU at d;by_cases I:pu x (wd x 17)=true
  .exact I
  split at d
  .rw[if_pos ⟨p3,z,by simpa using I⟩] at d;cases d
  exact absurd d (by assumption)
 obtain⟨f1,X⟩:=zI _ (wd x 17) (kqa _) N h.fx;have F:(ag x).1=0:=by rw[e,D];exact f1
 obtain⟨-,-,q,-⟩:=mE ho F;refine⟨F,?_⟩;rcases X with X|⟨m,Q,m2,m3,m4,m5,m6,m7⟩
 .right;rw[e,D,X] at q |-;obtain⟨Y,g2,g3,u,y,M⟩:=ig h.ck p3;refine⟨u,y,M,vO h.hp λe c=>?_,q⟩;simp only[cq,kqw,kzk,or_false] at c;rcases c with rfl|rfl|rfl<;>exact .inl (by dsimp only;omega)
 left;rw[e,D,m7] at q |-;dsimp only at q |-;have w:=h.fx m m5 m6 Q;obtain⟨f,-,-,-,-,q5,q6,q7,S,q9⟩:=jh w;have Z:=Gp w;have hme:m%2=0/\szAt x m%2=0:=by
  obtain⟨a,ea,a1,a2,a3,a4⟩:=(cr h.hp).1 _ m5;have p:=congrArg Bk.at_ ea;rw[af,af] at p;obtain rfl:m=a:=by omega
  have:=aJ a4;omega
 obtain⟨Y,g2,g3,u,y,M⟩:=j9 (f:=m+szAt x m) (l:=cR x (m:Int)) h.ck p3 ((a9 _).2 (by omega)) m3 (by omega) (by omega) q9 (λe c=>by have:=Z e c;omega) (λe c=>by have:=Z e c;omega);have k:∀j:Nat,j≠17->(∀r∈b8 x (m:Int),r≠(j:Int))->wd (ai x (⟨17,m+szAt x m⟩::cR x (m:Int))) j=wd x j:=by
  intro j h17 hj;refine aP _ _ _ λe c W=>?_;rcases kqw.1 c with rfl|c
  .dsimp only at W;omega
  obtain⟨r,r1,r2,r3,r4⟩:=S e c;obtain rfl:r=j:=by omega
  have h6:=q7 r (λi hi hf=>hj _ (kqn hi) (by rw[(q6 i hi).1,hf]));have E:=eG _ x q9 e c (by omega) (by omega);rw[r1,kqj,h6] at E;exact r3 E
 have o:Hd x (ai x (⟨17,m+szAt x m⟩::cR x (m:Int))):=by
  refine⟨au _ _,λi g C=>k i (by omega) λr t A=>?_,λb L=>?_⟩
  .obtain ⟨R,U,-,-,s⟩:=iA h.hp t;have:=s.1;omega
  obtain⟨a,rfl,a1,a2,-⟩:=(cr h.hp).1 b L;have B:(bkAt x a).at_=(a:Int):=af x a;rw[B,kqj];refine⟨k _ (by omega) λr t A=>?_,k _ (by omega) λr t A=>?_⟩
  .obtain ⟨R,U,O,V,s⟩:=iA h.hp t;have:=iF h.hp s L;rw[B] at this;omega
  obtain⟨R,U,O,V,s⟩:=iA h.hp t;have:=iF h.hp s L;rw[B] at this;omega
 have n:=(o.heap h.hp).1;have d:cU (ai x (⟨17,m+szAt x m⟩::cR x (m:Int)))=0:=by unfold cU;rw[if_pos q,if_neg];rintro ⟨-,-,p⟩;rw[y,bd_is n (hd_bd o h.hp m4) (by rw[o.len];omega)] at p;cases p
 refine⟨?_,u,n,λg=>?_,λm' g C p=>?_⟩
 .unfold ax;rw[if_pos d,if_neg (by rw[u];decide),if_pos u];exact (o.rd h.hp G).1
 .rw[y] at g;omega
 obtain⟨n1,n2⟩:=BQ o h.hp g;rw[n2] at C;rw[y] at p;have H:=h.fx m' n1 C (by omega);refine (o.ob H λr t=>?_).1;obtain⟨i,rfl,O,V,s⟩:=iA h.hp t;rw[kqj];refine k _ (by have:=s.1;omega) λr2 T A=>?_;obtain⟨R,U,j1,j2,j3⟩:=iA h.hp T;omega
theorem Ag(x:List Nat)(t:Nat):mvd x t t=true:=by
 unfold mvd;cases t with
 | zero=>unfold vW;simp
 | succ t=>unfold vW;rw[if_neg (by omega)];simp
theorem qD:∀n x,(∀v∈x,v<18446744073709551616)->mzS 3 x<=n->I3 x->(cA 3 x).1=0/\wd (cA 3 x).2.2 16=4/\wd (cA 3 x).2.2 17=128/\wd (cA 3 x).2.2 18=128/\ax (cA 3 x).2.2=0/\aj (cA 3 x).2.2=0/\1<=(cA 3 x).2.1.length:=by
 intro n
 induction n with
 | zero=>intro x _ h a;exfalso;have:=a.p3;unfold mzS at h;rw[if_pos this] at h;omega
 | succ n ih =>
  intro x c h a;obtain⟨d,b⟩:=rn c a;have hd:=fE c a.p3 d;rw[dt c a.p3 d];rcases b with b|⟨e,g,f,i,l⟩
  .obtain ⟨p,j,k,q,m,o,i7⟩:=ih _ (dA c d) (by omega) b;rw[if_pos p];exact⟨rfl,j,k,q,m,o,by simp⟩
  rw[cE (by omega),if_pos rfl];refine⟨rfl,e,g,f,?_,(i.heap a.hp).1,by simp⟩;unfold ax;rw[if_pos (If l (by omega)),if_pos e];dsimp only;rw[f,g,if_pos (Ag _ _)];exact (i.rd a.hp a.rd).1
theorem zK(ho:∀v∈x,v<18446744073709551616)(hp:cP x=0)(p3:wd x 16=3)(p17:wd x 17=0)(hrc:aC x=0)(hw:aW x=[])(hn:aK x=[]):I3 x:=by
 obtain⟨n,b,M,d,c,s1,j,s,p,w,-⟩:=uJ hrc ho;rw[hw] at d;have d:n=x:=d;subst d;rw[hn] at c;have c:b=n:=c;subst c;have a:=(aH hrc).1;have f:cU b=0:=by unfold cU;rw[if_pos hp,if_neg];rintro ⟨-,h,-⟩;exact h p17
 refine⟨?_,p3,a,λ_=>p,λm t r _=>?_⟩
 .unfold ax;rw[if_pos f,if_neg (by omega),if_pos p3];exact j
 have i:=(ga a).2.2.2;obtain⟨-,-,l,k,-,u⟩:=co j;rw[show ((128:Int)).toNat=128 from rfl,i] at k;obtain rfl:=Option.some.inj k;have g:=ms (jE i (by omega)) 128;have o:(m:Int)∈eQ (ah b):=by unfold eQ;refine kzx.2 ⟨bkAt b m,kzu.2 ⟨t,r⟩,af b m⟩
 rw[g] at o;obtain⟨q,y,e⟩:=kzx.1 o;rw[<-e];exact w q (by rw[<-s,u];exact y)
section
variable {ws xs:List Nat}
theorem tJ(h:∀j,96<=j->wd xs j=wd ws j)(b:Bk):dW xs b=dW ws b:=by unfold dW dj;rw[h (tyA b) (by unfold tyA;omega),h (tyA b+1) (by unfold tyA;omega)]
theorem F6(h:∀j,96<=j->wd xs j=wd ws j):∀(l:List Bk) (s:Int),cn xs l s=cn ws l s:=by
 intro l
 induction l with
 | nil=>intro s;rfl
 | cons b l ih =>intro s;simp only[cn];rw[tJ h,ih,ih]
theorem wW(hn:xs.length=ws.length)(h:∀j,96<=j->wd xs j=wd ws j){f s:Int}(hf:96<=f.toNat):bj xs f s=bj ws f s:=by
 unfold bj mm;rw[hn,ep hn f.toNat (λj hj=>h j (by omega))];cases blocks ws f.toNat with
 | none=>rfl
 | some l=>dsimp only;rw[F6 h]
theorem Gk{t:Nat}(h:∀j,96<=j->j<t->wd xs j=wd ws j)(ht:mdOk xs t=true)(h128:128<=t):∀n i,t-i<=n->128<=i->mvd ws i t=true->mvd xs i (t+szAt xs t)=true:=by
 have hsz:=mF ht;have a:mvd xs t (t+szAt xs t)=true:=by rw[lg (by omega) ht,kK (kqa _)];simp
 intro n
 induction n with
 | zero =>intro i p o b;rw[kK (by omega),kqx] at b;subst b;exact a
 | succ n ih =>
  intro i p o b;by_cases e:i<t
  .cases c:mdOk ws i with
   | false=>rw[ut e c] at b;cases b
   | true =>
    have hz:=mF c;rw[lg e c] at b;have k:wd xs i=wd ws i:=h i (by omega) e;have f:mdOk xs i=true:=by unfold mdOk at c |-;rw[k];simp only[kqu,kqx] at c |-;obtain⟨d,q,m,g⟩:=c;refine⟨d,q,m,?_⟩;unfold aG at d;rw[kqu] at d;have h7:=(bH _).1 d.1;unfold dj at g |-;rw[h (tyA (ap (wd ws i))) (by unfold tyA;omega) (by unfold tyA;omega),h (tyA (ap (wd ws i))+1) (by unfold tyA;omega) (by unfold tyA;omega)];exact g
    have l:szAt xs i=szAt ws i:=by unfold szAt;rw[k]
    rw[lg (by omega) f,l];exact ih (i+szAt ws i) (by omega) (by omega) b
  rw[kK (by omega),kqx] at b;subst b;exact a
theorem J6 :∀ {k:Nat} {l:List Bk} {s:Int},k<=l.length->fj l k->cn ws l s=true->cn ws (l.drop k) s=true:=by
 intro k
 induction k with
 | zero=>intro l s _ _ h;exact h
 | succ k ih =>
  intro l s d c h;cases l with
  | nil=>simp at d
  | cons b l =>
   have e:b.mark=false:=c 0 (by omega);have a:aR b=false:=by unfold aR;rw[e];simp
   simp only[cn,a,kqu] at h;rw[List.drop_succ_cons];refine ih (by simpa using d) (λj hj=>?_) (by simpa using h.2);have:=c (j+1) (by omega);exact this
theorem Fl(ho:∀v∈x,v<18446744073709551616)(hck:ax x=0)(p4:wd x 16=4)(hnx:bt x ((wd x 17:Nat):Int)=0):(ag x).1=0/\wd (ai x (ag x).2) 16=4/\ax (ai x (ag x).2)=0:=by
 have e:ag x=sgSld x:=by unfold ag;rw[if_pos hck,if_neg (by omega),if_neg (by omega),if_neg (by omega),if_pos p4]
 obtain⟨-,hs,hl,R⟩:=cQ hck;have hb:=(ab _).1 hs;have N:mvd x 128 (wd x 18)=true/\bj x ((wd x 17:Nat):Int) ((wd x 18:Nat):Int)=0:=by
  have:=hck;unfold ax at this;rw[if_pos (jz hck),if_pos p4] at this;by_cases B:mvd x 128 (wd x 18)=true
  .rw[if_pos B] at this;exact⟨B,this⟩
  rw[if_neg B] at this;cases this
 obtain⟨B,S⟩:=N;obtain⟨-,a1,a2,m,em,m1,m2,m3,m4,m5,m6,m7,Z,l,q1,-,-,k,q2,q3,G⟩:=fO hnx;obtain⟨r1,r2,l2,r3,r4,-⟩:=co S;rw[kqj,q1] at r3;obtain rfl:=Option.some.inj r3;obtain⟨u1,u2,u3,u4,u5⟩:=ij r2;have E:bj x (m:Int) ((wd x 18:Nat):Int)=0:=by
  have W:gq x.length (m:Int) ((wd x 18:Nat):Int)=false:=by
   cases hq:gq x.length (m:Int) ((wd x 18:Nat):Int) with
   | false=>rfl
   | true=>exact absurd ⟨by omega,by omega,by omega,by omega,by omega⟩ ((lw _ _ _).1 hq)
  rw[jc r1 W (l:=l.drop k) (by rw[kqj];exact G),if_pos (J6 (by omega) q3 r4)]
 obtain⟨J,K,f3,f4⟩:=cM G (by omega);have r:dY x (m:Int) ((wd x 18:Nat):Int)=0:=by
  unfold dY;rw[if_pos E,kqj,G];cases y:l.drop k with
  | nil=>rw[y] at J;simp at J
  | cons c t =>
   dsimp only;rw[y] at K;have T:c=bkAt x m:=by rw[<-K];rfl
   rw[T,m7];rfl
 have F:sgSld x=(0,⟨17,m+szAt x m⟩::⟨18,wd x 18+szAt x m⟩::kx x m (wd x 18)):=by unfold sgSld;rw[if_pos hnx,em,af,if_pos r,bo,show ((m:Int)+((szAt x m:Nat):Int)).toNat=m+szAt x m by omega,show (((wd x 18:Nat):Int)+((szAt x m:Nat):Int)).toNat=wd x 18+szAt x m by omega];unfold jA;rw[if_pos r,kqj,kqj]
 have P:(ag x).1=0:=by rw[e,F]
 obtain⟨-,-,k3,-⟩:=mE ho P;obtain⟨a,u,n,ea,Q,en,n2,n10,hu,hua,han,hst,hlv,⟨l3,-,-,-,s4,-⟩,C,o⟩:=gI r;have ea:a=m:=by omega
 have Q:u=wd x 18:=by omega
 subst ea;subst en;have L:=Q;have V:=(AC ho hck p4 (by rw[<-e];exact P)).1;have z:=Db (ws:=x) (a:=a) (u:=u) (by omega);rw[<-z] at s4 C;rw[<-Q] at F;rw[<-e] at V;have w:(kx x a u).Pairwise (λa b=>a.a<b.a):=by rw[kzj];intro i j hi hj hij;rw[gU,gU];omega
 have q:∀e∈kx x a u,(u:Int)<=e.a/\e.a<((u+szAt x a:Nat):Int):=λe d=>by
  obtain⟨k,hk,rfl⟩:=kq0 d;rw[gU];rw[jp] at hk;omega
 have Y:∀j:Nat,19<=j->wd (ai x (ag x).2) j=wd (ai x (kx x a u)) j:=by
  intro j hj;rw[e,F,show (⟨17,a+szAt x a⟩::⟨18,u+szAt x a⟩::kx x a u:List En)=[⟨17,a+szAt x a⟩,⟨18,u+szAt x a⟩]++kx x a u from rfl,eT];by_cases s:∃e∈kx x a u,e.a=(j:Int)
  .obtain ⟨H,d,h5⟩:=s;have hm2:=q H d;have t1:=eG (kx x a u) (ai x [⟨17,a+szAt x a⟩,⟨18,u+szAt x a⟩]) w H d (by omega) (by rw[au];omega);have t2:=eG (kx x a u) x w H d (by omega) (by omega);rw[show H.a.toNat=j by omega] at t1 t2;rw[t1,t2]
  rw[aP _ _ _ (λe d h=>s ⟨e,d,h⟩),aP _ _ _ (λe d h=>s ⟨e,d,h⟩)];refine aP _ _ _ λe d h=>?_;simp only[kqw,kzk,or_false] at d;rcases d with rfl|rfl<;>(dsimp only at h;omega)
 have hfp:=(dd _ _ _).1 R;obtain⟨j1,j2,-,j4,j5,j6⟩:=oz (f:=a+szAt x a) (t:=u+szAt x a) (l:=kx x a u) hck p4 ((a9 _).2 (by omega)) ((a9 _).2 (by omega)) (by omega) (by omega) (by omega) (by omega) (by rw[jp];omega) w (λe d=>by have:=q e d;omega) (uK ho o);have hlen:(ai x (ag x).2).length=x.length:=au _ _;have g:∀j:Nat,96<=j->j<u->wd (ai x (ag x).2) j=wd x j:=λj h1 h2=>by
  rw[Y j (by omega)];exact aP _ _ _ λe d h=>by have:=q e d;omega
 have D:wd (ai x (ag x).2) u=cS { ap (wd x a) with mark:=false }:=by rw[Y u (by omega)];exact C
 have p:ap (wd (ai x (ag x).2) u)={ ap (wd x a) with mark:=false }:=by rw[D,kp o];rfl
 have O:szAt (ai x (ag x).2) u=szAt x a:=by have:=congrArg Bk.size p;have e1:(ap (wd (ai x (ag x).2) u)).size=((szAt (ai x (ag x).2) u:Nat):Int):=rfl;have e3:({ ap (wd x a) with mark:=false }:Bk).size=((szAt x a:Nat):Int):=rfl;rw[e1,e3] at this;omega
 have A:dj x (bkAt x a)=true:=by
  obtain⟨-,-,l4,w3,I,-⟩:=co E;rw[kqj,G] at w3;obtain rfl:=Option.some.inj w3;cases y:l.drop k with
  | nil=>rw[y] at J;simp at J
  | cons c t =>
   rw[y] at K I;have T:c=bkAt x a:=by rw[<-K];rfl
   rw[T] at I;simp only[cn,kqu] at I;have X:=I.1;unfold dW at X;rw[Z] at X
   simpa using X
 have U:mdOk (ai x (ag x).2) u=true:=by
  have h7:=(bH _).1 o;have M:(ap (wd x a)).kind=1:=Z;unfold mdOk aG;rw[p,D,o,M];simp only[beq_self_eq_true,kzq,kvu];unfold dj at A |-;have et:tyA ({ ap (wd x a) with mark:=false }:Bk)=tyA (bkAt x a):=rfl;have htl:tyA (bkAt x a)+1<112:=by have:(bkAt x a).typ=(ap (wd x a)).typ:=rfl;unfold tyA;rw[this];dsimp only at h7;omega
  rw[et,g _ (by unfold tyA;omega) (by omega),g _ (by unfold tyA;omega) (by omega)];exact A
 have hg:=Gk g U hu (u-128) 128 (by omega) (by omega) (by rw[L];exact B);rw[O] at hg;have g5:wd (ai x (ag x).2) 17=a+szAt x a:=by rw[e,F];exact j5
 have g6:wd (ai x (ag x).2) 18=u+szAt x a:=by rw[e,F];exact j6
 refine⟨P,V,?_⟩;unfold ax;rw[if_pos (If k3 (by omega)),if_pos V,g5,g6,if_pos hg,wW (ws:=ai x (kx x a u)) (by rw[au,au]) (λj hj=>Y j (by omega)) (by omega)];exact s4
end
theorem GZ(hck:ax x=0)(p4:wd x 16=4)(hnx:bt x ((wd x 17:Nat):Int)≠0):dK x=0:=by
 obtain⟨n,-,a,e,b,h,f,l,k,i⟩:=yw hck (by omega);obtain⟨-,-,-,c⟩:=cQ hck;have hF:128<=wd x 17:=by
  rcases (dd _ _ _).1 c with b|b|b
  .exact ((a9 _).1 b.2.1).1
  .omega
  omega
 have o:a=wd x 17:=by unfold hU at e;rw[if_neg (by omega)] at e;omega
 subst o;have d:lfN x=0:=by
  rw[i];by_cases g:0<(eQ l).length
  .obtain ⟨m,z,l',j,-⟩:=nT n b h f k g;exact absurd j hnx
  omega
 unfold dK;rw[if_pos hck,if_pos ⟨p4,d⟩]
theorem uP{x:Nat}(h:aG x=true)(hk:(ap x).kind=1)(m n:Bool):gN (gN x m) n=gN x n:=by obtain⟨a,b,-,-⟩:=jn h hk m;obtain⟨y,c⟩:=xq (gN x m);rw[c] at a b |-;unfold gN;rw[if_pos a,if_pos h];unfold iQ;rw[b]
theorem RmL.trans(h:RmL ws xs)(g:RmL xs ys):RmL ws ys:=by
 refine⟨g.len.trans h.len,λi c=>?_⟩;rcases g.at_ i c with a|⟨a,d,k,e,m,b⟩
 .rw[a];exact h.at_ i c
 rcases h.at_ i c with l|⟨l,h2,f,j,m0,n⟩
 .rw[l] at k e b;exact .inr ⟨a,d,k,e,m,b⟩
 exact .inr ⟨a,d,f,j,m,by rw[b,n,uP f j]⟩
theorem Rm.toL(h:Rm ws xs):RmL ws xs:=⟨h.len,λi _=>h.at_ i⟩
theorem NxL.trans(h0:aj ws=0)(h:NxL ws xs)(g:NxL xs ys):NxL ws ys:=by
 refine⟨g.len.trans h.len,λi e=>?_⟩;rcases g.at_ i e with c|⟨b,d,c⟩
 .rw[c];exact h.at_ i e
 rw[((h.ev h0).heap h0).2] at d;obtain⟨f,a,rfl⟩:=kzx.1 d;exact .inr ⟨f,a,c⟩
theorem mkd_nx(xs:List Nat)(l:List Bk):eQ (l.map (nxB xs))=eQ l:=by
 induction l with
 | nil=>rfl
 | cons b l ih =>
  unfold eQ at ih |-;rw[kxm];have e:(nxB xs b).mark=b.mark:=rfl;have a:(nxB xs b).at_=b.at_:=rfl;simp only[kjt,e];split
  .simp only[kxm,a,ih]
  exact ih
theorem vX(xs:List Nat):∀(l:List Bk) (s:Int),az (l.map (nxB xs)) s=az l s:=by
 intro l
 induction l with
 | nil=>intro s;rfl
 | cons b l ih =>intro s;have e:aR (nxB xs b)=aR b:=rfl;have a:(nxB xs b).at_=b.at_:=rfl;have c:(nxB xs b).size=b.size:=rfl;simp only[kxm,az,e,a,c,ih]
theorem zR{n:Nat}(h:Small n E)(hi:i<16\/19<=i/\i<112):wd (ai ws E) i=wd ws i:=aP _ _ _ λe a=>by have:=(h.ins e a).1;omega
theorem qB(hi:i<16\/19<=i/\i<112):∀n x,(∀v∈x,v<18446744073709551616)->mzS p x<=n->(cA p x).1=0->wd (cA p x).2.2 i=wd x i:=by
 intro n
 induction n with
 | zero =>
  intro x d h _;have a:wd x 16≠p:=λa=>by unfold mzS at h;rw[if_pos a] at h;omega
  rw[cE a]
 | succ n ih =>
  intro x d h c;by_cases a:wd x 16=p
  .by_cases f:(ag x).1=6
   .rw[iD a f]
   by_cases b:(ag x).1=0
   .have hd:=fE d a b;rw[dt d a b] at c |-;by_cases e:(cA p (ai x (ag x).2)).1=0
    .rw[if_pos e];have:=ih (ai x (ag x).2) (dA d b) (by omega) e;exact this.trans (zR (mE d b).2.1 hi)
    rw[if_neg e] at c;exact absurd c e
   rw[lT a f b] at c;exact absurd c b
  rw[cE a]
def HsL (ws xs:List Nat):Prop:=∀i:Nat,19<=i->wd xs i=wd ws i\/∃b∈ah ws,(i:Int)=b.at_
theorem GP(hE:∀e∈E,e.a<19\/∃b∈ah x,e.a=b.at_):HsL x (ai x E):=λi h19=>by
 by_cases c:∃b∈ah x,(i:Int)=b.at_
 .exact .inr c
 .refine .inl (aP _ _ _ λe h g=>?_);rcases hE e h with d|⟨b,f,d⟩
  .omega
  .exact c ⟨b,f,by rw[<-d,g]⟩
theorem vz(h:aC x=0):∀e∈aW x,∃b∈ah x,e.a=b.at_:=λe d=>by obtain⟨a,c,-,-,-,-,-,rfl,-⟩:=dZ h d;exact⟨_,c,(af x a).symm⟩
theorem Fc:∀n x,(∀v∈x,v<18446744073709551616)->mzS 1 x<=n->wd x 16=1->ax x=0->aC x=0->RmL x (cA 1 x).2.2/\HsL x (cA 1 x).2.2/\aC (cA 1 x).2.2=0/\dm (cA 1 x).2.2=dm x/\eQ (ah (cA 1 x).2.2)=dm x:=by
 intro n
 induction n with
 | zero=>intro x _ h g;exfalso;unfold mzS at h;rw[if_pos g] at h;omega
 | succ n ih =>
  intro x k h g p a;have e:ag x=(0,iZ (aW x) 2):=by unfold ag;rw[if_pos p,if_pos g,if_pos a]
  have j:(ag x).1=0:=by rw[e]
  have hd:=fE k g j;obtain⟨-,-,A,-,-,-,-,-⟩:=mE k j;obtain⟨J,r2⟩:=ry a;obtain⟨g1,g2,g3,q,g5,g6⟩:=fW p g (.inl rfl) (ey a) (λy K=>by
   obtain⟨i,s⟩:=kj6.1 K;exact J i y s) (rI a)
  simp only[Nat.reduceAdd] at q;rw[dt k g j];by_cases c:32<=(aW x).length
  .rw[if_pos c] at q;obtain⟨d,r⟩:=Id g j c;have o:RmL x (ai x (ag x).2):=by rw[e,cN c];exact (jq a (kjz 31 _)).toL
   have w:HsL x (ai x (ag x).2):=by rw[e,cN c];exact GP λe m=>.inr (vz a e (kxp m))
   have l:wd (ai x (ag x).2) 16=1:=by rw[e];exact q
   have f:ax (ai x (ag x).2)=0:=uC A (by omega) (by omega) (aH d).1;obtain⟨M,-⟩:=vR _ _ (dA k j) (kqa _) l f d;obtain⟨H,I,G,D,F⟩:=ih _ (dA k j) (by omega) l f d;rw[if_pos M];refine⟨o.trans H,λi s=>?_,G,D.trans r,F.trans r⟩;rcases I i s with t|⟨b,z,t⟩
   .rw[t];exact w i s
   rw[(o.heap (aH a).1).2] at z;obtain⟨B,u,rfl⟩:=kzx.1 z;exact .inr ⟨B,u,t⟩
  rw[if_neg c] at q;have p2':wd (ai x (ag x).2) 16=2:=by rw[e];exact q
  rw[cE (by omega),if_pos rfl];rw[e,jb c];obtain⟨C,L,l3,E⟩:=Ix a 2;refine⟨wD a 2,GP λe m=>?_,C,L,E⟩;rcases kqw.1 m with rfl|m
  .exact .inl (by dsimp only;omega)
  exact .inr (vz a e m)
theorem Jr(hhp:aj x=0):NxL x (ai x (iZ (aK x) 3)):=by
 have f:∀e∈aK x,∃b∈ah x,e.a=b.at_+1:=by intro e c;rw[tA hhp] at c;obtain⟨b,g,-,h⟩:=gA c;exact⟨b,g,h⟩
 refine qT λe c=>?_;by_cases d:32<=(aK x).length
 .rw[cN d] at c;exact .inr (f e (kxp c))
 rw[jb d] at c;rcases kqw.1 c with rfl|c
 .exact .inl (by dsimp only;omega)
 exact .inr (f e c)
theorem NxL.mkd(h:NxL ws xs)(h0:aj ws=0):eQ (ah xs)=eQ (ah ws)/\az (ah xs) 128=az (ah ws) 128:=by rw[((h.ev h0).heap h0).2];exact⟨mkd_nx _ _,vX _ _ _⟩
theorem IE:∀n x,(∀v∈x,v<18446744073709551616)->mzS 2 x<=n->wd x 16=2->ax x=0->NxL x (cA 2 x).2.2/\aK (cA 2 x).2.2=[]:=by
 intro n
 induction n with
 | zero=>intro x _ h f;exfalso;unfold mzS at h;rw[if_pos f] at h;omega
 | succ n ih =>
  intro x i h f b;have a:aj x=0:=by have:=b;unfold ax at this;rw[if_pos (jz b),if_neg (by omega),if_neg (by omega)] at this;exact this
  have e:ag x=(0,iZ (aK x) 3):=by unfold ag;rw[if_pos b,if_neg (by omega),if_pos f,if_pos a]
  have g:(ag x).1=0:=by rw[e]
  have hd:=fE i f g;obtain⟨-,-,m,-,-,-,-,-⟩:=mE i g;obtain⟨s,o,p⟩:=pD a;obtain⟨g1,g2,g3,k,t,g6⟩:=fW b f (.inr rfl) s o p;simp only[Nat.reduceAdd] at k t;have l:NxL x (ai x (ag x).2):=by rw[e];exact Jr a
  rw[dt i f g];by_cases d:32<=(aK x).length
  .rw[if_pos d] at k;have j:wd (ai x (ag x).2) 16=2:=by rw[e];exact k
   have c:ax (ai x (ag x).2)=0:=uC m (by omega) (by omega) (wl f g).1;obtain⟨y,-⟩:=wQ _ _ (dA i g) (kqa _) j c;obtain⟨r,q⟩:=ih _ (dA i g) (by omega) j c;rw[if_pos y];exact⟨l.trans a r,q⟩
  rw[if_neg d] at k;have p3':wd (ai x (ag x).2) 16=3:=by rw[e];exact k
  obtain⟨f1,-,w,u⟩:=vZ a d;rw[cE (by omega),if_pos rfl];refine⟨l,?_⟩;rw[e,tA w,u];exact ox
theorem IV(h:aC x=0)(hm:eQ (ah x)=dm x):aW x=[]:=by
 obtain⟨n,-,-⟩:=aH h;rw[dU h,show mt (seenL x) (ah x)=[] from ?_]
 .rfl
 unfold mt;rw[kkh];intro b i;obtain⟨a,rfl,a1,a2,m,a4⟩:=(cr n).1 b i;have f:(bkAt x a).mark=eZ x (bkAt x a):=by
  rw[kzl,fH m];constructor
  .intro q;have d:((a:Nat):Int)∈eQ (ah x):=by unfold eQ;exact kzx.2 ⟨bkAt x a,kzu.2 ⟨i,q⟩,af x a⟩
   rw[hm,fq h] at d;obtain⟨r,e,-,j⟩:=d;obtain rfl:a=r:=by omega
   exact j
  intro j;have d:((a:Nat):Int)∈dm x:=(fq h _).2 ⟨a,rfl,m,j⟩;rw[<-hm] at d;unfold eQ at d;obtain⟨c,p,k⟩:=kzx.1 d;obtain⟨g,l⟩:=kzu.1 p;have o:=rh (cr n).2 g i (by rw[k,af]);rw[<-o];exact l
 unfold eZ at f;unfold eU;rw[f];simp
theorem jf{l:List En}{a:Int}{v:Nat}(h:(i:Int)≠a):wd (ai x (⟨a,v⟩::l)) i=wd (ai x l) i:=by
 simp only[ai];split
 .refine mA (by rw[kq3]) ?_;unfold wd;rw[kx0 (by omega)]
 rfl
theorem Hd.trans(h0:aj ws=0)(h:Hd ws xs)(g:Hd xs ys):Hd ws ys:=by refine⟨g.len.trans h.len,λi d c=>(g.low i d c).trans (h.low i d c),λb a=>?_⟩;obtain⟨j,k⟩:=h.blk b a;obtain⟨f,e⟩:=g.blk b (by rw[(h.heap h0).2];exact a);exact⟨f.trans j,e.trans k⟩
theorem Hd.rs(h:Hd ws xs)(h0:aj ws=0)(a:Int):b8 xs a=b8 ws a:=by
 have c:=h.heap h0;have d:aT xs 128=aT ws 128:=by rw[(ga c.1).2.1,(ga h0).2.1,c.2]
 unfold b8;rw[if_pos c.1,if_pos h0,d];cases f:kz (aT ws 128) a with
 | none=>rfl
 | some b =>obtain⟨e,b2,i⟩:=jN f;rw[(ga h0).2.1] at e;obtain⟨g,j⟩:=h.ty h0 e i;dsimp only;unfold fU wL;rw[g,j]
def Mk (ws:List Nat) (m:Nat):Prop:=bkAt ws m∈ah ws/\(bkAt ws m).mark=true
theorem pG(h0:aj ws=0)(h:Mk ws m):fi ws m/\(bkAt ws m).kind=1:=by
 have c:(bkAt ws m).kind=1:=jE (ga h0).2.2.2 (by omega) _ h.1 h.2;obtain⟨k,b,e⟩:=kq0 h.1;obtain⟨a,d,g⟩:=mL h0 b (by rw[e];exact c);rw[e] at d;have f:=congrArg Bk.at_ d;rw[af,af] at f;obtain rfl:m=a:=by omega
 exact⟨g,c⟩
theorem Hd.mks(h:Hd ws xs)(h0:aj ws=0):Mk xs m↔Mk ws m:=by
 constructor
 .rintro ⟨a,b⟩;obtain⟨f,g⟩:=BQ h h0 a;exact⟨f,by rw[<-g];exact b⟩
 rintro ⟨a,b⟩;obtain⟨d,c⟩:=h.blk _ a;rw[af,kqj] at d c;have e:bkAt xs m=bkAt ws m:=by unfold bkAt;rw[d,c]
 exact⟨by rw[(h.heap h0).2,e];exact a,by rw[e];exact b⟩
theorem GN(h0:aj ws=0){k0:Nat}(hk:k0<=(ah ws).length)(hb:blocks ws c=some ((ah ws).drop k0))(hj:j<(ah ws).length)(hc:(c:Int)<=(ah ws)[j].at_):k0<=j:=by
 rcases kq7 j k0 with g|d
 .exfalso;obtain⟨a,i,a1,a2,a3,a4⟩:=(cr h0).1 _ (kqn hj);rw[i,af] at hc;have f:c<ws.length:=by omega
  obtain⟨k,l,-⟩:=cM hb f;rw[kzp] at k;have b:k0<(ah ws).length:=by omega
  have e:(ah ws)[k0]=bkAt ws c:=by rw[<-l];unfold gk;rw[kxr,kql (by omega),kq5];rfl
  have h:=(cr h0).2;rw[kzj] at h;have:=h j k0 hj b g;rw[e,i,af,af] at this;omega
 exact d
theorem Jo(h0:aj ws=0)(hb:Bd ws c)(hc:c<=ws.length):c%2=0:=by
 obtain⟨-,b,hk0,g⟩:=hb;have hs:=(ab _).1 (aA h0).1;by_cases he:c=ws.length
 .omega
 obtain⟨h,i,-⟩:=cM g (by omega);rw[kzp] at h;obtain⟨a,d,a1,a2,-⟩:=(cr h0).1 _ (kqn (show b<(ah ws).length by omega));have e:(ah ws)[b]'(by omega)=bkAt ws c:=by rw[<-i];unfold gk;rw[kxr,kql (by omega),kq5];rfl
 rw[e] at d;have f:=congrArg Bk.at_ d;rw[af,af] at f;omega
theorem bd_gap(h0:aj ws=0)(hb:Bd ws c)(hn:bt ws (c:Int)=0)(e:iO ws (c:Int)=bkAt ws m)(hm:Mk ws m')(hc:c<=m'):m<=m':=by
 obtain⟨s,u⟩:=hm;obtain⟨h1,a,h,d⟩:=hb;obtain⟨-,-,-,v,w,p1,-,p3,-,p5,-,-,-,l,o,-,-,k,q,r,t⟩:=fO hn;have y:v=m:=by have:=w.symm.trans e;have g:=congrArg Bk.at_ this;rw[af,af] at g;omega
 subst y;rw[o] at d;obtain rfl:=Option.some.inj d;obtain⟨j,i,b⟩:=kq0 s;have hj0:=GN h0 h o i (by rw[b,af];omega);rw[kzp] at q;rcases kq7 (j-a) k with n|hge
 .exfalso;have:=r (j-a) n;unfold gk at this;rw[kxr,show a+(j-a)=j by omega,kql i,kq5,b,u] at this;cases this
 obtain⟨f1,f,-⟩:=cM t (by omega);unfold gk at f;rw[kxx,kxr,kxa,kql (by omega),kq5] at f;have p:=(cr h0).2;rw[kzj] at p;by_cases x:j=a+k
 .subst x;rw[f] at b;have g:=congrArg Bk.at_ b;rw[af,af] at g;omega
 have:=p (a+k) j (by omega) i (by omega);rw[f,b,af,af] at this;omega
theorem Ar(h0:aj ws=0)(hb:Bd ws c)(hcl:c<=ws.length)(hn:bt ws (c:Int)≠0)(hm:Mk ws m'):¬ c<=m':=by
 intro hc;have n:=Jo h0 hb hcl;obtain⟨h,k⟩:=hm;obtain⟨l,e,f,b⟩:=hb;obtain⟨j,i,g⟩:=kq0 h;have hj0:=GN h0 f b i (by rw[g,af];omega);have d:bkAt ws m'∈(ah ws).drop e:=by rw[<-g];refine kvi.2 ⟨j-e,by rw[kzp];omega,?_⟩;rw[kkb];congr 1;omega
 have a:0<(eQ ((ah ws).drop e)).length:=by
  have:((m':Nat):Int)∈eQ ((ah ws).drop e):=by unfold eQ;exact kzx.2 ⟨bkAt ws m',kzu.2 ⟨d,k⟩,af ws m'⟩
  exact List.length_pos_of_mem this
 obtain⟨m,z,l',o,-⟩:=nT (aA h0).1 l hcl n b a;exact hn o
theorem jj(h0:aj ws=0)(h:Mk ws m)(h':Mk ws m')(hlt:m<m'):m+szAt ws m<=m':=by have:=iF h0 (pG h0 h).1 h'.1;rw[af] at this;omega
theorem wK(h0:aj ws=0)(h:Mk ws m)(h':Mk ws m')(hr:r∈b8 ws (m:Int))(hr':r∈b8 ws (m':Int)):m=m':=by
 obtain⟨i,e1,-,e2,-⟩:=iA h0 hr;obtain⟨i',f1,-,f2,-⟩:=iA h0 hr';rcases kkc m m' with a|a|a
 .have:=jj h0 h h' a;omega
 .exact a
 have:=jj h0 h' h a;omega
theorem Fn(h0:aj ws=0):∀k a,ws.length-a<=k->a<=ws.length->Bd ws a->AH ws a->(lA ws a=(0,cq)/\∀m:Nat,Mk ws m->a<=m->b8 ws (m:Int)=[])\/∃m:Nat,a<=m/\m+szAt ws m<=ws.length/\2<=szAt ws m/\Mk ws m/\lA ws a=(0,⟨17,m+szAt ws m⟩::cR ws (m:Int))/\∀b:Nat,Mk ws b->a<=b->b < m->b8 ws (b:Int)=[]:=by
 intro k
 induction k with
 | zero =>
  intro a G h n t;by_cases d:bt ws (a:Int)=0
  .obtain ⟨-,-,-,m,e,-⟩:=fO d;obtain⟨s,v,r,-⟩:=qZ n d e;omega
  exact .inl ⟨kL d,λm u g=>absurd g (Ar h0 n h d u)⟩
 | succ k ih =>
  intro a G h n t;by_cases d:bt ws (a:Int)=0
  .obtain ⟨-,-,-,m,e,-⟩:=fO d;obtain⟨s,v,r,F,w,x,n7⟩:=qZ n d e;have f:=λb (c:Mk ws b) (g:a<=b)=>bd_gap h0 n d e c g;have j:Mk ws m:=⟨w,x⟩;by_cases q:b8 ws (m:Int)=[]
   .rw[ll d e q];rcases ih (m+szAt ws m) (by omega) r F (λb i p h3=>t b i p (by omega)) with⟨H,A⟩|⟨b,j1,D,z,C,E,B⟩
    .refine .inl ⟨H,λb c g=>?_⟩;rcases kq7 m b with i|i
     .exact A b c (jj h0 j c i)
     have:=f b c g;obtain rfl:m=b:=by omega
     exact q
    refine .inr ⟨b,by omega,D,z,C,E,λo l g p=>?_⟩;rcases kq7 m o with i|i
    .exact B o l (jj h0 j l i) p
    have:=f o l g;obtain rfl:m=o:=by omega
    exact q
   have y:=t m w x s;refine .inr ⟨m,s,r,v,j,qN d e q y,λb c g p=>?_⟩;have:=f b c g;omega
  exact .inl ⟨kL d,λm u g=>absurd g (Ar h0 n h d u)⟩
theorem oJ(hob:dR x (m:Int)=0)(h17:j≠17)(hj:∀r∈b8 x (m:Int),r≠(j:Int)):wd (ai x (⟨17,f⟩::cR x (m:Int))) j=wd x j:=by
 obtain⟨g,-,-,-,-,q5,h,o,c,n⟩:=jh hob;refine aP _ _ _ λe b k=>?_;rcases kqw.1 b with rfl|b
 .dsimp only at k;omega
 obtain⟨r,q,r2,p,r4⟩:=c e b;obtain rfl:r=j:=by omega
 have l:=o r (λi d s=>hj _ (kqn d) (by rw[(h i d).1,s]));have a:=eG _ x n e b (by omega) (by omega);rw[q,kqj,l] at a;exact p a
theorem ob_hd(hp:aj x=0)(hob:dR x (m:Int)=0):Hd x (ai x (⟨17,f⟩::cR x (m:Int))):=by
 refine⟨au _ _,λi h1 h2=>oJ hob (by omega) λr d e=>?_,λb h=>?_⟩
 .obtain ⟨j,k,-,-,g⟩:=iA hp d;have:=g.1;omega
 obtain⟨a,rfl,a1,a2,-⟩:=(cr hp).1 b h;have c:(bkAt x a).at_=(a:Int):=af x a;rw[c,kqj];refine⟨oJ hob (by omega) λr d e=>?_,oJ hob (by omega) λr d e=>?_⟩
 .obtain ⟨j,k,l,n,g⟩:=iA hp d;have:=iF hp g h;rw[c] at this;omega
 obtain⟨j,k,l,n,g⟩:=iA hp d;have:=iF hp g h;rw[c] at this;omega
structure FxT (ws xs:List Nat) (c:Nat):Prop where
 hd:Hd ws xs
 sl:∀i,i<16->slAt xs i=nwS ws (iH ws 128 128) i
 done:∀m:Nat,Mk ws m->m<c->∀r∈b8 ws (m:Int),Eh ws xs (iH ws 128 128) r.toNat
 todo:∀m:Nat,Mk ws m->c<=m->∀r∈b8 ws (m:Int),wd xs r.toNat=wd ws r.toNat
 off:∀i:Nat,128<=i->(∀m:Nat,Mk ws m->(i:Int) ∉ b8 ws (m:Int))->wd xs i=wd ws i
theorem CR(hfs:eI x=0):FxT x (ai x (⟨17,128⟩::eC x)) 128:=by
 obtain⟨-,j,-,-,-,-,-,l,q2,q3,n,-⟩:=kk hfs;have b:∀e∈(⟨17,128⟩::eC x:List En),e.a<19\/112<=e.a/\e.a<128:=λe c=>by
  rcases kqw.1 c with rfl|c
  .exact .inl (by dsimp only;omega)
  exact .inr (l e c).1
 have d:∀i:Nat,128<=i->wd (ai x (⟨17,128⟩::eC x)) i=wd x i:=λi f=>aP _ _ _ λe c h=>by
  rcases b e c with g|g<;>omega
 refine⟨vO j b,λi f=>?_,λm k g=>?_,λm k g r p=>?_,λi f _=>d i f⟩
 .rw[<-n i f];unfold slAt;rw[jf (by omega)]
 .have:=(pG j k).1.1;omega
 obtain⟨i,rfl,-,-,o⟩:=iA j p;rw[kqj];exact d _ (by have:=o.1;omega)
theorem F7(h0:aj ws=0)(hr0:bj ws 128 128=0)(hx:FxT ws x c)(hm:Mk x m)(hcm:c<=m)(hob:dR x (m:Int)=0)(hno:∀a:Nat,Mk x a->c<=a->a < m->b8 x (a:Int)=[]):FxT ws (ai x (⟨17,m+szAt x m⟩::cR x (m:Int))) (m+szAt x m):=by
 have t:=(hx.hd.heap h0).1;have w:Mk ws m:=(hx.hd.mks h0).1 hm;have q:=hx.hd.rs h0;obtain⟨hrx,B⟩:=hx.hd.rd h0 hr0;have hsz:=aJ (pG t hm).1.2.2.2.1;refine⟨hx.hd.trans h0 (ob_hd t hob),λi z=>?_,λa k hlt r f=>?_,λa k hle r f=>?_,λi z o=>?_⟩
 .rw[<-hx.sl i z];unfold slAt;rw[oJ hob (by omega) λr f l=>?_];obtain⟨i',C,-,-,p⟩:=iA t f;have:=p.1;omega
 .have h:r∈b8 x (a:Int):=by rw[q];exact f
  have d:Mk x a:=(hx.hd.mks h0).2 k;rcases kkc a m with u|u|u
  .rcases kq7 a c with A|A
   .have b:=hx.done a k A r f;obtain⟨i,rfl,-,-,p⟩:=iA h0 f;rw[kqj] at b |-;have e:wd (ai x (⟨17,m+szAt x m⟩::cR x (m:Int))) (a+2+i)=wd x (a+2+i):=oJ hob (by have:=p.1;omega) λr s l=>by
     subst l;have:=wK t hm d s h;omega
    unfold Eh at b |-;rw[e];exact b
   rw[hno a d A u] at h;cases h
  .subst u;have n:=hx.todo a k hcm r f;obtain⟨g,-,-,-,-,q5,D,-⟩:=jh hob;obtain⟨j,E,y⟩:=kq0 h;obtain⟨C,-,-,v⟩:=D j E;obtain⟨i,rfl,-,-,p⟩:=iA h0 f;rw[C] at y;have y:g j=a+2+i:=by omega
   rw[y,B] at v;rw[kqj] at n |-;have e:wd (ai x (⟨17,a+szAt x a⟩::cR x (a:Int))) (a+2+i)=wd (ai x (cR x (a:Int))) (a+2+i):=jf (by have:=p.1;omega);unfold Eh at v |-;rw[e,<-n];rw[hx.hd.len] at v;exact v
  have:=jj t hm d u;omega
 .have d:Mk x a:=(hx.hd.mks h0).2 k;have h:r∈b8 x (a:Int):=by rw[q];exact f
  have b:=hx.todo a k (by omega) r f;obtain⟨i,rfl,-,-,p⟩:=iA h0 f;rw[kqj] at b |-;rw[oJ hob (by have:=p.1;omega) λr s l=>?_]
  .exact b
  subst l;have:=wK t hm d s h;omega
 rw[oJ hob (by omega) λr f l=>?_]
 .exact hx.off i z o
 subst l;rw[q] at f;exact o m w f
theorem Kh(h0:aj ws=0)(hx:FxT ws x c)(hno:∀m:Nat,Mk x m->c<=m->b8 x (m:Int)=[]):FxT ws (ai x cq) ws.length:=by
 have p:=(hx.hd.heap h0).1;have n:=hx.hd.rs h0;have b:∀i:Nat,19<=i->wd (ai x cq) i=wd x i:=λi g=>aP _ _ _ λe f h=>by
  simp only[cq,kqw,kzk,or_false] at f;rcases f with rfl|rfl|rfl<;>(dsimp only at h;omega)
 have hd:Hd x (ai x cq):=vO p λe f=>by
  simp only[cq,kqw,kzk,or_false] at f;rcases f with rfl|rfl|rfl<;>exact .inl (by dsimp only;omega)
 refine⟨hx.hd.trans h0 hd,λi g=>?_,λm k hlt r j=>?_,λm k hle=>?_,λi g d=>(b i (by omega)).trans (hx.off i g d)⟩
 .rw[<-hx.sl i g];unfold slAt;rw[b _ (by omega)]
 .rcases kq7 m c with l|l
  .have a:=hx.done m k l r j;obtain⟨i,rfl,-,-,o⟩:=iA h0 j;rw[kqj] at a |-;unfold Eh at a |-;rw[b _ (by have:=o.1;omega)];exact a
  have:=hno m ((hx.hd.mks h0).2 k) l;rw[n] at this;rw[this] at j;cases j
 have:=(pG h0 k).1.2.2.1;omega
theorem ES(h0:aj ws=0)(hr0:bj ws 128 128=0):∀n x,(∀v∈x,v<18446744073709551616)->mzS 3 x<=n->I3 x->wd x 17≠0->FxT ws x (wd x 17)->FxT ws (cA 3 x).2.2 ws.length:=by
 intro n
 induction n with
 | zero=>intro x _ h a;exfalso;have:=a.p3;unfold mzS at h;rw[if_pos this] at h;omega
 | succ n ih =>
  intro x d h a z s;obtain⟨i,c⟩:=rn d a;have hd:=fE d a.p3 i;have p3:=a.p3;have e:ag x=lA x (wd x 17):=by unfold ag;rw[if_pos a.ck,if_neg (by omega),if_neg (by omega),if_pos p3];unfold sgFix;rw[if_neg z]
  obtain⟨-,C,y,hph⟩:=cQ a.ck;have hb:=(ab _).1 C;obtain⟨⟨l1,F,l3⟩,-⟩:=(bE x).1 y;have r:Bd x (wd x 17):=by
   refine bd_of a.hp ?_;have b:=jz a.ck;unfold cU at b;by_cases f:pu x (wd x 17)=true
   .exact f
   split at b
   .rw[if_pos ⟨p3,z,by simpa using f⟩] at b;cases b
   exact absurd b (by assumption)
  rw[dt d p3 i];rcases Fn a.hp _ (wd x 17) (kqa _) F r a.fx with⟨E,A⟩|⟨m,u,m2,m3,k,D,B⟩
  .rw[E] at e;have q:wd (ai x (ag x).2) 16=4:=by rw[e];exact (ig a.ck p3).2.2.2.1
   rw[cE (by omega),if_pos rfl,e];exact Kh h0 s A
  rw[D] at e;have g:dR x (m:Int)=0:=a.fx m k.1 k.2 u;have t:=Gp g;have hm128:=(pG a.hp k).1.1;have p:wd (ai x (ag x).2) 17=m+szAt x m:=by rw[e];exact kQ (j:=17) (by omega) λe o=>by have:=(t e o).1;omega
  have q:wd (ai x (ag x).2) 16=3:=by rw[e,jf (by omega),aP _ _ _ λe o=>by have:=(t e o).1;omega];exact p3
  have w:I3 (ai x (ag x).2):=by
   rcases c with c|⟨g1,-⟩
   .exact c
   omega
  have l:=(qD _ _ (dA d i) (kqa _) w).1;rw[if_pos l];refine ih _ (dA d i) (by omega) w (by omega) ?_;rw[p,e];exact F7 h0 hr0 s k u g B
theorem IX(ho:∀v∈x,v<18446744073709551616)(h3:I3 x)(z:wd x 17=0):FxT x (cA 3 x).2.2 x.length:=by
 obtain⟨d,a⟩:=rn ho h3;have p3:=h3.p3;have b:=h3.sl z;have f:=h3.rd;have e:ag x=(0,⟨17,128⟩::eC x):=by unfold ag;rw[if_pos h3.ck,if_neg (by omega),if_neg (by omega),if_pos p3];unfold sgFix;rw[if_pos z,if_pos b]
 obtain⟨h256,-,-,-,-,-,-,i,-⟩:=kk b;have g:wd (ai x (ag x).2) 17=128:=by rw[e];exact kQ (j:=17) (by omega) λe h=>by have:=(i e h).1;omega
 have h16:wd (ai x (ag x).2) 16=3:=by rw[e,jf (by omega),aP _ _ _ λe h=>by have:=(i e h).1;omega];exact p3
 have k:I3 (ai x (ag x).2):=by
  rcases a with a|⟨g1,-⟩
  .exact a
  omega
 have c:=(qD _ _ (dA ho d) (kqa _) k).1;rw[dt ho p3 d,if_pos c];refine ES h3.hp f _ _ (dA ho d) (kqa _) k (by omega) ?_;rw[g,e];exact CR b
def MvW (ws xs:List Nat) (m t:Nat):Prop:=wd xs t=cS { ap (wd ws m) with mark:=false }/\wd xs (t+1)=0/\∀j,2<=j->j<szAt ws m->wd xs (t+j)=wd ws (m+j)
structure SlT (ws xs:List Nat) (k F T:Nat):Prop where
 len:xs.length=ws.length
 low:∀i,19<=i->i<128->wd xs i=wd ws i
 up:∀i,T<=i->128<=i->wd xs i=wd ws i
 kle:k<=(ah ws).length
 bl:blocks ws F=some ((ah ws).drop k)
 to:aO ((ah ws).take k) 128=(T:Int)
 mv:∀p∈az ((ah ws).take k) 128,∃m t:Nat,p=((m:Int),(t:Int))/\MvW ws xs m t/\128<=t/\t+szAt ws m<=T/\2<=szAt ws m
theorem unlive(h:b.mark=false):aR b=false:=by unfold aR;rw[h];simp
theorem vU:∀ {l:List Bk} {s:Int},fj l l.length->aO l s=s/\az l s=[]:=by
 intro l
 induction l with
 | nil=>intro s _;exact⟨rfl,rfl⟩
 | cons b l ih =>
  intro s h;have d:b.mark=false:=h 0 (by simp);obtain⟨c,e⟩:=ih (s:=s) λj a=>by have:=h (j+1) (by simpa using a);rwa [jm] at this
  simp only[aO,az,unlive d];exact⟨c,e⟩
theorem t7{l:List Bk}(hk:k<=l.length)(h:fj l k):fj (l.take k) (l.take k).length:=by intro j a;rw[kq4] at a;have:=h j (by omega);unfold gk at this |-;rw[kk5,if_pos (by omega)];exact this
theorem Fw(hck:ax x=0)(p4:wd x 16=4)(hnx:bt x ((wd x 17:Nat):Int)=0)(h0:(ag x).1=0)(em:iO x ((wd x 17:Nat):Int)=bkAt x m):ag x=(0,⟨17,m+szAt x m⟩::⟨18,wd x 18+szAt x m⟩::kx x m (wd x 18))/\dY x (m:Int) ((wd x 18:Nat):Int)=0:=by
 have e:ag x=sgSld x:=by unfold ag;rw[if_pos hck,if_neg (by omega),if_neg (by omega),if_neg (by omega),if_pos p4]
 rw[e] at h0 |-;have a:dY x (m:Int) ((wd x 18:Nat):Int)=0:=by
  by_cases b:dY x (m:Int) ((wd x 18:Nat):Int)=0
  .exact b
  unfold sgSld at h0;rw[if_pos hnx,em,af,if_neg b] at h0;exact absurd h0 b
 refine⟨?_,a⟩;unfold sgSld;rw[if_pos hnx,em,af,if_pos a,bo,show ((m:Int)+((szAt x m:Nat):Int)).toNat=m+szAt x m by omega,show (((wd x 18:Nat):Int)+((szAt x m:Nat):Int)).toNat=wd x 18+szAt x m by omega];unfold jA;rw[if_pos a,kqj,kqj]
theorem FX{u:Nat}(hin:u+szAt x a<=x.length)(h19:19<=i):wd (ai x (⟨17,f⟩::⟨18,u+szAt x a⟩::kx x a u)) i=if u<=i/\i<u+szAt x a then (if i=u then cS { ap (wd x a) with mark:=false } else if i=u+1 then 0 else wd x (a+(i-u))) else wd x i:=by
 rw[jf (by omega),jf (by omega),Db hin,s6 _ _ _ _ (by rw[gM];exact hin),gM];by_cases h:u<=i/\i<u+szAt x a
 .rw[if_pos h,if_pos h,kE _ _ _ (by omega),kq5];by_cases b:i=u
  .rw[if_pos (by omega),if_pos b]
  rw[if_neg (by omega),if_neg b];by_cases c:i=u+1
  .rw[if_pos (by omega),if_pos c]
  rw[if_neg (by omega),if_neg c]
 rw[if_neg h,if_neg h]
theorem Gg(hx:SlT ws x k F T)(h128:128<=T)(hTF:T<=F)(hn:bt x (F:Int)=0)(e:iO x (F:Int)=bkAt x m):∃k',SlT ws (ai x (⟨17,m+szAt x m⟩::⟨18,T+szAt x m⟩::kx x m T)) k' (m+szAt x m) (T+szAt x m)/\F<=m/\az ((ah ws).take k') 128=az ((ah ws).take k) 128++[((m:Int),(T:Int))]:=by
 obtain⟨-,-,-,b,e2,A,p2,p3,p4,p5,p6,K,I,l,W,-,-,d,S,V,X⟩:=fO hn;have em:b=m:=by have:=e2.symm.trans e;have Q:=congrArg Bk.at_ this;rw[af,af] at Q;omega
 subst em;have c:∀i,F<=i->wd x i=wd ws i:=λi J=>hx.up i (by omega) (by omega);have z:blocks ws F=blocks x F:=(ep hx.len F λj M=>c j M).symm;rw[hx.bl,W] at z;obtain rfl:=Option.some.inj z;rw[kzp] at S;have r:k+d<(ah ws).length:=by omega
 have G:blocks ws b=some (((ah ws).drop k).drop d):=by rw[<-X];exact (ep hx.len b λj M=>c j (by omega)).symm
 have y:szAt x b=szAt ws b:=by unfold szAt;rw[c b A]
 have B:bkAt x b=bkAt ws b:=by unfold bkAt;rw[c b A,c (b+1) (by omega)]
 obtain⟨f1,Z,f3,P⟩:=cM G (by rw[<-hx.len];omega);rw[kxx,kxx] at P;have v:(ah ws)[k+d]=bkAt ws b:=by rw[<-Z];unfold gk;rw[kxx,kxr,kxa,kql r,kq5]
 have w:(ah ws).take (k+d+1)=(ah ws).take k++(((ah ws).drop k).take d++[bkAt ws b]):=by rw[kqp r,v,List.take_add,kxo]
 have E:=t7 (l:=(ah ws).drop k) (k:=d) (by rw[kzp];omega) V;obtain⟨O,U⟩:=vU (s:=(T:Int)) E;have o:aR (bkAt ws b)=true:=by rw[B] at K I;unfold aR;rw[K,I];rfl
 have q:aO ((ah ws).take (k+d+1)) 128=((T+szAt x b:Nat):Int):=by rw[w,ib,ib,hx.to,O];simp only[aO,o,if_true];rw[bo,y];omega
 have h:az ((ah ws).take (k+d+1)) 128=az ((ah ws).take k) 128++[((b:Int),(T:Int))]:=by rw[w,fR,fR,hx.to,O,U];simp only[az,o,if_true,kz2];rw[af]
 have H:T+szAt x b<=x.length:=by omega
 have g:=λi (J:19<=i)=>FX (x:=x) (a:=b) (f:=b+szAt x b) (u:=T) (i:=i) H J;refine⟨k+d+1,⟨?_,λi C D=>?_,λi C D=>?_,by omega,?_,q,λp n=>?_⟩,A,h⟩
 .rw[au];exact hx.len
 .rw[g i C,if_neg (by omega)];exact hx.low i C D
 .rw[g i (by omega),if_neg (by omega)];exact hx.up i (by omega) D
 .rw[y,P,kj3]
 rw[h] at n;rcases kzo.1 n with n|n
 .obtain ⟨a,t,rfl,⟨R,w2,Y⟩,t1,t2,t3⟩:=hx.mv p n;refine⟨a,t,rfl,⟨?_,?_,λj N L=>?_⟩,t1,by omega,t3⟩
  .rw[g _ (by omega),if_neg (by omega)];exact R
  .rw[g _ (by omega),if_neg (by omega)];exact w2
  rw[g _ (by omega),if_neg (by omega)];exact Y j N L
 rw[kqy] at n;subst n;refine⟨b,T,rfl,⟨?_,?_,λj N L=>?_⟩,h128,by omega,by omega⟩
 .rw[g _ (by omega),if_pos (by omega),if_pos rfl,c b A]
 .rw[g _ (by omega),if_pos (by omega),if_neg (by omega),if_pos rfl]
 rw[g _ (by omega),if_pos (by omega),if_neg (by omega),if_neg (by omega),show T+j-T=j by omega];exact c _ (by omega)
structure SlE (ws xs:List Nat) (T:Nat):Prop where
 len:xs.length=ws.length
 low:∀i,19<=i->i<128->wd xs i=wd ws i
 up:∀i,T<=i->128<=i->wd xs i=wd ws i
 to:aO (ah ws) 128=(T:Int)
 mv:∀p∈az (ah ws) 128,∃m t:Nat,p=((m:Int),(t:Int))/\MvW ws xs m t/\128<=t/\t+szAt ws m<=T/\2<=szAt ws m
theorem Jb(h0:aj ws=0)(hx:SlT ws x k F T)(h128:128<=T)(hTF:T<=F)(hFl:F<=ws.length)(hF2:F%2=0)(hn:bt x (F:Int)≠0):SlE ws x T:=by
 have c:∀i,F<=i->wd x i=wd ws i:=λi hi=>hx.up i (by omega) (by omega);have d:blocks x F=some ((ah ws).drop k):=by rw[ep hx.len F λj a=>c j a];exact hx.bl
 have hz:(eQ ((ah ws).drop k)).length=0:=by
  rcases kjb (eQ ((ah ws).drop k)).length with b|b
  .exact b
  obtain⟨m,z,l',n,-⟩:=nT (by rw[hx.len];exact (aA h0).1) (by omega) (by rw[hx.len];exact hFl) hF2 d b;exact absurd n hn
 have e:fj ((ah ws).drop k) ((ah ws).drop k).length:=by
  intro j a;unfold gk;rw[kql a,kq5];cases h:(((ah ws).drop k)[j]).mark with
  | false=>rfl
  | true =>
   have:(((ah ws).drop k)[j]).at_∈eQ ((ah ws).drop k):=by unfold eQ;exact kzx.2 ⟨_,kzu.2 ⟨kqn a,h⟩,rfl⟩
   have:=List.length_pos_of_mem this;omega
 obtain⟨l,g⟩:=vU (s:=(T:Int)) e;refine⟨hx.len,hx.low,hx.up,?_,λp f=>hx.mv p ?_⟩
 .conv=>lhs;rw[<-kxb k (ah ws)]
  rw[ib,hx.to,l]
 rw[<-kxb k (ah ws),fR,hx.to,g,kzt] at f;exact f
theorem Ko(h0:aj ws=0):∀n x k,(∀v∈x,v<18446744073709551616)->mzS 4 x<=n->ax x=0->wd x 16=4->SlT ws x k (wd x 17) (wd x 18)->(cA 4 x).1=0/\wd (cA 4 x).2.2 16=4/\ax (cA 4 x).2.2=0/\bt (cA 4 x).2.2 ((wd (cA 4 x).2.2 17:Nat):Int)≠0/\SlE ws (cA 4 x).2.2 (wd (cA 4 x).2.2 18):=by
 intro n
 induction n with
 | zero=>intro x k _ h _ d;exfalso;unfold mzS at h;rw[if_pos d] at h;omega
 | succ n ih =>
  intro x k g h b d l;obtain⟨-,A,C,p⟩:=cQ b;obtain⟨⟨l1,l2,l3⟩,-⟩:=(bE x).1 C;have c:me (wd x 17)=true/\me (wd x 18)=true/\wd x 18<=wd x 17:=by
   rcases (dd _ _ _).1 p with r|r|r
   .exact r.2
   .omega
   omega
  have J:=(a9 _).1 c.1;have z:=(a9 _).1 c.2.1;by_cases a:bt x ((wd x 17:Nat):Int)=0
  .obtain ⟨i,E,o⟩:=Fl g b d a;obtain⟨-,-,-,m,B,m1,-⟩:=fO a;obtain⟨e,hmv⟩:=Fw b d a i B;obtain⟨y,t,hFm,-⟩:=Gg l z.1 c.2.2 a B;have hd:=fE g d i;have s:wd (ai x (ag x).2) 17=m+szAt x m:=by
    rw[e];have D:=(ab _).1 A;refine kQ (j:=17) (by omega) λe f=>?_;rcases kqw.1 f with rfl|f
    .dsimp only;omega
    obtain⟨q,I,rfl⟩:=kq0 f;rw[gU];omega
   have w:wd (ai x (ag x).2) 18=wd x 18+szAt x m:=by rw[e,jf (by omega)];have D:=(ab _).1 A;refine kQ (j:=18) (by omega) λe f=>?_;obtain⟨q,I,rfl⟩:=kq0 f;rw[gU];omega
   have u:SlT ws (ai x (ag x).2) y (wd (ai x (ag x).2) 17) (wd (ai x (ag x).2) 18):=by rw[s,w,e];exact t
   obtain⟨H,G⟩:=ih _ y (dA g i) (by omega) o E u;rw[dt g d i,if_pos H];exact⟨rfl,G⟩
  have F:(ag x).1=6:=by unfold ag;rw[if_pos b,if_neg (by omega),if_neg (by omega),if_neg (by omega),if_pos d];unfold sgSld;rw[if_neg a]
  rw[iD d F];exact⟨rfl,d,b,a,Jb h0 l z.1 c.2.2 (by rw[<-l.len];omega) J.2.2 a⟩
theorem Ea(h0:aj x=0):SlT x x 0 128 128:=⟨rfl,λ_ _ _=>rfl,λ_ _ _=>rfl,kqz _,(ga h0).2.2.2,rfl,λp a=>by simp[az] at a⟩
noncomputable def v1 (x:List Nat):List Nat:=(cA 1 x).2.2
noncomputable def v2 (x:List Nat):List Nat:=(cA 2 (v1 x)).2.2
noncomputable def v3 (x:List Nat):List Nat:=(cA 3 (v2 x)).2.2
noncomputable def v4 (x:List Nat):List Nat:=(cA 4 (v3 x)).2.2
noncomputable def vE (x:List Nat):List Nat:=ai (v4 x) (dp (v4 x))
theorem end_rs(ho:∀v∈x,v<18446744073709551616)(hck:ax x=0)(p4:wd x 16=4)(hnx:bt x ((wd x 17:Nat):Int)≠0):rsE x=(0,[dp x],ai x (dp x)):=by
 have a:=GZ hck p4 hnx;have h:(ag x).1=6:=by unfold ag;rw[if_pos hck,if_neg (by omega),if_neg (by omega),if_neg (by omega),if_pos p4];unfold sgSld;rw[if_neg hnx]
 have c:de x=(0,false,dp x):=by unfold de;rw[if_pos h,if_neg (by omega),a]
 obtain⟨os,-,-,-,f,-,-,i,-⟩:=DX a;have g:=(nl a).2;have d:ax (ai x (dp x))=0:=by unfold ax;rw[if_pos i,if_neg (by omega),if_neg (by omega)];exact f
 have e:(ag (ai x (dp x))).1=6:=by unfold ag;rw[if_pos d,if_neg (by omega),if_neg (by omega),if_neg (by omega),if_neg (by omega)]
 have b:de (ai x (dp x))=(0,true,[]):=by unfold de;rw[if_pos e,if_pos g]
 rw[jo ho (by rw[c]) (by rw[c]),c];dsimp only;rw[ii (by rw[b]) (by rw[b]),if_pos rfl]
structure CpF (x:List Nat):Prop where
 e1:(cA 1 x).1=0
 e2:(cA 2 (v1 x)).1=0
 e3:(cA 3 (v2 x)).1=0
 e4:(cA 4 (v3 x)).1=0
 o1:∀v∈v1 x,v<18446744073709551616
 o2:∀v∈v2 x,v<18446744073709551616
 o3:∀v∈v3 x,v<18446744073709551616
 o4:∀v∈v4 x,v<18446744073709551616
 c1:ax (v1 x)=0
 c2:ax (v2 x)=0
 c3:ax (v3 x)=0
 c4:ax (v4 x)=0
 p1:wd (v1 x) 16=2
 p2:wd (v2 x) 16=3
 p3:wd (v3 x) 16=4
 p4:wd (v4 x) 16=4
 n1:1<=(cA 1 x).2.1.length
 n2:1<=(cA 2 (v1 x)).2.1.length
 n3:1<=(cA 3 (v2 x)).2.1.length
 h1:aj (v1 x)=0
 h2:aj (v2 x)=0
 h3:aj (v3 x)=0
 r1:RmL x (v1 x)
 s1:HsL x (v1 x)
 m1:eQ (ah (v1 x))=dm x
 k1:aC (v1 x)=0
 r2:NxL (v1 x) (v2 x)
 d2:bj (v2 x) 128 128=0
 z2:wd (v2 x) 17=0
 r3:FxT (v2 x) (v3 x) (v2 x).length
 r4:SlE (v3 x) (v4 x) (wd (v4 x) 18)
 l4:∀i,i<16\/19<=i/\i<112->wd (v4 x) i=wd x i
 nx:bt (v4 x) ((wd (v4 x) 17:Nat):Int)≠0
 en:dK (v4 x)=0
 all:rsE x=(0,(cA 1 x).2.1++((cA 2 (v1 x)).2.1++((cA 3 (v2 x)).2.1++((cA 4 (v3 x)).2.1++[dp (v4 x)]))),vE x)
theorem lM(ho:∀v∈x,v<18446744073709551616)(e:(cA p x).1=0){L:List (List En)}(h:rsE (cA p x).2.2=(0,L,y)):rsE x=(0,(cA p x).2.1++L,y):=by have:=(CD (p:=p) _ x ho (kqa _)).2 e;unfold mj at this;rw[this,h,if_pos rfl]
theorem cpF(ho:∀v∈x,v<18446744073709551616)(p1:wd x 16=1)(hck:ax x=0)(hrc:aC x=0):CpF x:=by
 obtain⟨j,l,J,a4⟩:=vR _ x ho (kqa _) p1 hck hrc;obtain⟨F,H,k,O,t⟩:=Fc _ x ho (kqa _) p1 hck hrc;have c:=(gP (p:=1) _ x ho (kqa _) j).1;have G:=λi a=>qB (p:=1) (i:=i) a _ x ho (kqa _) j
 change ∀v∈v1 x,_ at c
 change wd (v1 x) 16=2 at l
 change cP (v1 x)=0 at J
 change RmL x (v1 x) at F
 change HsL x (v1 x) at H
 change aC (v1 x)=0 at k
 change dm (v1 x)=_ at O
 change eQ (ah (v1 x))=_ at t
 change ∀i,_->wd (v1 x) i=_ at G
 have h:=(aH k).1;have B:ax (v1 x)=0:=uC J (by omega) (by omega) h;obtain⟨n,w,o,S,X,K,E⟩:=wQ _ (v1 x) c (kqa _) l B;obtain⟨f,N⟩:=IE _ (v1 x) c (kqa _) l B;have b:=(gP (p:=2) _ (v1 x) c (kqa _) n).1;have Q:=λi a=>qB (p:=2) (i:=i) a _ (v1 x) c (kqa _) n
 change ∀v∈v2 x,_ at b
 change wd (v2 x) 16=3 at w
 change wd (v2 x) 17=0 at o
 change cP (v2 x)=0 at S
 change bj (v2 x) 128 128=0 at K
 change aj (v2 x)=0 at E
 change NxL (v1 x) (v2 x) at f
 change aK (v2 x)=[] at N
 change ∀i,_->wd (v2 x) i=_ at Q
 obtain⟨-,z,M⟩:=f.same h;rw[k] at z;rw[O] at M;have s:aW (v2 x)=[]:=IV z (by rw[(f.mkd h).1,t,M]);have A:=zK b S w o z s N;obtain⟨q,u,L,T,C,m,V⟩:=qD _ (v2 x) b (kqa _) A;have P:=IX b A o;have d:=(gP (p:=3) _ (v2 x) b (kqa _) q).1;have I:=λi a=>qB (p:=3) (i:=i) a _ (v2 x) b (kqa _) q
 change ∀v∈v3 x,_ at d
 change wd (v3 x) 16=4 at u
 change wd (v3 x) 17=128 at L
 change wd (v3 x) 18=128 at T
 change ax (v3 x)=0 at C
 change aj (v3 x)=0 at m
 change FxT (v2 x) (v3 x) _ at P
 change ∀i,_->wd (v3 x) i=_ at I
 obtain⟨g,y,r,D,Z⟩:=Ko m _ (v3 x) 0 d (kqa _) C u (by rw[L,T];exact Ea m);have R:=(gP (p:=4) _ (v3 x) d (kqa _) g).1;have U:=λi a=>qB (p:=4) (i:=i) a _ (v3 x) d (kqa _) g;have e:=end_rs R r y D;have q4:=lM d g e;have Y:=lM b q q4;have W:=lM c n Y;have q1:=lM ho j W;exact⟨j,n,q,g,c,b,d,R,B,A.ck,C,r,l,w,u,y,a4,X,V,h,E,m,F,H,t,k,f,K,o,P,Z,λi a=>(U i a).trans ((I i a).trans ((Q i a).trans (G i a))),D,GZ r y D,q1⟩
noncomputable def mkS (x:List Nat) (b:Bk):Bk:={ b with mark:=eZ x b }
noncomputable def cpL (x:List Nat):List Bk:=(ah x).map (mkS x)
noncomputable def cpM (x:List Nat):List (Int × Int):=az (cpL x) 128
def FxV (M:List (Int × Int)) (v u:Nat):Prop:=(v=0/\u=0)\/(0<v/\fY M (v:Int)=some (u:Int))
theorem CW(h0:aj x=0):Mk x m↔(m:Int)∈eQ (ah x):=by
 unfold eQ;rw[kzx];constructor
 .rintro ⟨h,g⟩;exact⟨bkAt x m,kzu.2 ⟨h,g⟩,af x m⟩
 rintro ⟨c,d,e⟩;obtain⟨b,f⟩:=kzu.1 d;obtain⟨a,rfl,-⟩:=(cr h0).1 c b;rw[af] at e;obtain rfl:a=m:=by omega
 exact⟨b,f⟩
theorem Aq(h:aC x=0)(hm:eQ (ah x)=dm x)(hb:b∈ah x):b.mark=eZ x b:=by
 obtain⟨f,-,-⟩:=aH h;obtain⟨a,rfl,a1,a2,g,a4⟩:=(cr f).1 b hb;rw[kzl,fH g];constructor
 .intro i;have c:(a:Int)∈eQ (ah x):=(CW f).1 ⟨hb,i⟩;rw[hm,fq h] at c;obtain⟨j,e,-,d⟩:=c;obtain rfl:a=j:=by omega
  exact d
 intro d;have c:(a:Int)∈dm x:=(fq h _).2 ⟨a,rfl,g,d⟩;rw[<-hm,<-CW f] at c;exact c.2
theorem end_nx(xs:List Nat):∀(l:List Bk) (s:Int),aO (l.map (nxB xs)) s=aO l s:=by
 intro l
 induction l with
 | nil=>intro s;rfl
 | cons b l ih =>intro s;have e:aR (nxB xs b)=aR b:=rfl;have a:(nxB xs b).size=b.size:=rfl;simp only[kxm,aO,e,a,ih]
theorem GJ(h0:aj ws=0)(ho:fi ws m)(r:Int):r∈b8 ws (m:Int)↔∃i:Nat,r=((m+2+i:Nat):Int)/\(flds ws m)[i]? = some 3:=by
 obtain⟨k,j,e,-⟩:=ho.2.2.2.2.2.2;have b:bkAt ws m∈ah ws:=by rw[<-e];exact kqn j
 have f:aT ws 128=ah ws:=(ga h0).2.1;obtain⟨b2,c⟩:=nO (l:=ah ws) (a:=(m:Int)) b (af ws m) ho.2.2.2.2.1;obtain⟨h,n,f3⟩:=jN c;obtain rfl:=rh (cr h0).2 h b (by rw[n,af]);have g:b8 ws (m:Int)=fU ws (bkAt ws m):=by unfold b8;rw[if_pos h0,f,c]
 have o:wL ws (bkAt ws m)=flds ws m:=rfl;rw[g];unfold fU;rw[kX,o,af];constructor
 .rintro ⟨i,-,d,i3⟩;exact⟨i,by omega,d⟩
 rintro ⟨i,i1,d⟩;exact⟨i,(kza.1 d).1,d,by omega⟩
theorem in_obj(h0:aj ws=0)(ho:fi ws m)(h1:2<=j)(h2:j<szAt ws m)(hb:b∈ah ws):b.at_≠((m+j:Nat):Int)/\b.at_+1≠((m+j:Nat):Int):=by have:=iF h0 ho hb;omega
section
variable {x:List Nat}
theorem CpF.bl1(F:CpF x)(hrc:aC x=0):ah (v1 x)=cpL x:=by
 obtain⟨h,d,g,g4,c⟩:=F.r1.same hrc;rw[c];unfold cpL;refine kz5 λb f=>?_;have a:mkB (v1 x) b∈ah (v1 x):=by rw[c];exact kx6 f
 have:=Aq h (by rw[F.m1,d]) a;have e:eZ (v1 x) (mkB (v1 x) b)=eZ x b:=by unfold eZ;rw[g];rfl
 rw[e] at this;unfold mkB mkS at *;dsimp only at this;rw[this]
theorem CpF.bl2(F:CpF x):ah (v2 x)=(ah (v1 x)).map (nxB (v2 x)):=((F.r2.ev F.h1).heap F.h1).2
theorem CpF.bl3(F:CpF x):ah (v3 x)=ah (v2 x):=(F.r3.hd.heap F.h2).2
theorem CpF.mvs(F:CpF x)(hrc:aC x=0):az (ah (v2 x)) 128=cpM x/\aO (ah (v2 x)) 128=aO (cpL x) 128/\iH (v2 x) 128 128=cpM x:=by
 have b:az (ah (v2 x)) 128=cpM x:=by rw[F.bl2,vX,F.bl1 hrc];rfl
 refine⟨b,by rw[F.bl2,end_nx,F.bl1 hrc],?_⟩;obtain⟨-,-,l,a,-,c⟩:=co F.d2;rw[show ((128:Int)).toNat=128 from rfl,(ga F.h2).2.2.2] at a;obtain rfl:=Option.some.inj a;rw[c,b]
theorem CpF.mk2(F:CpF x)(hrc:aC x=0):Mk (v2 x) m↔Rch x m:=by
 rw[CW F.h2,(F.r2.mkd F.h1).1,F.m1,fq hrc];constructor
 .rintro ⟨a,e,-,h⟩;obtain rfl:m=a:=by omega
  exact h
 intro h;exact⟨m,rfl,ro ((aH hrc).2.2 m h),h⟩
theorem GL(hrc:aC x=0)(F:CpF x):(cpM x).map Prod.fst=dm x:=by have h:=ms (jE (ga F.h1).2.2.2 (by omega)) 128;rw[F.m1,F.bl1 hrc] at h;exact h.symm
theorem Fi:∀ {M:List (Int × Int)} {a:Int},a∈M.map Prod.fst->∃t,fY M a=some t:=by
 intro M
 induction M with
 | nil=>intro a h;simp at h
 | cons p M ih =>
  intro a h;simp only[fY];by_cases e:p.1=a
  .exact ⟨p.2,by rw[if_pos e]⟩
  rw[if_neg e];rw[kxm,kqw] at h;exact ih (h.resolve_left λh=>e h.symm)
theorem ov(hrc:aC x=0)(h:Rch x m):fi x m:=by obtain⟨b,-,-,-,a⟩:=rj hrc h;exact a
theorem CpF.sz(F:CpF x)(hrc:aC x=0)(h:Rch x m):szAt (v3 x) m=szAt x m/\fi (v2 x) m/\flds (v2 x) m=flds x m/\(wd (v3 x) m=wd (v1 x) m):=by
 have f:=(F.mk2 hrc).2 h;have a:=ov hrc h;have d:=(aH hrc).1;have e:=(aH hrc).2.2 m h;have b:=(F.r3.hd.blk _ f.1).1;rw[af,kqj] at b;have c:wd (v2 x) m=wd (v1 x) m:=F.r2.even F.h1 (by have:=a.1;omega) a.2.1;refine⟨?_,(pG F.h2 f).1,?_,b.trans c⟩
 .rw[<-F.r1.szAt m (by have:=a.1;omega)];unfold szAt;rw[b,c]
 rw[F.r2.flds F.h1 (by rw[F.r1.tb d];exact e),F.r1.flds d e]
theorem CpF.in_(F:CpF x)(hrc:aC x=0)(h:Rch x m)(h1:2<=j)(h2:j<szAt x m):wd (v2 x) (m+j)=wd x (m+j):=by
 have f:=ov hrc h;have g:=(aH hrc).1;have d:=λb c=>in_obj (b:=b) g f h1 h2 c;have h128:=f.1;have i:wd (v2 x) (m+j)=wd (v1 x) (m+j):=by
  rcases F.r2.at_ (m+j) (by omega) with a|⟨b,c,a⟩
  .exact a
  rw[(F.r1.heap g).2] at c;obtain⟨k,e,rfl⟩:=kzx.1 c;exact absurd a.symm (d k e).2
 rw[i];rcases F.s1 (m+j) (by omega) with a|⟨b,c,a⟩
 .exact a
 exact absurd a.symm (d b c).1
structure CpD (w z:List Nat) (M:List (Int × Int)) (T:Nat):Prop where
 len:z.length=w.length
 low:∀i,i<16\/19<=i/\i<112->wd z i=wd w i
 line:wd z 16=0/\wd z 17=0/\wd z 18=0
 sl:∀i,i<16->slAt z i=nwS w M i
 obj:∀p∈M,∃m t:Nat,p=((m:Int),(t:Int))/\Rch w m/\128<=t/\t+szAt w m<=T/\2<=szAt w m/\wd z t=cS { ap (wd w m) with mark:=false }/\wd z (t+1)=0/\(∀i,(flds w m)[i]? = some 3->FxV M (wd w (m+2+i)) (wd z (t+2+i)))/\∀i,2+i<szAt w m->(flds w m)[i]? ≠ some 3->wd z (t+2+i)=wd w (m+2+i)
 to:128<=T/\T<=w.length/\T%2=0
 free:T<w.length->wd z T=cS (du (w.length-T))/\wd z (T+1)=0
 rest:∀i,T+2<=i->(∀b∈ah w,(i:Int)≠b.at_/\(i:Int)≠b.at_+1)->(∀m,Rch w m->¬ (m<=i/\i<m+szAt w m))->wd z i=wd w i
theorem okFx_v{M:List (Int × Int)}{r:Nat}(h:Eh ws y M r):FxV M (wd ws r) (wd y r):=by
 rcases h with h|⟨c,t,m,b,a,-⟩
 .exact .inl h
 exact .inr ⟨c,by rw[a];exact b⟩
theorem CpF.desc(F:CpF x)(hrc:aC x=0):CpD x (vE x) (cpM x) (aO (cpL x) 128).toNat/\aO (cpL x) 128=((aO (cpL x) 128).toNat:Int):=by
 have h0:=(aH hrc).1;obtain⟨m1,Y,M⟩:=F.mvs hrc;obtain⟨hs,-,-,-,i5,L,-,i8⟩:=gn F.en;have G:=(a9 _).1 i5;have hTe:aO (cpL x) 128=((wd (v4 x) 18:Nat):Int):=by rw[<-Y,<-F.bl3];exact F.r4.to
 have hT:(aO (cpL x) 128).toNat=wd (v4 x) 18:=by omega
 rw[hT];obtain⟨T,y⟩:=xq (wd (v4 x) 18);have l:(v4 x).length=x.length:=by rw[F.r4.len,F.r3.hd.len,F.r2.len,F.r1.len]
 have c:=DW F.en;rw[i8,y,l] at c
 change ∀j,wd (vE x) j=_ at c
 have r4:=F.r4;rw[y] at L G r4 |-;rw[l] at L;have n:∀i,19<=i->i<T->wd (vE x) i=wd (v4 x) i:=λi h1 h2=>by
  rw[c,if_neg (by omega),if_neg (by omega),if_neg (by omega)]
 refine⟨⟨?_,λi f=>?_,⟨by rw[c,if_pos (by omega)],by rw[c,if_pos (by omega)],by rw[c,if_pos (by omega)]⟩,λi f=>?_,λp P=>?_,⟨G.1,L,G.2.2⟩,λk=>⟨?_,?_⟩,λi f N hm=>?_⟩,by omega⟩
 .unfold vE;rw[au,l]
 .rw[c,if_neg (by omega),if_neg (by omega),if_neg (by omega)];exact F.l4 i f
 .have D:slAt (vE x) i=slAt (v3 x) i:=by unfold slAt;rw[n _ (by omega) (by omega),r4.low _ (by omega) (by omega)]
  have g:slAt (v2 x) i=slAt x i:=by rw[F.r2.slAt F.h1 f,F.r1.slAt f]
  rw[D,F.r3.sl i f,M];unfold nwS;rw[g]
 .have E:p∈az (ah (v3 x)) 128:=by rw[F.bl3,m1];exact P
  obtain⟨m,t,rfl,⟨V,w2,H⟩,t1,S,O⟩:=r4.mv p E;have d:Rch x m:=by
   have:(m:Int)∈(cpM x).map Prod.fst:=kzx.2 ⟨_,P,rfl⟩;rw[GL hrc F,fq hrc] at this;obtain⟨a,e,-,h⟩:=this;obtain rfl:m=a:=by omega
   exact h
  obtain⟨s1,J,Q,U⟩:=F.sz hrc d;have v:=ov hrc d;have z:=v.1;rw[s1] at H S O;refine⟨m,t,rfl,d,t1,S,O,?_,?_,λi K=>?_,λi h1 K=>?_⟩
  .rw[n _ (by omega) (by omega),V,U,F.r1.raw m (by omega)]
  .rw[n _ (by omega) (by omega),w2]
  .have u:((m+2+i:Nat):Int)∈b8 (v2 x) (m:Int):=(GJ F.h2 J _).2 ⟨i,rfl,by rw[Q];exact K⟩;obtain⟨R,D,-,g,-⟩:=iA F.h2 u;have B:szAt (v2 x) m=szAt x m:=by have g:wd (v2 x) m=wd (v1 x) m:=F.r2.even F.h1 (by omega) v.2.1;rw[<-F.r1.szAt m (by omega)];unfold szAt;rw[g]
   have k:2+i<szAt x m:=by omega
   have hd:=F.r3.done m ((F.mk2 hrc).2 d) (by have:=J.2.2.1;omega) _ u;rw[kqj,M] at hd;have:=okFx_v hd;rw[show m+2+i=m+(2+i) by omega,F.in_ hrc d (by omega) k] at this;rw[show m+2+i=m+(2+i) by omega,show t+2+i=t+(2+i) by omega,n _ (by omega) (by omega),H _ (by omega) k];exact this
  rw[show m+2+i=m+(2+i) by omega,show t+2+i=t+(2+i) by omega,n _ (by omega) (by omega),H _ (by omega) (by omega),F.r3.off _ (by omega) λr o u=>?_,F.in_ hrc d (by omega) h1];have w:=(F.mk2 hrc).2 d;obtain⟨R,D,-,g,-⟩:=iA F.h2 u;have B:szAt (v2 x) m=szAt x m:=by have g:wd (v2 x) m=wd (v1 x) m:=F.r2.even F.h1 (by omega) v.2.1;rw[<-F.r1.szAt m (by omega)];unfold szAt;rw[g]
  have hq:m=r:=by
   rcases kkc m r with A|A|A
   .have:=jj F.h2 w o A;omega
   .exact A
   have:=jj F.h2 o w A;omega
  subst hq;obtain⟨X,Z,C⟩:=(GJ F.h2 J _).1 u;obtain rfl:i=X:=by omega
  rw[Q] at C;exact K C
 .rw[c,if_neg (by omega),if_pos ⟨k,rfl⟩]
 .rw[c,if_neg (by omega),if_neg (by omega),if_pos ⟨k,rfl⟩]
 have C:wd (vE x) i=wd (v4 x) i:=by rw[c,if_neg (by omega),if_neg (by omega),if_neg (by omega)]
 rw[C,r4.up i (by omega) (by omega),F.r3.off i (by omega) λr o u=>?_]
 .have g:wd (v2 x) i=wd (v1 x) i:=by
   rcases F.r2.at_ i (by omega) with s|⟨b,q,s⟩
   .exact s
   rw[(F.r1.heap h0).2] at q;obtain⟨W,I,rfl⟩:=kzx.1 q;exact absurd s (N W I).2
  rw[g];rcases F.s1 i (by omega) with s|⟨b,q,s⟩
  .exact s
  exact absurd s (N b q).1
 obtain⟨R,D,-,g,Z⟩:=iA F.h2 u;have d:=(F.mk2 hrc).1 o;have v:=ov hrc d;have z:=v.1;have B:szAt (v2 x) r=szAt x r:=by have g:wd (v2 x) r=wd (v1 x) r:=F.r2.even F.h1 (by omega) v.2.1;rw[<-F.r1.szAt r (by omega)];unfold szAt;rw[g]
 exact hm r d ⟨by omega,by omega⟩
end
end Go.Proofs.YtpcajamacpbjcaaGreat
