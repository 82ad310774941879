/- Texts laid together: CpP CpQ CpR CpS CpT CpU CpV CpW CpX CpY CpZ CpD. -/
import Derived.Test.YtpcajamacpbjcaaGreatZKStg3
import Derived.Test.YtpcajamacpbjcaaGreatZKRs
set_option maxHeartbeats 16000000
set_option linter.all false
namespace Go.Proofs.YtpcajamacpbjcaaGreat
open Go.RowKit
variable {b:Bk}{r:Int}{E:List En}{ws x xs y ys:List Nat}{F T a c f i j k m m' p:Nat}
theorem Eu(h:cH x=0)(h3:wd x 16≠3):cF x=0:=by unfold cF;rw[if_pos h,if_neg (λh=>h3 h.1)]
theorem vv(h:cH x=0)(h3:wd x 16≠3)(h4:wd x 16≠4)(hh:ag x=0):aw x=0:=by unfold aw;rw[if_pos (Eu h h3),if_neg h4,if_neg h3];exact hh
theorem tR:∀n x,(∀v∈x,v<18446744073709551616)->mzS 1 x<=n->wd x 16=1->aw x=0->aF x=0->(dh 1 x).1=0/\wd (dh 1 x).2.2 16=2/\cH (dh 1 x).2.2=0/\1<=(dh 1 x).2.1.length:=by
 intro n
 induction n with
 | zero=>intro x _ h d;exfalso;unfold mzS at h;rw[if_pos d] at h;omega
 | succ n ih =>
  intro x k h d g a;have e:ac x=(0,gE (aN x) 2):=by unfold ac;rw[if_pos g,if_pos d,if_pos a]
  have l:(ac x).1=0:=by rw[e]
  have hd:=fL k d l;obtain⟨-,-,p,-,-,-,-,-⟩:=lI k l;obtain⟨u,r2⟩:=oM a;obtain⟨g1,g2,g3,f,g5,g6⟩:=fD g d (.inl rfl) (dJ a) (λy s=>by
   obtain⟨i,w⟩:=kjv.1 s;exact u i y w) (o0 a)
  simp only[Nat.reduceAdd] at f;rw[dH k d l];by_cases b:32<=(aN x).length
  .rw[if_pos b] at f;have c:aF (aj x (ac x).2)=0:=by rw[e,ce b];exact (tS a b).1
   have o:wd (aj x (ac x).2) 16=1:=by rw[e];exact f
   have j:aw (aj x (ac x).2)=0:=vv p (by omega) (by omega) (av c).1;obtain⟨q,r,t,i4⟩:=ih _ (dy k l) (by omega) o j c;rw[if_pos q];exact⟨rfl,r,t,by simp⟩
  rw[if_neg b] at f;have m:wd (aj x (ac x).2) 16=2:=by rw[e];exact f
  rw[cM (by omega),if_pos rfl];exact⟨rfl,m,p,by simp⟩
theorem t7(hhp:ag x=0)(hf:¬ 32<=(aG x).length):bi (aj x (gE (aG x) 3)) 128 128=0/\gj (aj x (gE (aG x) 3)) 128 128=aq (aa x) 128/\ag (aj x (gE (aG x) 3))=0/\aa (aj x (gE (aG x) 3))=fwB (aa x) 128:=by
 have o:=oU (x:=x) (E:=[⟨16,3⟩]) (λe d=>by
  rw[kq7] at d;subst d;exact .inl (by dsimp only;omega))
 obtain⟨n,h⟩:=(o.ev hhp).heap hhp;have c:=cb hhp;have hid:(aa x).map (nxB (aj x [⟨16,3⟩]))=aa x:=by
  rw[kz8 (g:=id) (λb f=>?_),List.map_id];obtain⟨a,rfl,a1,a2,-⟩:=c.1 b f;show nxB (aj x [⟨16,3⟩]) (bkAt x a)=bkAt x a;unfold nxB;refine rI ?_;rw[ab,show ((a:Int)).toNat=a from kqj a,bg _ _ _ (λe d=>by
   rw[kq7] at d;subst d;dsimp only;omega)]
  rfl
 rw[hid] at h;have f:=nK n;obtain⟨l,-,i,-,k,p,m,j,-⟩:=f;rw[h] at i;subst i;have e:aj x (gE (aG x) 3)=aj (aj x [⟨16,3⟩]) (aT (aa x) 128):=by rw[gq hf,<-ey,qv hhp];rfl
 rw[e];exact⟨k,p,m,j⟩
theorem tB:∀n x,(∀v∈x,v<18446744073709551616)->mzS 2 x<=n->wd x 16=2->aw x=0->(dh 2 x).1=0/\wd (dh 2 x).2.2 16=3/\wd (dh 2 x).2.2 17=0/\cH (dh 2 x).2.2=0/\1<=(dh 2 x).2.1.length/\bi (dh 2 x).2.2 128 128=0/\ag (dh 2 x).2.2=0:=by
 intro n
 induction n with
 | zero=>intro x _ h c;exfalso;unfold mzS at h;rw[if_pos c] at h;omega
 | succ n ih =>
  intro x j h c a;have d:ag x=0:=by have:=a;unfold aw at this;rw[if_pos (iX a),if_neg (by omega),if_neg (by omega)] at this;exact this
  have e:ac x=(0,gE (aG x) 3):=by unfold ac;rw[if_pos a,if_neg (by omega),if_pos c,if_pos d]
  have i:(ac x).1=0:=by rw[e]
  have hd:=fL j c i;obtain⟨-,-,o,-,-,-,-,-⟩:=lI j i;obtain⟨u,r,y⟩:=nT d;obtain⟨g1,g2,g3,f,m,g6⟩:=fD a c (.inr rfl) u r y;simp only[Nat.reduceAdd] at f m;rw[dH j c i];by_cases b:32<=(aG x).length
  .rw[if_pos b] at f;have l:wd (aj x (ac x).2) 16=2:=by rw[e];exact f
   have g:aw (aj x (ac x).2)=0:=vv o (by omega) (by omega) (tf c i).1;obtain⟨p,q,t,w,i5,z,B⟩:=ih _ (dy j i) (by omega) l g;rw[if_pos p];exact⟨rfl,q,t,w,by simp,z,B⟩
  rw[if_neg b] at f;have k:wd (aj x (ac x).2) 16=3:=by rw[e];exact f
  obtain⟨A,-,s,-⟩:=t7 d b;rw[cM (by omega),if_pos rfl];refine⟨rfl,k,by rw[e];exact m,o,by simp,?_,?_⟩
  .rw[e];exact A
  rw[e];exact s
structure Hd (ws xs:List Nat):Prop where
 len:xs.length=ws.length
 low:∀i:Nat,96<=i->i<112->wd xs i=wd ws i
 blk:∀b∈aa ws,wd xs b.at_.toNat=wd ws b.at_.toNat/\wd xs (b.at_.toNat+1)=wd ws (b.at_.toNat+1)
section
variable {ws xs:List Nat}
theorem Hd.blocks(h:Hd ws xs):∀i l,blocks ws i=some l->(∀b∈l,b∈aa ws)->Proofs.YtpcajamacpbjcaaGreat.blocks xs i=some l:=by
 refine dr (λi l=>(∀b∈l,b∈aa ws)->Proofs.YtpcajamacpbjcaaGreat.blocks xs i=some l) (λi c _=>?_) (λi l c g j e m=>?_)
 .exact aC (by rw[h.len];exact c)
 have e:=e (λb j=>m b (kx3 _ j));obtain⟨a,k⟩:=h.blk _ (m (bkAt ws i) (by simp));rw[ab,kqj] at a k;have n:szAt xs i=szAt ws i:=by unfold szAt;rw[a]
 have d:stands xs i=true:=by unfold Proofs.YtpcajamacpbjcaaGreat.stands at g |-;rw[a,h.len];exact g
 have f:bkAt xs i=bkAt ws i:=by unfold bkAt;rw[a,k]
 rw[aO (by rw[h.len];exact c) d,n,e,f];rfl
theorem Hd.ty(h:Hd ws xs)(h0:ag ws=0)(hb:b∈aa ws)(hk:b.kind=1):wd xs (tyA b)=wd ws (tyA b)/\wd xs (tyA b+1)=wd ws (tyA b+1):=by obtain⟨k,a,rfl⟩:=kqv hb;have ht:=fW (fa h0).2.2.2 (by omega) a hk;unfold tyA;exact⟨h.low _ (by omega) (by omega),h.low _ (by omega) (by omega)⟩
theorem Hd.fit(h:Hd ws xs)(h0:ag ws=0)(hb:b∈aa ws):dA xs b=dA ws b:=by
 unfold dA;by_cases a:b.kind=1
 .obtain ⟨d,c⟩:=h.ty h0 hb a;unfold db;rw[d,c]
 have:(b.kind != 1)=true:=by rw[kqt];exact a
 rw[this,kko,kko]
theorem Hd.heap(h:Hd ws xs)(h0:ag ws=0):ag xs=0/\aa xs=aa ws:=by obtain⟨g,l,f,e,d⟩:=al h0;have c:=h.blocks 128 l f (λb c=>by rw[d];exact c);rw[d];refine fT (by rw[h.len];exact g) c ?_;rw[kzq] at e |-;intro b a;rw[h.fit h0 (by rw[d];exact a)];exact e b a
theorem Hd.mv(h:Hd ws xs)(h0:ag ws=0):∀(l:List Bk) (s:Int),(∀b∈l,b∈aa ws)->bM xs l s=bM ws l s:=by
 intro l
 induction l with
 | nil=>intro s _;rfl
 | cons b l ih =>intro s a;simp only[bM];rw[h.fit h0 (a b (by simp)),ih _ (λc d=>a c (kx3 _ d)),ih _ (λc d=>a c (kx3 _ d))]
theorem Hd.rd(h:Hd ws xs)(h0:ag ws=0)(hr:bi ws 128 128=0):bi xs 128 128=0/\gj xs 128 128=gj ws 128 128:=by
 obtain⟨k,j,l,c,i,m⟩:=bU hr;have f:l=aa ws:=by have:=(fa h0).2.2.2;rw[show ((128:Int)).toNat=128 from rfl] at c;rw[c] at this;exact Option.some.inj this
 have a:=h.blocks 128 l c (λb a=>by rw[<-f];exact a);have e:bi xs 128 128=0:=by rw[iA (by rw[h.len];exact k) (by rw[h.len];exact j) (l:=l) a,h.mv h0 l _ (λb a=>by rw[<-f];exact a),if_pos i]
 obtain⟨-,-,l2,d,-,g⟩:=bU e;rw[show ((128:Int)).toNat=128 from rfl] at d;rw[a] at d;obtain rfl:=Option.some.inj d;exact⟨e,by rw[g,m]⟩
theorem Hd.fx(h:Hd ws xs)(h0:cu ws=0):cu xs=0/\cX xs=cX ws/\aU xs 128=aU ws 128:=by
 obtain⟨a,d,f⟩:=cj h0;obtain⟨c,g⟩:=h.heap a;obtain⟨j,e⟩:=h.rd a d;have b:cu xs=0:=by unfold cu;rw[if_pos c];exact j
 obtain⟨-,-,i⟩:=cj b;exact⟨b,by rw[i,f,e],by rw[(fa c).2.1,(fa a).2.1,g]⟩
theorem vV{M:List (Int × Int)}:∀ {R:List Int},(∀r∈R,wd xs r.toNat=wd ws r.toNat)->cD xs M R=cD ws M R:=by
 intro R
 induction R with
 | nil=>intro _;rfl
 | cons r R ih =>
  intro h;simp only[cD];rw[ih (λx a=>h x (kx3 _ a))];have:fu xs M r.toNat=fu ws M r.toNat:=by unfold fu;rw[h r (by simp)]
  rw[this]
theorem Hd.ob(h:Hd ws xs){a:Int}(h0:cG ws a=0)(hr:∀r∈bK ws a,wd xs r.toNat=wd ws r.toNat):cG xs a=0/\cr xs a=cr ws a/\bK xs a=bK ws a:=by
 have e:cu ws=0:=by
  by_cases m:cu ws=0
  .exact m
  rw[(zg rfl m).1] at h0;exact absurd h0 m
 obtain⟨B,z,u⟩:=h.fx e;obtain⟨g,f2,f3⟩:=cj e;have l:=h.heap g;cases d:jJ (aU ws 128) a with
 | none=>rw[(pg e d).1] at h0;cases h0
 | some b =>
  have f:jJ (aU xs 128) a=some b:=by rw[u];exact d
  obtain⟨p,b2,v⟩:=ib d;rw[(fa g).2.1] at p;have i:rx xs b=rx ws b:=by obtain⟨y,t⟩:=h.ty g p v;unfold rx;rw[y,t]
  have q:cU xs b=cU ws b:=by unfold cU;rw[i]
  have s:bK ws a=cU ws b:=by simp[bK,g,d]
  have j:bK xs a=cU xs b:=by simp[bK,l.1,f]
  rw[s] at hr;cases c:b.mark with
  | false=>rw[(pu e d c).1] at h0;cases h0
  | true =>
   cases k:cD ws (cX ws) (cU ws b) with
   | none=>rw[(tK e d c k).1] at h0;cases h0
   | some o =>
    have n:cD xs (cX xs) (cU xs b)=some o:=by rw[q,z,vV hr];exact k
    obtain⟨o1,x⟩:=v7 e d c k;obtain⟨A,w⟩:=v7 B f c n;exact⟨A,by rw[w,x],by rw[j,s,q]⟩
end
def Bd (ws:List Nat) (a:Nat):Prop:=128<=a/\∃k,k<=(aa ws).length/\blocks ws a=some ((aa ws).drop k)
theorem Aj(h:ag ws=0):Bd ws 128:=⟨kqb _,0,kqx _,(fa h).2.2.2⟩
theorem pB(h:Bd ws a)(hn:bp ws (a:Int)=0)(e:iE ws (a:Int)=bkAt ws m):a<=m/\2<=szAt ws m/\m+szAt ws m<=ws.length/\Bd ws (m+szAt ws m)/\bkAt ws m∈aa ws/\(bkAt ws m).mark=true/\(bkAt ws m).kind=1:=by
 obtain⟨h1,k,hk,f⟩:=h;obtain⟨-,-,-,d,s,v,p2,p,p4,t,p6,r,n,l,x,-,-,b,q,-,o⟩:=eK hn;have u:d=m:=by have:=s.symm.trans e;have y:=congrArg Bk.at_ this;rw[ab,ab] at y;omega
 subst u;rw[x] at f;obtain rfl:=Option.some.inj f;have c:d<ws.length:=by omega
 obtain⟨g,j,f3,i⟩:=bN o c;rw[kxv,kxv] at i;refine⟨v,p,t,⟨by omega,k+b+1,?_,?_⟩,?_,r,n⟩
 .rw[kxf] at q;omega
 .rw[i,kj3]
 rw[<-j];have w:gk ((List.drop k (aa ws)).drop b) 0∈(List.drop k (aa ws)).drop b:=by unfold gk;rw[kqm g,kq4];exact kqs g
 exact kx4 (kx4 w)
theorem Fi(h:ag ws=0)(hb:nn ws f=true):Bd ws f:=by
 obtain⟨-,-,-,d⟩:=fa h;obtain⟨m,-⟩:=al h;have hbd:=(af _).1 m;unfold nn at hb;rw[d] at hb;dsimp only at hb;rw[kje,kxn] at hb;rcases hb with⟨b,g,c⟩|c
 .rw[kqu] at c;obtain⟨k,i,rfl⟩:=kqv g;obtain⟨a,e,a1,j,a3,a4,l⟩:=bC 128 _ d (by omega) k i;rw[e,ab] at c;obtain rfl:a=f:=by omega
  exact⟨j,k,by omega,l⟩
 rw[kqu] at c;subst c;exact⟨by omega,_,kqb _,by rw[kk2];exact aC (kqb _)⟩
theorem bd_is(h:ag ws=0)(hb:Bd ws f)(hf:f<=ws.length):nn ws f=true:=by
 obtain⟨-,-,-,c⟩:=fa h;obtain⟨h1,k,hk,d⟩:=hb;unfold nn;rw[c];dsimp only;rw[kje,kxn];by_cases e:f=ws.length
 .right;rw[kqu];exact e
 left;obtain⟨a,b,f3,f4⟩:=bN d (by omega);refine⟨bkAt ws f,?_,by rw[kqu,ab]⟩;rw[<-b];unfold gk;rw[kqm a,kq4];exact kx4 (kqs a)
def yz (ws:List Nat) (a:Nat):Prop:=∀m:Nat,bkAt ws m∈aa ws->(bkAt ws m).mark=true->a<=m->cG ws (m:Int)=0
theorem wC :∀k a,ws.length-a<=k->Bd ws a->yz ws a->(iK ws a).1=0/\(iK ws a=(0,bG)\/∃m:Nat,a<=m/\2<=szAt ws m/\m+szAt ws m<=ws.length/\Bd ws (m+szAt ws m)/\bkAt ws m∈aa ws/\(bkAt ws m).mark=true/\iK ws a=(0,⟨17,m+szAt ws m⟩::cr ws (m:Int))):=by
 intro k
 induction k with
 | zero =>
  intro a w d c;by_cases b:bp ws (a:Int)=0
  .obtain ⟨-,-,-,m,e,-⟩:=eK b;obtain⟨h,p,i,-⟩:=pB d b e;omega
  rw[iu b];exact⟨rfl,.inl rfl⟩
 | succ k ih =>
  intro a w d c;by_cases b:bp ws (a:Int)=0
  .obtain ⟨-,-,-,m,e,-⟩:=eK b;obtain⟨h,p,i,l,o,n,n7⟩:=pB d b e;by_cases j:bK ws (m:Int)=[]
   .rw[iZ b e j];obtain⟨q,f⟩:=ih (m+szAt ws m) (by omega) l (λg z v h3=>c g z v (by omega));refine⟨q,?_⟩;rcases f with f|⟨g,j1,x,A,s,r,t,y⟩
    .exact .inl f
    exact .inr ⟨g,by omega,x,A,s,r,t,y⟩
   have u:=c m o n h;rw[mC b e j u];exact⟨rfl,.inr ⟨m,h,p,i,l,o,n,rfl⟩⟩
  rw[iu b];exact⟨rfl,.inl rfl⟩
theorem gV(h:ag ws=0)(hr:r∈bK ws (m:Int)):∃i:Nat,r=((m+2+i:Nat):Int)/\i<(flds ws m).length/\m+2+i<m+szAt ws m/\eg ws m:=by
 unfold bK at hr;rw[if_pos h] at hr;cases d:jJ (aU ws 128) (m:Int) with
 | none=>rw[d] at hr;cases hr
 | some b =>
  rw[d] at hr;dsimp only at hr;obtain⟨a,e1,k,e⟩:=xw h d;obtain rfl:a=m:=by omega
  have n:rx ws b=flds ws a:=by rw[k];rfl
  have f:b.at_=(a:Int):=by rw[k,ab]
  unfold cU at hr;obtain⟨i,j,-,l⟩:=kD.1 hr;rw[n] at j;have c:=e.2.2.2.2.2.1;rw[gI (ws:=ws) (b:=bkAt ws a) e.2.2.2.2.1] at c;simp only[kqw,kqu] at c;have g:=c.2;rw[aP] at g;have h8:(flds ws a).length=(bc (wd ws (tyA (bkAt ws a))) (wd ws (tyA (bkAt ws a)+1))).length:=rfl;unfold aX at g;exact⟨i,by rw[l,f];omega,j,by omega,e⟩
theorem hG(h:ag ws=0)(ho:eg ws a)(hb:b∈aa ws):b.at_<=(a:Int)/\(b.at_=(a:Int)\/b.at_+2<=(a:Int))\/((a+szAt ws a:Nat):Int)<=b.at_:=by
 obtain⟨o1,o2,p,m,o5,o6,k,n,e,d⟩:=ho;obtain⟨j,i,rfl⟩:=kqv hb;rcases kq6 k j with q|q
 .rw[aO p m] at d;cases f:blocks ws (a+szAt ws a) with
  | none=>rw[f] at d;cases d
  | some l' =>
   rw[f] at d;simp only[kzp,Option.some.injEq] at d;have o:l'=(aa ws).drop (k+1):=by
    have:=congrArg (List.drop 1) d;rw[kxv] at this
    simpa using this
   have r:(aa ws)[j]∈l':=by rw[o];refine kk5.2 ⟨j-(k+1),by rw[kxf];omega,?_⟩;rw[kjn];congr 1;omega
   have:=(ld _ _ f).1 _ r;exact .inr this
 have g:=(cb h).2;rw[kzf] at g;have ha:(aa ws)[k].at_=(a:Int):=by rw[e,ab]
 obtain⟨c,s,c1,c2,-⟩:=(cb h).1 _ (kqs i);have hc:(aa ws)[j].at_=(c:Int):=by rw[s,ab]
 left;rcases kq6 j k with l|l
 .have:=g j k i n l;omega
 have:j=k:=by omega
 subst this;omega
structure I3 (x:List Nat):Prop where
 ck:aw x=0
 p3:wd x 16=3
 hp:ag x=0
 sl:wd x 17=0->dm x=0
 fx:yz x (wd x 17)
theorem I3.rd(h:I3 x):bi x 128 128=0:=by have:=h.ck;unfold aw at this;rw[if_pos (iX h.ck),if_neg (by rw[h.p3];decide),if_pos h.p3] at this;exact this
theorem hd_put(h:ag x=0)(hE:∀e∈E,e.a<19\/112<=e.a/\∀b∈aa x,e.a≠b.at_/\e.a≠b.at_+1):Hd x (aj x E):=by
 refine⟨aE _ _,λi h1 h2=>bg _ _ _ λe f g=>?_,λb j=>?_⟩
 .rcases hE e f with d|d<;>omega
 obtain⟨a,rfl,a1,-⟩:=(cb h).1 b j;have c:(bkAt x a).at_=(a:Int):=ab x a;rw[c,kqj];refine⟨bg _ _ _ λe f g=>?_,bg _ _ _ λe f g=>?_⟩
 .rcases hE e f with d|⟨-,d⟩
  .omega
  exact (d _ j).1 (by rw[c];exact g)
 rcases hE e f with d|⟨-,d⟩
 .omega
 exact (d _ j).2 (by rw[c,g];rfl)
theorem sP(h:ag x=0)(hE:∀e∈E,e.a<19\/112<=e.a/\e.a<128):Hd x (aj x E):=hd_put h λe g=>by
 rcases hE e g with d|d
 .exact .inl d
 .refine .inr ⟨d.1,λb f=>?_⟩;obtain⟨a,rfl,a1,-⟩:=(cb h).1 b f;have c:(bkAt x a).at_=(a:Int):=ab x a;rw[c];omega
theorem wN(h:Hd x xs)(h0:ag x=0)(hm:bkAt xs m∈aa xs):bkAt x m∈aa x/\bkAt xs m=bkAt x m:=by
 rw[(h.heap h0).2] at hm;obtain⟨a,e,-⟩:=(cb h0).1 _ hm;have b:=congrArg Bk.at_ e;rw[ab,ab] at b;obtain rfl:m=a:=by omega
 rw[e] at hm;exact⟨hm,e⟩
theorem hd_bd(h:Hd x xs)(h0:ag x=0)(c:Bd x a):Bd xs a:=by obtain⟨f,k,d,e⟩:=c;refine⟨f,k,by rw[(h.heap h0).2];exact d,?_⟩;rw[(h.heap h0).2];exact h.blocks a _ e λb c=>kx4 c
theorem pj(ho:∀v∈x,v<18446744073709551616)(h:I3 x):(ac x).1=0/\(I3 (aj x (ac x).2)\/wd (aj x (ac x).2) 16=4/\wd (aj x (ac x).2) 17=128/\wd (aj x (ac x).2) 18=128/\Hd x (aj x (ac x).2)/\cH (aj x (ac x).2)=0):=by
 have p3:=h.p3;have e:ac x=dp x:=by unfold ac;rw[if_pos h.ck,if_neg (by omega),if_neg (by omega),if_pos p3]
 obtain⟨-,hs,hl,S⟩:=ch h.ck;have L:=(af _).1 hs;obtain⟨⟨l1,l2,l3⟩,-⟩:=(aY x).1 hl;have H:=h.rd;by_cases z:wd x 17=0
 .have F:=h.sl z;have C:dp x=(0,⟨17,128⟩::dd x):=by unfold dp;rw[if_pos z,if_pos F]
  have I:(ac x).1=0:=by rw[e,C]
  obtain⟨-,-,t,-⟩:=lI ho I;refine⟨I,.inl ?_⟩;obtain⟨-,-,-,-,-,-,-,K,q2,q3,-⟩:=jE F;obtain⟨g1,g2,Y,w,y,Q⟩:=jn (f:=128) (l:=dd x) h.ck p3 (by decide) (by omega) (by omega) (by omega) q2 (λe c=>by have:=(K e c).1;omega) (λe c=>(K e c).2);have o:Hd x (aj x (⟨17,128⟩::dd x)):=sP h.hp λe c=>by
   rcases kq0.1 c with rfl|c
   .exact .inl (by dsimp only;omega)
   exact .inr (K e c).1
  rw[e,C] at t |-;dsimp only at t |-;have n:=(o.heap h.hp).1;have d:cF (aj x (⟨17,128⟩::dd x))=0:=by unfold cF;rw[if_pos t,if_neg];rintro ⟨-,-,p⟩;rw[y,bd_is n (Aj n) (by rw[o.len];omega)] at p;cases p
  refine⟨?_,w,n,λg=>?_,λm g D p=>?_⟩
  .unfold aw;rw[if_pos d,if_neg (by rw[w];decide),if_pos w];exact (o.rd h.hp H).1
  .rw[y] at g;cases g
  obtain⟨U,m2⟩:=wN o h.hp g;rw[m2] at D;have u:=h.fx m U D (by omega);refine (o.ob u λr q=>?_).1;obtain⟨i,rfl,X,R,s⟩:=gV h.hp q;rw[kqj];refine bg _ _ _ λe c P=>?_;have:=s.1;rcases kq0.1 c with rfl|c
  .dsimp only at P;omega
  have:=(K e c).1;omega
 have hF:128<=wd x 17:=by
  rcases (b8 _ _ _).1 S with g|⟨-,-,g⟩|g
  .omega
  .rcases g with g|g
   .exact absurd g z
   exact ((aQ _).1 g).1
  omega
 have C:dp x=iK x (wd x 17):=by unfold dp;rw[if_neg z]
 have V:Bd x (wd x 17):=by
  refine Fi h.hp ?_;have d:=iX h.ck;unfold cF at d;by_cases J:nn x (wd x 17)=true
  .exact J
  split at d
  .rw[if_pos ⟨p3,z,by simpa using J⟩] at d;cases d
  exact absurd d (by assumption)
 obtain⟨f1,M⟩:=wC _ (wd x 17) (kqb _) V h.fx;have I:(ac x).1=0:=by rw[e,C];exact f1
 obtain⟨-,-,t,-⟩:=lI ho I;refine⟨I,?_⟩;rcases M with M|⟨m,U,m2,m3,m4,m5,m6,m7⟩
 .right;rw[e,C,M] at t |-;obtain⟨g1,g2,Y,w,y,Q⟩:=gu h.ck p3;refine⟨w,y,Q,sP h.hp λe c=>?_,t⟩;simp only[bG,kq0,kzs,or_false] at c;rcases c with rfl|rfl|rfl<;>exact .inl (by dsimp only;omega)
 left;rw[e,C,m7] at t |-;dsimp only at t |-;have u:=h.fx m m5 m6 U;obtain⟨f,-,-,-,-,q5,q6,q7,N,q9⟩:=gy u;have Z:=Bq u;have hme:m%2=0/\szAt x m%2=0:=by
  obtain⟨a,ea,a1,a2,a3,a4⟩:=(cb h.hp).1 _ m5;have p:=congrArg Bk.at_ ea;rw[ab,ab] at p;obtain rfl:m=a:=by omega
  have:=ax a4;omega
 obtain⟨g1,g2,Y,w,y,Q⟩:=jn (f:=m+szAt x m) (l:=cr x (m:Int)) h.ck p3 ((aQ _).2 (by omega)) m3 (by omega) (by omega) q9 (λe c=>by have:=Z e c;omega) (λe c=>by have:=Z e c;omega);have k:∀j:Nat,j≠17->(∀r∈bK x (m:Int),r≠(j:Int))->wd (aj x (⟨17,m+szAt x m⟩::cr x (m:Int))) j=wd x j:=by
  intro j h17 hj;refine bg _ _ _ λe c P=>?_;rcases kq0.1 c with rfl|c
  .dsimp only at P;omega
  obtain⟨r,r1,r2,r3,r4⟩:=N e c;obtain rfl:r=j:=by omega
  have h6:=q7 r (λi hi hf=>hj _ (kqs hi) (by rw[(q6 i hi).1,hf]));have G:=dQ _ x q9 e c (by omega) (by omega);rw[r1,kqj,h6] at G;exact r3 G
 have o:Hd x (aj x (⟨17,m+szAt x m⟩::cr x (m:Int))):=by
  refine⟨aE _ _,λi g D=>k i (by omega) λr q B=>?_,λb L=>?_⟩
  .obtain ⟨O,W,-,-,s⟩:=gV h.hp q;have:=s.1;omega
  obtain⟨a,rfl,a1,a2,-⟩:=(cb h.hp).1 b L;have A:(bkAt x a).at_=(a:Int):=ab x a;rw[A,kqj];refine⟨k _ (by omega) λr q B=>?_,k _ (by omega) λr q B=>?_⟩
  .obtain ⟨O,W,X,R,s⟩:=gV h.hp q;have:=hG h.hp s L;rw[A] at this;omega
  obtain⟨O,W,X,R,s⟩:=gV h.hp q;have:=hG h.hp s L;rw[A] at this;omega
 have n:=(o.heap h.hp).1;have d:cF (aj x (⟨17,m+szAt x m⟩::cr x (m:Int)))=0:=by unfold cF;rw[if_pos t,if_neg];rintro ⟨-,-,p⟩;rw[y,bd_is n (hd_bd o h.hp m4) (by rw[o.len];omega)] at p;cases p
 refine⟨?_,w,n,λg=>?_,λm' g D p=>?_⟩
 .unfold aw;rw[if_pos d,if_neg (by rw[w];decide),if_pos w];exact (o.rd h.hp H).1
 .rw[y] at g;omega
 obtain⟨n1,n2⟩:=wN o h.hp g;rw[n2] at D;rw[y] at p;have E:=h.fx m' n1 D (by omega);refine (o.ob E λr q=>?_).1;obtain⟨i,rfl,X,R,s⟩:=gV h.hp q;rw[kqj];refine k _ (by have:=s.1;omega) λr2 T B=>?_;obtain⟨O,W,j1,j2,j3⟩:=gV h.hp T;omega
theorem ym(x:List Nat)(t:Nat):mvd x t t=true:=by
 unfold mvd;cases t with
 | zero=>unfold Ae;simp
 | succ t=>unfold Ae;rw[if_neg (by omega)];simp
theorem pE:∀n x,(∀v∈x,v<18446744073709551616)->mzS 3 x<=n->I3 x->(dh 3 x).1=0/\wd (dh 3 x).2.2 16=4/\wd (dh 3 x).2.2 17=128/\wd (dh 3 x).2.2 18=128/\aw (dh 3 x).2.2=0/\ag (dh 3 x).2.2=0/\1<=(dh 3 x).2.1.length:=by
 intro n
 induction n with
 | zero=>intro x _ h a;exfalso;have:=a.p3;unfold mzS at h;rw[if_pos this] at h;omega
 | succ n ih =>
  intro x c h a;obtain⟨d,b⟩:=pj c a;have hd:=fL c a.p3 d;rw[dH c a.p3 d];rcases b with b|⟨i,g,f,e,j⟩
  .obtain ⟨k,l,o,p,m,q,i7⟩:=ih _ (dy c d) (by omega) b;rw[if_pos k];exact⟨rfl,l,o,p,m,q,by simp⟩
  rw[cM (by omega),if_pos rfl];refine⟨rfl,i,g,f,?_,(e.heap a.hp).1,by simp⟩;unfold aw;rw[if_pos (Eu j (by omega)),if_pos i];dsimp only;rw[f,g,if_pos (ym _ _)];exact (e.rd a.hp a.rd).1
theorem xF(ho:∀v∈x,v<18446744073709551616)(hp:cH x=0)(p3:wd x 16=3)(p17:wd x 17=0)(hrc:aF x=0)(hw:aN x=[])(hn:aG x=[]):I3 x:=by
 obtain⟨j,a,M,c,d,s1,k,u,p,t,-⟩:=sf hrc ho;rw[hw] at c;have c:j=x:=c;subst c;rw[hn] at d;have d:a=j:=d;subst d;have b:=(av hrc).1;have g:cF a=0:=by unfold cF;rw[if_pos hp,if_neg];rintro ⟨-,h,-⟩;exact h p17
 refine⟨?_,p3,b,λ_=>p,λm w r _=>?_⟩
 .unfold aw;rw[if_pos g,if_neg (by omega),if_pos p3];exact k
 have i:=(fa b).2.2.2;obtain⟨-,-,l,o,-,s⟩:=bU k;rw[show ((128:Int)).toNat=128 from rfl,i] at o;obtain rfl:=Option.some.inj o;have f:=lj (iR i (by omega)) 128;have n:(m:Int)∈ed (aa a):=by unfold ed;refine kzy.2 ⟨bkAt a m,kzu.2 ⟨w,r⟩,ab a m⟩
 rw[f] at n;obtain⟨q,y,e⟩:=kzy.1 n;rw[<-e];exact t q (by rw[<-u,s];exact y)
section
variable {ws xs:List Nat}
theorem yK(h:∀j,96<=j->wd xs j=wd ws j)(b:Bk):dA xs b=dA ws b:=by unfold dA db;rw[h (tyA b) (by unfold tyA;omega),h (tyA b+1) (by unfold tyA;omega)]
theorem Ak(h:∀j,96<=j->wd xs j=wd ws j):∀(l:List Bk) (s:Int),bM xs l s=bM ws l s:=by
 intro l
 induction l with
 | nil=>intro s;rfl
 | cons b l ih =>intro s;simp only[bM];rw[yK h,ih,ih]
theorem AP(hn:xs.length=ws.length)(h:∀j,96<=j->wd xs j=wd ws j){f s:Int}(hf:96<=f.toNat):bi xs f s=bi ws f s:=by
 unfold bi lf;rw[hn,eG hn f.toNat (λj hj=>h j (by omega))];cases blocks ws f.toNat with
 | none=>rfl
 | some l=>dsimp only;rw[Ak h]
theorem CF{t:Nat}(h:∀j,96<=j->j<t->wd xs j=wd ws j)(ht:lR xs t=true)(h128:128<=t):∀n i,t-i<=n->128<=i->mvd ws i t=true->mvd xs i (t+szAt xs t)=true:=by
 have hsz:=jR ht;have a:mvd xs t (t+szAt xs t)=true:=by rw[jC (by omega) ht,iU (kqb _)];simp
 intro n
 induction n with
 | zero =>intro i q p b;rw[iU (by omega),kqu] at b;subst b;exact a
 | succ n ih =>
  intro i q p b;by_cases e:i<t
  .cases c:lR ws i with
   | false=>rw[pU e c] at b;cases b
   | true =>
    have hz:=jR c;rw[jC e c] at b;have g:wd xs i=wd ws i:=h i (by omega) e;have f:lR xs i=true:=by unfold lR at c |-;rw[g];simp only[kqw,kqu] at c |-;obtain⟨d,o,m,k⟩:=c;refine⟨d,o,m,?_⟩;unfold ay at d;rw[kqw] at d;have h7:=(bj _).1 d.1;unfold db at k |-;rw[h (tyA (ah (wd ws i))) (by unfold tyA;omega) (by unfold tyA;omega),h (tyA (ah (wd ws i))+1) (by unfold tyA;omega) (by unfold tyA;omega)];exact k
    have l:szAt xs i=szAt ws i:=by unfold szAt;rw[g]
    rw[jC (by omega) f,l];exact ih (i+szAt ws i) (by omega) (by omega) b
  rw[iU (by omega),kqu] at b;subst b;exact a
theorem DX :∀ {k:Nat} {l:List Bk} {s:Int},k<=l.length->eM l k->bM ws l s=true->bM ws (l.drop k) s=true:=by
 intro k
 induction k with
 | zero=>intro l s _ _ h;exact h
 | succ k ih =>
  intro l s c d h;cases l with
  | nil=>simp at c
  | cons b l =>
   have e:b.mark=false:=d 0 (by omega);have a:aA b=false:=by unfold aA;rw[e];simp
   simp only[bM,a,kqw] at h;rw[List.drop_succ_cons];refine ih (by simpa using c) (λj hj=>?_) (by simpa using h.2);have:=d (j+1) (by omega);exact this
theorem Be(ho:∀v∈x,v<18446744073709551616)(hck:aw x=0)(p4:wd x 16=4)(hnx:bp x ((wd x 17:Nat):Int)=0):(ac x).1=0/\wd (aj x (ac x).2) 16=4/\aw (aj x (ac x).2)=0:=by
 have e:ac x=eO x:=by unfold ac;rw[if_pos hck,if_neg (by omega),if_neg (by omega),if_neg (by omega),if_pos p4]
 obtain⟨-,hs,hl,R⟩:=ch hck;have hb:=(af _).1 hs;have W:mvd x 128 (wd x 18)=true/\bi x ((wd x 17:Nat):Int) ((wd x 18:Nat):Int)=0:=by
  have:=hck;unfold aw at this;rw[if_pos (iX hck),if_pos p4] at this;by_cases E:mvd x 128 (wd x 18)=true
  .rw[if_pos E] at this;exact⟨E,this⟩
  rw[if_neg E] at this;cases this
 obtain⟨E,U⟩:=W;obtain⟨-,a1,a2,m,em,m1,m2,m3,m4,m5,m6,m7,Z,l,q1,-,-,k,q2,q3,J⟩:=eK hnx;obtain⟨r1,r2,l2,r3,r4,-⟩:=bU U;rw[kqj,q1] at r3;obtain rfl:=Option.some.inj r3;obtain⟨u1,u2,u3,u4,u5⟩:=fV r2;have A:bi x (m:Int) ((wd x 18:Nat):Int)=0:=by
  have N:gP x.length (m:Int) ((wd x 18:Nat):Int)=false:=by
   cases hq:gP x.length (m:Int) ((wd x 18:Nat):Int) with
   | false=>rfl
   | true=>exact absurd ⟨by omega,by omega,by omega,by omega,by omega⟩ ((kw _ _ _).1 hq)
  rw[iA r1 N (l:=l.drop k) (by rw[kqj];exact J),if_pos (DX (by omega) q3 r4)]
 obtain⟨I,G,f3,f4⟩:=bN J (by omega);have r:eW x (m:Int) ((wd x 18:Nat):Int)=0:=by
  unfold eW;rw[if_pos A,kqj,J];cases z:l.drop k with
  | nil=>rw[z] at I;simp at I
  | cons c t =>
   dsimp only;rw[z] at G;have V:c=bkAt x m:=by rw[<-G];rfl
   rw[V,m7];rfl
 have y:eO x=(0,⟨17,m+szAt x m⟩::⟨18,wd x 18+szAt x m⟩::iG x m (wd x 18)):=by unfold eO;rw[if_pos hnx,em,ab,if_pos r,aP,show ((m:Int)+((szAt x m:Nat):Int)).toNat=m+szAt x m by omega,show (((wd x 18:Nat):Int)+((szAt x m:Nat):Int)).toNat=wd x 18+szAt x m by omega];unfold jH;rw[if_pos r,kqj,kqj]
 have X:(ac x).1=0:=by rw[e,y]
 obtain⟨-,-,k3,-⟩:=lI ho X;obtain⟨a,u,n,ea,O,en,n2,n10,hu,hua,han,hst,hlv,⟨l3,-,-,-,s4,-⟩,D,o⟩:=fg r;have ea:a=m:=by omega
 have O:u=wd x 18:=by omega
 subst ea;subst en;have L:=O;have S:=(yl ho hck p4 (by rw[<-e];exact X)).1;have B:=wZ (ws:=x) (a:=a) (u:=u) (by omega);rw[<-B] at s4 D;rw[<-O] at y;rw[<-e] at S;have s:(iG x a u).Pairwise (λa b=>a.a<b.a):=by rw[kzf];intro i j hi hj hij;rw[gh,gh];omega
 have w:∀e∈iG x a u,(u:Int)<=e.a/\e.a<((u+szAt x a:Nat):Int):=λe d=>by
  obtain⟨k,hk,rfl⟩:=kqv d;rw[gh];rw[gn] at hk;omega
 have T:∀j:Nat,19<=j->wd (aj x (ac x).2) j=wd (aj x (iG x a u)) j:=by
  intro j hj;rw[e,y,show (⟨17,a+szAt x a⟩::⟨18,u+szAt x a⟩::iG x a u:List En)=[⟨17,a+szAt x a⟩,⟨18,u+szAt x a⟩]++iG x a u from rfl,ey];by_cases q:∃e∈iG x a u,e.a=(j:Int)
  .obtain ⟨H,d,h5⟩:=q;have hm2:=w H d;have t1:=dQ (iG x a u) (aj x [⟨17,a+szAt x a⟩,⟨18,u+szAt x a⟩]) s H d (by omega) (by rw[aE];omega);have t2:=dQ (iG x a u) x s H d (by omega) (by omega);rw[show H.a.toNat=j by omega] at t1 t2;rw[t1,t2]
  rw[bg _ _ _ (λe d h=>q ⟨e,d,h⟩),bg _ _ _ (λe d h=>q ⟨e,d,h⟩)];refine bg _ _ _ λe d h=>?_;simp only[kq0,kzs,or_false] at d;rcases d with rfl|rfl<;>(dsimp only at h;omega)
 have hfp:=(b8 _ _ _).1 R;obtain⟨j1,j2,-,j4,j5,j6⟩:=my (f:=a+szAt x a) (t:=u+szAt x a) (l:=iG x a u) hck p4 ((aQ _).2 (by omega)) ((aQ _).2 (by omega)) (by omega) (by omega) (by omega) (by omega) (by rw[gn];omega) s (λe d=>by have:=w e d;omega) (rV ho o);have hlen:(aj x (ac x).2).length=x.length:=aE _ _;have g:∀j:Nat,96<=j->j<u->wd (aj x (ac x).2) j=wd x j:=λj h1 h2=>by
  rw[T j (by omega)];exact bg _ _ _ λe d h=>by have:=w e d;omega
 have C:wd (aj x (ac x).2) u=cC { ah (wd x a) with mark:=false }:=by rw[T u (by omega)];exact D
 have p:ah (wd (aj x (ac x).2) u)={ ah (wd x a) with mark:=false }:=by rw[C,kF o];rfl
 have M:szAt (aj x (ac x).2) u=szAt x a:=by have:=congrArg Bk.size p;have e1:(ah (wd (aj x (ac x).2) u)).size=((szAt (aj x (ac x).2) u:Nat):Int):=rfl;have e3:({ ah (wd x a) with mark:=false }:Bk).size=((szAt x a:Nat):Int):=rfl;rw[e1,e3] at this;omega
 have F:db x (bkAt x a)=true:=by
  obtain⟨-,-,l4,w3,K,-⟩:=bU A;rw[kqj,J] at w3;obtain rfl:=Option.some.inj w3;cases z:l.drop k with
  | nil=>rw[z] at I;simp at I
  | cons c t =>
   rw[z] at G K;have V:c=bkAt x a:=by rw[<-G];rfl
   rw[V] at K;simp only[bM,kqw] at K;have Q:=K.1;unfold dA at Q;rw[Z] at Q
   simpa using Q
 have P:lR (aj x (ac x).2) u=true:=by
  have h7:=(bj _).1 o;have Y:(ah (wd x a)).kind=1:=Z;unfold lR ay;rw[p,C,o,Y];simp only[beq_self_eq_true,kzz,kky];unfold db at F |-;have et:tyA ({ ah (wd x a) with mark:=false }:Bk)=tyA (bkAt x a):=rfl;have htl:tyA (bkAt x a)+1<112:=by have:(bkAt x a).typ=(ah (wd x a)).typ:=rfl;unfold tyA;rw[this];dsimp only at h7;omega
  rw[et,g _ (by unfold tyA;omega) (by omega),g _ (by unfold tyA;omega) (by omega)];exact F
 have hg:=CF g P hu (u-128) 128 (by omega) (by omega) (by rw[L];exact E);rw[M] at hg;have g5:wd (aj x (ac x).2) 17=a+szAt x a:=by rw[e,y];exact j5
 have g6:wd (aj x (ac x).2) 18=u+szAt x a:=by rw[e,y];exact j6
 refine⟨X,S,?_⟩;unfold aw;rw[if_pos (Eu k3 (by omega)),if_pos S,g5,g6,if_pos hg,AP (ws:=aj x (iG x a u)) (by rw[aE,aE]) (λj hj=>T j (by omega)) (by omega)];exact s4
end
theorem CZ(hck:aw x=0)(p4:wd x 16=4)(hnx:bp x ((wd x 17:Nat):Int)≠0):dX x=0:=by
 obtain⟨d,-,a,e,b,g,o,l,i,j⟩:=vB hck (by omega);obtain⟨-,-,-,c⟩:=ch hck;have hF:128<=wd x 17:=by
  rcases (b8 _ _ _).1 c with b|b|b
  .exact ((aQ _).1 b.2.1).1
  .omega
  omega
 have f:a=wd x 17:=by unfold fN at e;rw[if_neg (by omega)] at e;omega
 subst f;have h:lfN x=0:=by
  rw[j];by_cases n:0<(ed l).length
  .obtain ⟨m,z,l',k,-⟩:=mr d b g o i n;exact absurd k hnx
  omega
 unfold dX;rw[if_pos hck,if_pos ⟨p4,h⟩]
theorem si{x:Nat}(h:ay x=true)(hk:(ah x).kind=1)(m n:Bool):fR (fR x m) n=fR x n:=by obtain⟨b,a,-,-⟩:=ij h hk m;obtain⟨y,c⟩:=xq (fR x m);rw[c] at b a |-;unfold fR;rw[if_pos b,if_pos h];unfold gC;rw[a]
theorem RmL.trans(h:RmL ws xs)(g:RmL xs ys):RmL ws ys:=by
 refine⟨g.len.trans h.len,λi c=>?_⟩;rcases g.at_ i c with a|⟨a,f,l,d,m,b⟩
 .rw[a];exact h.at_ i c
 rcases h.at_ i c with k|⟨k,h2,j,e,m0,n⟩
 .rw[k] at l d b;exact .inr ⟨a,f,l,d,m,b⟩
 exact .inr ⟨a,f,j,e,m,by rw[b,n,si j e]⟩
theorem Rm.toL(h:Rm ws xs):RmL ws xs:=⟨h.len,λi _=>h.at_ i⟩
theorem NxL.trans(h0:ag ws=0)(h:NxL ws xs)(g:NxL xs ys):NxL ws ys:=by
 refine⟨g.len.trans h.len,λi e=>?_⟩;rcases g.at_ i e with a|⟨b,d,a⟩
 .rw[a];exact h.at_ i e
 rw[((h.ev h0).heap h0).2] at d;obtain⟨f,c,rfl⟩:=kzy.1 d;exact .inr ⟨f,c,a⟩
theorem mkd_nx(xs:List Nat)(l:List Bk):ed (l.map (nxB xs))=ed l:=by
 induction l with
 | nil=>rfl
 | cons b l ih =>
  unfold ed at ih |-;rw[kx0];have e:(nxB xs b).mark=b.mark:=rfl;have a:(nxB xs b).at_=b.at_:=rfl;simp only[kx6,e];split
  .simp only[kx0,a,ih]
  exact ih
theorem sQ(xs:List Nat):∀(l:List Bk) (s:Int),aq (l.map (nxB xs)) s=aq l s:=by
 intro l
 induction l with
 | nil=>intro s;rfl
 | cons b l ih =>intro s;have e:aA (nxB xs b)=aA b:=rfl;have c:(nxB xs b).at_=b.at_:=rfl;have a:(nxB xs b).size=b.size:=rfl;simp only[kx0,aq,e,c,a,ih]
theorem zV{n:Nat}(h:Small n E)(hi:i<16\/19<=i/\i<112):wd (aj ws E) i=wd ws i:=bg _ _ _ λe a=>by have:=(h.ins e a).1;omega
theorem px(hi:i<16\/19<=i/\i<112):∀n x,(∀v∈x,v<18446744073709551616)->mzS p x<=n->(dh p x).1=0->wd (dh p x).2.2 i=wd x i:=by
 intro n
 induction n with
 | zero =>
  intro x c h _;have a:wd x 16≠p:=λa=>by unfold mzS at h;rw[if_pos a] at h;omega
  rw[cM a]
 | succ n ih =>
  intro x c h d;by_cases a:wd x 16=p
  .by_cases f:(ac x).1=6
   .rw[kJ a f]
   by_cases b:(ac x).1=0
   .have hd:=fL c a b;rw[dH c a b] at d |-;by_cases e:(dh p (aj x (ac x).2)).1=0
    .rw[if_pos e];have:=ih (aj x (ac x).2) (dy c b) (by omega) e;exact this.trans (zV (lI c b).2.1 hi)
    rw[if_neg e] at d;exact absurd d e
   rw[oZ a f b] at d;exact absurd d b
  rw[cM a]
def HsL (ws xs:List Nat):Prop:=∀i:Nat,19<=i->wd xs i=wd ws i\/∃b∈aa ws,(i:Int)=b.at_
theorem C9(hE:∀e∈E,e.a<19\/∃b∈aa x,e.a=b.at_):HsL x (aj x E):=λi h19=>by
 by_cases c:∃b∈aa x,(i:Int)=b.at_
 .exact .inr c
 .refine .inl (bg _ _ _ λe h g=>?_);rcases hE e h with d|⟨b,f,d⟩
  .omega
  .exact c ⟨b,f,by rw[<-d,g]⟩
theorem tY(h:aF x=0):∀e∈aN x,∃b∈aa x,e.a=b.at_:=λe d=>by obtain⟨a,c,-,-,-,-,-,rfl,-⟩:=dN h d;exact⟨_,c,(ab x a).symm⟩
theorem Ar:∀n x,(∀v∈x,v<18446744073709551616)->mzS 1 x<=n->wd x 16=1->aw x=0->aF x=0->RmL x (dh 1 x).2.2/\HsL x (dh 1 x).2.2/\aF (dh 1 x).2.2=0/\dY (dh 1 x).2.2=dY x/\ed (aa (dh 1 x).2.2)=dY x:=by
 intro n
 induction n with
 | zero=>intro x _ h g;exfalso;unfold mzS at h;rw[if_pos g] at h;omega
 | succ n ih =>
  intro x m h g o a;have e:ac x=(0,gE (aN x) 2):=by unfold ac;rw[if_pos o,if_pos g,if_pos a]
  have j:(ac x).1=0:=by rw[e]
  have hd:=fL m g j;obtain⟨-,-,M,-,-,-,-,-⟩:=lI m j;obtain⟨J,r2⟩:=oM a;obtain⟨g1,g2,g3,k,g5,g6⟩:=fD o g (.inl rfl) (dJ a) (λy F=>by
   obtain⟨i,s⟩:=kjv.1 F;exact J i y s) (o0 a)
  simp only[Nat.reduceAdd] at k;rw[dH m g j];by_cases c:32<=(aN x).length
  .rw[if_pos c] at k;obtain⟨d,l⟩:=D9 g j c;have p:RmL x (aj x (ac x).2):=by rw[e,ce c];exact (ip a (kjo 31 _)).toL
   have t:HsL x (aj x (ac x).2):=by rw[e,ce c];exact C9 λe r=>.inr (tY a e (kxq r))
   have q:wd (aj x (ac x).2) 16=1:=by rw[e];exact k
   have f:aw (aj x (ac x).2)=0:=vv M (by omega) (by omega) (av d).1;obtain⟨C,-⟩:=tR _ _ (dy m j) (kqb _) q f d;obtain⟨A,D,I,K,E⟩:=ih _ (dy m j) (by omega) q f d;rw[if_pos C];refine⟨p.trans A,λi s=>?_,I,K.trans l,E.trans l⟩;rcases D i s with w|⟨b,z,w⟩
   .rw[w];exact t i s
   rw[(p.heap (av a).1).2] at z;obtain⟨B,u,rfl⟩:=kzy.1 z;exact .inr ⟨B,u,w⟩
  rw[if_neg c] at k;have p2':wd (aj x (ac x).2) 16=2:=by rw[e];exact k
  rw[cM (by omega),if_pos rfl];rw[e,gq c];obtain⟨H,L,l3,G⟩:=Dg a 2;refine⟨sT a 2,C9 λe r=>?_,H,L,G⟩;rcases kq0.1 r with rfl|r
  .exact .inl (by dsimp only;omega)
  exact .inr (tY a e r)
theorem DC(hhp:ag x=0):NxL x (aj x (gE (aG x) 3)):=by
 have f:∀e∈aG x,∃b∈aa x,e.a=b.at_+1:=by intro e c;rw[qv hhp] at c;obtain⟨b,g,-,h⟩:=fY c;exact⟨b,g,h⟩
 refine oU λe c=>?_;by_cases d:32<=(aG x).length
 .rw[ce d] at c;exact .inr (f e (kxq c))
 rw[gq d] at c;rcases kq0.1 c with rfl|c
 .exact .inl (by dsimp only;omega)
 exact .inr (f e c)
theorem NxL.mkd(h:NxL ws xs)(h0:ag ws=0):ed (aa xs)=ed (aa ws)/\aq (aa xs) 128=aq (aa ws) 128:=by rw[((h.ev h0).heap h0).2];exact⟨mkd_nx _ _,sQ _ _ _⟩
theorem Ew:∀n x,(∀v∈x,v<18446744073709551616)->mzS 2 x<=n->wd x 16=2->aw x=0->NxL x (dh 2 x).2.2/\aG (dh 2 x).2.2=[]:=by
 intro n
 induction n with
 | zero=>intro x _ h f;exfalso;unfold mzS at h;rw[if_pos f] at h;omega
 | succ n ih =>
  intro x j h f b;have a:ag x=0:=by have:=b;unfold aw at this;rw[if_pos (iX b),if_neg (by omega),if_neg (by omega)] at this;exact this
  have e:ac x=(0,gE (aG x) 3):=by unfold ac;rw[if_pos b,if_neg (by omega),if_pos f,if_pos a]
  have g:(ac x).1=0:=by rw[e]
  have hd:=fL j f g;obtain⟨-,-,w,-,-,-,-,-⟩:=lI j g;obtain⟨t,q,u⟩:=nT a;obtain⟨g1,g2,g3,i,m,g6⟩:=fD b f (.inr rfl) t q u;simp only[Nat.reduceAdd] at i m;have l:NxL x (aj x (ac x).2):=by rw[e];exact DC a
  rw[dH j f g];by_cases d:32<=(aG x).length
  .rw[if_pos d] at i;have k:wd (aj x (ac x).2) 16=2:=by rw[e];exact i
   have c:aw (aj x (ac x).2)=0:=vv w (by omega) (by omega) (tf f g).1;obtain⟨p,-⟩:=tB _ _ (dy j g) (kqb _) k c;obtain⟨o,s⟩:=ih _ (dy j g) (by omega) k c;rw[if_pos p];exact⟨l.trans a o,s⟩
  rw[if_neg d] at i;have p3':wd (aj x (ac x).2) 16=3:=by rw[e];exact i
  obtain⟨f1,-,r,y⟩:=t7 a d;rw[cM (by omega),if_pos rfl];refine⟨l,?_⟩;rw[e,qv r,y];exact nr
theorem Fc(h:aF x=0)(hm:ed (aa x)=dY x):aN x=[]:=by
 obtain⟨m,-,-⟩:=av h;rw[dS h,show ku (seenL x) (aa x)=[] from ?_]
 .rfl
 unfold ku;rw[kj6];intro b i;obtain⟨a,rfl,a1,a2,n,a4⟩:=(cb m).1 b i;have f:(bkAt x a).mark=cE x (bkAt x a):=by
  rw[kzk,cY n];constructor
  .intro p;have d:((a:Nat):Int)∈ed (aa x):=by unfold ed;exact kzy.2 ⟨bkAt x a,kzu.2 ⟨i,p⟩,ab x a⟩
   rw[hm,fZ h] at d;obtain⟨o,e,-,j⟩:=d;obtain rfl:a=o:=by omega
   exact j
  intro j;have d:((a:Nat):Int)∈dY x:=(fZ h _).2 ⟨a,rfl,n,j⟩;rw[<-hm] at d;unfold ed at d;obtain⟨c,q,k⟩:=kzy.1 d;obtain⟨g,l⟩:=kzu.1 q;have r:=mf (cb m).2 g i (by rw[k,ab]);rw[<-r];exact l
 unfold cE at f;unfold di;rw[f];simp
theorem il{l:List En}{a:Int}{v:Nat}(h:(i:Int)≠a):wd (aj x (⟨a,v⟩::l)) i=wd (aj x l) i:=by
 simp only[aj];split
 .refine la (by rw[kza]) ?_;unfold wd;rw[kxr (by omega)]
 rfl
theorem Hd.trans(h0:ag ws=0)(h:Hd ws xs)(g:Hd xs ys):Hd ws ys:=by refine⟨g.len.trans h.len,λi d c=>(g.low i d c).trans (h.low i d c),λb a=>?_⟩;obtain⟨f,e⟩:=h.blk b a;obtain⟨k,j⟩:=g.blk b (by rw[(h.heap h0).2];exact a);exact⟨k.trans f,j.trans e⟩
theorem Hd.rs(h:Hd ws xs)(h0:ag ws=0)(a:Int):bK xs a=bK ws a:=by
 have c:=h.heap h0;have d:aU xs 128=aU ws 128:=by rw[(fa c.1).2.1,(fa h0).2.1,c.2]
 unfold bK;rw[if_pos c.1,if_pos h0,d];cases f:jJ (aU ws 128) a with
 | none=>rfl
 | some b =>obtain⟨e,b2,g⟩:=ib f;rw[(fa h0).2.1] at e;obtain⟨j,i⟩:=h.ty h0 e g;dsimp only;unfold cU rx;rw[j,i]
def Mk (ws:List Nat) (m:Nat):Prop:=bkAt ws m∈aa ws/\(bkAt ws m).mark=true
theorem oz(h0:ag ws=0)(h:Mk ws m):eg ws m/\(bkAt ws m).kind=1:=by
 have c:(bkAt ws m).kind=1:=iR (fa h0).2.2.2 (by omega) _ h.1 h.2;obtain⟨k,b,e⟩:=kqv h.1;obtain⟨a,d,g⟩:=lw h0 b (by rw[e];exact c);rw[e] at d;have f:=congrArg Bk.at_ d;rw[ab,ab] at f;obtain rfl:m=a:=by omega
 exact⟨g,c⟩
theorem Hd.mks(h:Hd ws xs)(h0:ag ws=0):Mk xs m↔Mk ws m:=by
 constructor
 .rintro ⟨a,b⟩;obtain⟨g,f⟩:=wN h h0 a;exact⟨g,by rw[<-f];exact b⟩
 rintro ⟨a,b⟩;obtain⟨d,c⟩:=h.blk _ a;rw[ab,kqj] at d c;have e:bkAt xs m=bkAt ws m:=by unfold bkAt;rw[d,c]
 exact⟨by rw[(h.heap h0).2,e];exact a,by rw[e];exact b⟩
theorem C8(h0:ag ws=0){k0:Nat}(hk:k0<=(aa ws).length)(hb:blocks ws c=some ((aa ws).drop k0))(hj:j<(aa ws).length)(hc:(c:Int)<=(aa ws)[j].at_):k0<=j:=by
 rcases kq6 j k0 with g|b
 .exfalso;obtain⟨a,i,a1,a2,a3,a4⟩:=(cb h0).1 _ (kqs hj);rw[i,ab] at hc;have d:c<ws.length:=by omega
  obtain⟨l,k,-⟩:=bN hb d;rw[kxf] at l;have f:k0<(aa ws).length:=by omega
  have e:(aa ws)[k0]=bkAt ws c:=by rw[<-k];unfold gk;rw[kjw,kqm (by omega),kq4];rfl
  have h:=(cb h0).2;rw[kzf] at h;have:=h j k0 hj f g;rw[e,i,ab,ab] at this;omega
 exact b
theorem ED(h0:ag ws=0)(hb:Bd ws c)(hc:c<=ws.length):c%2=0:=by
 obtain⟨-,b,hk0,i⟩:=hb;have hs:=(af _).1 (al h0).1;by_cases he:c=ws.length
 .omega
 obtain⟨h,f,-⟩:=bN i (by omega);rw[kxf] at h;obtain⟨a,d,a1,a2,-⟩:=(cb h0).1 _ (kqs (show b<(aa ws).length by omega));have e:(aa ws)[b]'(by omega)=bkAt ws c:=by rw[<-f];unfold gk;rw[kjw,kqm (by omega),kq4];rfl
 rw[e] at d;have g:=congrArg Bk.at_ d;rw[ab,ab] at g;omega
theorem bd_gap(h0:ag ws=0)(hb:Bd ws c)(hn:bp ws (c:Int)=0)(e:iE ws (c:Int)=bkAt ws m)(hm:Mk ws m')(hc:c<=m'):m<=m':=by
 obtain⟨r,q⟩:=hm;obtain⟨h1,a,g,d⟩:=hb;obtain⟨-,-,-,t,v,p1,-,p3,-,p5,-,-,-,l,p,-,-,k,u,s,w⟩:=eK hn;have x:t=m:=by have:=v.symm.trans e;have n:=congrArg Bk.at_ this;rw[ab,ab] at n;omega
 subst x;rw[p] at d;obtain rfl:=Option.some.inj d;obtain⟨j,h,b⟩:=kqv r;have hj0:=C8 h0 g p h (by rw[b,ab];omega);rw[kxf] at u;rcases kq6 (j-a) k with i|hge
 .exfalso;have:=s (j-a) i;unfold gk at this;rw[kjw,show a+(j-a)=j by omega,kqm h,kq4,b,q] at this;cases this
 obtain⟨f1,f,-⟩:=bN w (by omega);unfold gk at f;rw[kxv,kjw,kz6,kqm (by omega),kq4] at f;have o:=(cb h0).2;rw[kzf] at o;by_cases y:j=a+k
 .subst y;rw[f] at b;have n:=congrArg Bk.at_ b;rw[ab,ab] at n;omega
 have:=o (a+k) j (by omega) h (by omega);rw[f,b,ab,ab] at this;omega
theorem zI(h0:ag ws=0)(hb:Bd ws c)(hcl:c<=ws.length)(hn:bp ws (c:Int)≠0)(hm:Mk ws m'):¬ c<=m':=by
 intro hc;have o:=ED h0 hb hcl;obtain⟨l,k⟩:=hm;obtain⟨n,e,f,a⟩:=hb;obtain⟨j,h,g⟩:=kqv l;have hj0:=C8 h0 f a h (by rw[g,ab];omega);have b:bkAt ws m'∈(aa ws).drop e:=by rw[<-g];refine kk5.2 ⟨j-e,by rw[kxf];omega,?_⟩;rw[kjn];congr 1;omega
 have d:0<(ed ((aa ws).drop e)).length:=by
  have:((m':Nat):Int)∈ed ((aa ws).drop e):=by unfold ed;exact kzy.2 ⟨bkAt ws m',kzu.2 ⟨b,k⟩,ab ws m'⟩
  exact List.length_pos_of_mem this
 obtain⟨m,z,l',i,-⟩:=mr (al h0).1 n hcl o a d;exact hn i
theorem ir(h0:ag ws=0)(h:Mk ws m)(h':Mk ws m')(hlt:m<m'):m+szAt ws m<=m':=by have:=hG h0 (oz h0 h).1 h'.1;rw[ab] at this;omega
theorem ti(h0:ag ws=0)(h:Mk ws m)(h':Mk ws m')(hr:r∈bK ws (m:Int))(hr':r∈bK ws (m':Int)):m=m':=by
 obtain⟨i,e1,-,e2,-⟩:=gV h0 hr;obtain⟨i',f1,-,f2,-⟩:=gV h0 hr';rcases kjp m m' with a|a|a
 .have:=ir h0 h h' a;omega
 .exact a
 have:=ir h0 h' h a;omega
theorem Cm(h0:ag ws=0):∀k a,ws.length-a<=k->a<=ws.length->Bd ws a->yz ws a->(iK ws a=(0,bG)/\∀m:Nat,Mk ws m->a<=m->bK ws (m:Int)=[])\/∃m:Nat,a<=m/\m+szAt ws m<=ws.length/\2<=szAt ws m/\Mk ws m/\iK ws a=(0,⟨17,m+szAt ws m⟩::cr ws (m:Int))/\∀b:Nat,Mk ws b->a<=b->b < m->bK ws (b:Int)=[]:=by
 intro k
 induction k with
 | zero =>
  intro a F l n s;by_cases d:bp ws (a:Int)=0
  .obtain ⟨-,-,-,m,e,-⟩:=eK d;obtain⟨u,x,r,-⟩:=pB n d e;omega
  exact .inl ⟨iu d,λm t f=>absurd f (zI h0 n l d t)⟩
 | succ k ih =>
  intro a F l n s;by_cases d:bp ws (a:Int)=0
  .obtain ⟨-,-,-,m,e,-⟩:=eK d;obtain⟨u,x,r,C,w,v,n7⟩:=pB n d e;have g:=λb (c:Mk ws b) (f:a<=b)=>bd_gap h0 n d e c f;have h:Mk ws m:=⟨w,v⟩;by_cases p:bK ws (m:Int)=[]
   .rw[iZ d e p];rcases ih (m+szAt ws m) (by omega) r C (λb j q h3=>s b j q (by omega)) with⟨y,B⟩|⟨b,j1,G,H,A,z,D⟩
    .refine .inl ⟨y,λb c f=>?_⟩;rcases kq6 m b with j|j
     .exact B b c (ir h0 h c j)
     have:=g b c f;obtain rfl:m=b:=by omega
     exact p
    refine .inr ⟨b,by omega,G,H,A,z,λo i f q=>?_⟩;rcases kq6 m o with j|j
    .exact D o i (ir h0 h i j) q
    have:=g o i f;obtain rfl:m=o:=by omega
    exact p
   have E:=s m w v u;refine .inr ⟨m,u,r,x,h,mC d e p E,λb c f q=>?_⟩;have:=g b c f;omega
  exact .inl ⟨iu d,λm t f=>absurd f (zI h0 n l d t)⟩
theorem mI(hob:cG x (m:Int)=0)(h17:j≠17)(hj:∀r∈bK x (m:Int),r≠(j:Int)):wd (aj x (⟨17,f⟩::cr x (m:Int))) j=wd x j:=by
 obtain⟨g,-,-,-,-,q5,k,l,c,p⟩:=gy hob;refine bg _ _ _ λe b o=>?_;rcases kq0.1 b with rfl|b
 .dsimp only at o;omega
 obtain⟨r,n,r2,q,r4⟩:=c e b;obtain rfl:r=j:=by omega
 have s:=l r (λi d h=>hj _ (kqs d) (by rw[(k i d).1,h]));have a:=dQ _ x p e b (by omega) (by omega);rw[n,kqj,s] at a;exact q a
theorem ob_hd(hp:ag x=0)(hob:cG x (m:Int)=0):Hd x (aj x (⟨17,f⟩::cr x (m:Int))):=by
 refine⟨aE _ _,λi h1 h2=>mI hob (by omega) λr g e=>?_,λb h=>?_⟩
 .obtain ⟨k,j,-,-,d⟩:=gV hp g;have:=d.1;omega
 obtain⟨a,rfl,a1,a2,-⟩:=(cb hp).1 b h;have c:(bkAt x a).at_=(a:Int):=ab x a;rw[c,kqj];refine⟨mI hob (by omega) λr g e=>?_,mI hob (by omega) λr g e=>?_⟩
 .obtain ⟨k,j,n,l,d⟩:=gV hp g;have:=hG hp d h;rw[c] at this;omega
 obtain⟨k,j,n,l,d⟩:=gV hp g;have:=hG hp d h;rw[c] at this;omega
structure FxT (ws xs:List Nat) (c:Nat):Prop where
 hd:Hd ws xs
 sl:∀i,i<16->slAt xs i=nwS ws (gj ws 128 128) i
 done:∀m:Nat,Mk ws m->m<c->∀r∈bK ws (m:Int),Ah ws xs (gj ws 128 128) r.toNat
 todo:∀m:Nat,Mk ws m->c<=m->∀r∈bK ws (m:Int),wd xs r.toNat=wd ws r.toNat
 off:∀i:Nat,128<=i->(∀m:Nat,Mk ws m->(i:Int) ∉ bK ws (m:Int))->wd xs i=wd ws i
theorem yp(hfs:dm x=0):FxT x (aj x (⟨17,128⟩::dd x)) 128:=by
 obtain⟨-,g,-,-,-,-,-,p,q2,q3,n,-⟩:=jE hfs;have b:∀e∈(⟨17,128⟩::dd x:List En),e.a<19\/112<=e.a/\e.a<128:=λe d=>by
  rcases kq0.1 d with rfl|d
  .exact .inl (by dsimp only;omega)
  exact .inr (p e d).1
 have c:∀i:Nat,128<=i->wd (aj x (⟨17,128⟩::dd x)) i=wd x i:=λi f=>bg _ _ _ λe d h=>by
  rcases b e d with j|j<;>omega
 refine⟨sP g b,λi f=>?_,λm k j=>?_,λm k j r l=>?_,λi f _=>c i f⟩
 .rw[<-n i f];unfold slAt;rw[il (by omega)]
 .have:=(oz g k).1.1;omega
 obtain⟨i,rfl,-,-,o⟩:=gV g l;rw[kqj];exact c _ (by have:=o.1;omega)
theorem AB(h0:ag ws=0)(hr0:bi ws 128 128=0)(hx:FxT ws x c)(hm:Mk x m)(hcm:c<=m)(hob:cG x (m:Int)=0)(hno:∀a:Nat,Mk x a->c<=a->a < m->bK x (a:Int)=[]):FxT ws (aj x (⟨17,m+szAt x m⟩::cr x (m:Int))) (m+szAt x m):=by
 have t:=(hx.hd.heap h0).1;have z:Mk ws m:=(hx.hd.mks h0).1 hm;have s:=hx.hd.rs h0;obtain⟨hrx,A⟩:=hx.hd.rd h0 hr0;have hsz:=ax (oz t hm).1.2.2.2.1;refine⟨hx.hd.trans h0 (ob_hd t hob),λi B=>?_,λa k hlt r f=>?_,λa k hle r f=>?_,λi B o=>?_⟩
 .rw[<-hx.sl i B];unfold slAt;rw[mI hob (by omega) λr f h=>?_];obtain⟨i',C,-,-,q⟩:=gV t f;have:=q.1;omega
 .have l:r∈bK x (a:Int):=by rw[s];exact f
  have d:Mk x a:=(hx.hd.mks h0).2 k;rcases kjp a m with u|u|u
  .rcases kq6 a c with y|y
   .have b:=hx.done a k y r f;obtain⟨i,rfl,-,-,q⟩:=gV h0 f;rw[kqj] at b |-;have e:wd (aj x (⟨17,m+szAt x m⟩::cr x (m:Int))) (a+2+i)=wd x (a+2+i):=mI hob (by have:=q.1;omega) λr p h=>by
     subst h;have:=ti t hm d p l;omega
    unfold Ah at b |-;rw[e];exact b
   rw[hno a d y u] at l;cases l
  .subst u;have n:=hx.todo a k hcm r f;obtain⟨g,-,-,-,-,q5,D,-⟩:=gy hob;obtain⟨j,E,w⟩:=kqv l;obtain⟨C,-,-,v⟩:=D j E;obtain⟨i,rfl,-,-,q⟩:=gV h0 f;rw[C] at w;have w:g j=a+2+i:=by omega
   rw[w,A] at v;rw[kqj] at n |-;have e:wd (aj x (⟨17,a+szAt x a⟩::cr x (a:Int))) (a+2+i)=wd (aj x (cr x (a:Int))) (a+2+i):=il (by have:=q.1;omega);unfold Ah at v |-;rw[e,<-n];rw[hx.hd.len] at v;exact v
  have:=ir t hm d u;omega
 .have d:Mk x a:=(hx.hd.mks h0).2 k;have l:r∈bK x (a:Int):=by rw[s];exact f
  have b:=hx.todo a k (by omega) r f;obtain⟨i,rfl,-,-,q⟩:=gV h0 f;rw[kqj] at b |-;rw[mI hob (by have:=q.1;omega) λr p h=>?_]
  .exact b
  subst h;have:=ti t hm d p l;omega
 rw[mI hob (by omega) λr f h=>?_]
 .exact hx.off i B o
 subst h;rw[s] at f;exact o m z f
theorem EQ(h0:ag ws=0)(hx:FxT ws x c)(hno:∀m:Nat,Mk x m->c<=m->bK x (m:Int)=[]):FxT ws (aj x bG) ws.length:=by
 have o:=(hx.hd.heap h0).1;have l:=hx.hd.rs h0;have b:∀i:Nat,19<=i->wd (aj x bG) i=wd x i:=λi k=>bg _ _ _ λe f h=>by
  simp only[bG,kq0,kzs,or_false] at f;rcases f with rfl|rfl|rfl<;>(dsimp only at h;omega)
 have hd:Hd x (aj x bG):=sP o λe f=>by
  simp only[bG,kq0,kzs,or_false] at f;rcases f with rfl|rfl|rfl<;>exact .inl (by dsimp only;omega)
 refine⟨hx.hd.trans h0 hd,λi k=>?_,λm j hlt r g=>?_,λm j hle=>?_,λi k d=>(b i (by omega)).trans (hx.off i k d)⟩
 .rw[<-hx.sl i k];unfold slAt;rw[b _ (by omega)]
 .rcases kq6 m c with n|n
  .have a:=hx.done m j n r g;obtain⟨i,rfl,-,-,p⟩:=gV h0 g;rw[kqj] at a |-;unfold Ah at a |-;rw[b _ (by have:=p.1;omega)];exact a
  have:=hno m ((hx.hd.mks h0).2 j) n;rw[l] at this;rw[this] at g;cases g
 have:=(oz h0 j).1.2.2.1;omega
theorem BK(h0:ag ws=0)(hr0:bi ws 128 128=0):∀n x,(∀v∈x,v<18446744073709551616)->mzS 3 x<=n->I3 x->wd x 17≠0->FxT ws x (wd x 17)->FxT ws (dh 3 x).2.2 ws.length:=by
 intro n
 induction n with
 | zero=>intro x _ h a;exfalso;have:=a.p3;unfold mzS at h;rw[if_pos this] at h;omega
 | succ n ih =>
  intro x d h a z s;obtain⟨k,c⟩:=pj d a;have hd:=fL d a.p3 k;have p3:=a.p3;have e:ac x=iK x (wd x 17):=by unfold ac;rw[if_pos a.ck,if_neg (by omega),if_neg (by omega),if_pos p3];unfold dp;rw[if_neg z]
  obtain⟨-,A,E,hph⟩:=ch a.ck;have hb:=(af _).1 A;obtain⟨⟨l1,D,l3⟩,-⟩:=(aY x).1 E;have l:Bd x (wd x 17):=by
   refine Fi a.hp ?_;have b:=iX a.ck;unfold cF at b;by_cases f:nn x (wd x 17)=true
   .exact f
   split at b
   .rw[if_pos ⟨p3,z,by simpa using f⟩] at b;cases b
   exact absurd b (by assumption)
  rw[dH d p3 k];rcases Cm a.hp _ (wd x 17) (kqb _) D l a.fx with⟨F,y⟩|⟨m,w,m2,m3,i,C,B⟩
  .rw[F] at e;have o:wd (aj x (ac x).2) 16=4:=by rw[e];exact (gu a.ck p3).2.2.2.1
   rw[cM (by omega),if_pos rfl,e];exact EQ h0 s y
  rw[C] at e;have g:cG x (m:Int)=0:=a.fx m i.1 i.2 w;have u:=Bq g;have hm128:=(oz a.hp i).1.1;have q:wd (aj x (ac x).2) 17=m+szAt x m:=by rw[e];exact kc (j:=17) (by omega) λe r=>by have:=(u e r).1;omega
  have o:wd (aj x (ac x).2) 16=3:=by rw[e,il (by omega),bg _ _ _ λe r=>by have:=(u e r).1;omega];exact p3
  have t:I3 (aj x (ac x).2):=by
   rcases c with c|⟨g1,-⟩
   .exact c
   omega
  have p:=(pE _ _ (dy d k) (kqb _) t).1;rw[if_pos p];refine ih _ (dy d k) (by omega) t (by omega) ?_;rw[q,e];exact AB h0 hr0 s i w g B
theorem DD(ho:∀v∈x,v<18446744073709551616)(h3:I3 x)(z:wd x 17=0):FxT x (dh 3 x).2.2 x.length:=by
 obtain⟨g,a⟩:=pj ho h3;have p3:=h3.p3;have b:=h3.sl z;have f:=h3.rd;have e:ac x=(0,⟨17,128⟩::dd x):=by unfold ac;rw[if_pos h3.ck,if_neg (by omega),if_neg (by omega),if_pos p3];unfold dp;rw[if_pos z,if_pos b]
 obtain⟨h256,-,-,-,-,-,-,i,-⟩:=jE b;have c:wd (aj x (ac x).2) 17=128:=by rw[e];exact kc (j:=17) (by omega) λe h=>by have:=(i e h).1;omega
 have h16:wd (aj x (ac x).2) 16=3:=by rw[e,il (by omega),bg _ _ _ λe h=>by have:=(i e h).1;omega];exact p3
 have k:I3 (aj x (ac x).2):=by
  rcases a with a|⟨g1,-⟩
  .exact a
  omega
 have d:=(pE _ _ (dy ho g) (kqb _) k).1;rw[dH ho p3 g,if_pos d];refine BK h3.hp f _ _ (dy ho g) (kqb _) k (by omega) ?_;rw[c,e];exact yp b
def MvW (ws xs:List Nat) (m t:Nat):Prop:=wd xs t=cC { ah (wd ws m) with mark:=false }/\wd xs (t+1)=0/\∀j,2<=j->j<szAt ws m->wd xs (t+j)=wd ws (m+j)
structure SlT (ws xs:List Nat) (k F T:Nat):Prop where
 len:xs.length=ws.length
 low:∀i,19<=i->i<128->wd xs i=wd ws i
 up:∀i,T<=i->128<=i->wd xs i=wd ws i
 kle:k<=(aa ws).length
 bl:blocks ws F=some ((aa ws).drop k)
 to:aD ((aa ws).take k) 128=(T:Int)
 mv:∀p∈aq ((aa ws).take k) 128,∃m t:Nat,p=((m:Int),(t:Int))/\MvW ws xs m t/\128<=t/\t+szAt ws m<=T/\2<=szAt ws m
theorem unlive(h:b.mark=false):aA b=false:=by unfold aA;rw[h];simp
theorem ug:∀ {l:List Bk} {s:Int},eM l l.length->aD l s=s/\aq l s=[]:=by
 intro l
 induction l with
 | nil=>intro s _;exact⟨rfl,rfl⟩
 | cons b l ih =>
  intro s h;have d:b.mark=false:=h 0 (by simp);obtain⟨e,a⟩:=ih (s:=s) λj c=>by have:=h (j+1) (by simpa using c);rwa [ii] at this
  simp only[aD,aq,unlive d];exact⟨e,a⟩
theorem rZ{l:List Bk}(hk:k<=l.length)(h:eM l k):eM (l.take k) (l.take k).length:=by intro j a;rw[kzd] at a;have:=h j (by omega);unfold gk at this |-;rw[List.getElem?_take,if_pos (by omega)];exact this
theorem Ct(hck:aw x=0)(p4:wd x 16=4)(hnx:bp x ((wd x 17:Nat):Int)=0)(h0:(ac x).1=0)(em:iE x ((wd x 17:Nat):Int)=bkAt x m):ac x=(0,⟨17,m+szAt x m⟩::⟨18,wd x 18+szAt x m⟩::iG x m (wd x 18))/\eW x (m:Int) ((wd x 18:Nat):Int)=0:=by
 have e:ac x=eO x:=by unfold ac;rw[if_pos hck,if_neg (by omega),if_neg (by omega),if_neg (by omega),if_pos p4]
 rw[e] at h0 |-;have a:eW x (m:Int) ((wd x 18:Nat):Int)=0:=by
  by_cases b:eW x (m:Int) ((wd x 18:Nat):Int)=0
  .exact b
  unfold eO at h0;rw[if_pos hnx,em,ab,if_neg b] at h0;exact absurd h0 b
 refine⟨?_,a⟩;unfold eO;rw[if_pos hnx,em,ab,if_pos a,aP,show ((m:Int)+((szAt x m:Nat):Int)).toNat=m+szAt x m by omega,show (((wd x 18:Nat):Int)+((szAt x m:Nat):Int)).toNat=wd x 18+szAt x m by omega];unfold jH;rw[if_pos a,kqj,kqj]
theorem Bl{u:Nat}(hin:u+szAt x a<=x.length)(h19:19<=i):wd (aj x (⟨17,f⟩::⟨18,u+szAt x a⟩::iG x a u)) i=if u<=i/\i<u+szAt x a then (if i=u then cC { ah (wd x a) with mark:=false } else if i=u+1 then 0 else wd x (a+(i-u))) else wd x i:=by
 rw[il (by omega),il (by omega),wZ hin,qr _ _ _ _ (by rw[gc];exact hin),gc];by_cases h:u<=i/\i<u+szAt x a
 .rw[if_pos h,if_pos h,jT _ _ _ (by omega),kq4];by_cases c:i=u
  .rw[if_pos (by omega),if_pos c]
  rw[if_neg (by omega),if_neg c];by_cases b:i=u+1
  .rw[if_pos (by omega),if_pos b]
  rw[if_neg (by omega),if_neg b]
 rw[if_neg h,if_neg h]
theorem Cv(hx:SlT ws x k F T)(h128:128<=T)(hTF:T<=F)(hn:bp x (F:Int)=0)(e:iE x (F:Int)=bkAt x m):∃k',SlT ws (aj x (⟨17,m+szAt x m⟩::⟨18,T+szAt x m⟩::iG x m T)) k' (m+szAt x m) (T+szAt x m)/\F<=m/\aq ((aa ws).take k') 128=aq ((aa ws).take k) 128++[((m:Int),(T:Int))]:=by
 obtain⟨-,-,-,b,V,A,p2,p3,p4,p5,p6,L,J,l,q1,-,-,d,S,R,W⟩:=eK hn;have em:b=m:=by have:=V.symm.trans e;have h3:=congrArg Bk.at_ this;rw[ab,ab] at h3;omega
 subst em;have c:∀i,F<=i->wd x i=wd ws i:=λi N=>hx.up i (by omega) (by omega);have w:blocks ws F=blocks x F:=(eG hx.len F λj K=>c j K).symm;rw[hx.bl,q1] at w;obtain rfl:=Option.some.inj w;rw[kxf] at S;have q:k+d<(aa ws).length:=by omega
 have B:blocks ws b=some (((aa ws).drop k).drop d):=by rw[<-W];exact (eG hx.len b λj K=>c j (by omega)).symm
 have v:szAt x b=szAt ws b:=by unfold szAt;rw[c b A]
 have E:bkAt x b=bkAt ws b:=by unfold bkAt;rw[c b A,c (b+1) (by omega)]
 obtain⟨f1,Q,f3,P⟩:=bN B (by rw[<-hx.len];omega);rw[kxv,kxv] at P;have o:(aa ws)[k+d]=bkAt ws b:=by rw[<-Q];unfold gk;rw[kxv,kjw,kz6,kqm q,kq4]
 have r:(aa ws).take (k+d+1)=(aa ws).take k++(((aa ws).drop k).take d++[bkAt ws b]):=by rw[kqq q,o,List.take_add,kku]
 have H:=rZ (l:=(aa ws).drop k) (k:=d) (by rw[kxf];omega) R;obtain⟨O,n2⟩:=ug (s:=(T:Int)) H;have y:aA (bkAt ws b)=true:=by rw[E] at L J;unfold aA;rw[L,J];rfl
 have z:aD ((aa ws).take (k+d+1)) 128=((T+szAt x b:Nat):Int):=by rw[r,gz,gz,hx.to,O];simp only[aD,y,if_true];rw[aP,v];omega
 have h:aq ((aa ws).take (k+d+1)) 128=aq ((aa ws).take k) 128++[((b:Int),(T:Int))]:=by rw[r,fl,fl,hx.to,O,n2];simp only[aq,y,if_true,kz5];rw[ab]
 have C:T+szAt x b<=x.length:=by omega
 have g:=λi (N:19<=i)=>Bl (x:=x) (a:=b) (f:=b+szAt x b) (u:=T) (i:=i) C N;refine⟨k+d+1,⟨?_,λi G D=>?_,λi G D=>?_,by omega,?_,z,λp n=>?_⟩,A,h⟩
 .rw[aE];exact hx.len
 .rw[g i G,if_neg (by omega)];exact hx.low i G D
 .rw[g i (by omega),if_neg (by omega)];exact hx.up i (by omega) D
 .rw[v,P,kj3]
 rw[h] at n;rcases kzt.1 n with n|n
 .obtain ⟨a,t,rfl,⟨X,U,Y⟩,Z,t2,t3⟩:=hx.mv p n;refine⟨a,t,rfl,⟨?_,?_,λj I M=>?_⟩,Z,by omega,t3⟩
  .rw[g _ (by omega),if_neg (by omega)];exact X
  .rw[g _ (by omega),if_neg (by omega)];exact U
  rw[g _ (by omega),if_neg (by omega)];exact Y j I M
 rw[kq7] at n;subst n;refine⟨b,T,rfl,⟨?_,?_,λj I M=>?_⟩,h128,by omega,by omega⟩
 .rw[g _ (by omega),if_pos (by omega),if_pos rfl,c b A]
 .rw[g _ (by omega),if_pos (by omega),if_neg (by omega),if_pos rfl]
 rw[g _ (by omega),if_pos (by omega),if_neg (by omega),if_neg (by omega),show T+j-T=j by omega];exact c _ (by omega)
structure SlE (ws xs:List Nat) (T:Nat):Prop where
 len:xs.length=ws.length
 low:∀i,19<=i->i<128->wd xs i=wd ws i
 up:∀i,T<=i->128<=i->wd xs i=wd ws i
 to:aD (aa ws) 128=(T:Int)
 mv:∀p∈aq (aa ws) 128,∃m t:Nat,p=((m:Int),(t:Int))/\MvW ws xs m t/\128<=t/\t+szAt ws m<=T/\2<=szAt ws m
theorem Ed(h0:ag ws=0)(hx:SlT ws x k F T)(h128:128<=T)(hTF:T<=F)(hFl:F<=ws.length)(hF2:F%2=0)(hn:bp x (F:Int)≠0):SlE ws x T:=by
 have e:∀i,F<=i->wd x i=wd ws i:=λi hi=>hx.up i (by omega) (by omega);have c:blocks x F=some ((aa ws).drop k):=by rw[eG hx.len F λj a=>e j a];exact hx.bl
 have hz:(ed ((aa ws).drop k)).length=0:=by
  rcases kxy (ed ((aa ws).drop k)).length with d|d
  .exact d
  obtain⟨m,z,l',h,-⟩:=mr (by rw[hx.len];exact (al h0).1) (by omega) (by rw[hx.len];exact hFl) hF2 c d;exact absurd h hn
 have b:eM ((aa ws).drop k) ((aa ws).drop k).length:=by
  intro j a;unfold gk;rw[kqm a,kq4];cases g:(((aa ws).drop k)[j]).mark with
  | false=>rfl
  | true =>
   have:(((aa ws).drop k)[j]).at_∈ed ((aa ws).drop k):=by unfold ed;exact kzy.2 ⟨_,kzu.2 ⟨kqs a,g⟩,rfl⟩
   have:=List.length_pos_of_mem this;omega
 obtain⟨n,l⟩:=ug (s:=(T:Int)) b;refine⟨hx.len,hx.low,hx.up,?_,λp f=>hx.mv p ?_⟩
 .conv=>lhs;rw[<-kz2 k (aa ws)]
  rw[gz,hx.to,n]
 rw[<-kz2 k (aa ws),fl,hx.to,l,kzm] at f;exact f
theorem E6(h0:ag ws=0):∀n x k,(∀v∈x,v<18446744073709551616)->mzS 4 x<=n->aw x=0->wd x 16=4->SlT ws x k (wd x 17) (wd x 18)->(dh 4 x).1=0/\wd (dh 4 x).2.2 16=4/\aw (dh 4 x).2.2=0/\bp (dh 4 x).2.2 ((wd (dh 4 x).2.2 17:Nat):Int)≠0/\SlE ws (dh 4 x).2.2 (wd (dh 4 x).2.2 18):=by
 intro n
 induction n with
 | zero=>intro x k _ h _ d;exfalso;unfold mzS at h;rw[if_pos d] at h;omega
 | succ n ih =>
  intro x k g h b d l;obtain⟨-,z,H,p⟩:=ch b;obtain⟨⟨l1,l2,l3⟩,-⟩:=(aY x).1 H;have c:kU (wd x 17)=true/\kU (wd x 18)=true/\wd x 18<=wd x 17:=by
   rcases (b8 _ _ _).1 p with s|s|s
   .exact s.2
   .omega
   omega
  have D:=(aQ _).1 c.1;have y:=(aQ _).1 c.2.1;by_cases a:bp x ((wd x 17:Nat):Int)=0
  .obtain ⟨i,F,o⟩:=Be g b d a;obtain⟨-,-,-,m,B,m1,-⟩:=eK a;obtain⟨e,hmv⟩:=Ct b d a i B;obtain⟨A,w,hFm,-⟩:=Cv l y.1 c.2.2 a B;have hd:=fL g d i;have u:wd (aj x (ac x).2) 17=m+szAt x m:=by
    rw[e];have E:=(af _).1 z;refine kc (j:=17) (by omega) λe f=>?_;rcases kq0.1 f with rfl|f
    .dsimp only;omega
    obtain⟨q,J,rfl⟩:=kqv f;rw[gh];omega
   have t:wd (aj x (ac x).2) 18=wd x 18+szAt x m:=by rw[e,il (by omega)];have E:=(af _).1 z;refine kc (j:=18) (by omega) λe f=>?_;obtain⟨q,J,rfl⟩:=kqv f;rw[gh];omega
   have r:SlT ws (aj x (ac x).2) A (wd (aj x (ac x).2) 17) (wd (aj x (ac x).2) 18):=by rw[u,t,e];exact w
   obtain⟨C,G⟩:=ih _ A (dy g i) (by omega) o F r;rw[dH g d i,if_pos C];exact⟨rfl,G⟩
  have I:(ac x).1=6:=by unfold ac;rw[if_pos b,if_neg (by omega),if_neg (by omega),if_neg (by omega),if_pos d];unfold eO;rw[if_neg a]
  rw[kJ d I];exact⟨rfl,d,b,a,Ed h0 l y.1 c.2.2 (by rw[<-l.len];omega) D.2.2 a⟩
theorem wF(h0:ag x=0):SlT x x 0 128 128:=⟨rfl,λ_ _ _=>rfl,λ_ _ _=>rfl,kqx _,(fa h0).2.2.2,rfl,λp a=>by simp[aq] at a⟩
noncomputable def v1 (x:List Nat):List Nat:=(dh 1 x).2.2
noncomputable def v2 (x:List Nat):List Nat:=(dh 2 (v1 x)).2.2
noncomputable def v3 (x:List Nat):List Nat:=(dh 3 (v2 x)).2.2
noncomputable def v4 (x:List Nat):List Nat:=(dh 4 (v3 x)).2.2
noncomputable def vE (x:List Nat):List Nat:=aj (v4 x) (dj (v4 x))
theorem end_rs(ho:∀v∈x,v<18446744073709551616)(hck:aw x=0)(p4:wd x 16=4)(hnx:bp x ((wd x 17:Nat):Int)≠0):rsE x=(0,[dj x],aj x (dj x)):=by
 have a:=CZ hck p4 hnx;have g:(ac x).1=6:=by unfold ac;rw[if_pos hck,if_neg (by omega),if_neg (by omega),if_neg (by omega),if_pos p4];unfold eO;rw[if_neg hnx]
 have d:cJ x=(0,false,dj x):=by unfold cJ;rw[if_pos g,if_neg (by omega),a]
 obtain⟨os,-,-,-,i,-,-,e,-⟩:=zJ a;have h:=(sJ a).2;have c:aw (aj x (dj x))=0:=by unfold aw;rw[if_pos e,if_neg (by omega),if_neg (by omega)];exact i
 have f:(ac (aj x (dj x))).1=6:=by unfold ac;rw[if_pos c,if_neg (by omega),if_neg (by omega),if_neg (by omega),if_neg (by omega)]
 have b:cJ (aj x (dj x))=(0,true,[]):=by unfold cJ;rw[if_pos f,if_pos h]
 rw[ju ho (by rw[d]) (by rw[d]),d];dsimp only;rw[kv (by rw[b]) (by rw[b]),if_pos rfl]
structure CpF (x:List Nat):Prop where
 e1:(dh 1 x).1=0
 e2:(dh 2 (v1 x)).1=0
 e3:(dh 3 (v2 x)).1=0
 e4:(dh 4 (v3 x)).1=0
 o1:∀v∈v1 x,v<18446744073709551616
 o2:∀v∈v2 x,v<18446744073709551616
 o3:∀v∈v3 x,v<18446744073709551616
 o4:∀v∈v4 x,v<18446744073709551616
 c1:aw (v1 x)=0
 c2:aw (v2 x)=0
 c3:aw (v3 x)=0
 c4:aw (v4 x)=0
 p1:wd (v1 x) 16=2
 p2:wd (v2 x) 16=3
 p3:wd (v3 x) 16=4
 p4:wd (v4 x) 16=4
 n1:1<=(dh 1 x).2.1.length
 n2:1<=(dh 2 (v1 x)).2.1.length
 n3:1<=(dh 3 (v2 x)).2.1.length
 h1:ag (v1 x)=0
 h2:ag (v2 x)=0
 h3:ag (v3 x)=0
 r1:RmL x (v1 x)
 s1:HsL x (v1 x)
 m1:ed (aa (v1 x))=dY x
 k1:aF (v1 x)=0
 r2:NxL (v1 x) (v2 x)
 d2:bi (v2 x) 128 128=0
 z2:wd (v2 x) 17=0
 r3:FxT (v2 x) (v3 x) (v2 x).length
 r4:SlE (v3 x) (v4 x) (wd (v4 x) 18)
 l4:∀i,i<16\/19<=i/\i<112->wd (v4 x) i=wd x i
 nx:bp (v4 x) ((wd (v4 x) 17:Nat):Int)≠0
 en:dX (v4 x)=0
 all:rsE x=(0,(dh 1 x).2.1++((dh 2 (v1 x)).2.1++((dh 3 (v2 x)).2.1++((dh 4 (v3 x)).2.1++[dj (v4 x)]))),vE x)
theorem kK(ho:∀v∈x,v<18446744073709551616)(e:(dh p x).1=0){L:List (List En)}(h:rsE (dh p x).2.2=(0,L,y)):rsE x=(0,(dh p x).2.1++L,y):=by have:=(zW (p:=p) _ x ho (kqb _)).2 e;unfold kL at this;rw[this,h,if_pos rfl]
theorem cpF(ho:∀v∈x,v<18446744073709551616)(p1:wd x 16=1)(hck:aw x=0)(hrc:aF x=0):CpF x:=by
 obtain⟨g,l,S,a4⟩:=tR _ x ho (kqb _) p1 hck hrc;obtain⟨G,J,j,H,y⟩:=Ar _ x ho (kqb _) p1 hck hrc;have c:=(kQ (p:=1) _ x ho (kqb _) g).1;have K:=λi a=>px (p:=1) (i:=i) a _ x ho (kqb _) g
 change ∀v∈v1 x,_ at c
 change wd (v1 x) 16=2 at l
 change cH (v1 x)=0 at S
 change RmL x (v1 x) at G
 change HsL x (v1 x) at J
 change aF (v1 x)=0 at j
 change dY (v1 x)=_ at H
 change ed (aa (v1 x))=_ at y
 change ∀i,_->wd (v1 x) i=_ at K
 have m:=(av j).1;have s:aw (v1 x)=0:=vv S (by omega) (by omega) m;obtain⟨q,r,k,T,V,E,P⟩:=tB _ (v1 x) c (kqb _) l s;obtain⟨o,Q⟩:=Ew _ (v1 x) c (kqb _) l s;have b:=(kQ (p:=2) _ (v1 x) c (kqb _) q).1;have I:=λi a=>px (p:=2) (i:=i) a _ (v1 x) c (kqb _) q
 change ∀v∈v2 x,_ at b
 change wd (v2 x) 16=3 at r
 change wd (v2 x) 17=0 at k
 change cH (v2 x)=0 at T
 change bi (v2 x) 128 128=0 at E
 change ag (v2 x)=0 at P
 change NxL (v1 x) (v2 x) at o
 change aG (v2 x)=[] at Q
 change ∀i,_->wd (v2 x) i=_ at I
 obtain⟨-,C,R⟩:=o.same m;rw[j] at C;rw[H] at R;have z:aN (v2 x)=[]:=Fc C (by rw[(o.mkd m).1,y,R]);have u:=xF b T r k C z Q;obtain⟨f,w,M,O,A,n,i7⟩:=pE _ (v2 x) b (kqb _) u;have F:=DD b u k;have d:=(kQ (p:=3) _ (v2 x) b (kqb _) f).1;have N:=λi a=>px (p:=3) (i:=i) a _ (v2 x) b (kqb _) f
 change ∀v∈v3 x,_ at d
 change wd (v3 x) 16=4 at w
 change wd (v3 x) 17=128 at M
 change wd (v3 x) 18=128 at O
 change aw (v3 x)=0 at A
 change ag (v3 x)=0 at n
 change FxT (v2 x) (v3 x) _ at F
 change ∀i,_->wd (v3 x) i=_ at N
 obtain⟨h,t,D,B,Z⟩:=E6 n _ (v3 x) 0 d (kqb _) A w (by rw[M,O];exact wF n);have L:=(kQ (p:=4) _ (v3 x) d (kqb _) h).1;have U:=λi a=>px (p:=4) (i:=i) a _ (v3 x) d (kqb _) h;have e:=end_rs L D t B;have Y:=kK d h e;have W:=kK b f Y;have X:=kK c q W;have q1:=kK ho g X;exact⟨g,q,f,h,c,b,d,L,s,u.ck,A,D,l,r,w,t,a4,V,i7,m,P,n,G,J,y,j,o,E,k,F,Z,λi a=>(U i a).trans ((N i a).trans ((I i a).trans (K i a))),B,CZ D t B,q1⟩
noncomputable def mkS (x:List Nat) (b:Bk):Bk:={ b with mark:=cE x b }
noncomputable def cpL (x:List Nat):List Bk:=(aa x).map (mkS x)
noncomputable def cpM (x:List Nat):List (Int × Int):=aq (cpL x) 128
def FxV (M:List (Int × Int)) (v u:Nat):Prop:=(v=0/\u=0)\/(0<v/\fO M (v:Int)=some (u:Int))
theorem yU(h0:ag x=0):Mk x m↔(m:Int)∈ed (aa x):=by
 unfold ed;rw[kzy];constructor
 .rintro ⟨h,g⟩;exact⟨bkAt x m,kzu.2 ⟨h,g⟩,ab x m⟩
 rintro ⟨c,f,e⟩;obtain⟨b,d⟩:=kzu.1 f;obtain⟨a,rfl,-⟩:=(cb h0).1 c b;rw[ab] at e;obtain rfl:a=m:=by omega
 exact⟨b,d⟩
theorem zt(h:aF x=0)(hm:ed (aa x)=dY x)(hb:b∈aa x):b.mark=cE x b:=by
 obtain⟨f,-,-⟩:=av h;obtain⟨a,rfl,a1,a2,g,a4⟩:=(cb f).1 b hb;rw[kzk,cY g];constructor
 .intro i;have c:(a:Int)∈ed (aa x):=(yU f).1 ⟨hb,i⟩;rw[hm,fZ h] at c;obtain⟨j,e,-,d⟩:=c;obtain rfl:a=j:=by omega
  exact d
 intro d;have c:(a:Int)∈dY x:=(fZ h _).2 ⟨a,rfl,g,d⟩;rw[<-hm,<-yU f] at c;exact c.2
theorem end_nx(xs:List Nat):∀(l:List Bk) (s:Int),aD (l.map (nxB xs)) s=aD l s:=by
 intro l
 induction l with
 | nil=>intro s;rfl
 | cons b l ih =>intro s;have e:aA (nxB xs b)=aA b:=rfl;have a:(nxB xs b).size=b.size:=rfl;simp only[kx0,aD,e,a,ih]
theorem Da(h0:ag ws=0)(ho:eg ws m)(r:Int):r∈bK ws (m:Int)↔∃i:Nat,r=((m+2+i:Nat):Int)/\(flds ws m)[i]? = some 3:=by
 obtain⟨k,h,e,-⟩:=ho.2.2.2.2.2.2;have b:bkAt ws m∈aa ws:=by rw[<-e];exact kqs h
 have f:aU ws 128=aa ws:=(fa h0).2.1;obtain⟨b2,c⟩:=jS (l:=aa ws) (a:=(m:Int)) b (ab ws m) ho.2.2.2.2.1;obtain⟨o,g,f3⟩:=ib c;obtain rfl:=mf (cb h0).2 o b (by rw[g,ab]);have n:bK ws (m:Int)=cU ws (bkAt ws m):=by unfold bK;rw[if_pos h0,f,c]
 have j:rx ws (bkAt ws m)=flds ws m:=rfl;rw[n];unfold cU;rw[kD,j,ab];constructor
 .rintro ⟨i,-,d,i3⟩;exact⟨i,by omega,d⟩
 rintro ⟨i,i1,d⟩;exact⟨i,(kzc.1 d).1,d,by omega⟩
theorem in_obj(h0:ag ws=0)(ho:eg ws m)(h1:2<=j)(h2:j<szAt ws m)(hb:b∈aa ws):b.at_≠((m+j:Nat):Int)/\b.at_+1≠((m+j:Nat):Int):=by have:=hG h0 ho hb;omega
section
variable {x:List Nat}
theorem CpF.bl1(F:CpF x)(hrc:aF x=0):aa (v1 x)=cpL x:=by
 obtain⟨f,g,h,g4,c⟩:=F.r1.same hrc;rw[c];unfold cpL;refine kz8 λb d=>?_;have a:mkB (v1 x) b∈aa (v1 x):=by rw[c];exact kjb d
 have:=zt f (by rw[F.m1,g]) a;have e:cE (v1 x) (mkB (v1 x) b)=cE x b:=by unfold cE;rw[h];rfl
 rw[e] at this;unfold mkB mkS at *;dsimp only at this;rw[this]
theorem CpF.bl2(F:CpF x):aa (v2 x)=(aa (v1 x)).map (nxB (v2 x)):=((F.r2.ev F.h1).heap F.h1).2
theorem CpF.bl3(F:CpF x):aa (v3 x)=aa (v2 x):=(F.r3.hd.heap F.h2).2
theorem CpF.mvs(F:CpF x)(hrc:aF x=0):aq (aa (v2 x)) 128=cpM x/\aD (aa (v2 x)) 128=aD (cpL x) 128/\gj (v2 x) 128 128=cpM x:=by
 have b:aq (aa (v2 x)) 128=cpM x:=by rw[F.bl2,sQ,F.bl1 hrc];rfl
 refine⟨b,by rw[F.bl2,end_nx,F.bl1 hrc],?_⟩;obtain⟨-,-,l,a,-,c⟩:=bU F.d2;rw[show ((128:Int)).toNat=128 from rfl,(fa F.h2).2.2.2] at a;obtain rfl:=Option.some.inj a;rw[c,b]
theorem CpF.mk2(F:CpF x)(hrc:aF x=0):Mk (v2 x) m↔Rch x m:=by
 rw[yU F.h2,(F.r2.mkd F.h1).1,F.m1,fZ hrc];constructor
 .rintro ⟨a,e,-,h⟩;obtain rfl:m=a:=by omega
  exact h
 intro h;exact⟨m,rfl,qO ((av hrc).2.2 m h),h⟩
theorem cp_fst(hrc:aF x=0)(F:CpF x):(cpM x).map Prod.fst=dY x:=by have h:=lj (iR (fa F.h1).2.2.2 (by omega)) 128;rw[F.m1,F.bl1 hrc] at h;exact h.symm
theorem pR(hrc:aF x=0)(h:Rch x m):eg x m:=by obtain⟨b,-,-,-,a⟩:=pd hrc h;exact a
theorem CpF.sz(F:CpF x)(hrc:aF x=0)(h:Rch x m):szAt (v3 x) m=szAt x m/\eg (v2 x) m/\flds (v2 x) m=flds x m/\(wd (v3 x) m=wd (v1 x) m):=by
 have c:=(F.mk2 hrc).2 h;have b:=pR hrc h;have d:=(av hrc).1;have e:=(av hrc).2.2 m h;have a:=(F.r3.hd.blk _ c.1).1;rw[ab,kqj] at a;have f:wd (v2 x) m=wd (v1 x) m:=F.r2.even F.h1 (by have:=b.1;omega) b.2.1;refine⟨?_,(oz F.h2 c).1,?_,a.trans f⟩
 .rw[<-F.r1.szAt m (by have:=b.1;omega)];unfold szAt;rw[a,f]
 rw[F.r2.flds F.h1 (by rw[F.r1.tb d];exact e),F.r1.flds d e]
theorem CpF.in_(F:CpF x)(hrc:aF x=0)(h:Rch x m)(h1:2<=j)(h2:j<szAt x m):wd (v2 x) (m+j)=wd x (m+j):=by
 have g:=pR hrc h;have f:=(av hrc).1;have d:=λb c=>in_obj (b:=b) f g h1 h2 c;have h128:=g.1;have k:wd (v2 x) (m+j)=wd (v1 x) (m+j):=by
  rcases F.r2.at_ (m+j) (by omega) with a|⟨b,c,a⟩
  .exact a
  rw[(F.r1.heap f).2] at c;obtain⟨i,e,rfl⟩:=kzy.1 c;exact absurd a.symm (d i e).2
 rw[k];rcases F.s1 (m+j) (by omega) with a|⟨b,c,a⟩
 .exact a
 exact absurd a.symm (d b c).1
structure CpD (w z:List Nat) (M:List (Int × Int)) (T:Nat):Prop where
 len:z.length=w.length
 low:∀i,i<16\/19<=i/\i<112->wd z i=wd w i
 line:wd z 16=0/\wd z 17=0/\wd z 18=0
 sl:∀i,i<16->slAt z i=nwS w M i
 obj:∀p∈M,∃m t:Nat,p=((m:Int),(t:Int))/\Rch w m/\128<=t/\t+szAt w m<=T/\2<=szAt w m/\wd z t=cC { ah (wd w m) with mark:=false }/\wd z (t+1)=0/\(∀i,(flds w m)[i]? = some 3->FxV M (wd w (m+2+i)) (wd z (t+2+i)))/\∀i,2+i<szAt w m->(flds w m)[i]? ≠ some 3->wd z (t+2+i)=wd w (m+2+i)
 to:128<=T/\T<=w.length/\T%2=0
 free:T<w.length->wd z T=cC (dV (w.length-T))/\wd z (T+1)=0
 rest:∀i,T+2<=i->(∀b∈aa w,(i:Int)≠b.at_/\(i:Int)≠b.at_+1)->(∀m,Rch w m->¬ (m<=i/\i<m+szAt w m))->wd z i=wd w i
theorem okFx_v{M:List (Int × Int)}{r:Nat}(h:Ah ws y M r):FxV M (wd ws r) (wd y r):=by
 rcases h with h|⟨c,t,m,b,a,-⟩
 .exact .inl h
 exact .inr ⟨c,by rw[a];exact b⟩
theorem CpF.desc(F:CpF x)(hrc:aF x=0):CpD x (vE x) (cpM x) (aD (cpL x) 128).toNat/\aD (cpL x) 128=((aD (cpL x) 128).toNat:Int):=by
 have h0:=(av hrc).1;obtain⟨m1,X,R⟩:=F.mvs hrc;obtain⟨hs,-,-,-,i5,L,-,Y⟩:=fj F.en;have K:=(aQ _).1 i5;have hTe:aD (cpL x) 128=((wd (v4 x) 18:Nat):Int):=by rw[<-X,<-F.bl3];exact F.r4.to
 have hT:(aD (cpL x) 128).toNat=wd (v4 x) 18:=by omega
 rw[hT];obtain⟨T,w⟩:=xq (wd (v4 x) 18);have k:(v4 x).length=x.length:=by rw[F.r4.len,F.r3.hd.len,F.r2.len,F.r1.len]
 have c:=zo F.en;rw[Y,w,k] at c
 change ∀j,wd (vE x) j=_ at c
 have r4:=F.r4;rw[w] at L K r4 |-;rw[k] at L;have n:∀i,19<=i->i<T->wd (vE x) i=wd (v4 x) i:=λi h1 h2=>by
  rw[c,if_neg (by omega),if_neg (by omega),if_neg (by omega)]
 refine⟨⟨?_,λi f=>?_,⟨by rw[c,if_pos (by omega)],by rw[c,if_pos (by omega)],by rw[c,if_pos (by omega)]⟩,λi f=>?_,λp M=>?_,⟨K.1,L,K.2.2⟩,λl=>⟨?_,?_⟩,λi f O hm=>?_⟩,by omega⟩
 .unfold vE;rw[aE,k]
 .rw[c,if_neg (by omega),if_neg (by omega),if_neg (by omega)];exact F.l4 i f
 .have C:slAt (vE x) i=slAt (v3 x) i:=by unfold slAt;rw[n _ (by omega) (by omega),r4.low _ (by omega) (by omega)]
  have g:slAt (v2 x) i=slAt x i:=by rw[F.r2.slAt F.h1 f,F.r1.slAt f]
  rw[C,F.r3.sl i f,R];unfold nwS;rw[g]
 .have G:p∈aq (aa (v3 x)) 128:=by rw[F.bl3,m1];exact M
  obtain⟨m,t,rfl,⟨w1,w2,I⟩,t1,N,Q⟩:=r4.mv p G;have d:Rch x m:=by
   have:(m:Int)∈(cpM x).map Prod.fst:=kzy.2 ⟨_,M,rfl⟩;rw[cp_fst hrc F,fZ hrc] at this;obtain⟨a,e,-,h⟩:=this;obtain rfl:m=a:=by omega
   exact h
  obtain⟨s1,J,S,V⟩:=F.sz hrc d;have v:=pR hrc d;have y:=v.1;rw[s1] at I N Q;refine⟨m,t,rfl,d,t1,N,Q,?_,?_,λi E=>?_,λi h1 E=>?_⟩
  .rw[n _ (by omega) (by omega),w1,V,F.r1.raw m (by omega)]
  .rw[n _ (by omega) (by omega),w2]
  .have s:((m+2+i:Nat):Int)∈bK (v2 x) (m:Int):=(Da F.h2 J _).2 ⟨i,rfl,by rw[S];exact E⟩;obtain⟨P,C,-,g,-⟩:=gV F.h2 s;have A:szAt (v2 x) m=szAt x m:=by have g:wd (v2 x) m=wd (v1 x) m:=F.r2.even F.h1 (by omega) v.2.1;rw[<-F.r1.szAt m (by omega)];unfold szAt;rw[g]
   have l:2+i<szAt x m:=by omega
   have hd:=F.r3.done m ((F.mk2 hrc).2 d) (by have:=J.2.2.1;omega) _ s;rw[kqj,R] at hd;have:=okFx_v hd;rw[show m+2+i=m+(2+i) by omega,F.in_ hrc d (by omega) l] at this;rw[show m+2+i=m+(2+i) by omega,show t+2+i=t+(2+i) by omega,n _ (by omega) (by omega),I _ (by omega) l];exact this
  rw[show m+2+i=m+(2+i) by omega,show t+2+i=t+(2+i) by omega,n _ (by omega) (by omega),I _ (by omega) (by omega),F.r3.off _ (by omega) λr q s=>?_,F.in_ hrc d (by omega) h1];have B:=(F.mk2 hrc).2 d;obtain⟨P,C,-,g,-⟩:=gV F.h2 s;have A:szAt (v2 x) m=szAt x m:=by have g:wd (v2 x) m=wd (v1 x) m:=F.r2.even F.h1 (by omega) v.2.1;rw[<-F.r1.szAt m (by omega)];unfold szAt;rw[g]
  have hq:m=r:=by
   rcases kjp m r with z|z|z
   .have:=ir F.h2 B q z;omega
   .exact z
   have:=ir F.h2 q B z;omega
  subst hq;obtain⟨Z,W,D⟩:=(Da F.h2 J _).1 s;obtain rfl:i=Z:=by omega
  rw[S] at D;exact E D
 .rw[c,if_neg (by omega),if_pos ⟨l,rfl⟩]
 .rw[c,if_neg (by omega),if_neg (by omega),if_pos ⟨l,rfl⟩]
 have D:wd (vE x) i=wd (v4 x) i:=by rw[c,if_neg (by omega),if_neg (by omega),if_neg (by omega)]
 rw[D,r4.up i (by omega) (by omega),F.r3.off i (by omega) λr q s=>?_]
 .have g:wd (v2 x) i=wd (v1 x) i:=by
   rcases F.r2.at_ i (by omega) with u|⟨b,o,u⟩
   .exact u
   rw[(F.r1.heap h0).2] at o;obtain⟨U,H,rfl⟩:=kzy.1 o;exact absurd u (O U H).2
  rw[g];rcases F.s1 i (by omega) with u|⟨b,o,u⟩
  .exact u
  exact absurd u (O b o).1
 obtain⟨P,C,-,g,W⟩:=gV F.h2 s;have d:=(F.mk2 hrc).1 q;have v:=pR hrc d;have y:=v.1;have A:szAt (v2 x) r=szAt x r:=by have g:wd (v2 x) r=wd (v1 x) r:=F.r2.even F.h1 (by omega) v.2.1;rw[<-F.r1.szAt r (by omega)];unfold szAt;rw[g]
 exact hm r d ⟨by omega,by omega⟩
end
end Go.Proofs.YtpcajamacpbjcaaGreat
