/- Texts laid together: CpP CpQ CpR CpS CpT CpU CpV CpW CpX CpY CpZ CpD. -/
import Derived.Test.YtpcajamacpbjcaaGreatZKStg3
import Derived.Test.YtpcajamacpbjcaaGreatZKRs
set_option maxHeartbeats 16000000
set_option linter.all false
namespace Go.Proofs.YtpcajamacpbjcaaGreat
open Go.RowKit
variable {b:Bk}{r:Int}{E:List En}{ws x xs y ys:List Nat}{F T a c f i j k m m' p:Nat}
theorem GG(h:cA x=0)(h3:wd x 16≠3):cM x=0:=by unfold cM;rw[if_pos h,if_neg (λh=>h3 h.1)]
theorem sx(h:cA x=0)(h3:wd x 16≠3)(h4:wd x 16≠4)(hh:ah x=0):aw x=0:=by unfold aw;rw[if_pos (GG h h3),if_neg h4,if_neg h3];exact hh
theorem uc:∀n x,(∀v∈x,v<18446744073709551616)->mzS 1 x<=n->wd x 16=1->aw x=0->aA x=0->(dg 1 x).1=0/\wd (dg 1 x).2.2 16=2/\cA (dg 1 x).2.2=0/\1<=(dg 1 x).2.1.length:=by
 intro n
 induction n with
 | zero=>intro x _ h d;exfalso;unfold mzS at h;rw[if_pos d] at h;omega
 | succ n ih =>
  intro x k h d j a;have e:af x=(0,iA (aO x) 2):=by unfold af;rw[if_pos j,if_pos d,if_pos a]
  have l:(af x).1=0:=by rw[e]
  have hd:=fC k d l;obtain⟨-,-,p,-,-,-,-,-⟩:=l7 k l;obtain⟨s,r2⟩:=pg a;obtain⟨g1,g2,g3,f,g5,g6⟩:=fp j d (.inl rfl) (dQ a) (λy u=>by
   obtain⟨i,w⟩:=kj0.1 u;exact s i y w) (pt a)
  simp only[Nat.reduceAdd] at f;rw[dM k d l];by_cases b:32<=(aO x).length
  .rw[if_pos b] at f;have c:aA (am x (af x).2)=0:=by rw[e,cr b];exact (tT a b).1
   have o:wd (am x (af x).2) 16=1:=by rw[e];exact f
   have g:aw (am x (af x).2)=0:=sx p (by omega) (by omega) (aF c).1;obtain⟨t,r,q,i4⟩:=ih _ (du k l) (by omega) o g c;rw[if_pos t];exact⟨rfl,r,q,by simp⟩
  rw[if_neg b] at f;have m:wd (am x (af x).2) 16=2:=by rw[e];exact f
  rw[cG (by omega),if_pos rfl];exact⟨rfl,m,p,by simp⟩
theorem va(hhp:ah x=0)(hf:¬ 32<=(aG x).length):aW (am x (iA (aG x) 3)) 128 128=0/\ic (am x (iA (aG x) 3)) 128 128=az (ag x) 128/\ah (am x (iA (aG x) 3))=0/\ag (am x (iA (aG x) 3))=fwB (ag x) 128:=by
 have o:=qg (x:=x) (E:=[⟨16,3⟩]) (λe d=>by
  rw[kq0] at d;subst d;exact .inl (by dsimp only;omega))
 obtain⟨n,i⟩:=(o.ev hhp).heap hhp;have c:=cg hhp;have hid:(ag x).map (nxB (am x [⟨16,3⟩]))=ag x:=by
  rw[kz4 (g:=id) (λb f=>?_),List.map_id];obtain⟨a,rfl,a1,a2,-⟩:=c.1 b f;show nxB (am x [⟨16,3⟩]) (bkAt x a)=bkAt x a;unfold nxB;refine sh ?_;rw[ae,show ((a:Int)).toNat=a from kqj a,aP _ _ _ (λe d=>by
   rw[kq0] at d;subst d;dsimp only;omega)]
  rfl
 rw[hid] at i;have f:=oE n;obtain⟨l,-,h,-,m,k,j,p,-⟩:=f;rw[i] at h;subst h;have e:am x (iA (aG x) 3)=am (am x [⟨16,3⟩]) (aQ (ag x) 128):=by rw[iK hf,<-eI,qC hhp];rfl
 rw[e];exact⟨m,k,j,p⟩
theorem ur:∀n x,(∀v∈x,v<18446744073709551616)->mzS 2 x<=n->wd x 16=2->aw x=0->(dg 2 x).1=0/\wd (dg 2 x).2.2 16=3/\wd (dg 2 x).2.2 17=0/\cA (dg 2 x).2.2=0/\1<=(dg 2 x).2.1.length/\aW (dg 2 x).2.2 128 128=0/\ah (dg 2 x).2.2=0:=by
 intro n
 induction n with
 | zero=>intro x _ h b;exfalso;unfold mzS at h;rw[if_pos b] at h;omega
 | succ n ih =>
  intro x j h b a;have d:ah x=0:=by have:=a;unfold aw at this;rw[if_pos (ky a),if_neg (by omega),if_neg (by omega)] at this;exact this
  have e:af x=(0,iA (aG x) 3):=by unfold af;rw[if_pos a,if_neg (by omega),if_pos b,if_pos d]
  have i:(af x).1=0:=by rw[e]
  have hd:=fC j b i;obtain⟨-,-,o,-,-,-,-,-⟩:=l7 j i;obtain⟨t,s,B⟩:=ot d;obtain⟨g1,g2,g3,f,m,g6⟩:=fp a b (.inr rfl) t s B;simp only[Nat.reduceAdd] at f m;rw[dM j b i];by_cases c:32<=(aG x).length
  .rw[if_pos c] at f;have k:wd (am x (af x).2) 16=2:=by rw[e];exact f
   have g:aw (am x (af x).2)=0:=sx o (by omega) (by omega) (uF b i).1;obtain⟨u,r,q,w,i5,p,A⟩:=ih _ (du j i) (by omega) k g;rw[if_pos u];exact⟨rfl,r,q,w,by simp,p,A⟩
  rw[if_neg c] at f;have l:wd (am x (af x).2) 16=3:=by rw[e];exact f
  obtain⟨z,-,y,-⟩:=va d c;rw[cG (by omega),if_pos rfl];refine⟨rfl,l,by rw[e];exact m,o,by simp,?_,?_⟩
  .rw[e];exact z
  rw[e];exact y
structure Hd (ws xs:List Nat):Prop where
 len:xs.length=ws.length
 low:∀i:Nat,96<=i->i<112->wd xs i=wd ws i
 blk:∀b∈ag ws,wd xs b.at_.toNat=wd ws b.at_.toNat/\wd xs (b.at_.toNat+1)=wd ws (b.at_.toNat+1)
section
variable {ws xs:List Nat}
theorem Hd.blocks(h:Hd ws xs):∀i l,blocks ws i=some l->(∀b∈l,b∈ag ws)->Proofs.YtpcajamacpbjcaaGreat.blocks xs i=some l:=by
 refine dU (λi l=>(∀b∈l,b∈ag ws)->Proofs.YtpcajamacpbjcaaGreat.blocks xs i=some l) (λi d _=>?_) (λi l d g j f m=>?_)
 .exact aD (by rw[h.len];exact d)
 have f:=f (λb j=>m b (kjb _ j));obtain⟨a,k⟩:=h.blk _ (m (bkAt ws i) (by simp));rw[ae,kqj] at a k;have n:szAt xs i=szAt ws i:=by unfold szAt;rw[a]
 have e:stands xs i=true:=by unfold Proofs.YtpcajamacpbjcaaGreat.stands at g |-;rw[a,h.len];exact g
 have c:bkAt xs i=bkAt ws i:=by unfold bkAt;rw[a,k]
 rw[aL (by rw[h.len];exact d) e,n,f,c];rfl
theorem Hd.ty(h:Hd ws xs)(h0:ah ws=0)(hb:b∈ag ws)(hk:b.kind=1):wd xs (tyA b)=wd ws (tyA b)/\wd xs (tyA b+1)=wd ws (tyA b+1):=by obtain⟨k,a,rfl⟩:=kqz hb;have ht:=jK (gj h0).2.2.2 (by omega) a hk;unfold tyA;exact⟨h.low _ (by omega) (by omega),h.low _ (by omega) (by omega)⟩
theorem Hd.fit(h:Hd ws xs)(h0:ah ws=0)(hb:b∈ag ws):dC xs b=dC ws b:=by
 unfold dC;by_cases a:b.kind=1
 .obtain ⟨d,c⟩:=h.ty h0 hb a;unfold cZ;rw[d,c]
 have:(b.kind != 1)=true:=by rw[kqv];exact a
 rw[this,kk3,kk3]
theorem Hd.heap(h:Hd ws xs)(h0:ah ws=0):ah xs=0/\ag xs=ag ws:=by obtain⟨g,l,f,e,d⟩:=ay h0;have c:=h.blocks 128 l f (λb c=>by rw[d];exact c);rw[d];refine fS (by rw[h.len];exact g) c ?_;rw[kzu] at e |-;intro b a;rw[h.fit h0 (by rw[d];exact a)];exact e b a
theorem Hd.mv(h:Hd ws xs)(h0:ah ws=0):∀(l:List Bk) (s:Int),(∀b∈l,b∈ag ws)->bU xs l s=bU ws l s:=by
 intro l
 induction l with
 | nil=>intro s _;rfl
 | cons b l ih =>intro s d;simp only[bU];rw[h.fit h0 (d b (by simp)),ih _ (λc a=>d c (kjb _ a)),ih _ (λc a=>d c (kjb _ a))]
theorem Hd.rd(h:Hd ws xs)(h0:ah ws=0)(hr:aW ws 128 128=0):aW xs 128 128=0/\ic xs 128 128=ic ws 128 128:=by
 obtain⟨m,g,l,d,k,j⟩:=bY hr;have e:l=ag ws:=by have:=(gj h0).2.2.2;rw[show ((128:Int)).toNat=128 from rfl] at d;rw[d] at this;exact Option.some.inj this
 have a:=h.blocks 128 l d (λb a=>by rw[<-e];exact a);have f:aW xs 128 128=0:=by rw[iB (by rw[h.len];exact m) (by rw[h.len];exact g) (l:=l) a,h.mv h0 l _ (λb a=>by rw[<-e];exact a),if_pos k]
 obtain⟨-,-,l2,c,-,i⟩:=bY f;rw[show ((128:Int)).toNat=128 from rfl] at c;rw[a] at c;obtain rfl:=Option.some.inj c;exact⟨f,by rw[i,j]⟩
theorem Hd.fx(h:Hd ws xs)(h0:cm ws=0):cm xs=0/\eV xs=eV ws/\aN xs 128=aN ws 128:=by
 obtain⟨a,e,f⟩:=dY h0;obtain⟨b,j⟩:=h.heap a;obtain⟨d,i⟩:=h.rd a e;have c:cm xs=0:=by unfold cm;rw[if_pos b];exact d
 obtain⟨-,-,g⟩:=dY c;exact⟨c,by rw[g,f,i],by rw[(gj b).2.1,(gj a).2.1,j]⟩
theorem oq{M:List (Int × Int)}:∀ {R:List Int},(∀r∈R,wd xs r.toNat=wd ws r.toNat)->di xs M R=di ws M R:=by
 intro R
 induction R with
 | nil=>intro _;rfl
 | cons r R ih =>
  intro h;simp only[di];rw[ih (λx a=>h x (kjb _ a))];have:fI xs M r.toNat=fI ws M r.toNat:=by unfold fI;rw[h r (by simp)]
  rw[this]
theorem Hd.ob(h:Hd ws xs){a:Int}(h0:dt ws a=0)(hr:∀r∈bM ws a,wd xs r.toNat=wd ws r.toNat):dt xs a=0/\cD xs a=cD ws a/\bM xs a=bM ws a:=by
 have e:cm ws=0:=by
  by_cases k:cm ws=0
  .exact k
  rw[(yX rfl k).1] at h0;exact absurd h0 k
 obtain⟨t,B,v⟩:=h.fx e;obtain⟨g,f2,f3⟩:=dY e;have m:=h.heap g;cases d:jQ (aN ws 128) a with
 | none=>rw[(tz e d).1] at h0;cases h0
 | some b =>
  have f:jQ (aN xs 128) a=some b:=by rw[v];exact d
  obtain⟨q,b2,w⟩:=jm d;rw[(gj g).2.1] at q;have i:vj xs b=vj ws b:=by obtain⟨x,A⟩:=h.ty g q w;unfold vj;rw[x,A]
  have p:fu xs b=fu ws b:=by unfold fu;rw[i]
  have s:bM ws a=fu ws b:=by simp[bM,g,d]
  have l:bM xs a=fu xs b:=by simp[bM,m.1,f]
  rw[s] at hr;cases c:b.mark with
  | false=>rw[(tv e d c).1] at h0;cases h0
  | true =>
   cases j:di ws (eV ws) (fu ws b) with
   | none=>rw[(yw e d c j).1] at h0;cases h0
   | some o =>
    have n:di xs (eV xs) (fu xs b)=some o:=by rw[p,B,oq hr];exact j
    obtain⟨o1,y⟩:=Cl e d c j;obtain⟨z,u⟩:=Cl t f c n;exact⟨z,by rw[u,y],by rw[l,s,p]⟩
end
def Bd (ws:List Nat) (a:Nat):Prop:=128<=a/\∃k,k<=(ag ws).length/\blocks ws a=some ((ag ws).drop k)
theorem CM(h:ah ws=0):Bd ws 128:=⟨kqd _,0,kqy _,(gj h).2.2.2⟩
theorem qv(h:Bd ws a)(hn:bg ws (a:Int)=0)(e:ie ws (a:Int)=bkAt ws m):a<=m/\2<=szAt ws m/\m+szAt ws m<=ws.length/\Bd ws (m+szAt ws m)/\bkAt ws m∈ag ws/\(bkAt ws m).mark=true/\(bkAt ws m).kind=1:=by
 obtain⟨h1,k,hk,f⟩:=h;obtain⟨-,-,-,i,r,q,p2,v,p4,x,p6,o,y,l,t,-,-,c,n,-,s⟩:=fq hn;have j:i=m:=by have:=r.symm.trans e;have u:=congrArg Bk.at_ this;rw[ae,ae] at u;omega
 subst j;rw[t] at f;obtain rfl:=Option.some.inj f;have b:i<ws.length:=by omega
 obtain⟨g,w,f3,d⟩:=cp s b;rw[kxm,kxm] at d;refine⟨q,v,x,⟨by omega,k+c+1,?_,?_⟩,?_,o,y⟩
 .rw[kzk] at n;omega
 .rw[d,kjx]
 rw[<-w];have p:gk ((List.drop k (ag ws)).drop c) 0∈(List.drop k (ag ws)).drop c:=by unfold gk;rw[kqk g,kq9];exact kqp g
 exact kja (kja p)
theorem bd_of(h:ah ws=0)(hb:nR ws f=true):Bd ws f:=by
 obtain⟨-,-,-,d⟩:=gj h;obtain⟨j,-⟩:=ay h;have hbd:=(aa _).1 j;unfold nR at hb;rw[d] at hb;dsimp only at hb;rw[kxv,kx1] at hb;rcases hb with⟨b,i,c⟩|c
 .rw[kqw] at c;obtain⟨k,l,rfl⟩:=kqz i;obtain⟨a,e,a1,g,a3,a4,m⟩:=b9 128 _ d (by omega) k l;rw[e,ae] at c;obtain rfl:a=f:=by omega
  exact⟨g,k,by omega,m⟩
 rw[kqw] at c;subst c;exact⟨by omega,_,kqd _,by rw[kj9];exact aD (kqd _)⟩
theorem bd_is(h:ah ws=0)(hb:Bd ws f)(hf:f<=ws.length):nR ws f=true:=by
 obtain⟨-,-,-,e⟩:=gj h;obtain⟨h1,k,hk,b⟩:=hb;unfold nR;rw[e];dsimp only;rw[kxv,kx1];by_cases d:f=ws.length
 .right;rw[kqw];exact d
 left;obtain⟨a,c,f3,f4⟩:=cp b (by omega);refine⟨bkAt ws f,?_,by rw[kqw,ae]⟩;rw[<-c];unfold gk;rw[kqk a,kq9];exact kja (kqp a)
def BQ (ws:List Nat) (a:Nat):Prop:=∀m:Nat,bkAt ws m∈ag ws->(bkAt ws m).mark=true->a<=m->dt ws (m:Int)=0
theorem Aq :∀k a,ws.length-a<=k->Bd ws a->BQ ws a->(kK ws a).1=0/\(kK ws a=(0,bZ)\/∃m:Nat,a<=m/\2<=szAt ws m/\m+szAt ws m<=ws.length/\Bd ws (m+szAt ws m)/\bkAt ws m∈ag ws/\(bkAt ws m).mark=true/\kK ws a=(0,⟨17,m+szAt ws m⟩::cD ws (m:Int))):=by
 intro k
 induction k with
 | zero =>
  intro a y g h;by_cases b:bg ws (a:Int)=0
  .obtain ⟨-,-,-,m,e,-⟩:=fq b;obtain⟨c,i,p,-⟩:=qv g b e;omega
  rw[jT b];exact⟨rfl,.inl rfl⟩
 | succ k ih =>
  intro a y g h;by_cases b:bg ws (a:Int)=0
  .obtain ⟨-,-,-,m,e,-⟩:=fq b;obtain⟨c,i,p,n,j,l,n7⟩:=qv g b e;by_cases o:bM ws (m:Int)=[]
   .rw[kN b e o];obtain⟨v,d⟩:=ih (m+szAt ws m) (by omega) n (λf r A h3=>h f r A (by omega));refine⟨v,?_⟩;rcases d with d|⟨f,j1,x,u,w,z,t,s⟩
    .exact .inl d
    exact .inr ⟨f,by omega,x,u,w,z,t,s⟩
   have q:=h m j l c;rw[pU b e o q];exact⟨rfl,.inr ⟨m,c,i,p,n,j,l,rfl⟩⟩
  rw[jT b];exact⟨rfl,.inl rfl⟩
theorem ig(h:ah ws=0)(hr:r∈bM ws (m:Int)):∃i:Nat,r=((m+2+i:Nat):Int)/\i<(flds ws m).length/\m+2+i<m+szAt ws m/\fQ ws m:=by
 unfold bM at hr;rw[if_pos h] at hr;cases e:jQ (aN ws 128) (m:Int) with
 | none=>rw[e] at hr;cases hr
 | some b =>
  rw[e] at hr;dsimp only at hr;obtain⟨c,e1,g,f⟩:=BM h e;obtain rfl:c=m:=by omega
  have n:vj ws b=flds ws c:=by rw[g];rfl
  have d:b.at_=(c:Int):=by rw[g,ae]
  unfold fu at hr;obtain⟨i,k,-,l⟩:=k8.1 hr;rw[n] at k;have a:=f.2.2.2.2.2.1;rw[i9 (ws:=ws) (b:=bkAt ws c) f.2.2.2.2.1] at a;simp only[kqt,kqw] at a;have j:=a.2;rw[bq] at j;have h8:(flds ws c).length=(a8 (wd ws (tyA (bkAt ws c))) (wd ws (tyA (bkAt ws c)+1))).length:=rfl;unfold aY at j;exact⟨i,by rw[l,d];omega,k,by omega,f⟩
theorem iz(h:ah ws=0)(ho:fQ ws a)(hb:b∈ag ws):b.at_<=(a:Int)/\(b.at_=(a:Int)\/b.at_+2<=(a:Int))\/((a+szAt ws a:Nat):Int)<=b.at_:=by
 obtain⟨o1,o2,o,p,o5,o6,k,q,e,d⟩:=ho;obtain⟨j,g,rfl⟩:=kqz hb;rcases kq6 k j with n|n
 .rw[aL o p] at d;cases f:blocks ws (a+szAt ws a) with
  | none=>rw[f] at d;cases d
  | some l' =>
   rw[f] at d;simp only[kzz,Option.some.injEq] at d;have s:l'=(ag ws).drop (k+1):=by
    have:=congrArg (List.drop 1) d;rw[kxm] at this
    simpa using this
   have m:(ag ws)[j]∈l':=by rw[s];refine kvc.2 ⟨j-(k+1),by rw[kzk];omega,?_⟩;rw[kj4];congr 1;omega
   have:=(lg _ _ f).1 _ m;exact .inr this
 have l:=(cg h).2;rw[kzj] at l;have ha:(ag ws)[k].at_=(a:Int):=by rw[e,ae]
 obtain⟨c,r,c1,c2,-⟩:=(cg h).1 _ (kqp g);have hc:(ag ws)[j].at_=(c:Int):=by rw[r,ae]
 left;rcases kq6 j k with i|i
 .have:=l j k g q i;omega
 have:j=k:=by omega
 subst this;omega
structure I3 (x:List Nat):Prop where
 ck:aw x=0
 p3:wd x 16=3
 hp:ah x=0
 sl:wd x 17=0->ep x=0
 fx:BQ x (wd x 17)
theorem I3.rd(h:I3 x):aW x 128 128=0:=by have:=h.ck;unfold aw at this;rw[if_pos (ky h.ck),if_neg (by rw[h.p3];decide),if_pos h.p3] at this;exact this
theorem hd_put(h:ah x=0)(hE:∀e∈E,e.a<19\/112<=e.a/\∀b∈ag x,e.a≠b.at_/\e.a≠b.at_+1):Hd x (am x E):=by
 refine⟨ax _ _,λi h1 h2=>aP _ _ _ λe f g=>?_,λb j=>?_⟩
 .rcases hE e f with d|d<;>omega
 obtain⟨a,rfl,a1,-⟩:=(cg h).1 b j;have c:(bkAt x a).at_=(a:Int):=ae x a;rw[c,kqj];refine⟨aP _ _ _ λe f g=>?_,aP _ _ _ λe f g=>?_⟩
 .rcases hE e f with d|⟨-,d⟩
  .omega
  exact (d _ j).1 (by rw[c];exact g)
 rcases hE e f with d|⟨-,d⟩
 .omega
 exact (d _ j).2 (by rw[c,g];rfl)
theorem vh(h:ah x=0)(hE:∀e∈E,e.a<19\/112<=e.a/\e.a<128):Hd x (am x E):=hd_put h λe g=>by
 rcases hE e g with d|d
 .exact .inl d
 .refine .inr ⟨d.1,λb f=>?_⟩;obtain⟨a,rfl,a1,-⟩:=(cg h).1 b f;have c:(bkAt x a).at_=(a:Int):=ae x a;rw[c];omega
theorem yB(h:Hd x xs)(h0:ah x=0)(hm:bkAt xs m∈ag xs):bkAt x m∈ag x/\bkAt xs m=bkAt x m:=by
 rw[(h.heap h0).2] at hm;obtain⟨a,e,-⟩:=(cg h0).1 _ hm;have b:=congrArg Bk.at_ e;rw[ae,ae] at b;obtain rfl:m=a:=by omega
 rw[e] at hm;exact⟨hm,e⟩
theorem hd_bd(h:Hd x xs)(h0:ah x=0)(c:Bd x a):Bd xs a:=by obtain⟨e,k,f,d⟩:=c;refine⟨e,k,by rw[(h.heap h0).2];exact f,?_⟩;rw[(h.heap h0).2];exact h.blocks a _ d λb c=>kja c
theorem qw(ho:∀v∈x,v<18446744073709551616)(h:I3 x):(af x).1=0/\(I3 (am x (af x).2)\/wd (am x (af x).2) 16=4/\wd (am x (af x).2) 17=128/\wd (am x (af x).2) 18=128/\Hd x (am x (af x).2)/\cA (am x (af x).2)=0):=by
 have p3:=h.p3;have e:af x=sgFix x:=by unfold af;rw[if_pos h.ck,if_neg (by omega),if_neg (by omega),if_pos p3]
 obtain⟨-,hs,hl,R⟩:=cP h.ck;have K:=(aa _).1 hs;obtain⟨⟨l1,l2,l3⟩,-⟩:=(bt x).1 hl;have I:=h.rd;by_cases z:wd x 17=0
 .have J:=h.sl z;have C:sgFix x=(0,⟨17,128⟩::dV x):=by unfold sgFix;rw[if_pos z,if_pos J]
  have G:(af x).1=0:=by rw[e,C]
  obtain⟨-,-,t,-⟩:=l7 ho G;refine⟨G,.inl ?_⟩;obtain⟨-,-,-,-,-,-,-,L,q2,q3,-⟩:=jG J;obtain⟨g1,g2,g3,w,y,U⟩:=jd (f:=128) (l:=dV x) h.ck p3 (by decide) (by omega) (by omega) (by omega) q2 (λe c=>by have:=(L e c).1;omega) (λe c=>(L e c).2);have o:Hd x (am x (⟨17,128⟩::dV x)):=vh h.hp λe c=>by
   rcases kqx.1 c with rfl|c
   .exact .inl (by dsimp only;omega)
   exact .inr (L e c).1
  rw[e,C] at t |-;dsimp only at t |-;have n:=(o.heap h.hp).1;have d:cM (am x (⟨17,128⟩::dV x))=0:=by unfold cM;rw[if_pos t,if_neg];rintro ⟨-,-,p⟩;rw[y,bd_is n (CM n) (by rw[o.len];omega)] at p;cases p
  refine⟨?_,w,n,λg=>?_,λm g D p=>?_⟩
  .unfold aw;rw[if_pos d,if_neg (by rw[w];decide),if_pos w];exact (o.rd h.hp I).1
  .rw[y] at g;cases g
  obtain⟨T,m2⟩:=yB o h.hp g;rw[m2] at D;have s:=h.fx m T D (by omega);refine (o.ob s λr q=>?_).1;obtain⟨i,rfl,W,O,u⟩:=ig h.hp q;rw[kqj];refine aP _ _ _ λe c V=>?_;have:=u.1;rcases kqx.1 c with rfl|c
  .dsimp only at V;omega
  have:=(L e c).1;omega
 have hF:128<=wd x 17:=by
  rcases (cI _ _ _).1 R with g|⟨-,-,g⟩|g
  .omega
  .rcases g with g|g
   .exact absurd g z
   exact ((aT _).1 g).1
  omega
 have C:sgFix x=kK x (wd x 17):=by unfold sgFix;rw[if_neg z]
 have N:Bd x (wd x 17):=by
  refine bd_of h.hp ?_;have d:=ky h.ck;unfold cM at d;by_cases F:nR x (wd x 17)=true
  .exact F
  split at d
  .rw[if_pos ⟨p3,z,by simpa using F⟩] at d;cases d
  exact absurd d (by assumption)
 obtain⟨f1,M⟩:=Aq _ (wd x 17) (kqd _) N h.fx;have G:(af x).1=0:=by rw[e,C];exact f1
 obtain⟨-,-,t,-⟩:=l7 ho G;refine⟨G,?_⟩;rcases M with M|⟨m,T,m2,m3,m4,Y,m6,m7⟩
 .right;rw[e,C,M] at t |-;obtain⟨g1,g2,g3,w,y,U⟩:=gq h.ck p3;refine⟨w,y,U,vh h.hp λe c=>?_,t⟩;simp only[bZ,kqx,kzf,or_false] at c;rcases c with rfl|rfl|rfl<;>exact .inl (by dsimp only;omega)
 left;rw[e,C,m7] at t |-;dsimp only at t |-;have s:=h.fx m Y m6 T;obtain⟨f,-,-,-,-,q5,q6,q7,S,Z⟩:=iQ s;have q8:=Dq s;have hme:m%2=0/\szAt x m%2=0:=by
  obtain⟨a,ea,a1,a2,a3,a4⟩:=(cg h.hp).1 _ Y;have p:=congrArg Bk.at_ ea;rw[ae,ae] at p;obtain rfl:m=a:=by omega
  have:=aH a4;omega
 obtain⟨g1,g2,g3,w,y,U⟩:=jd (f:=m+szAt x m) (l:=cD x (m:Int)) h.ck p3 ((aT _).2 (by omega)) m3 (by omega) (by omega) Z (λe c=>by have:=q8 e c;omega) (λe c=>by have:=q8 e c;omega);have k:∀j:Nat,j≠17->(∀r∈bM x (m:Int),r≠(j:Int))->wd (am x (⟨17,m+szAt x m⟩::cD x (m:Int))) j=wd x j:=by
  intro j h17 hj;refine aP _ _ _ λe c V=>?_;rcases kqx.1 c with rfl|c
  .dsimp only at V;omega
  obtain⟨r,r1,r2,r3,r4⟩:=S e c;obtain rfl:r=j:=by omega
  have h6:=q7 r (λi hi hf=>hj _ (kqp hi) (by rw[(q6 i hi).1,hf]));have H:=dR _ x Z e c (by omega) (by omega);rw[r1,kqj,h6] at H;exact r3 H
 have o:Hd x (am x (⟨17,m+szAt x m⟩::cD x (m:Int))):=by
  refine⟨ax _ _,λi g D=>k i (by omega) λr q B=>?_,λb K=>?_⟩
  .obtain ⟨Q,P,-,-,u⟩:=ig h.hp q;have:=u.1;omega
  obtain⟨a,rfl,a1,a2,-⟩:=(cg h.hp).1 b K;have A:(bkAt x a).at_=(a:Int):=ae x a;rw[A,kqj];refine⟨k _ (by omega) λr q B=>?_,k _ (by omega) λr q B=>?_⟩
  .obtain ⟨Q,P,W,O,u⟩:=ig h.hp q;have:=iz h.hp u K;rw[A] at this;omega
  obtain⟨Q,P,W,O,u⟩:=ig h.hp q;have:=iz h.hp u K;rw[A] at this;omega
 have n:=(o.heap h.hp).1;have d:cM (am x (⟨17,m+szAt x m⟩::cD x (m:Int)))=0:=by unfold cM;rw[if_pos t,if_neg];rintro ⟨-,-,p⟩;rw[y,bd_is n (hd_bd o h.hp m4) (by rw[o.len];omega)] at p;cases p
 refine⟨?_,w,n,λg=>?_,λm' g D p=>?_⟩
 .unfold aw;rw[if_pos d,if_neg (by rw[w];decide),if_pos w];exact (o.rd h.hp I).1
 .rw[y] at g;omega
 obtain⟨n1,n2⟩:=yB o h.hp g;rw[n2] at D;rw[y] at p;have E:=h.fx m' n1 D (by omega);refine (o.ob E λr q=>?_).1;obtain⟨i,rfl,W,O,u⟩:=ig h.hp q;rw[kqj];refine k _ (by have:=u.1;omega) λr2 X B=>?_;obtain⟨Q,P,j1,j2,j3⟩:=ig h.hp X;omega
theorem BU(x:List Nat)(t:Nat):mvd x t t=true:=by
 unfold mvd;cases t with
 | zero=>unfold tV;simp
 | succ t=>unfold tV;rw[if_neg (by omega)];simp
theorem qr:∀n x,(∀v∈x,v<18446744073709551616)->mzS 3 x<=n->I3 x->(dg 3 x).1=0/\wd (dg 3 x).2.2 16=4/\wd (dg 3 x).2.2 17=128/\wd (dg 3 x).2.2 18=128/\aw (dg 3 x).2.2=0/\ah (dg 3 x).2.2=0/\1<=(dg 3 x).2.1.length:=by
 intro n
 induction n with
 | zero=>intro x _ h a;exfalso;have:=a.p3;unfold mzS at h;rw[if_pos this] at h;omega
 | succ n ih =>
  intro x c h a;obtain⟨d,b⟩:=qw c a;have hd:=fC c a.p3 d;rw[dM c a.p3 d];rcases b with b|⟨e,i,f,g,p⟩
  .obtain ⟨m,l,k,o,q,j,i7⟩:=ih _ (du c d) (by omega) b;rw[if_pos m];exact⟨rfl,l,k,o,q,j,by simp⟩
  rw[cG (by omega),if_pos rfl];refine⟨rfl,e,i,f,?_,(g.heap a.hp).1,by simp⟩;unfold aw;rw[if_pos (GG p (by omega)),if_pos e];dsimp only;rw[f,i,if_pos (BU _ _)];exact (g.rd a.hp a.rd).1
theorem As(ho:∀v∈x,v<18446744073709551616)(hp:cA x=0)(p3:wd x 16=3)(p17:wd x 17=0)(hrc:aA x=0)(hw:aO x=[])(hn:aG x=[]):I3 x:=by
 obtain⟨i,a,M,c,d,s1,k,s,t,u,-⟩:=sU hrc ho;rw[hw] at c;have c:i=x:=c;subst c;rw[hn] at d;have d:a=i:=d;subst d;have b:=(aF hrc).1;have f:cM a=0:=by unfold cM;rw[if_pos hp,if_neg];rintro ⟨-,h,-⟩;exact h p17
 refine⟨?_,p3,b,λ_=>t,λm r y _=>?_⟩
 .unfold aw;rw[if_pos f,if_neg (by omega),if_pos p3];exact k
 have n:=(gj b).2.2.2;obtain⟨-,-,l,o,-,p⟩:=bY k;rw[show ((128:Int)).toNat=128 from rfl,n] at o;obtain rfl:=Option.some.inj o;have e:=lE (jA n (by omega)) 128;have j:(m:Int)∈eE (ag a):=by unfold eE;refine kzw.2 ⟨bkAt a m,kzo.2 ⟨r,y⟩,ae a m⟩
 rw[e] at j;obtain⟨q,w,g⟩:=kzw.1 j;rw[<-g];exact u q (by rw[<-s,p];exact w)
section
variable {ws xs:List Nat}
theorem qU(h:∀j,96<=j->wd xs j=wd ws j)(b:Bk):dC xs b=dC ws b:=by unfold dC cZ;rw[h (tyA b) (by unfold tyA;omega),h (tyA b+1) (by unfold tyA;omega)]
theorem EQ(h:∀j,96<=j->wd xs j=wd ws j):∀(l:List Bk) (s:Int),bU xs l s=bU ws l s:=by
 intro l
 induction l with
 | nil=>intro s;rfl
 | cons b l ih =>intro s;simp only[bU];rw[qU h,ih,ih]
theorem tS(hn:xs.length=ws.length)(h:∀j,96<=j->wd xs j=wd ws j){f s:Int}(hf:96<=f.toNat):aW xs f s=aW ws f s:=by
 unfold aW ls;rw[hn,dP hn f.toNat (λj hj=>h j (by omega))];cases blocks ws f.toNat with
 | none=>rfl
 | some l=>dsimp only;rw[EQ h]
theorem ER{t:Nat}(h:∀j,96<=j->j<t->wd xs j=wd ws j)(ht:mdOk xs t=true)(h128:128<=t):∀n i,t-i<=n->128<=i->mvd ws i t=true->mvd xs i (t+szAt xs t)=true:=by
 have hsz:=lh ht;have a:mvd xs t (t+szAt xs t)=true:=by rw[kY (by omega) ht,kj (kqd _)];simp
 intro n
 induction n with
 | zero =>intro i p o b;rw[kj (by omega),kqw] at b;subst b;exact a
 | succ n ih =>
  intro i p o b;by_cases e:i<t
  .cases c:mdOk ws i with
   | false=>rw[sI e c] at b;cases b
   | true =>
    have hz:=lh c;rw[kY e c] at b;have g:wd xs i=wd ws i:=h i (by omega) e;have f:mdOk xs i=true:=by unfold mdOk at c |-;rw[g];simp only[kqt,kqw] at c |-;obtain⟨d,q,m,k⟩:=c;refine⟨d,q,m,?_⟩;unfold aB at d;rw[kqt] at d;have h7:=(bA _).1 d.1;unfold cZ at k |-;rw[h (tyA (ar (wd ws i))) (by unfold tyA;omega) (by unfold tyA;omega),h (tyA (ar (wd ws i))+1) (by unfold tyA;omega) (by unfold tyA;omega)];exact k
    have l:szAt xs i=szAt ws i:=by unfold szAt;rw[g]
    rw[kY (by omega) f,l];exact ih (i+szAt ws i) (by omega) (by omega) b
  rw[kj (by omega),kqw] at b;subst b;exact a
theorem FP :∀ {k:Nat} {l:List Bk} {s:Int},k<=l.length->fa l k->bU ws l s=true->bU ws (l.drop k) s=true:=by
 intro k
 induction k with
 | zero=>intro l s _ _ h;exact h
 | succ k ih =>
  intro l s d c h;cases l with
  | nil=>simp at d
  | cons b l =>
   have e:b.mark=false:=c 0 (by omega);have a:aV b=false:=by unfold aV;rw[e];simp
   simp only[bU,a,kqt] at h;rw[List.drop_succ_cons];refine ih (by simpa using d) (λj hj=>?_) (by simpa using h.2);have:=c (j+1) (by omega);exact this
theorem CY(ho:∀v∈x,v<18446744073709551616)(hck:aw x=0)(p4:wd x 16=4)(hnx:bg x ((wd x 17:Nat):Int)=0):(af x).1=0/\wd (am x (af x).2) 16=4/\aw (am x (af x).2)=0:=by
 have e:af x=sgSld x:=by unfold af;rw[if_pos hck,if_neg (by omega),if_neg (by omega),if_neg (by omega),if_pos p4]
 obtain⟨-,hs,hl,Q⟩:=cP hck;have hb:=(aa _).1 hs;have X:mvd x 128 (wd x 18)=true/\aW x ((wd x 17:Nat):Int) ((wd x 18:Nat):Int)=0:=by
  have:=hck;unfold aw at this;rw[if_pos (ky hck),if_pos p4] at this;by_cases A:mvd x 128 (wd x 18)=true
  .rw[if_pos A] at this;exact⟨A,this⟩
  rw[if_neg A] at this;cases this
 obtain⟨A,T⟩:=X;obtain⟨-,a1,a2,m,em,m1,m2,m3,m4,m5,m6,m7,m8,l,q1,-,-,k,q2,q3,J⟩:=fq hnx;obtain⟨r1,r2,l2,r3,r4,-⟩:=bY T;rw[kqj,q1] at r3;obtain rfl:=Option.some.inj r3;obtain⟨u1,u2,u3,u4,u5⟩:=gu r2;have F:aW x (m:Int) ((wd x 18:Nat):Int)=0:=by
  have Y:fT x.length (m:Int) ((wd x 18:Nat):Int)=false:=by
   cases hq:fT x.length (m:Int) ((wd x 18:Nat):Int) with
   | false=>rfl
   | true=>exact absurd ⟨by omega,by omega,by omega,by omega,by omega⟩ ((kA _ _ _).1 hq)
  rw[iB r1 Y (l:=l.drop k) (by rw[kqj];exact J),if_pos (FP (by omega) q3 r4)]
 obtain⟨I,G,f3,f4⟩:=cp J (by omega);have r:dK x (m:Int) ((wd x 18:Nat):Int)=0:=by
  unfold dK;rw[if_pos F,kqj,J];cases z:l.drop k with
  | nil=>rw[z] at I;simp at I
  | cons c t =>
   dsimp only;rw[z] at G;have S:c=bkAt x m:=by rw[<-G];rfl
   rw[S,m7];rfl
 have E:sgSld x=(0,⟨17,m+szAt x m⟩::⟨18,wd x 18+szAt x m⟩::jN x m (wd x 18)):=by unfold sgSld;rw[if_pos hnx,em,ae,if_pos r,bq,show ((m:Int)+((szAt x m:Nat):Int)).toNat=m+szAt x m by omega,show (((wd x 18:Nat):Int)+((szAt x m:Nat):Int)).toNat=wd x 18+szAt x m by omega];unfold iW;rw[if_pos r,kqj,kqj]
 have P:(af x).1=0:=by rw[e,E]
 obtain⟨-,-,k3,-⟩:=l7 ho P;obtain⟨a,u,n,ea,L,en,n2,n10,hu,hua,han,hst,hlv,⟨l3,-,-,-,s4,-⟩,B,o⟩:=gb r;have ea:a=m:=by omega
 have L:u=wd x 18:=by omega
 subst ea;subst en;have M:=L;have W:=(Bz ho hck p4 (by rw[<-e];exact P)).1;have C:=BY (ws:=x) (a:=a) (u:=u) (by omega);rw[<-C] at s4 B;rw[<-L] at E;rw[<-e] at W;have s:(jN x a u).Pairwise (λa b=>a.a<b.a):=by rw[kzj];intro i j hi hj hij;rw[ga,ga];omega
 have q:∀e∈jN x a u,(u:Int)<=e.a/\e.a<((u+szAt x a:Nat):Int):=λe d=>by
  obtain⟨k,hk,rfl⟩:=kqz d;rw[ga];rw[iD] at hk;omega
 have N:∀j:Nat,19<=j->wd (am x (af x).2) j=wd (am x (jN x a u)) j:=by
  intro j hj;rw[e,E,show (⟨17,a+szAt x a⟩::⟨18,u+szAt x a⟩::jN x a u:List En)=[⟨17,a+szAt x a⟩,⟨18,u+szAt x a⟩]++jN x a u from rfl,eI];by_cases w:∃e∈jN x a u,e.a=(j:Int)
  .obtain ⟨K,d,h5⟩:=w;have hm2:=q K d;have t1:=dR (jN x a u) (am x [⟨17,a+szAt x a⟩,⟨18,u+szAt x a⟩]) s K d (by omega) (by rw[ax];omega);have t2:=dR (jN x a u) x s K d (by omega) (by omega);rw[show K.a.toNat=j by omega] at t1 t2;rw[t1,t2]
  rw[aP _ _ _ (λe d h=>w ⟨e,d,h⟩),aP _ _ _ (λe d h=>w ⟨e,d,h⟩)];refine aP _ _ _ λe d h=>?_;simp only[kqx,kzf,or_false] at d;rcases d with rfl|rfl<;>(dsimp only at h;omega)
 have hfp:=(cI _ _ _).1 Q;obtain⟨j1,j2,-,j4,j5,j6⟩:=nq (f:=a+szAt x a) (t:=u+szAt x a) (l:=jN x a u) hck p4 ((aT _).2 (by omega)) ((aT _).2 (by omega)) (by omega) (by omega) (by omega) (by omega) (by rw[iD];omega) s (λe d=>by have:=q e d;omega) (tg ho o);have hlen:(am x (af x).2).length=x.length:=ax _ _;have g:∀j:Nat,96<=j->j<u->wd (am x (af x).2) j=wd x j:=λj h1 h2=>by
  rw[N j (by omega)];exact aP _ _ _ λe d h=>by have:=q e d;omega
 have D:wd (am x (af x).2) u=cR { ar (wd x a) with mark:=false }:=by rw[N u (by omega)];exact B
 have p:ar (wd (am x (af x).2) u)={ ar (wd x a) with mark:=false }:=by rw[D,mw o];rfl
 have V:szAt (am x (af x).2) u=szAt x a:=by have:=congrArg Bk.size p;have e1:(ar (wd (am x (af x).2) u)).size=((szAt (am x (af x).2) u:Nat):Int):=rfl;have e3:({ ar (wd x a) with mark:=false }:Bk).size=((szAt x a:Nat):Int):=rfl;rw[e1,e3] at this;omega
 have y:cZ x (bkAt x a)=true:=by
  obtain⟨-,-,l4,w3,H,-⟩:=bY F;rw[kqj,J] at w3;obtain rfl:=Option.some.inj w3;cases z:l.drop k with
  | nil=>rw[z] at I;simp at I
  | cons c t =>
   rw[z] at G H;have S:c=bkAt x a:=by rw[<-G];rfl
   rw[S] at H;simp only[bU,kqt] at H;have O:=H.1;unfold dC at O;rw[m8] at O
   simpa using O
 have R:mdOk (am x (af x).2) u=true:=by
  have h7:=(bA _).1 o;have U:(ar (wd x a)).kind=1:=m8;unfold mdOk aB;rw[p,D,o,U];simp only[beq_self_eq_true,kzr,kvp];unfold cZ at y |-;have et:tyA ({ ar (wd x a) with mark:=false }:Bk)=tyA (bkAt x a):=rfl;have htl:tyA (bkAt x a)+1<112:=by have:(bkAt x a).typ=(ar (wd x a)).typ:=rfl;unfold tyA;rw[this];dsimp only at h7;omega
  rw[et,g _ (by unfold tyA;omega) (by omega),g _ (by unfold tyA;omega) (by omega)];exact y
 have Z:=ER g R hu (u-128) 128 (by omega) (by omega) (by rw[M];exact A);rw[V] at Z;have g5:wd (am x (af x).2) 17=a+szAt x a:=by rw[e,E];exact j5
 have g6:wd (am x (af x).2) 18=u+szAt x a:=by rw[e,E];exact j6
 refine⟨P,W,?_⟩;unfold aw;rw[if_pos (GG k3 (by omega)),if_pos W,g5,g6,if_pos Z,tS (ws:=am x (jN x a u)) (by rw[ax,ax]) (λj hj=>N j (by omega)) (by omega)];exact s4
end
theorem EZ(hck:aw x=0)(p4:wd x 16=4)(hnx:bg x ((wd x 17:Nat):Int)≠0):el x=0:=by
 obtain⟨d,-,a,e,b,g,k,l,i,j⟩:=xo hck (by omega);obtain⟨-,-,-,c⟩:=cP hck;have hF:128<=wd x 17:=by
  rcases (cI _ _ _).1 c with b|b|b
  .exact ((aT _).1 b.2.1).1
  .omega
  omega
 have o:a=wd x 17:=by unfold gi at e;rw[if_neg (by omega)] at e;omega
 subst o;have f:lfN x=0:=by
  rw[j];by_cases h:0<(eE l).length
  .obtain ⟨m,z,l',n,-⟩:=nE d b g k i h;exact absurd n hnx
  omega
 unfold el;rw[if_pos hck,if_pos ⟨p4,f⟩]
theorem sC{x:Nat}(h:aB x=true)(hk:(ar x).kind=1)(m n:Bool):fX (fX x m) n=fX x n:=by obtain⟨a,b,-,-⟩:=iS h hk m;obtain⟨y,c⟩:=xq (fX x m);rw[c] at a b |-;unfold fX;rw[if_pos a,if_pos h];unfold il;rw[b]
theorem RmL.trans(h:RmL ws xs)(g:RmL xs ys):RmL ws ys:=by
 refine⟨g.len.trans h.len,λi b=>?_⟩;rcases g.at_ i b with a|⟨a,e,d,j,m,c⟩
 .rw[a];exact h.at_ i b
 rcases h.at_ i b with f|⟨f,h2,k,l,m0,n⟩
 .rw[f] at d j c;exact .inr ⟨a,e,d,j,m,c⟩
 exact .inr ⟨a,e,k,l,m,by rw[c,n,sC k l]⟩
theorem Rm.toL(h:Rm ws xs):RmL ws xs:=⟨h.len,λi _=>h.at_ i⟩
theorem NxL.trans(h0:ah ws=0)(h:NxL ws xs)(g:NxL xs ys):NxL ws ys:=by
 refine⟨g.len.trans h.len,λi d=>?_⟩;rcases g.at_ i d with a|⟨b,e,a⟩
 .rw[a];exact h.at_ i d
 rw[((h.ev h0).heap h0).2] at e;obtain⟨f,c,rfl⟩:=kzw.1 e;exact .inr ⟨f,c,a⟩
theorem mkd_nx(xs:List Nat)(l:List Bk):eE (l.map (nxB xs))=eE l:=by
 induction l with
 | nil=>rfl
 | cons b l ih =>
  unfold eE at ih |-;rw[kxz];have e:(nxB xs b).mark=b.mark:=rfl;have a:(nxB xs b).at_=b.at_:=rfl;simp only[kjn,e];split
  .simp only[kxz,a,ih]
  exact ih
theorem tX(xs:List Nat):∀(l:List Bk) (s:Int),az (l.map (nxB xs)) s=az l s:=by
 intro l
 induction l with
 | nil=>intro s;rfl
 | cons b l ih =>intro s;have e:aV (nxB xs b)=aV b:=rfl;have c:(nxB xs b).at_=b.at_:=rfl;have a:(nxB xs b).size=b.size:=rfl;simp only[kxz,az,e,c,a,ih]
theorem zL{n:Nat}(h:Small n E)(hi:i<16\/19<=i/\i<112):wd (am ws E) i=wd ws i:=aP _ _ _ λe a=>by have:=(h.ins e a).1;omega
theorem ql(hi:i<16\/19<=i/\i<112):∀n x,(∀v∈x,v<18446744073709551616)->mzS p x<=n->(dg p x).1=0->wd (dg p x).2.2 i=wd x i:=by
 intro n
 induction n with
 | zero =>
  intro x c h _;have a:wd x 16≠p:=λa=>by unfold mzS at h;rw[if_pos a] at h;omega
  rw[cG a]
 | succ n ih =>
  intro x c h d;by_cases a:wd x 16=p
  .by_cases f:(af x).1=6
   .rw[kG a f]
   by_cases b:(af x).1=0
   .have hd:=fC c a b;rw[dM c a b] at d |-;by_cases e:(dg p (am x (af x).2)).1=0
    .rw[if_pos e];have:=ih (am x (af x).2) (du c b) (by omega) e;exact this.trans (zL (l7 c b).2.1 hi)
    rw[if_neg e] at d;exact absurd d e
   rw[qu a f b] at d;exact absurd d b
  rw[cG a]
def HsL (ws xs:List Nat):Prop:=∀i:Nat,19<=i->wd xs i=wd ws i\/∃b∈ag ws,(i:Int)=b.at_
theorem Fq(hE:∀e∈E,e.a<19\/∃b∈ag x,e.a=b.at_):HsL x (am x E):=λi h19=>by
 by_cases d:∃b∈ag x,(i:Int)=b.at_
 .exact .inr d
 .refine .inl (aP _ _ _ λe h g=>?_);rcases hE e h with c|⟨b,f,c⟩
  .omega
  .exact d ⟨b,f,by rw[<-c,g]⟩
theorem ua(h:aA x=0):∀e∈aO x,∃b∈ag x,e.a=b.at_:=λe d=>by obtain⟨a,c,-,-,-,-,-,rfl,-⟩:=dN h d;exact⟨_,c,(ae x a).symm⟩
theorem EM:∀n x,(∀v∈x,v<18446744073709551616)->mzS 1 x<=n->wd x 16=1->aw x=0->aA x=0->RmL x (dg 1 x).2.2/\HsL x (dg 1 x).2.2/\aA (dg 1 x).2.2=0/\dX (dg 1 x).2.2=dX x/\eE (ag (dg 1 x).2.2)=dX x:=by
 intro n
 induction n with
 | zero=>intro x _ h g;exfalso;unfold mzS at h;rw[if_pos g] at h;omega
 | succ n ih =>
  intro x k h g q a;have e:af x=(0,iA (aO x) 2):=by unfold af;rw[if_pos q,if_pos g,if_pos a]
  have j:(af x).1=0:=by rw[e]
  have hd:=fC k g j;obtain⟨-,-,M,-,-,-,-,-⟩:=l7 k j;obtain⟨C,r2⟩:=pg a;obtain⟨g1,g2,g3,l,g5,g6⟩:=fp q g (.inl rfl) (dQ a) (λy E=>by
   obtain⟨i,s⟩:=kj0.1 E;exact C i y s) (pt a)
  simp only[Nat.reduceAdd] at l;rw[dM k g j];by_cases c:32<=(aO x).length
  .rw[if_pos c] at l;obtain⟨d,m⟩:=Ip g j c;have o:RmL x (am x (af x).2):=by rw[e,cr c];exact (iJ a (kjr 31 _)).toL
   have u:HsL x (am x (af x).2):=by rw[e,cr c];exact Fq λe r=>.inr (ua a e (kxt r))
   have p:wd (am x (af x).2) 16=1:=by rw[e];exact l
   have f:aw (am x (af x).2)=0:=sx M (by omega) (by omega) (aF d).1;obtain⟨D,-⟩:=uc _ _ (du k j) (kqd _) p f d;obtain⟨J,I,G,B,F⟩:=ih _ (du k j) (by omega) p f d;rw[if_pos D];refine⟨o.trans J,λi s=>?_,G,B.trans m,F.trans m⟩;rcases I i s with w|⟨b,z,w⟩
   .rw[w];exact u i s
   rw[(o.heap (aF a).1).2] at z;obtain⟨H,t,rfl⟩:=kzw.1 z;exact .inr ⟨H,t,w⟩
  rw[if_neg c] at l;have p2':wd (am x (af x).2) 16=2:=by rw[e];exact l
  rw[cG (by omega),if_pos rfl];rw[e,iK c];obtain⟨L,A,l3,K⟩:=GQ a 2;refine⟨tJ a 2,Fq λe r=>?_,L,A,K⟩;rcases kqx.1 r with rfl|r
  .exact .inl (by dsimp only;omega)
  exact .inr (ua a e r)
theorem FO(hhp:ah x=0):NxL x (am x (iA (aG x) 3)):=by
 have f:∀e∈aG x,∃b∈ag x,e.a=b.at_+1:=by intro e c;rw[qC hhp] at c;obtain⟨b,g,-,h⟩:=fV c;exact⟨b,g,h⟩
 refine qg λe c=>?_;by_cases d:32<=(aG x).length
 .rw[cr d] at c;exact .inr (f e (kxt c))
 rw[iK d] at c;rcases kqx.1 c with rfl|c
 .exact .inl (by dsimp only;omega)
 exact .inr (f e c)
theorem NxL.mkd(h:NxL ws xs)(h0:ah ws=0):eE (ag xs)=eE (ag ws)/\az (ag xs) 128=az (ag ws) 128:=by rw[((h.ev h0).heap h0).2];exact⟨mkd_nx _ _,tX _ _ _⟩
theorem Gc:∀n x,(∀v∈x,v<18446744073709551616)->mzS 2 x<=n->wd x 16=2->aw x=0->NxL x (dg 2 x).2.2/\aG (dg 2 x).2.2=[]:=by
 intro n
 induction n with
 | zero=>intro x _ h d;exfalso;unfold mzS at h;rw[if_pos d] at h;omega
 | succ n ih =>
  intro x i h d b;have a:ah x=0:=by have:=b;unfold aw at this;rw[if_pos (ky b),if_neg (by omega),if_neg (by omega)] at this;exact this
  have e:af x=(0,iA (aG x) 3):=by unfold af;rw[if_pos b,if_neg (by omega),if_pos d,if_pos a]
  have g:(af x).1=0:=by rw[e]
  have hd:=fC i d g;obtain⟨-,-,w,-,-,-,-,-⟩:=l7 i g;obtain⟨p,o,y⟩:=ot a;obtain⟨g1,g2,g3,j,t,g6⟩:=fp b d (.inr rfl) p o y;simp only[Nat.reduceAdd] at j t;have l:NxL x (am x (af x).2):=by rw[e];exact FO a
  rw[dM i d g];by_cases f:32<=(aG x).length
  .rw[if_pos f] at j;have k:wd (am x (af x).2) 16=2:=by rw[e];exact j
   have c:aw (am x (af x).2)=0:=sx w (by omega) (by omega) (uF d g).1;obtain⟨q,-⟩:=ur _ _ (du i g) (kqd _) k c;obtain⟨u,s⟩:=ih _ (du i g) (by omega) k c;rw[if_pos q];exact⟨l.trans a u,s⟩
  rw[if_neg f] at j;have p3':wd (am x (af x).2) 16=3:=by rw[e];exact j
  obtain⟨f1,-,r,m⟩:=va a f;rw[cG (by omega),if_pos rfl];refine⟨l,?_⟩;rw[e,qC r,m];exact mS
theorem Gw(h:aA x=0)(hm:eE (ag x)=dX x):aO x=[]:=by
 obtain⟨m,-,-⟩:=aF h;rw[eg h,show lm (seenL x) (ag x)=[] from ?_]
 .rfl
 unfold lm;rw[kkb];intro b i;obtain⟨a,rfl,a1,a2,n,a4⟩:=(cg m).1 b i;have f:(bkAt x a).mark=eO x (bkAt x a):=by
  rw[kzg,fm n];constructor
  .intro q;have d:((a:Nat):Int)∈eE (ag x):=by unfold eE;exact kzw.2 ⟨bkAt x a,kzo.2 ⟨i,q⟩,ae x a⟩
   rw[hm,gc h] at d;obtain⟨r,e,-,k⟩:=d;obtain rfl:a=r:=by omega
   exact k
  intro k;have d:((a:Nat):Int)∈dX x:=(gc h _).2 ⟨a,rfl,n,k⟩;rw[<-hm] at d;unfold eE at d;obtain⟨c,o,j⟩:=kzw.1 d;obtain⟨g,l⟩:=kzo.1 o;have p:=pE (cg m).2 g i (by rw[j,ae]);rw[<-p];exact l
 unfold eO at f;unfold eG;rw[f];simp
theorem iO{l:List En}{a:Int}{v:Nat}(h:(i:Int)≠a):wd (am x (⟨a,v⟩::l)) i=wd (am x l) i:=by
 simp only[am];split
 .refine lB (by rw[kq4]) ?_;unfold wd;rw[kjc (by omega)]
 rfl
theorem Hd.trans(h0:ah ws=0)(h:Hd ws xs)(g:Hd xs ys):Hd ws ys:=by refine⟨g.len.trans h.len,λi d c=>(g.low i d c).trans (h.low i d c),λb a=>?_⟩;obtain⟨k,f⟩:=h.blk b a;obtain⟨j,e⟩:=g.blk b (by rw[(h.heap h0).2];exact a);exact⟨j.trans k,e.trans f⟩
theorem Hd.rs(h:Hd ws xs)(h0:ah ws=0)(a:Int):bM xs a=bM ws a:=by
 have d:=h.heap h0;have c:aN xs 128=aN ws 128:=by rw[(gj d.1).2.1,(gj h0).2.1,d.2]
 unfold bM;rw[if_pos d.1,if_pos h0,c];cases g:jQ (aN ws 128) a with
 | none=>rfl
 | some b =>obtain⟨e,b2,i⟩:=jm g;rw[(gj h0).2.1] at e;obtain⟨f,j⟩:=h.ty h0 e i;dsimp only;unfold fu vj;rw[f,j]
def Mk (ws:List Nat) (m:Nat):Prop:=bkAt ws m∈ag ws/\(bkAt ws m).mark=true
theorem oZ(h0:ah ws=0)(h:Mk ws m):fQ ws m/\(bkAt ws m).kind=1:=by
 have d:(bkAt ws m).kind=1:=jA (gj h0).2.2.2 (by omega) _ h.1 h.2;obtain⟨k,b,e⟩:=kqz h.1;obtain⟨a,c,f⟩:=ol h0 b (by rw[e];exact d);rw[e] at c;have g:=congrArg Bk.at_ c;rw[ae,ae] at g;obtain rfl:m=a:=by omega
 exact⟨f,d⟩
theorem Hd.mks(h:Hd ws xs)(h0:ah ws=0):Mk xs m↔Mk ws m:=by
 constructor
 .rintro ⟨a,b⟩;obtain⟨g,f⟩:=yB h h0 a;exact⟨g,by rw[<-f];exact b⟩
 rintro ⟨a,b⟩;obtain⟨d,c⟩:=h.blk _ a;rw[ae,kqj] at d c;have e:bkAt xs m=bkAt ws m:=by unfold bkAt;rw[d,c]
 exact⟨by rw[(h.heap h0).2,e];exact a,by rw[e];exact b⟩
theorem Fc(h0:ah ws=0){k0:Nat}(hk:k0<=(ag ws).length)(hb:blocks ws c=some ((ag ws).drop k0))(hj:j<(ag ws).length)(hc:(c:Int)<=(ag ws)[j].at_):k0<=j:=by
 rcases kq6 j k0 with f|d
 .exfalso;obtain⟨a,i,a1,a2,a3,a4⟩:=(cg h0).1 _ (kqp hj);rw[i,ae] at hc;have g:c<ws.length:=by omega
  obtain⟨k,l,-⟩:=cp hb g;rw[kzk] at k;have b:k0<(ag ws).length:=by omega
  have e:(ag ws)[k0]=bkAt ws c:=by rw[<-l];unfold gk;rw[kxn,kqk (by omega),kq9];rfl
  have h:=(cg h0).2;rw[kzj] at h;have:=h j k0 hj b f;rw[e,i,ae,ae] at this;omega
 exact d
theorem Hf(h0:ah ws=0)(hb:Bd ws c)(hc:c<=ws.length):c%2=0:=by
 obtain⟨-,b,hk0,h⟩:=hb;have hs:=(aa _).1 (ay h0).1;by_cases he:c=ws.length
 .omega
 obtain⟨g,i,-⟩:=cp h (by omega);rw[kzk] at g;obtain⟨a,d,a1,a2,-⟩:=(cg h0).1 _ (kqp (show b<(ag ws).length by omega));have e:(ag ws)[b]'(by omega)=bkAt ws c:=by rw[<-i];unfold gk;rw[kxn,kqk (by omega),kq9];rfl
 rw[e] at d;have f:=congrArg Bk.at_ d;rw[ae,ae] at f;omega
theorem bd_gap(h0:ah ws=0)(hb:Bd ws c)(hn:bg ws (c:Int)=0)(e:ie ws (c:Int)=bkAt ws m)(hm:Mk ws m')(hc:c<=m'):m<=m':=by
 obtain⟨v,u⟩:=hm;obtain⟨h1,a,n,d⟩:=hb;obtain⟨-,-,-,y,s,p1,-,p3,-,p5,-,-,-,l,o,-,-,k,r,t,w⟩:=fq hn;have q:y=m:=by have:=s.symm.trans e;have h:=congrArg Bk.at_ this;rw[ae,ae] at h;omega
 subst q;rw[o] at d;obtain rfl:=Option.some.inj d;obtain⟨j,i,b⟩:=kqz v;have hj0:=Fc h0 n o i (by rw[b,ae];omega);rw[kzk] at r;rcases kq6 (j-a) k with g|hge
 .exfalso;have:=t (j-a) g;unfold gk at this;rw[kxn,show a+(j-a)=j by omega,kqk i,kq9,b,u] at this;cases this
 obtain⟨f1,f,-⟩:=cp w (by omega);unfold gk at f;rw[kxm,kxn,kz8,kqk (by omega),kq9] at f;have p:=(cg h0).2;rw[kzj] at p;by_cases x:j=a+k
 .subst x;rw[f] at b;have h:=congrArg Bk.at_ b;rw[ae,ae] at h;omega
 have:=p (a+k) j (by omega) i (by omega);rw[f,b,ae,ae] at this;omega
theorem yj(h0:ah ws=0)(hb:Bd ws c)(hcl:c<=ws.length)(hn:bg ws (c:Int)≠0)(hm:Mk ws m'):¬ c<=m':=by
 intro hc;have n:=Hf h0 hb hcl;obtain⟨i,k⟩:=hm;obtain⟨l,e,f,d⟩:=hb;obtain⟨j,o,g⟩:=kqz i;have hj0:=Fc h0 f d o (by rw[g,ae];omega);have b:bkAt ws m'∈(ag ws).drop e:=by rw[<-g];refine kvc.2 ⟨j-e,by rw[kzk];omega,?_⟩;rw[kj4];congr 1;omega
 have a:0<(eE ((ag ws).drop e)).length:=by
  have:((m':Nat):Int)∈eE ((ag ws).drop e):=by unfold eE;exact kzw.2 ⟨bkAt ws m',kzo.2 ⟨b,k⟩,ae ws m'⟩
  exact List.length_pos_of_mem this
 obtain⟨m,z,l',h,-⟩:=nE (ay h0).1 l hcl n d a;exact hn h
theorem iE(h0:ah ws=0)(h:Mk ws m)(h':Mk ws m')(hlt:m<m'):m+szAt ws m<=m':=by have:=iz h0 (oZ h0 h).1 h'.1;rw[ae] at this;omega
theorem ul(h0:ah ws=0)(h:Mk ws m)(h':Mk ws m')(hr:r∈bM ws (m:Int))(hr':r∈bM ws (m':Int)):m=m':=by
 obtain⟨i,e1,-,e2,-⟩:=ig h0 hr;obtain⟨i',f1,-,f2,-⟩:=ig h0 hr';rcases kj6 m m' with a|a|a
 .have:=iE h0 h h' a;omega
 .exact a
 have:=iE h0 h' h a;omega
theorem CX(h0:ah ws=0):∀k a,ws.length-a<=k->a<=ws.length->Bd ws a->BQ ws a->(kK ws a=(0,bZ)/\∀m:Nat,Mk ws m->a<=m->bM ws (m:Int)=[])\/∃m:Nat,a<=m/\m+szAt ws m<=ws.length/\2<=szAt ws m/\Mk ws m/\kK ws a=(0,⟨17,m+szAt ws m⟩::cD ws (m:Int))/\∀b:Nat,Mk ws b->a<=b->b < m->bM ws (b:Int)=[]:=by
 intro k
 induction k with
 | zero =>
  intro a G i n u;by_cases d:bg ws (a:Int)=0
  .obtain ⟨-,-,-,m,e,-⟩:=fq d;obtain⟨s,v,t,-⟩:=qv n d e;omega
  exact .inl ⟨jT d,λm r g=>absurd g (yj h0 n i d r)⟩
 | succ k ih =>
  intro a G i n u;by_cases d:bg ws (a:Int)=0
  .obtain ⟨-,-,-,m,e,-⟩:=fq d;obtain⟨s,v,t,C,w,x,n7⟩:=qv n d e;have f:=λb (c:Mk ws b) (g:a<=b)=>bd_gap h0 n d e c g;have l:Mk ws m:=⟨w,x⟩;by_cases o:bM ws (m:Int)=[]
   .rw[kN d e o];rcases ih (m+szAt ws m) (by omega) t C (λb h p h3=>u b h p (by omega)) with⟨D,z⟩|⟨b,j1,F,B,E,H,A⟩
    .refine .inl ⟨D,λb c g=>?_⟩;rcases kq6 m b with h|h
     .exact z b c (iE h0 l c h)
     have:=f b c g;obtain rfl:m=b:=by omega
     exact o
    refine .inr ⟨b,by omega,F,B,E,H,λq j g p=>?_⟩;rcases kq6 m q with h|h
    .exact A q j (iE h0 l j h) p
    have:=f q j g;obtain rfl:m=q:=by omega
    exact o
   have y:=u m w x s;refine .inr ⟨m,s,t,v,l,pU d e o y,λb c g p=>?_⟩;have:=f b c g;omega
  exact .inl ⟨jT d,λm r g=>absurd g (yj h0 n i d r)⟩
theorem nj(hob:dt x (m:Int)=0)(h17:j≠17)(hj:∀r∈bM x (m:Int),r≠(j:Int)):wd (am x (⟨17,f⟩::cD x (m:Int))) j=wd x j:=by
 obtain⟨g,-,-,-,-,q5,o,h,c,l⟩:=iQ hob;refine aP _ _ _ λe b p=>?_;rcases kqx.1 b with rfl|b
 .dsimp only at p;omega
 obtain⟨r,n,r2,q,r4⟩:=c e b;obtain rfl:r=j:=by omega
 have k:=h r (λi d s=>hj _ (kqp d) (by rw[(o i d).1,s]));have a:=dR _ x l e b (by omega) (by omega);rw[n,kqj,k] at a;exact q a
theorem ob_hd(hp:ah x=0)(hob:dt x (m:Int)=0):Hd x (am x (⟨17,f⟩::cD x (m:Int))):=by
 refine⟨ax _ _,λi h1 h2=>nj hob (by omega) λr d g=>?_,λb h=>?_⟩
 .obtain ⟨k,j,-,-,e⟩:=ig hp d;have:=e.1;omega
 obtain⟨a,rfl,a1,a2,-⟩:=(cg hp).1 b h;have c:(bkAt x a).at_=(a:Int):=ae x a;rw[c,kqj];refine⟨nj hob (by omega) λr d g=>?_,nj hob (by omega) λr d g=>?_⟩
 .obtain ⟨k,j,n,l,e⟩:=ig hp d;have:=iz hp e h;rw[c] at this;omega
 obtain⟨k,j,n,l,e⟩:=ig hp d;have:=iz hp e h;rw[c] at this;omega
structure FxT (ws xs:List Nat) (c:Nat):Prop where
 hd:Hd ws xs
 sl:∀i,i<16->slAt xs i=nwS ws (ic ws 128 128) i
 done:∀m:Nat,Mk ws m->m<c->∀r∈bM ws (m:Int),Cu ws xs (ic ws 128 128) r.toNat
 todo:∀m:Nat,Mk ws m->c<=m->∀r∈bM ws (m:Int),wd xs r.toNat=wd ws r.toNat
 off:∀i:Nat,128<=i->(∀m:Nat,Mk ws m->(i:Int) ∉ bM ws (m:Int))->wd xs i=wd ws i
theorem Bm(hfs:ep x=0):FxT x (am x (⟨17,128⟩::dV x)) 128:=by
 obtain⟨-,j,-,-,-,-,-,n,q2,q3,p,-⟩:=jG hfs;have b:∀e∈(⟨17,128⟩::dV x:List En),e.a<19\/112<=e.a/\e.a<128:=λe d=>by
  rcases kqx.1 d with rfl|d
  .exact .inl (by dsimp only;omega)
  exact .inr (n e d).1
 have c:∀i:Nat,128<=i->wd (am x (⟨17,128⟩::dV x)) i=wd x i:=λi f=>aP _ _ _ λe d h=>by
  rcases b e d with g|g<;>omega
 refine⟨vh j b,λi f=>?_,λm k g=>?_,λm k g r o=>?_,λi f _=>c i f⟩
 .rw[<-p i f];unfold slAt;rw[iO (by omega)]
 .have:=(oZ j k).1.1;omega
 obtain⟨i,rfl,-,-,l⟩:=ig j o;rw[kqj];exact c _ (by have:=l.1;omega)
theorem DF(h0:ah ws=0)(hr0:aW ws 128 128=0)(hx:FxT ws x c)(hm:Mk x m)(hcm:c<=m)(hob:dt x (m:Int)=0)(hno:∀a:Nat,Mk x a->c<=a->a < m->bM x (a:Int)=[]):FxT ws (am x (⟨17,m+szAt x m⟩::cD x (m:Int))) (m+szAt x m):=by
 have t:=(hx.hd.heap h0).1;have y:Mk ws m:=(hx.hd.mks h0).1 hm;have q:=hx.hd.rs h0;obtain⟨hrx,A⟩:=hx.hd.rd h0 hr0;have hsz:=aH (oZ t hm).1.2.2.2.1;refine⟨hx.hd.trans h0 (ob_hd t hob),λi z=>?_,λa k hlt r f=>?_,λa k hle r f=>?_,λi z o=>?_⟩
 .rw[<-hx.sl i z];unfold slAt;rw[nj hob (by omega) λr f l=>?_];obtain⟨i',C,-,-,p⟩:=ig t f;have:=p.1;omega
 .have h:r∈bM x (a:Int):=by rw[q];exact f
  have d:Mk x a:=(hx.hd.mks h0).2 k;rcases kj6 a m with u|u|u
  .rcases kq6 a c with B|B
   .have b:=hx.done a k B r f;obtain⟨i,rfl,-,-,p⟩:=ig h0 f;rw[kqj] at b |-;have e:wd (am x (⟨17,m+szAt x m⟩::cD x (m:Int))) (a+2+i)=wd x (a+2+i):=nj hob (by have:=p.1;omega) λr s l=>by
     subst l;have:=ul t hm d s h;omega
    unfold Cu at b |-;rw[e];exact b
   rw[hno a d B u] at h;cases h
  .subst u;have n:=hx.todo a k hcm r f;obtain⟨g,-,-,-,-,q5,D,-⟩:=iQ hob;obtain⟨j,E,w⟩:=kqz h;obtain⟨C,-,-,v⟩:=D j E;obtain⟨i,rfl,-,-,p⟩:=ig h0 f;rw[C] at w;have w:g j=a+2+i:=by omega
   rw[w,A] at v;rw[kqj] at n |-;have e:wd (am x (⟨17,a+szAt x a⟩::cD x (a:Int))) (a+2+i)=wd (am x (cD x (a:Int))) (a+2+i):=iO (by have:=p.1;omega);unfold Cu at v |-;rw[e,<-n];rw[hx.hd.len] at v;exact v
  have:=iE t hm d u;omega
 .have d:Mk x a:=(hx.hd.mks h0).2 k;have h:r∈bM x (a:Int):=by rw[q];exact f
  have b:=hx.todo a k (by omega) r f;obtain⟨i,rfl,-,-,p⟩:=ig h0 f;rw[kqj] at b |-;rw[nj hob (by have:=p.1;omega) λr s l=>?_]
  .exact b
  subst l;have:=ul t hm d s h;omega
 rw[nj hob (by omega) λr f l=>?_]
 .exact hx.off i z o
 subst l;rw[q] at f;exact o m y f
theorem F3(h0:ah ws=0)(hx:FxT ws x c)(hno:∀m:Nat,Mk x m->c<=m->bM x (m:Int)=[]):FxT ws (am x bZ) ws.length:=by
 have p:=(hx.hd.heap h0).1;have n:=hx.hd.rs h0;have b:∀i:Nat,19<=i->wd (am x bZ) i=wd x i:=λi j=>aP _ _ _ λe f h=>by
  simp only[bZ,kqx,kzf,or_false] at f;rcases f with rfl|rfl|rfl<;>(dsimp only at h;omega)
 have hd:Hd x (am x bZ):=vh p λe f=>by
  simp only[bZ,kqx,kzf,or_false] at f;rcases f with rfl|rfl|rfl<;>exact .inl (by dsimp only;omega)
 refine⟨hx.hd.trans h0 hd,λi j=>?_,λm g hlt r k=>?_,λm g hle=>?_,λi j d=>(b i (by omega)).trans (hx.off i j d)⟩
 .rw[<-hx.sl i j];unfold slAt;rw[b _ (by omega)]
 .rcases kq6 m c with l|l
  .have a:=hx.done m g l r k;obtain⟨i,rfl,-,-,o⟩:=ig h0 k;rw[kqj] at a |-;unfold Cu at a |-;rw[b _ (by have:=o.1;omega)];exact a
  have:=hno m ((hx.hd.mks h0).2 g) l;rw[n] at this;rw[this] at k;cases k
 have:=(oZ h0 g).1.2.2.1;omega
theorem EG(h0:ah ws=0)(hr0:aW ws 128 128=0):∀n x,(∀v∈x,v<18446744073709551616)->mzS 3 x<=n->I3 x->wd x 17≠0->FxT ws x (wd x 17)->FxT ws (dg 3 x).2.2 ws.length:=by
 intro n
 induction n with
 | zero=>intro x _ h a;exfalso;have:=a.p3;unfold mzS at h;rw[if_pos this] at h;omega
 | succ n ih =>
  intro x d h a z w;obtain⟨k,c⟩:=qw d a;have hd:=fC d a.p3 k;have p3:=a.p3;have e:af x=kK x (wd x 17):=by unfold af;rw[if_pos a.ck,if_neg (by omega),if_neg (by omega),if_pos p3];unfold sgFix;rw[if_neg z]
  obtain⟨-,A,y,hph⟩:=cP a.ck;have hb:=(aa _).1 A;obtain⟨⟨l1,B,l3⟩,-⟩:=(bt x).1 y;have o:Bd x (wd x 17):=by
   refine bd_of a.hp ?_;have b:=ky a.ck;unfold cM at b;by_cases f:nR x (wd x 17)=true
   .exact f
   split at b
   .rw[if_pos ⟨p3,z,by simpa using f⟩] at b;cases b
   exact absurd b (by assumption)
  rw[dM d p3 k];rcases CX a.hp _ (wd x 17) (kqd _) B o a.fx with⟨F,C⟩|⟨m,s,m2,m3,i,D,E⟩
  .rw[F] at e;have l:wd (am x (af x).2) 16=4:=by rw[e];exact (gq a.ck p3).2.2.2.1
   rw[cG (by omega),if_pos rfl,e];exact F3 h0 w C
  rw[D] at e;have g:dt x (m:Int)=0:=a.fx m i.1 i.2 s;have u:=Dq g;have hm128:=(oZ a.hp i).1.1;have q:wd (am x (af x).2) 17=m+szAt x m:=by rw[e];exact jU (j:=17) (by omega) λe r=>by have:=(u e r).1;omega
  have l:wd (am x (af x).2) 16=3:=by rw[e,iO (by omega),aP _ _ _ λe r=>by have:=(u e r).1;omega];exact p3
  have t:I3 (am x (af x).2):=by
   rcases c with c|⟨g1,-⟩
   .exact c
   omega
  have p:=(qr _ _ (du d k) (kqd _) t).1;rw[if_pos p];refine ih _ (du d k) (by omega) t (by omega) ?_;rw[q,e];exact DF h0 hr0 w i s g E
theorem GP(ho:∀v∈x,v<18446744073709551616)(h3:I3 x)(z:wd x 17=0):FxT x (dg 3 x).2.2 x.length:=by
 obtain⟨h,b⟩:=qw ho h3;have p3:=h3.p3;have a:=h3.sl z;have c:=h3.rd;have e:af x=(0,⟨17,128⟩::dV x):=by unfold af;rw[if_pos h3.ck,if_neg (by omega),if_neg (by omega),if_pos p3];unfold sgFix;rw[if_pos z,if_pos a]
 obtain⟨h256,-,-,-,-,-,-,k,-⟩:=jG a;have d:wd (am x (af x).2) 17=128:=by rw[e];exact jU (j:=17) (by omega) λe g=>by have:=(k e g).1;omega
 have h16:wd (am x (af x).2) 16=3:=by rw[e,iO (by omega),aP _ _ _ λe g=>by have:=(k e g).1;omega];exact p3
 have i:I3 (am x (af x).2):=by
  rcases b with b|⟨g1,-⟩
  .exact b
  omega
 have f:=(qr _ _ (du ho h) (kqd _) i).1;rw[dM ho p3 h,if_pos f];refine EG h3.hp c _ _ (du ho h) (kqd _) i (by omega) ?_;rw[d,e];exact Bm a
def MvW (ws xs:List Nat) (m t:Nat):Prop:=wd xs t=cR { ar (wd ws m) with mark:=false }/\wd xs (t+1)=0/\∀j,2<=j->j<szAt ws m->wd xs (t+j)=wd ws (m+j)
structure SlT (ws xs:List Nat) (k F T:Nat):Prop where
 len:xs.length=ws.length
 low:∀i,19<=i->i<128->wd xs i=wd ws i
 up:∀i,T<=i->128<=i->wd xs i=wd ws i
 kle:k<=(ag ws).length
 bl:blocks ws F=some ((ag ws).drop k)
 to:aK ((ag ws).take k) 128=(T:Int)
 mv:∀p∈az ((ag ws).take k) 128,∃m t:Nat,p=((m:Int),(t:Int))/\MvW ws xs m t/\128<=t/\t+szAt ws m<=T/\2<=szAt ws m
theorem unlive(h:b.mark=false):aV b=false:=by unfold aV;rw[h];simp
theorem tN:∀ {l:List Bk} {s:Int},fa l l.length->aK l s=s/\az l s=[]:=by
 intro l
 induction l with
 | nil=>intro s _;exact⟨rfl,rfl⟩
 | cons b l ih =>
  intro s h;have d:b.mark=false:=h 0 (by simp);obtain⟨c,a⟩:=ih (s:=s) λj e=>by have:=h (j+1) (by simpa using e);rwa [iH] at this
  simp only[aK,az,unlive d];exact⟨c,a⟩
theorem sV{l:List Bk}(hk:k<=l.length)(h:fa l k):fa (l.take k) (l.take k).length:=by intro j a;rw[kq3] at a;have:=h j (by omega);unfold gk at this |-;rw[kkw,if_pos (by omega)];exact this
theorem CU(hck:aw x=0)(p4:wd x 16=4)(hnx:bg x ((wd x 17:Nat):Int)=0)(h0:(af x).1=0)(em:ie x ((wd x 17:Nat):Int)=bkAt x m):af x=(0,⟨17,m+szAt x m⟩::⟨18,wd x 18+szAt x m⟩::jN x m (wd x 18))/\dK x (m:Int) ((wd x 18:Nat):Int)=0:=by
 have e:af x=sgSld x:=by unfold af;rw[if_pos hck,if_neg (by omega),if_neg (by omega),if_neg (by omega),if_pos p4]
 rw[e] at h0 |-;have a:dK x (m:Int) ((wd x 18:Nat):Int)=0:=by
  by_cases b:dK x (m:Int) ((wd x 18:Nat):Int)=0
  .exact b
  unfold sgSld at h0;rw[if_pos hnx,em,ae,if_neg b] at h0;exact absurd h0 b
 refine⟨?_,a⟩;unfold sgSld;rw[if_pos hnx,em,ae,if_pos a,bq,show ((m:Int)+((szAt x m:Nat):Int)).toNat=m+szAt x m by omega,show (((wd x 18:Nat):Int)+((szAt x m:Nat):Int)).toNat=wd x 18+szAt x m by omega];unfold iW;rw[if_pos a,kqj,kqj]
theorem Et{u:Nat}(hin:u+szAt x a<=x.length)(h19:19<=i):wd (am x (⟨17,f⟩::⟨18,u+szAt x a⟩::jN x a u)) i=if u<=i/\i<u+szAt x a then (if i=u then cR { ar (wd x a) with mark:=false } else if i=u+1 then 0 else wd x (a+(i-u))) else wd x i:=by
 rw[iO (by omega),iO (by omega),BY hin,rC _ _ _ _ (by rw[fZ];exact hin),fZ];by_cases h:u<=i/\i<u+szAt x a
 .rw[if_pos h,if_pos h,kk _ _ _ (by omega),kq9];by_cases b:i=u
  .rw[if_pos (by omega),if_pos b]
  rw[if_neg (by omega),if_neg b];by_cases c:i=u+1
  .rw[if_pos (by omega),if_pos c]
  rw[if_neg (by omega),if_neg c]
 rw[if_neg h,if_neg h]
theorem Eh(hx:SlT ws x k F T)(h128:128<=T)(hTF:T<=F)(hn:bg x (F:Int)=0)(e:ie x (F:Int)=bkAt x m):∃k',SlT ws (am x (⟨17,m+szAt x m⟩::⟨18,T+szAt x m⟩::jN x m T)) k' (m+szAt x m) (T+szAt x m)/\F<=m/\az ((ag ws).take k') 128=az ((ag ws).take k) 128++[((m:Int),(T:Int))]:=by
 obtain⟨-,-,-,b,W,A,p2,p3,p4,p5,p6,J,P,l,q1,-,-,d,R,X,q4⟩:=fq hn;have Q:b=m:=by have:=W.symm.trans e;have Z:=congrArg Bk.at_ this;rw[ae,ae] at Z;omega
 subst Q;have c:∀i,F<=i->wd x i=wd ws i:=λi L=>hx.up i (by omega) (by omega);have y:blocks ws F=blocks x F:=(dP hx.len F λj N=>c j N).symm;rw[hx.bl,q1] at y;obtain rfl:=Option.some.inj y;rw[kzk] at R;have q:k+d<(ag ws).length:=by omega
 have H:blocks ws b=some (((ag ws).drop k).drop d):=by rw[<-q4];exact (dP hx.len b λj N=>c j (by omega)).symm
 have w:szAt x b=szAt ws b:=by unfold szAt;rw[c b A]
 have C:bkAt x b=bkAt ws b:=by unfold bkAt;rw[c b A,c (b+1) (by omega)]
 obtain⟨f1,f2,f3,I⟩:=cp H (by rw[<-hx.len];omega);rw[kxm,kxm] at I;have v:(ag ws)[k+d]=bkAt ws b:=by rw[<-f2];unfold gk;rw[kxm,kxn,kz8,kqk q,kq9]
 have z:(ag ws).take (k+d+1)=(ag ws).take k++(((ag ws).drop k).take d++[bkAt ws b]):=by rw[kqo q,v,List.take_add,kxr]
 have E:=sV (l:=(ag ws).drop k) (k:=d) (by rw[kzk];omega) X;obtain⟨K,Y⟩:=tN (s:=(T:Int)) E;have o:aV (bkAt ws b)=true:=by rw[C] at J P;unfold aV;rw[J,P];rfl
 have r:aK ((ag ws).take (k+d+1)) 128=((T+szAt x b:Nat):Int):=by rw[z,gF,gF,hx.to,K];simp only[aK,o,if_true];rw[bq,w];omega
 have h:az ((ag ws).take (k+d+1)) 128=az ((ag ws).take k) 128++[((b:Int),(T:Int))]:=by rw[z,fB,fB,hx.to,K,Y];simp only[az,o,if_true,kz2];rw[ae]
 have D:T+szAt x b<=x.length:=by omega
 have g:=λi (L:19<=i)=>Et (x:=x) (a:=b) (f:=b+szAt x b) (u:=T) (i:=i) D L;refine⟨k+d+1,⟨?_,λi B G=>?_,λi B G=>?_,by omega,?_,r,λp n=>?_⟩,A,h⟩
 .rw[ax];exact hx.len
 .rw[g i B,if_neg (by omega)];exact hx.low i B G
 .rw[g i (by omega),if_neg (by omega)];exact hx.up i (by omega) G
 .rw[w,I,kjx]
 rw[h] at n;rcases kz1.1 n with n|n
 .obtain ⟨a,t,rfl,⟨w1,S,U⟩,V,t2,t3⟩:=hx.mv p n;refine⟨a,t,rfl,⟨?_,?_,λj O M=>?_⟩,V,by omega,t3⟩
  .rw[g _ (by omega),if_neg (by omega)];exact w1
  .rw[g _ (by omega),if_neg (by omega)];exact S
  rw[g _ (by omega),if_neg (by omega)];exact U j O M
 rw[kq0] at n;subst n;refine⟨b,T,rfl,⟨?_,?_,λj O M=>?_⟩,h128,by omega,by omega⟩
 .rw[g _ (by omega),if_pos (by omega),if_pos rfl,c b A]
 .rw[g _ (by omega),if_pos (by omega),if_neg (by omega),if_pos rfl]
 rw[g _ (by omega),if_pos (by omega),if_neg (by omega),if_neg (by omega),show T+j-T=j by omega];exact c _ (by omega)
structure SlE (ws xs:List Nat) (T:Nat):Prop where
 len:xs.length=ws.length
 low:∀i,19<=i->i<128->wd xs i=wd ws i
 up:∀i,T<=i->128<=i->wd xs i=wd ws i
 to:aK (ag ws) 128=(T:Int)
 mv:∀p∈az (ag ws) 128,∃m t:Nat,p=((m:Int),(t:Int))/\MvW ws xs m t/\128<=t/\t+szAt ws m<=T/\2<=szAt ws m
theorem FB(h0:ah ws=0)(hx:SlT ws x k F T)(h128:128<=T)(hTF:T<=F)(hFl:F<=ws.length)(hF2:F%2=0)(hn:bg x (F:Int)≠0):SlE ws x T:=by
 have e:∀i,F<=i->wd x i=wd ws i:=λi hi=>hx.up i (by omega) (by omega);have b:blocks x F=some ((ag ws).drop k):=by rw[dP hx.len F λj a=>e j a];exact hx.bl
 have hz:(eE ((ag ws).drop k)).length=0:=by
  rcases kx6 (eE ((ag ws).drop k)).length with d|d
  .exact d
  obtain⟨m,z,l',g,-⟩:=nE (by rw[hx.len];exact (ay h0).1) (by omega) (by rw[hx.len];exact hFl) hF2 b d;exact absurd g hn
 have c:fa ((ag ws).drop k) ((ag ws).drop k).length:=by
  intro j a;unfold gk;rw[kqk a,kq9];cases h:(((ag ws).drop k)[j]).mark with
  | false=>rfl
  | true =>
   have:(((ag ws).drop k)[j]).at_∈eE ((ag ws).drop k):=by unfold eE;exact kzw.2 ⟨_,kzo.2 ⟨kqp a,h⟩,rfl⟩
   have:=List.length_pos_of_mem this;omega
 obtain⟨l,n⟩:=tN (s:=(T:Int)) c;refine⟨hx.len,hx.low,hx.up,?_,λp f=>hx.mv p ?_⟩
 .conv=>lhs;rw[<-kxg k (ag ws)]
  rw[gF,hx.to,l]
 rw[<-kxg k (ag ws),fB,hx.to,n,kzs] at f;exact f
theorem GU(h0:ah ws=0):∀n x k,(∀v∈x,v<18446744073709551616)->mzS 4 x<=n->aw x=0->wd x 16=4->SlT ws x k (wd x 17) (wd x 18)->(dg 4 x).1=0/\wd (dg 4 x).2.2 16=4/\aw (dg 4 x).2.2=0/\bg (dg 4 x).2.2 ((wd (dg 4 x).2.2 17:Nat):Int)≠0/\SlE ws (dg 4 x).2.2 (wd (dg 4 x).2.2 18):=by
 intro n
 induction n with
 | zero=>intro x k _ h _ c;exfalso;unfold mzS at h;rw[if_pos c] at h;omega
 | succ n ih =>
  intro x k g h b c s;obtain⟨-,z,C,w⟩:=cP b;obtain⟨⟨l1,l2,l3⟩,-⟩:=(bt x).1 C;have d:lx (wd x 17)=true/\lx (wd x 18)=true/\wd x 18<=wd x 17:=by
   rcases (cI _ _ _).1 w with o|o|o
   .exact o.2
   .omega
   omega
  have E:=(aT _).1 d.1;have A:=(aT _).1 d.2.1;by_cases a:bg x ((wd x 17:Nat):Int)=0
  .obtain ⟨i,I,r⟩:=CY g b c a;obtain⟨-,-,-,m,y,m1,-⟩:=fq a;obtain⟨e,hmv⟩:=CU b c a i y;obtain⟨B,p,hFm,-⟩:=Eh s A.1 d.2.2 a y;have hd:=fC g c i;have t:wd (am x (af x).2) 17=m+szAt x m:=by
    rw[e];have F:=(aa _).1 z;refine jU (j:=17) (by omega) λe f=>?_;rcases kqx.1 f with rfl|f
    .dsimp only;omega
    obtain⟨q,J,rfl⟩:=kqz f;rw[ga];omega
   have u:wd (am x (af x).2) 18=wd x 18+szAt x m:=by rw[e,iO (by omega)];have F:=(aa _).1 z;refine jU (j:=18) (by omega) λe f=>?_;obtain⟨q,J,rfl⟩:=kqz f;rw[ga];omega
   have l:SlT ws (am x (af x).2) B (wd (am x (af x).2) 17) (wd (am x (af x).2) 18):=by rw[t,u,e];exact p
   obtain⟨H,G⟩:=ih _ B (du g i) (by omega) r I l;rw[dM g c i,if_pos H];exact⟨rfl,G⟩
  have D:(af x).1=6:=by unfold af;rw[if_pos b,if_neg (by omega),if_neg (by omega),if_neg (by omega),if_pos c];unfold sgSld;rw[if_neg a]
  rw[kG c D];exact⟨rfl,c,b,a,FB h0 s A.1 d.2.2 (by rw[<-s.len];omega) E.2.2 a⟩
theorem zb(h0:ah x=0):SlT x x 0 128 128:=⟨rfl,λ_ _ _=>rfl,λ_ _ _=>rfl,kqy _,(gj h0).2.2.2,rfl,λp a=>by simp[az] at a⟩
noncomputable def v1 (x:List Nat):List Nat:=(dg 1 x).2.2
noncomputable def v2 (x:List Nat):List Nat:=(dg 2 (v1 x)).2.2
noncomputable def v3 (x:List Nat):List Nat:=(dg 3 (v2 x)).2.2
noncomputable def v4 (x:List Nat):List Nat:=(dg 4 (v3 x)).2.2
noncomputable def vE (x:List Nat):List Nat:=am (v4 x) (dx (v4 x))
theorem end_rs(ho:∀v∈x,v<18446744073709551616)(hck:aw x=0)(p4:wd x 16=4)(hnx:bg x ((wd x 17:Nat):Int)≠0):rsE x=(0,[dx x],am x (dx x)):=by
 have a:=EZ hck p4 hnx;have i:(af x).1=6:=by unfold af;rw[if_pos hck,if_neg (by omega),if_neg (by omega),if_neg (by omega),if_pos p4];unfold sgSld;rw[if_neg hnx]
 have c:cO x=(0,false,dx x):=by unfold cO;rw[if_pos i,if_neg (by omega),a]
 obtain⟨os,-,-,-,f,-,-,g,-⟩:=zw a;have h:=(pH a).2;have d:aw (am x (dx x))=0:=by unfold aw;rw[if_pos g,if_neg (by omega),if_neg (by omega)];exact f
 have e:(af (am x (dx x))).1=6:=by unfold af;rw[if_pos d,if_neg (by omega),if_neg (by omega),if_neg (by omega),if_neg (by omega)]
 have b:cO (am x (dx x))=(0,true,[]):=by unfold cO;rw[if_pos e,if_pos h]
 rw[gt ho (by rw[c]) (by rw[c]),c];dsimp only;rw[fJ (by rw[b]) (by rw[b]),if_pos rfl]
structure CpF (x:List Nat):Prop where
 e1:(dg 1 x).1=0
 e2:(dg 2 (v1 x)).1=0
 e3:(dg 3 (v2 x)).1=0
 e4:(dg 4 (v3 x)).1=0
 o1:∀v∈v1 x,v<18446744073709551616
 o2:∀v∈v2 x,v<18446744073709551616
 o3:∀v∈v3 x,v<18446744073709551616
 o4:∀v∈v4 x,v<18446744073709551616
 c1:aw (v1 x)=0
 c2:aw (v2 x)=0
 c3:aw (v3 x)=0
 c4:aw (v4 x)=0
 p1:wd (v1 x) 16=2
 p2:wd (v2 x) 16=3
 p3:wd (v3 x) 16=4
 p4:wd (v4 x) 16=4
 n1:1<=(dg 1 x).2.1.length
 n2:1<=(dg 2 (v1 x)).2.1.length
 n3:1<=(dg 3 (v2 x)).2.1.length
 h1:ah (v1 x)=0
 h2:ah (v2 x)=0
 h3:ah (v3 x)=0
 r1:RmL x (v1 x)
 s1:HsL x (v1 x)
 m1:eE (ag (v1 x))=dX x
 k1:aA (v1 x)=0
 r2:NxL (v1 x) (v2 x)
 d2:aW (v2 x) 128 128=0
 z2:wd (v2 x) 17=0
 r3:FxT (v2 x) (v3 x) (v2 x).length
 r4:SlE (v3 x) (v4 x) (wd (v4 x) 18)
 l4:∀i,i<16\/19<=i/\i<112->wd (v4 x) i=wd x i
 nx:bg (v4 x) ((wd (v4 x) 17:Nat):Int)≠0
 en:el (v4 x)=0
 all:rsE x=(0,(dg 1 x).2.1++((dg 2 (v1 x)).2.1++((dg 3 (v2 x)).2.1++((dg 4 (v3 x)).2.1++[dx (v4 x)]))),vE x)
theorem kv(ho:∀v∈x,v<18446744073709551616)(e:(dg p x).1=0){L:List (List En)}(h:rsE (dg p x).2.2=(0,L,y)):rsE x=(0,(dg p x).2.1++L,y):=by have:=(Cb (p:=p) _ x ho (kqd _)).2 e;unfold lC at this;rw[this,h,if_pos rfl]
theorem cpF(ho:∀v∈x,v<18446744073709551616)(p1:wd x 16=1)(hck:aw x=0)(hrc:aA x=0):CpF x:=by
 obtain⟨k,m,J,Z⟩:=uc _ x ho (kqd _) p1 hck hrc;obtain⟨H,N,j,L,B⟩:=EM _ x ho (kqd _) p1 hck hrc;have c:=(kt (p:=1) _ x ho (kqd _) k).1;have R:=λi a=>ql (p:=1) (i:=i) a _ x ho (kqd _) k
 change ∀v∈v1 x,_ at c
 change wd (v1 x) 16=2 at m
 change cA (v1 x)=0 at J
 change RmL x (v1 x) at H
 change HsL x (v1 x) at N
 change aA (v1 x)=0 at j
 change dX (v1 x)=_ at L
 change eE (ag (v1 x))=_ at B
 change ∀i,_->wd (v1 x) i=_ at R
 have h:=(aF j).1;have u:aw (v1 x)=0:=sx J (by omega) (by omega) h;obtain⟨q,y,n,E,V,M,S⟩:=ur _ (v1 x) c (kqd _) m u;obtain⟨g,T⟩:=Gc _ (v1 x) c (kqd _) m u;have b:=(kt (p:=2) _ (v1 x) c (kqd _) q).1;have G:=λi a=>ql (p:=2) (i:=i) a _ (v1 x) c (kqd _) q
 change ∀v∈v2 x,_ at b
 change wd (v2 x) 16=3 at y
 change wd (v2 x) 17=0 at n
 change cA (v2 x)=0 at E
 change aW (v2 x) 128 128=0 at M
 change ah (v2 x)=0 at S
 change NxL (v1 x) (v2 x) at g
 change aG (v2 x)=[] at T
 change ∀i,_->wd (v2 x) i=_ at G
 obtain⟨-,r,O⟩:=g.same h;rw[j] at r;rw[L] at O;have t:aO (v2 x)=[]:=Gw r (by rw[(g.mkd h).1,B,O]);have w:=As b E y n r t T;obtain⟨l,s,F,P,D,f,i7⟩:=qr _ (v2 x) b (kqd _) w;have Q:=GP b w n;have d:=(kt (p:=3) _ (v2 x) b (kqd _) l).1;have K:=λi a=>ql (p:=3) (i:=i) a _ (v2 x) b (kqd _) l
 change ∀v∈v3 x,_ at d
 change wd (v3 x) 16=4 at s
 change wd (v3 x) 17=128 at F
 change wd (v3 x) 18=128 at P
 change aw (v3 x)=0 at D
 change ah (v3 x)=0 at f
 change FxT (v2 x) (v3 x) _ at Q
 change ∀i,_->wd (v3 x) i=_ at K
 obtain⟨o,z,C,A,Y⟩:=GU f _ (v3 x) 0 d (kqd _) D s (by rw[F,P];exact zb f);have I:=(kt (p:=4) _ (v3 x) d (kqd _) o).1;have w4:=λi a=>ql (p:=4) (i:=i) a _ (v3 x) d (kqd _) o;have e:=end_rs I C z A;have q4:=kv d o e;have W:=kv b l q4;have U:=kv c q W;have X:=kv ho k U;exact⟨k,q,l,o,c,b,d,I,u,w.ck,D,C,m,y,s,z,Z,V,i7,h,S,f,H,N,B,j,g,M,n,Q,Y,λi a=>(w4 i a).trans ((K i a).trans ((G i a).trans (R i a))),A,EZ C z A,X⟩
noncomputable def mkS (x:List Nat) (b:Bk):Bk:={ b with mark:=eO x b }
noncomputable def cpL (x:List Nat):List Bk:=(ag x).map (mkS x)
noncomputable def cpM (x:List Nat):List (Int × Int):=az (cpL x) 128
def FxV (M:List (Int × Int)) (v u:Nat):Prop:=(v=0/\u=0)\/(0<v/\gN M (v:Int)=some (u:Int))
theorem zp(h0:ah x=0):Mk x m↔(m:Int)∈eE (ag x):=by
 unfold eE;rw[kzw];constructor
 .rintro ⟨h,g⟩;exact⟨bkAt x m,kzo.2 ⟨h,g⟩,ae x m⟩
 rintro ⟨c,d,e⟩;obtain⟨b,f⟩:=kzo.1 d;obtain⟨a,rfl,-⟩:=(cg h0).1 c b;rw[ae] at e;obtain rfl:a=m:=by omega
 exact⟨b,f⟩
theorem AY(h:aA x=0)(hm:eE (ag x)=dX x)(hb:b∈ag x):b.mark=eO x b:=by
 obtain⟨f,-,-⟩:=aF h;obtain⟨a,rfl,a1,a2,g,a4⟩:=(cg f).1 b hb;rw[kzg,fm g];constructor
 .intro j;have c:(a:Int)∈eE (ag x):=(zp f).1 ⟨hb,j⟩;rw[hm,gc h] at c;obtain⟨i,e,-,d⟩:=c;obtain rfl:a=i:=by omega
  exact d
 intro d;have c:(a:Int)∈dX x:=(gc h _).2 ⟨a,rfl,g,d⟩;rw[<-hm,<-zp f] at c;exact c.2
theorem end_nx(xs:List Nat):∀(l:List Bk) (s:Int),aK (l.map (nxB xs)) s=aK l s:=by
 intro l
 induction l with
 | nil=>intro s;rfl
 | cons b l ih =>intro s;have e:aV (nxB xs b)=aV b:=rfl;have a:(nxB xs b).size=b.size:=rfl;simp only[kxz,aK,e,a,ih]
theorem ET(h0:ah ws=0)(ho:fQ ws m)(r:Int):r∈bM ws (m:Int)↔∃i:Nat,r=((m+2+i:Nat):Int)/\(flds ws m)[i]? = some 3:=by
 obtain⟨k,n,e,-⟩:=ho.2.2.2.2.2.2;have b:bkAt ws m∈ag ws:=by rw[<-e];exact kqp n
 have f:aN ws 128=ag ws:=(gj h0).2.1;obtain⟨b2,c⟩:=mX (l:=ag ws) (a:=(m:Int)) b (ae ws m) ho.2.2.2.2.1;obtain⟨h,j,f3⟩:=jm c;obtain rfl:=pE (cg h0).2 h b (by rw[j,ae]);have g:bM ws (m:Int)=fu ws (bkAt ws m):=by unfold bM;rw[if_pos h0,f,c]
 have o:vj ws (bkAt ws m)=flds ws m:=rfl;rw[g];unfold fu;rw[k8,o,ae];constructor
 .rintro ⟨i,-,d,i3⟩;exact⟨i,by omega,d⟩
 rintro ⟨i,i1,d⟩;exact⟨i,(kza.1 d).1,d,by omega⟩
theorem in_obj(h0:ah ws=0)(ho:fQ ws m)(h1:2<=j)(h2:j<szAt ws m)(hb:b∈ag ws):b.at_≠((m+j:Nat):Int)/\b.at_+1≠((m+j:Nat):Int):=by have:=iz h0 ho hb;omega
section
variable {x:List Nat}
theorem CpF.bl1(F:CpF x)(hrc:aA x=0):ag (v1 x)=cpL x:=by
 obtain⟨d,h,g,g4,c⟩:=F.r1.same hrc;rw[c];unfold cpL;refine kz4 λb f=>?_;have a:mkB (v1 x) b∈ag (v1 x):=by rw[c];exact kju f
 have:=AY d (by rw[F.m1,h]) a;have e:eO (v1 x) (mkB (v1 x) b)=eO x b:=by unfold eO;rw[g];rfl
 rw[e] at this;unfold mkB mkS at *;dsimp only at this;rw[this]
theorem CpF.bl2(F:CpF x):ag (v2 x)=(ag (v1 x)).map (nxB (v2 x)):=((F.r2.ev F.h1).heap F.h1).2
theorem CpF.bl3(F:CpF x):ag (v3 x)=ag (v2 x):=(F.r3.hd.heap F.h2).2
theorem CpF.mvs(F:CpF x)(hrc:aA x=0):az (ag (v2 x)) 128=cpM x/\aK (ag (v2 x)) 128=aK (cpL x) 128/\ic (v2 x) 128 128=cpM x:=by
 have b:az (ag (v2 x)) 128=cpM x:=by rw[F.bl2,tX,F.bl1 hrc];rfl
 refine⟨b,by rw[F.bl2,end_nx,F.bl1 hrc],?_⟩;obtain⟨-,-,l,a,-,c⟩:=bY F.d2;rw[show ((128:Int)).toNat=128 from rfl,(gj F.h2).2.2.2] at a;obtain rfl:=Option.some.inj a;rw[c,b]
theorem CpF.mk2(F:CpF x)(hrc:aA x=0):Mk (v2 x) m↔Rch x m:=by
 rw[zp F.h2,(F.r2.mkd F.h1).1,F.m1,gc hrc];constructor
 .rintro ⟨a,e,-,h⟩;obtain rfl:m=a:=by omega
  exact h
 intro h;exact⟨m,rfl,rZ ((aF hrc).2.2 m h),h⟩
theorem cp_fst(hrc:aA x=0)(F:CpF x):(cpM x).map Prod.fst=dX x:=by have h:=lE (jA (gj F.h1).2.2.2 (by omega)) 128;rw[F.m1,F.bl1 hrc] at h;exact h.symm
theorem pK(hrc:aA x=0)(h:Rch x m):fQ x m:=by obtain⟨b,-,-,-,a⟩:=pS hrc h;exact a
theorem CpF.sz(F:CpF x)(hrc:aA x=0)(h:Rch x m):szAt (v3 x) m=szAt x m/\fQ (v2 x) m/\flds (v2 x) m=flds x m/\(wd (v3 x) m=wd (v1 x) m):=by
 have e:=(F.mk2 hrc).2 h;have a:=pK hrc h;have d:=(aF hrc).1;have c:=(aF hrc).2.2 m h;have b:=(F.r3.hd.blk _ e.1).1;rw[ae,kqj] at b;have f:wd (v2 x) m=wd (v1 x) m:=F.r2.even F.h1 (by have:=a.1;omega) a.2.1;refine⟨?_,(oZ F.h2 e).1,?_,b.trans f⟩
 .rw[<-F.r1.szAt m (by have:=a.1;omega)];unfold szAt;rw[b,f]
 rw[F.r2.flds F.h1 (by rw[F.r1.tb d];exact c),F.r1.flds d c]
theorem CpF.in_(F:CpF x)(hrc:aA x=0)(h:Rch x m)(h1:2<=j)(h2:j<szAt x m):wd (v2 x) (m+j)=wd x (m+j):=by
 have g:=pK hrc h;have f:=(aF hrc).1;have d:=λb c=>in_obj (b:=b) f g h1 h2 c;have h128:=g.1;have i:wd (v2 x) (m+j)=wd (v1 x) (m+j):=by
  rcases F.r2.at_ (m+j) (by omega) with a|⟨b,c,a⟩
  .exact a
  rw[(F.r1.heap f).2] at c;obtain⟨k,e,rfl⟩:=kzw.1 c;exact absurd a.symm (d k e).2
 rw[i];rcases F.s1 (m+j) (by omega) with a|⟨b,c,a⟩
 .exact a
 exact absurd a.symm (d b c).1
structure CpD (w z:List Nat) (M:List (Int × Int)) (T:Nat):Prop where
 len:z.length=w.length
 low:∀i,i<16\/19<=i/\i<112->wd z i=wd w i
 line:wd z 16=0/\wd z 17=0/\wd z 18=0
 sl:∀i,i<16->slAt z i=nwS w M i
 obj:∀p∈M,∃m t:Nat,p=((m:Int),(t:Int))/\Rch w m/\128<=t/\t+szAt w m<=T/\2<=szAt w m/\wd z t=cR { ar (wd w m) with mark:=false }/\wd z (t+1)=0/\(∀i,(flds w m)[i]? = some 3->FxV M (wd w (m+2+i)) (wd z (t+2+i)))/\∀i,2+i<szAt w m->(flds w m)[i]? ≠ some 3->wd z (t+2+i)=wd w (m+2+i)
 to:128<=T/\T<=w.length/\T%2=0
 free:T<w.length->wd z T=cR (ei (w.length-T))/\wd z (T+1)=0
 rest:∀i,T+2<=i->(∀b∈ag w,(i:Int)≠b.at_/\(i:Int)≠b.at_+1)->(∀m,Rch w m->¬ (m<=i/\i<m+szAt w m))->wd z i=wd w i
theorem okFx_v{M:List (Int × Int)}{r:Nat}(h:Cu ws y M r):FxV M (wd ws r) (wd y r):=by
 rcases h with h|⟨b,t,m,a,c,-⟩
 .exact .inl h
 exact .inr ⟨b,by rw[c];exact a⟩
theorem CpF.desc(F:CpF x)(hrc:aA x=0):CpD x (vE x) (cpM x) (aK (cpL x) 128).toNat/\aK (cpL x) 128=((aK (cpL x) 128).toNat:Int):=by
 have h0:=(aF hrc).1;obtain⟨m1,m2,M⟩:=F.mvs hrc;obtain⟨hs,-,-,-,i5,E,-,Z⟩:=iT F.en;have K:=(aT _).1 i5;have hTe:aK (cpL x) 128=((wd (v4 x) 18:Nat):Int):=by rw[<-m2,<-F.bl3];exact F.r4.to
 have hT:(aK (cpL x) 128).toNat=wd (v4 x) 18:=by omega
 rw[hT];obtain⟨T,w⟩:=xq (wd (v4 x) 18);have n:(v4 x).length=x.length:=by rw[F.r4.len,F.r3.hd.len,F.r2.len,F.r1.len]
 have c:=zI F.en;rw[Z,w,n] at c
 change ∀j,wd (vE x) j=_ at c
 have r4:=F.r4;rw[w] at E K r4 |-;rw[n] at E;have k:∀i,19<=i->i<T->wd (vE x) i=wd (v4 x) i:=λi h1 h2=>by
  rw[c,if_neg (by omega),if_neg (by omega),if_neg (by omega)]
 refine⟨⟨?_,λi f=>?_,⟨by rw[c,if_pos (by omega)],by rw[c,if_pos (by omega)],by rw[c,if_pos (by omega)]⟩,λi f=>?_,λp S=>?_,⟨K.1,E,K.2.2⟩,λl=>⟨?_,?_⟩,λi f O U=>?_⟩,by omega⟩
 .unfold vE;rw[ax,n]
 .rw[c,if_neg (by omega),if_neg (by omega),if_neg (by omega)];exact F.l4 i f
 .have D:slAt (vE x) i=slAt (v3 x) i:=by unfold slAt;rw[k _ (by omega) (by omega),r4.low _ (by omega) (by omega)]
  have g:slAt (v2 x) i=slAt x i:=by rw[F.r2.slAt F.h1 f,F.r1.slAt f]
  rw[D,F.r3.sl i f,M];unfold nwS;rw[g]
 .have G:p∈az (ag (v3 x)) 128:=by rw[F.bl3,m1];exact S
  obtain⟨m,t,rfl,⟨w1,V,H⟩,X,N,Q⟩:=r4.mv p G;have d:Rch x m:=by
   have:(m:Int)∈(cpM x).map Prod.fst:=kzw.2 ⟨_,S,rfl⟩;rw[cp_fst hrc F,gc hrc] at this;obtain⟨a,e,-,h⟩:=this;obtain rfl:m=a:=by omega
   exact h
  obtain⟨s1,I,P,s4⟩:=F.sz hrc d;have v:=pK hrc d;have z:=v.1;rw[s1] at H N Q;refine⟨m,t,rfl,d,X,N,Q,?_,?_,λi L=>?_,λi h1 L=>?_⟩
  .rw[k _ (by omega) (by omega),w1,s4,F.r1.raw m (by omega)]
  .rw[k _ (by omega) (by omega),V]
  .have u:((m+2+i:Nat):Int)∈bM (v2 x) (m:Int):=(ET F.h2 I _).2 ⟨i,rfl,by rw[P];exact L⟩;obtain⟨R,D,-,g,-⟩:=ig F.h2 u;have A:szAt (v2 x) m=szAt x m:=by have g:wd (v2 x) m=wd (v1 x) m:=F.r2.even F.h1 (by omega) v.2.1;rw[<-F.r1.szAt m (by omega)];unfold szAt;rw[g]
   have l:2+i<szAt x m:=by omega
   have hd:=F.r3.done m ((F.mk2 hrc).2 d) (by have:=I.2.2.1;omega) _ u;rw[kqj,M] at hd;have:=okFx_v hd;rw[show m+2+i=m+(2+i) by omega,F.in_ hrc d (by omega) l] at this;rw[show m+2+i=m+(2+i) by omega,show t+2+i=t+(2+i) by omega,k _ (by omega) (by omega),H _ (by omega) l];exact this
  rw[show m+2+i=m+(2+i) by omega,show t+2+i=t+(2+i) by omega,k _ (by omega) (by omega),H _ (by omega) (by omega),F.r3.off _ (by omega) λo q u=>?_,F.in_ hrc d (by omega) h1];have y:=(F.mk2 hrc).2 d;obtain⟨R,D,-,g,-⟩:=ig F.h2 u;have A:szAt (v2 x) m=szAt x m:=by have g:wd (v2 x) m=wd (v1 x) m:=F.r2.even F.h1 (by omega) v.2.1;rw[<-F.r1.szAt m (by omega)];unfold szAt;rw[g]
  have Y:m=o:=by
   rcases kj6 m o with B|B|B
   .have:=iE F.h2 y q B;omega
   .exact B
   have:=iE F.h2 q y B;omega
  subst Y;obtain⟨W,e3,C⟩:=(ET F.h2 I _).1 u;obtain rfl:i=W:=by omega
  rw[P] at C;exact L C
 .rw[c,if_neg (by omega),if_pos ⟨l,rfl⟩]
 .rw[c,if_neg (by omega),if_neg (by omega),if_pos ⟨l,rfl⟩]
 have C:wd (vE x) i=wd (v4 x) i:=by rw[c,if_neg (by omega),if_neg (by omega),if_neg (by omega)]
 rw[C,r4.up i (by omega) (by omega),F.r3.off i (by omega) λo q u=>?_]
 .have g:wd (v2 x) i=wd (v1 x) i:=by
   rcases F.r2.at_ i (by omega) with s|⟨b,r,s⟩
   .exact s
   rw[(F.r1.heap h0).2] at r;obtain⟨b0,J,rfl⟩:=kzw.1 r;exact absurd s (O b0 J).2
  rw[g];rcases F.s1 i (by omega) with s|⟨b,r,s⟩
  .exact s
  exact absurd s (O b r).1
 obtain⟨R,D,-,g,e3⟩:=ig F.h2 u;have d:=(F.mk2 hrc).1 q;have v:=pK hrc d;have z:=v.1;have A:szAt (v2 x) o=szAt x o:=by have g:wd (v2 x) o=wd (v1 x) o:=F.r2.even F.h1 (by omega) v.2.1;rw[<-F.r1.szAt o (by omega)];unfold szAt;rw[g]
 exact U o d ⟨by omega,by omega⟩
end
end Go.Proofs.YtpcajamacpbjcaaGreat
