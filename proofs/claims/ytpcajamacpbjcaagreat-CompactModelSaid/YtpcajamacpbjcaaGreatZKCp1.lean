/- Texts laid together: CpP CpQ CpR CpS CpT CpU CpV CpW CpX CpY CpZ CpD. -/
import Derived.Test.YtpcajamacpbjcaaGreatZKStg3
import Derived.Test.YtpcajamacpbjcaaGreatZKRs
set_option maxHeartbeats 16000000
set_option linter.all false
namespace Go.Proofs.YtpcajamacpbjcaaGreat
open Go.RowKit
variable {b:Bk}{r:Int}{E:List En}{ws x xs y ys:List Nat}{F T a c f i j k m m' p:Nat}
theorem Gz(h:cy x=0)(h3:wd x 16≠3):cC x=0:=by unfold cC;rw[if_pos h,if_neg (λh=>h3 h.1)]
theorem wg(h:cy x=0)(h3:wd x 16≠3)(h4:wd x 16≠4)(hh:af x=0):av x=0:=by unfold av;rw[if_pos (Gz h h3),if_neg h4,if_neg h3];exact hh
theorem um:∀n x,(∀v∈x,v<18446744073709551616)->mzS 1 x<=n->wd x 16=1->av x=0->ax x=0->(cK 1 x).1=0/\wd (cK 1 x).2.2 16=2/\cy (cK 1 x).2.2=0/\1<=(cK 1 x).2.1.length:=by
 intro n
 induction n with
 | zero=>intro x _ h d;exfalso;unfold mzS at h;rw[if_pos d] at h;omega
 | succ n ih =>
  intro x k h d j a;have e:ae x=(0,gN (aM x) 2):=by unfold ae;rw[if_pos j,if_pos d,if_pos a]
  have l:(ae x).1=0:=by rw[e]
  have hd:=fi k d l;obtain⟨-,-,p,-,-,-,-,-⟩:=lQ k l;obtain⟨u,r2⟩:=pT a;obtain⟨g1,g2,g3,g,g5,g6⟩:=fa j d (.inl rfl) (dg a) (λy r=>by
   obtain⟨i,q⟩:=kj1.1 r;exact u i y q) (qg a)
  simp only[Nat.reduceAdd] at g;rw[dh k d l];by_cases b:32<=(aM x).length
  .rw[if_pos b] at g;have c:ax (ak x (ae x).2)=0:=by rw[e,b9 b];exact (uB a b).1
   have o:wd (ak x (ae x).2) 16=1:=by rw[e];exact g
   have f:av (ak x (ae x).2)=0:=wg p (by omega) (by omega) (aA c).1;obtain⟨s,w,t,i4⟩:=ih _ (cY k l) (by omega) o f c;rw[if_pos s];exact⟨rfl,w,t,by simp⟩
  rw[if_neg b] at g;have m:wd (ak x (ae x).2) 16=2:=by rw[e];exact g
  rw[ci (by omega),if_pos rfl];exact⟨rfl,m,p,by simp⟩
theorem uF(hhp:af x=0)(hf:¬ 32<=(aH x).length):a9 (ak x (gN (aH x) 3)) 128 128=0/\iE (ak x (gN (aH x) 3)) 128 128=aq (aa x) 128/\af (ak x (gN (aH x) 3))=0/\aa (ak x (gN (aH x) 3))=fwB (aa x) 128:=by
 have p:=pJ (x:=x) (E:=[⟨16,3⟩]) (λe d=>by
  rw[kq1] at d;subst d;exact .inl (by dsimp only;omega))
 obtain⟨k,h⟩:=(p.ev hhp).heap hhp;have c:=bG hhp;have hid:(aa x).map (nxB (ak x [⟨16,3⟩]))=aa x:=by
  rw[kzm (g:=id) (λb f=>?_),List.map_id];obtain⟨a,rfl,a1,a2,-⟩:=c.1 b f;show nxB (ak x [⟨16,3⟩]) (bkAt x a)=bkAt x a;unfold nxB;refine sE ?_;rw[ab,show ((a:Int)).toNat=a from kqk a,aT _ _ _ (λe d=>by
   rw[kq1] at d;subst d;dsimp only;omega)]
  rfl
 rw[hid] at h;have f:=oh k;obtain⟨l,-,i,-,m,j,o,n,-⟩:=f;rw[h] at i;subst i;have e:ak x (gN (aH x) 3)=ak (ak x [⟨16,3⟩]) (aN (aa x) 128):=by rw[ip hf,<-dR,qW hhp];rfl
 rw[e];exact⟨m,j,o,n⟩
theorem tM:∀n x,(∀v∈x,v<18446744073709551616)->mzS 2 x<=n->wd x 16=2->av x=0->(cK 2 x).1=0/\wd (cK 2 x).2.2 16=3/\wd (cK 2 x).2.2 17=0/\cy (cK 2 x).2.2=0/\1<=(cK 2 x).2.1.length/\a9 (cK 2 x).2.2 128 128=0/\af (cK 2 x).2.2=0:=by
 intro n
 induction n with
 | zero=>intro x _ h b;exfalso;unfold mzS at h;rw[if_pos b] at h;omega
 | succ n ih =>
  intro x j h b a;have d:af x=0:=by have:=a;unfold av at this;rw[if_pos (kv a),if_neg (by omega),if_neg (by omega)] at this;exact this
  have e:ae x=(0,gN (aH x) 3):=by unfold ae;rw[if_pos a,if_neg (by omega),if_pos b,if_pos d]
  have i:(ae x).1=0:=by rw[e]
  have hd:=fi j b i;obtain⟨-,-,m,-,-,-,-,-⟩:=lQ j i;obtain⟨A,r,s⟩:=nV d;obtain⟨g1,g2,g3,g,o,g6⟩:=fa a b (.inr rfl) A r s;simp only[Nat.reduceAdd] at g o;rw[dh j b i];by_cases c:32<=(aH x).length
  .rw[if_pos c] at g;have k:wd (ak x (ae x).2) 16=2:=by rw[e];exact g
   have f:av (ak x (ae x).2)=0:=wg m (by omega) (by omega) (uj b i).1;obtain⟨t,B,z,q,i5,u,y⟩:=ih _ (cY j i) (by omega) k f;rw[if_pos t];exact⟨rfl,B,z,q,by simp,u,y⟩
  rw[if_neg c] at g;have l:wd (ak x (ae x).2) 16=3:=by rw[e];exact g
  obtain⟨p,-,w,-⟩:=uF d c;rw[ci (by omega),if_pos rfl];refine⟨rfl,l,by rw[e];exact o,m,by simp,?_,?_⟩
  .rw[e];exact p
  rw[e];exact w
structure Hd (ws xs:List Nat):Prop where
 len:xs.length=ws.length
 low:∀i:Nat,96<=i->i<112->wd xs i=wd ws i
 blk:∀b∈aa ws,wd xs b.at_.toNat=wd ws b.at_.toNat/\wd xs (b.at_.toNat+1)=wd ws (b.at_.toNat+1)
section
variable {ws xs:List Nat}
theorem Hd.blocks(h:Hd ws xs):∀i l,blocks ws i=some l->(∀b∈l,b∈aa ws)->Proofs.YtpcajamacpbjcaaGreat.blocks xs i=some l:=by
 refine cV (λi l=>(∀b∈l,b∈aa ws)->Proofs.YtpcajamacpbjcaaGreat.blocks xs i=some l) (λi d _=>?_) (λi l d j k f g=>?_)
 .exact ay (by rw[h.len];exact d)
 have f:=f (λb k=>g b (kzj _ k));obtain⟨a,m⟩:=h.blk _ (g (bkAt ws i) (by simp));rw[ab,kqk] at a m;have n:szAt xs i=szAt ws i:=by unfold szAt;rw[a]
 have e:stands xs i=true:=by unfold Proofs.YtpcajamacpbjcaaGreat.stands at j |-;rw[a,h.len];exact j
 have c:bkAt xs i=bkAt ws i:=by unfold bkAt;rw[a,m]
 rw[aG (by rw[h.len];exact d) e,n,f,c];rfl
theorem Hd.ty(h:Hd ws xs)(h0:af ws=0)(hb:b∈aa ws)(hk:b.kind=1):wd xs (tyA b)=wd ws (tyA b)/\wd xs (tyA b+1)=wd ws (tyA b+1):=by obtain⟨k,a,rfl⟩:=kqu hb;have ht:=gG (eY h0).2.2.2 (by omega) a hk;unfold tyA;exact⟨h.low _ (by omega) (by omega),h.low _ (by omega) (by omega)⟩
theorem Hd.fit(h:Hd ws xs)(h0:af ws=0)(hb:b∈aa ws):dm xs b=dm ws b:=by
 unfold dm;by_cases a:b.kind=1
 .obtain ⟨c,d⟩:=h.ty h0 hb a;unfold cD;rw[c,d]
 have:(b.kind != 1)=true:=by rw[kqt];exact a
 rw[this,kk9,kk9]
theorem Hd.heap(h:Hd ws xs)(h0:af ws=0):af xs=0/\aa xs=aa ws:=by obtain⟨f,l,g,e,c⟩:=ao h0;have d:=h.blocks 128 l g (λb d=>by rw[c];exact d);rw[c];refine eV (by rw[h.len];exact f) d ?_;rw[kzq] at e |-;intro b a;rw[h.fit h0 (by rw[c];exact a)];exact e b a
theorem Hd.mv(h:Hd ws xs)(h0:af ws=0):∀(l:List Bk) (s:Int),(∀b∈l,b∈aa ws)->bJ xs l s=bJ ws l s:=by
 intro l
 induction l with
 | nil=>intro s _;rfl
 | cons b l ih =>intro s d;simp only[bJ];rw[h.fit h0 (d b (by simp)),ih _ (λc a=>d c (kzj _ a)),ih _ (λc a=>d c (kzj _ a))]
theorem Hd.rd(h:Hd ws xs)(h0:af ws=0)(hr:a9 ws 128 128=0):a9 xs 128 128=0/\iE xs 128 128=iE ws 128 128:=by
 obtain⟨j,m,l,d,g,k⟩:=bT hr;have f:l=aa ws:=by have:=(eY h0).2.2.2;rw[show ((128:Int)).toNat=128 from rfl] at d;rw[d] at this;exact Option.some.inj this
 have a:=h.blocks 128 l d (λb a=>by rw[<-f];exact a);have e:a9 xs 128 128=0:=by rw[ia (by rw[h.len];exact j) (by rw[h.len];exact m) (l:=l) a,h.mv h0 l _ (λb a=>by rw[<-f];exact a),if_pos g]
 obtain⟨-,-,l2,c,-,i⟩:=bT e;rw[show ((128:Int)).toNat=128 from rfl] at c;rw[a] at c;obtain rfl:=Option.some.inj c;exact⟨e,by rw[i,k]⟩
theorem Hd.fx(h:Hd ws xs)(h0:cE ws=0):cE xs=0/\eC xs=eC ws/\aO xs 128=aO ws 128:=by
 obtain⟨a,e,g⟩:=dA h0;obtain⟨c,j⟩:=h.heap a;obtain⟨i,d⟩:=h.rd a e;have b:cE xs=0:=by unfold cE;rw[if_pos c];exact i
 obtain⟨-,-,f⟩:=dA b;exact⟨b,by rw[f,g,d],by rw[(eY c).2.1,(eY a).2.1,j]⟩
theorem wY{M:List (Int × Int)}:∀ {R:List Int},(∀r∈R,wd xs r.toNat=wd ws r.toNat)->da xs M R=da ws M R:=by
 intro R
 induction R with
 | nil=>intro _;rfl
 | cons r R ih =>
  intro h;simp only[da];rw[ih (λx a=>h x (kzj _ a))];have:fm xs M r.toNat=fm ws M r.toNat:=by unfold fm;rw[h r (by simp)]
  rw[this]
theorem Hd.ob(h:Hd ws xs){a:Int}(h0:dw ws a=0)(hr:∀r∈bI ws a,wd xs r.toNat=wd ws r.toNat):dw xs a=0/\cw xs a=cw ws a/\bI xs a=bI ws a:=by
 have e:cE ws=0:=by
  by_cases i:cE ws=0
  .exact i
  rw[(B4 rfl i).1] at h0;exact absurd h0 i
 obtain⟨x,z,A⟩:=h.fx e;obtain⟨g,f2,f3⟩:=dA e;have j:=h.heap g;cases d:kN (aO ws 128) a with
 | none=>rw[(sF e d).1] at h0;cases h0
 | some b =>
  have f:kN (aO xs 128) a=some b:=by rw[A];exact d
  obtain⟨s,b2,B⟩:=jb d;rw[(eY g).2.1] at s;have l:xP xs b=xP ws b:=by obtain⟨u,v⟩:=h.ty g s B;unfold xP;rw[u,v]
  have q:fA xs b=fA ws b:=by unfold fA;rw[l]
  have p:bI ws a=fA ws b:=by simp[bI,g,d]
  have k:bI xs a=fA xs b:=by simp[bI,j.1,f]
  rw[p] at hr;cases c:b.mark with
  | false=>rw[(sJ e d c).1] at h0;cases h0
  | true =>
   cases m:da ws (eC ws) (fA ws b) with
   | none=>rw[(yq e d c m).1] at h0;cases h0
   | some o =>
    have n:da xs (eC xs) (fA xs b)=some o:=by rw[q,z,wY hr];exact m
    obtain⟨o1,w⟩:=As e d c m;obtain⟨y,t⟩:=As x f c n;exact⟨y,by rw[t,w],by rw[k,p,q]⟩
end
def Bd (ws:List Nat) (a:Nat):Prop:=128<=a/\∃k,k<=(aa ws).length/\blocks ws a=some ((aa ws).drop k)
theorem EL(h:af ws=0):Bd ws 128:=⟨kqg _,0,kqy _,(eY h).2.2.2⟩
theorem pH(h:Bd ws a)(hn:be ws (a:Int)=0)(e:iC ws (a:Int)=bkAt ws m):a<=m/\2<=szAt ws m/\m+szAt ws m<=ws.length/\Bd ws (m+szAt ws m)/\bkAt ws m∈aa ws/\(bkAt ws m).mark=true/\(bkAt ws m).kind=1:=by
 obtain⟨h1,k,hk,g⟩:=h;obtain⟨-,-,-,i,s,u,p2,n,p4,y,p6,v,t,l,r,-,-,b,o,-,x⟩:=eW hn;have w:i=m:=by have:=s.symm.trans e;have q:=congrArg Bk.at_ this;rw[ab,ab] at q;omega
 subst w;rw[r] at g;obtain rfl:=Option.some.inj g;have c:i<ws.length:=by omega
 obtain⟨d,p,f3,f⟩:=bZ x c;rw[kxz,kxz] at f;refine⟨u,n,y,⟨by omega,k+b+1,?_,?_⟩,?_,v,t⟩
 .rw[kxc] at o;omega
 .rw[f,kjz]
 rw[<-p];have j:gk ((List.drop k (aa ws)).drop b) 0∈(List.drop k (aa ws)).drop b:=by unfold gk;rw[kqj d,kq2];exact kqm d
 exact kj5 (kj5 j)
theorem bd_of(h:af ws=0)(hb:oU ws f=true):Bd ws f:=by
 obtain⟨-,-,-,d⟩:=eY h;obtain⟨g,-⟩:=ao h;have hbd:=(ac _).1 g;unfold oU at hb;rw[d] at hb;dsimp only at hb;rw[kx7,kx1] at hb;rcases hb with⟨b,i,c⟩|c
 .rw[kqx] at c;obtain⟨k,j,rfl⟩:=kqu i;obtain⟨a,e,a1,l,a3,a4,m⟩:=bH 128 _ d (by omega) k j;rw[e,ab] at c;obtain rfl:a=f:=by omega
  exact⟨l,k,by omega,m⟩
 rw[kqx] at c;subst c;exact⟨by omega,_,kqg _,by rw[kvc];exact ay (kqg _)⟩
theorem bd_is(h:af ws=0)(hb:Bd ws f)(hf:f<=ws.length):oU ws f=true:=by
 obtain⟨-,-,-,b⟩:=eY h;obtain⟨h1,k,hk,d⟩:=hb;unfold oU;rw[b];dsimp only;rw[kx7,kx1];by_cases e:f=ws.length
 .right;rw[kqx];exact e
 left;obtain⟨a,c,f3,f4⟩:=bZ d (by omega);refine⟨bkAt ws f,?_,by rw[kqx,ab]⟩;rw[<-c];unfold gk;rw[kqj a,kq2];exact kj5 (kqm a)
def AR (ws:List Nat) (a:Nat):Prop:=∀m:Nat,bkAt ws m∈aa ws->(bkAt ws m).mark=true->a<=m->dw ws (m:Int)=0
theorem zm :∀k a,ws.length-a<=k->Bd ws a->AR ws a->(kM ws a).1=0/\(kM ws a=(0,bK)\/∃m:Nat,a<=m/\2<=szAt ws m/\m+szAt ws m<=ws.length/\Bd ws (m+szAt ws m)/\bkAt ws m∈aa ws/\(bkAt ws m).mark=true/\kM ws a=(0,⟨17,m+szAt ws m⟩::cw ws (m:Int))):=by
 intro k
 induction k with
 | zero =>
  intro a A g c;by_cases b:be ws (a:Int)=0
  .obtain ⟨-,-,-,m,e,-⟩:=eW b;obtain⟨d,o,n,-⟩:=pH g b e;omega
  rw[jM b];exact⟨rfl,.inl rfl⟩
 | succ k ih =>
  intro a A g c;by_cases b:be ws (a:Int)=0
  .obtain ⟨-,-,-,m,e,-⟩:=eW b;obtain⟨d,o,n,p,l,i,n7⟩:=pH g b e;by_cases j:bI ws (m:Int)=[]
   .rw[jT b e j];obtain⟨t,h⟩:=ih (m+szAt ws m) (by omega) p (λf r s h3=>c f r s (by omega));refine⟨t,?_⟩;rcases h with h|⟨f,j1,q,w,z,u,y,x⟩
    .exact .inl h
    exact .inr ⟨f,by omega,q,w,z,u,y,x⟩
   have v:=c m l i d;rw[pI b e j v];exact⟨rfl,.inr ⟨m,d,o,n,p,l,i,rfl⟩⟩
  rw[jM b];exact⟨rfl,.inl rfl⟩
theorem gj(h:af ws=0)(hr:r∈bI ws (m:Int)):∃i:Nat,r=((m+2+i:Nat):Int)/\i<(flds ws m).length/\m+2+i<m+szAt ws m/\cb ws m:=by
 unfold bI at hr;rw[if_pos h] at hr;cases e:kN (aO ws 128) (m:Int) with
 | none=>rw[e] at hr;cases hr
 | some b =>
  rw[e] at hr;dsimp only at hr;obtain⟨c,e1,j,f⟩:=EY h e;obtain rfl:c=m:=by omega
  have n:xP ws b=flds ws c:=by rw[j];rfl
  have d:b.at_=(c:Int):=by rw[j,ab]
  unfold fA at hr;obtain⟨i,g,-,l⟩:=kc.1 hr;rw[n] at g;have a:=f.2.2.2.2.2.1;rw[iK (ws:=ws) (b:=bkAt ws c) f.2.2.2.2.1] at a;simp only[kqz,kqx] at a;have k:=a.2;rw[aV] at k;have h8:(flds ws c).length=(aX (wd ws (tyA (bkAt ws c))) (wd ws (tyA (bkAt ws c)+1))).length:=rfl;unfold aP at k;exact⟨i,by rw[l,d];omega,g,by omega,f⟩
theorem gp(h:af ws=0)(ho:cb ws a)(hb:b∈aa ws):b.at_<=(a:Int)/\(b.at_=(a:Int)\/b.at_+2<=(a:Int))\/((a+szAt ws a:Nat):Int)<=b.at_:=by
 obtain⟨o1,o2,r,q,o5,o6,k,s,e,d⟩:=ho;obtain⟨j,l,rfl⟩:=kqu hb;rcases kq9 k j with n|n
 .rw[aG r q] at d;cases f:blocks ws (a+szAt ws a) with
  | none=>rw[f] at d;cases d
  | some l' =>
   rw[f] at d;simp only[kzk,Option.some.injEq] at d;have p:l'=(aa ws).drop (k+1):=by
    have:=congrArg (List.drop 1) d;rw[kxz] at this
    simpa using this
   have m:(aa ws)[j]∈l':=by rw[p];refine kve.2 ⟨j-(k+1),by rw[kxc];omega,?_⟩;rw[kj6];congr 1;omega
   have:=(lu _ _ f).1 _ m;exact .inr this
 have i:=(bG h).2;rw[kzf] at i;have ha:(aa ws)[k].at_=(a:Int):=by rw[e,ab]
 obtain⟨c,o,c1,c2,-⟩:=(bG h).1 _ (kqm l);have hc:(aa ws)[j].at_=(c:Int):=by rw[o,ab]
 left;rcases kq9 j k with g|g
 .have:=i j k l s g;omega
 have:j=k:=by omega
 subst this;omega
structure I3 (x:List Nat):Prop where
 ck:av x=0
 p3:wd x 16=3
 hp:af x=0
 sl:wd x 17=0->eE x=0
 fx:AR x (wd x 17)
theorem I3.rd(h:I3 x):a9 x 128 128=0:=by have:=h.ck;unfold av at this;rw[if_pos (kv h.ck),if_neg (by rw[h.p3];decide),if_pos h.p3] at this;exact this
theorem hd_put(h:af x=0)(hE:∀e∈E,e.a<19\/112<=e.a/\∀b∈aa x,e.a≠b.at_/\e.a≠b.at_+1):Hd x (ak x E):=by
 refine⟨aD _ _,λi h1 h2=>aT _ _ _ λe f g=>?_,λb j=>?_⟩
 .rcases hE e f with c|c<;>omega
 obtain⟨a,rfl,a1,-⟩:=(bG h).1 b j;have d:(bkAt x a).at_=(a:Int):=ab x a;rw[d,kqk];refine⟨aT _ _ _ λe f g=>?_,aT _ _ _ λe f g=>?_⟩
 .rcases hE e f with c|⟨-,c⟩
  .omega
  exact (c _ j).1 (by rw[d];exact g)
 rcases hE e f with c|⟨-,c⟩
 .omega
 exact (c _ j).2 (by rw[d,g];rfl)
theorem ui(h:af x=0)(hE:∀e∈E,e.a<19\/112<=e.a/\e.a<128):Hd x (ak x E):=hd_put h λe g=>by
 rcases hE e g with c|c
 .exact .inl c
 .refine .inr ⟨c.1,λb f=>?_⟩;obtain⟨a,rfl,a1,-⟩:=(bG h).1 b f;have d:(bkAt x a).at_=(a:Int):=ab x a;rw[d];omega
theorem zA(h:Hd x xs)(h0:af x=0)(hm:bkAt xs m∈aa xs):bkAt x m∈aa x/\bkAt xs m=bkAt x m:=by
 rw[(h.heap h0).2] at hm;obtain⟨a,e,-⟩:=(bG h0).1 _ hm;have b:=congrArg Bk.at_ e;rw[ab,ab] at b;obtain rfl:m=a:=by omega
 rw[e] at hm;exact⟨hm,e⟩
theorem hd_bd(h:Hd x xs)(h0:af x=0)(c:Bd x a):Bd xs a:=by obtain⟨d,k,f,e⟩:=c;refine⟨d,k,by rw[(h.heap h0).2];exact f,?_⟩;rw[(h.heap h0).2];exact h.blocks a _ e λb c=>kj5 c
theorem pw(ho:∀v∈x,v<18446744073709551616)(h:I3 x):(ae x).1=0/\(I3 (ak x (ae x).2)\/wd (ak x (ae x).2) 16=4/\wd (ak x (ae x).2) 17=128/\wd (ak x (ae x).2) 18=128/\Hd x (ak x (ae x).2)/\cy (ak x (ae x).2)=0):=by
 have p3:=h.p3;have e:ae x=cZ x:=by unfold ae;rw[if_pos h.ck,if_neg (by omega),if_neg (by omega),if_pos p3]
 obtain⟨-,hs,hl,U⟩:=cr h.ck;have K:=(ac _).1 hs;obtain⟨⟨l1,l2,l3⟩,-⟩:=(bj x).1 hl;have E:=h.rd;by_cases z:wd x 17=0
 .have H:=h.sl z;have C:cZ x=(0,⟨17,128⟩::dK x):=by unfold cZ;rw[if_pos z,if_pos H]
  have I:(ae x).1=0:=by rw[e,C]
  obtain⟨-,-,q,-⟩:=lQ ho I;refine⟨I,.inl ?_⟩;obtain⟨-,-,-,-,-,-,-,L,q2,q3,-⟩:=jj H;obtain⟨g1,g2,g3,t,y,N⟩:=jc (f:=128) (l:=dK x) h.ck p3 (by decide) (by omega) (by omega) (by omega) q2 (λe c=>by have:=(L e c).1;omega) (λe c=>(L e c).2);have o:Hd x (ak x (⟨17,128⟩::dK x)):=ui h.hp λe c=>by
   rcases kq0.1 c with rfl|c
   .exact .inl (by dsimp only;omega)
   exact .inr (L e c).1
  rw[e,C] at q |-;dsimp only at q |-;have n:=(o.heap h.hp).1;have d:cC (ak x (⟨17,128⟩::dK x))=0:=by unfold cC;rw[if_pos q,if_neg];rintro ⟨-,-,p⟩;rw[y,bd_is n (EL n) (by rw[o.len];omega)] at p;cases p
  refine⟨?_,t,n,λg=>?_,λm g D p=>?_⟩
  .unfold av;rw[if_pos d,if_neg (by rw[t];decide),if_pos t];exact (o.rd h.hp E).1
  .rw[y] at g;cases g
  obtain⟨P,Z⟩:=zA o h.hp g;rw[Z] at D;have s:=h.fx m P D (by omega);refine (o.ob s λr u=>?_).1;obtain⟨i,rfl,Q,X,w⟩:=gj h.hp u;rw[kqk];refine aT _ _ _ λe c S=>?_;have:=w.1;rcases kq0.1 c with rfl|c
  .dsimp only at S;omega
  have:=(L e c).1;omega
 have hF:128<=wd x 17:=by
  rcases (cq _ _ _).1 U with g|⟨-,-,g⟩|g
  .omega
  .rcases g with g|g
   .exact absurd g z
   exact ((aQ _).1 g).1
  omega
 have C:cZ x=kM x (wd x 17):=by unfold cZ;rw[if_neg z]
 have O:Bd x (wd x 17):=by
  refine bd_of h.hp ?_;have d:=kv h.ck;unfold cC at d;by_cases G:oU x (wd x 17)=true
  .exact G
  split at d
  .rw[if_pos ⟨p3,z,by simpa using G⟩] at d;cases d
  exact absurd d (by assumption)
 obtain⟨f1,W⟩:=zm _ (wd x 17) (kqg _) O h.fx;have I:(ae x).1=0:=by rw[e,C];exact f1
 obtain⟨-,-,q,-⟩:=lQ ho I;refine⟨I,?_⟩;rcases W with W|⟨m,P,Z,m3,m4,m5,m6,m7⟩
 .right;rw[e,C,W] at q |-;obtain⟨g1,g2,g3,t,y,N⟩:=fV h.ck p3;refine⟨t,y,N,ui h.hp λe c=>?_,q⟩;simp only[bK,kq0,kzu,or_false] at c;rcases c with rfl|rfl|rfl<;>exact .inl (by dsimp only;omega)
 left;rw[e,C,m7] at q |-;dsimp only at q |-;have s:=h.fx m m5 m6 P;obtain⟨f,-,-,-,-,q5,q6,q7,T,Y⟩:=iu s;have q8:=Dv s;have hme:m%2=0/\szAt x m%2=0:=by
  obtain⟨a,ea,a1,a2,a3,a4⟩:=(bG h.hp).1 _ m5;have p:=congrArg Bk.at_ ea;rw[ab,ab] at p;obtain rfl:m=a:=by omega
  have:=aC a4;omega
 obtain⟨g1,g2,g3,t,y,N⟩:=jc (f:=m+szAt x m) (l:=cw x (m:Int)) h.ck p3 ((aQ _).2 (by omega)) m3 (by omega) (by omega) Y (λe c=>by have:=q8 e c;omega) (λe c=>by have:=q8 e c;omega);have k:∀j:Nat,j≠17->(∀r∈bI x (m:Int),r≠(j:Int))->wd (ak x (⟨17,m+szAt x m⟩::cw x (m:Int))) j=wd x j:=by
  intro j h17 hj;refine aT _ _ _ λe c S=>?_;rcases kq0.1 c with rfl|c
  .dsimp only at S;omega
  obtain⟨r,r1,r2,r3,r4⟩:=T e c;obtain rfl:r=j:=by omega
  have h6:=q7 r (λi hi hf=>hj _ (kqm hi) (by rw[(q6 i hi).1,hf]));have J:=dy _ x Y e c (by omega) (by omega);rw[r1,kqk,h6] at J;exact r3 J
 have o:Hd x (ak x (⟨17,m+szAt x m⟩::cw x (m:Int))):=by
  refine⟨aD _ _,λi g D=>k i (by omega) λr u A=>?_,λb K=>?_⟩
  .obtain ⟨R,M,-,-,w⟩:=gj h.hp u;have:=w.1;omega
  obtain⟨a,rfl,a1,a2,-⟩:=(bG h.hp).1 b K;have B:(bkAt x a).at_=(a:Int):=ab x a;rw[B,kqk];refine⟨k _ (by omega) λr u A=>?_,k _ (by omega) λr u A=>?_⟩
  .obtain ⟨R,M,Q,X,w⟩:=gj h.hp u;have:=gp h.hp w K;rw[B] at this;omega
  obtain⟨R,M,Q,X,w⟩:=gj h.hp u;have:=gp h.hp w K;rw[B] at this;omega
 have n:=(o.heap h.hp).1;have d:cC (ak x (⟨17,m+szAt x m⟩::cw x (m:Int)))=0:=by unfold cC;rw[if_pos q,if_neg];rintro ⟨-,-,p⟩;rw[y,bd_is n (hd_bd o h.hp m4) (by rw[o.len];omega)] at p;cases p
 refine⟨?_,t,n,λg=>?_,λm' g D p=>?_⟩
 .unfold av;rw[if_pos d,if_neg (by rw[t];decide),if_pos t];exact (o.rd h.hp E).1
 .rw[y] at g;omega
 obtain⟨n1,n2⟩:=zA o h.hp g;rw[n2] at D;rw[y] at p;have F:=h.fx m' n1 D (by omega);refine (o.ob F λr u=>?_).1;obtain⟨i,rfl,Q,X,w⟩:=gj h.hp u;rw[kqk];refine k _ (by have:=w.1;omega) λr2 V A=>?_;obtain⟨R,M,j1,j2,j3⟩:=gj h.hp V;omega
theorem BI(x:List Nat)(t:Nat):mvd x t t=true:=by
 unfold mvd;cases t with
 | zero=>unfold Ah;simp
 | succ t=>unfold Ah;rw[if_neg (by omega)];simp
theorem pO:∀n x,(∀v∈x,v<18446744073709551616)->mzS 3 x<=n->I3 x->(cK 3 x).1=0/\wd (cK 3 x).2.2 16=4/\wd (cK 3 x).2.2 17=128/\wd (cK 3 x).2.2 18=128/\av (cK 3 x).2.2=0/\af (cK 3 x).2.2=0/\1<=(cK 3 x).2.1.length:=by
 intro n
 induction n with
 | zero=>intro x _ h a;exfalso;have:=a.p3;unfold mzS at h;rw[if_pos this] at h;omega
 | succ n ih =>
  intro x c h a;obtain⟨d,b⟩:=pw c a;have hd:=fi c a.p3 d;rw[dh c a.p3 d];rcases b with b|⟨e,i,g,f,o⟩
  .obtain ⟨l,q,p,j,k,m,i7⟩:=ih _ (cY c d) (by omega) b;rw[if_pos l];exact⟨rfl,q,p,j,k,m,by simp⟩
  rw[ci (by omega),if_pos rfl];refine⟨rfl,e,i,g,?_,(f.heap a.hp).1,by simp⟩;unfold av;rw[if_pos (Gz o (by omega)),if_pos e];dsimp only;rw[g,i,if_pos (BI _ _)];exact (f.rd a.hp a.rd).1
theorem yH(ho:∀v∈x,v<18446744073709551616)(hp:cy x=0)(p3:wd x 16=3)(p17:wd x 17=0)(hrc:ax x=0)(hw:aM x=[])(hn:aH x=[]):I3 x:=by
 obtain⟨o,a,M,c,d,s1,k,r,p,u,-⟩:=tq hrc ho;rw[hw] at c;have c:o=x:=c;subst c;rw[hn] at d;have d:a=o:=d;subst d;have b:=(aA hrc).1;have g:cC a=0:=by unfold cC;rw[if_pos hp,if_neg];rintro ⟨-,h,-⟩;exact h p17
 refine⟨?_,p3,b,λ_=>p,λm s y _=>?_⟩
 .unfold av;rw[if_pos g,if_neg (by omega),if_pos p3];exact k
 have n:=(eY b).2.2.2;obtain⟨-,-,l,j,-,w⟩:=bT k;rw[show ((128:Int)).toNat=128 from rfl,n] at j;obtain rfl:=Option.some.inj j;have e:=la (iV n (by omega)) 128;have i:(m:Int)∈dG (aa a):=by unfold dG;refine kzi.2 ⟨bkAt a m,kzv.2 ⟨s,y⟩,ab a m⟩
 rw[e] at i;obtain⟨q,t,f⟩:=kzi.1 i;rw[<-f];exact u q (by rw[<-r,w];exact t)
section
variable {ws xs:List Nat}
theorem AJ(h:∀j,96<=j->wd xs j=wd ws j)(b:Bk):dm xs b=dm ws b:=by unfold dm cD;rw[h (tyA b) (by unfold tyA;omega),h (tyA b+1) (by unfold tyA;omega)]
theorem C2(h:∀j,96<=j->wd xs j=wd ws j):∀(l:List Bk) (s:Int),bJ xs l s=bJ ws l s:=by
 intro l
 induction l with
 | nil=>intro s;rfl
 | cons b l ih =>intro s;simp only[bJ];rw[AJ h,ih,ih]
theorem C0(hn:xs.length=ws.length)(h:∀j,96<=j->wd xs j=wd ws j){f s:Int}(hf:96<=f.toNat):a9 xs f s=a9 ws f s:=by
 unfold a9 lj;rw[hn,dX hn f.toNat (λj hj=>h j (by omega))];cases blocks ws f.toNat with
 | none=>rfl
 | some l=>dsimp only;rw[C2 h]
theorem C4{t:Nat}(h:∀j,96<=j->j<t->wd xs j=wd ws j)(ht:mdOk xs t=true)(h128:128<=t):∀n i,t-i<=n->128<=i->mvd ws i t=true->mvd xs i (t+szAt xs t)=true:=by
 have hsz:=kZ ht;have a:mvd xs t (t+szAt xs t)=true:=by rw[ku (by omega) ht,jx (kqg _)];simp
 intro n
 induction n with
 | zero =>intro i l m b;rw[jx (by omega),kqx] at b;subst b;exact a
 | succ n ih =>
  intro i l m b;by_cases f:i<t
  .cases c:mdOk ws i with
   | false=>rw[sj f c] at b;cases b
   | true =>
    have hz:=kZ c;rw[ku f c] at b;have k:wd xs i=wd ws i:=h i (by omega) f;have e:mdOk xs i=true:=by unfold mdOk at c |-;rw[k];simp only[kqz,kqx] at c |-;obtain⟨d,p,q,g⟩:=c;refine⟨d,p,q,?_⟩;unfold az at d;rw[kqz] at d;have h7:=(bn _).1 d.1;unfold cD at g |-;rw[h (tyA (ah (wd ws i))) (by unfold tyA;omega) (by unfold tyA;omega),h (tyA (ah (wd ws i))+1) (by unfold tyA;omega) (by unfold tyA;omega)];exact g
    have o:szAt xs i=szAt ws i:=by unfold szAt;rw[k]
    rw[ku (by omega) e,o];exact ih (i+szAt ws i) (by omega) (by omega) b
  rw[jx (by omega),kqx] at b;subst b;exact a
theorem Ga :∀ {k:Nat} {l:List Bk} {s:Int},k<=l.length->ep l k->bJ ws l s=true->bJ ws (l.drop k) s=true:=by
 intro k
 induction k with
 | zero=>intro l s _ _ h;exact h
 | succ k ih =>
  intro l s d c h;cases l with
  | nil=>simp at d
  | cons b l =>
   have e:b.mark=false:=c 0 (by omega);have a:aK b=false:=by unfold aK;rw[e];simp
   simp only[bJ,a,kqz] at h;rw[List.drop_succ_cons];refine ih (by simpa using d) (λj hj=>?_) (by simpa using h.2);have:=c (j+1) (by omega);exact this
theorem Dj(ho:∀v∈x,v<18446744073709551616)(hck:av x=0)(p4:wd x 16=4)(hnx:be x ((wd x 17:Nat):Int)=0):(ae x).1=0/\wd (ak x (ae x).2) 16=4/\av (ak x (ae x).2)=0:=by
 have e:ae x=ey x:=by unfold ae;rw[if_pos hck,if_neg (by omega),if_neg (by omega),if_neg (by omega),if_pos p4]
 obtain⟨-,hs,hl,W⟩:=cr hck;have hb:=(ac _).1 hs;have S:mvd x 128 (wd x 18)=true/\a9 x ((wd x 17:Nat):Int) ((wd x 18:Nat):Int)=0:=by
  have:=hck;unfold av at this;rw[if_pos (kv hck),if_pos p4] at this;by_cases B:mvd x 128 (wd x 18)=true
  .rw[if_pos B] at this;exact⟨B,this⟩
  rw[if_neg B] at this;cases this
 obtain⟨B,Q⟩:=S;obtain⟨-,a1,a2,m,em,m1,m2,m3,m4,m5,m6,m7,m8,l,q1,-,-,k,q2,q3,H⟩:=eW hnx;obtain⟨r1,r2,l2,r3,r4,-⟩:=bT Q;rw[kqk,q1] at r3;obtain rfl:=Option.some.inj r3;obtain⟨u1,u2,u3,u4,u5⟩:=fY r2;have C:a9 x (m:Int) ((wd x 18:Nat):Int)=0:=by
  have O:gt x.length (m:Int) ((wd x 18:Nat):Int)=false:=by
   cases hq:gt x.length (m:Int) ((wd x 18:Nat):Int) with
   | false=>rfl
   | true=>exact absurd ⟨by omega,by omega,by omega,by omega,by omega⟩ ((kq _ _ _).1 hq)
  rw[ia r1 O (l:=l.drop k) (by rw[kqk];exact H),if_pos (Ga (by omega) q3 r4)]
 obtain⟨J,I,f3,f4⟩:=bZ H (by omega);have w:eG x (m:Int) ((wd x 18:Nat):Int)=0:=by
  unfold eG;rw[if_pos C,kqk,H];cases D:l.drop k with
  | nil=>rw[D] at J;simp at J
  | cons c t =>
   dsimp only;rw[D] at I;have Y:c=bkAt x m:=by rw[<-I];rfl
   rw[Y,m7];rfl
 have y:ey x=(0,⟨17,m+szAt x m⟩::⟨18,wd x 18+szAt x m⟩::jt x m (wd x 18)):=by unfold ey;rw[if_pos hnx,em,ab,if_pos w,aV,show ((m:Int)+((szAt x m:Nat):Int)).toNat=m+szAt x m by omega,show (((wd x 18:Nat):Int)+((szAt x m:Nat):Int)).toNat=wd x 18+szAt x m by omega];unfold jO;rw[if_pos w,kqk,kqk]
 have X:(ae x).1=0:=by rw[e,y]
 obtain⟨-,-,k3,-⟩:=lQ ho X;obtain⟨a,u,n,ea,M,en,n2,n10,hu,hua,han,hst,hlv,⟨l3,-,-,-,s4,-⟩,E,o⟩:=fG w;have ea:a=m:=by omega
 have M:u=wd x 18:=by omega
 subst ea;subst en;have R:=M;have P:=(Bl ho hck p4 (by rw[<-e];exact X)).1;have A:=zo (ws:=x) (a:=a) (u:=u) (by omega);rw[<-A] at s4 E;rw[<-M] at y;rw[<-e] at P;have r:(jt x a u).Pairwise (λa b=>a.a<b.a):=by rw[kzf];intro i j hi hj hij;rw[fL,fL];omega
 have s:∀e∈jt x a u,(u:Int)<=e.a/\e.a<((u+szAt x a:Nat):Int):=λe d=>by
  obtain⟨k,hk,rfl⟩:=kqu d;rw[fL];rw[iz] at hk;omega
 have V:∀j:Nat,19<=j->wd (ak x (ae x).2) j=wd (ak x (jt x a u)) j:=by
  intro j hj;rw[e,y,show (⟨17,a+szAt x a⟩::⟨18,u+szAt x a⟩::jt x a u:List En)=[⟨17,a+szAt x a⟩,⟨18,u+szAt x a⟩]++jt x a u from rfl,dR];by_cases q:∃e∈jt x a u,e.a=(j:Int)
  .obtain ⟨K,d,h5⟩:=q;have hm2:=s K d;have t1:=dy (jt x a u) (ak x [⟨17,a+szAt x a⟩,⟨18,u+szAt x a⟩]) r K d (by omega) (by rw[aD];omega);have Z:=dy (jt x a u) x r K d (by omega) (by omega);rw[show K.a.toNat=j by omega] at t1 Z;rw[t1,Z]
  rw[aT _ _ _ (λe d h=>q ⟨e,d,h⟩),aT _ _ _ (λe d h=>q ⟨e,d,h⟩)];refine aT _ _ _ λe d h=>?_;simp only[kq0,kzu,or_false] at d;rcases d with rfl|rfl<;>(dsimp only at h;omega)
 have hfp:=(cq _ _ _).1 W;obtain⟨j1,j2,-,j4,j5,j6⟩:=mS (f:=a+szAt x a) (t:=u+szAt x a) (l:=jt x a u) hck p4 ((aQ _).2 (by omega)) ((aQ _).2 (by omega)) (by omega) (by omega) (by omega) (by omega) (by rw[iz];omega) r (λe d=>by have:=s e d;omega) (sS ho o);have hlen:(ak x (ae x).2).length=x.length:=aD _ _;have g:∀j:Nat,96<=j->j<u->wd (ak x (ae x).2) j=wd x j:=λj h1 h2=>by
  rw[V j (by omega)];exact aT _ _ _ λe d h=>by have:=s e d;omega
 have z:wd (ak x (ae x).2) u=cg { ah (wd x a) with mark:=false }:=by rw[V u (by omega)];exact E
 have p:ah (wd (ak x (ae x).2) u)={ ah (wd x a) with mark:=false }:=by rw[z,jf o];rfl
 have N:szAt (ak x (ae x).2) u=szAt x a:=by have:=congrArg Bk.size p;have e1:(ah (wd (ak x (ae x).2) u)).size=((szAt (ak x (ae x).2) u:Nat):Int):=rfl;have e3:({ ah (wd x a) with mark:=false }:Bk).size=((szAt x a:Nat):Int):=rfl;rw[e1,e3] at this;omega
 have F:cD x (bkAt x a)=true:=by
  obtain⟨-,-,l4,w3,G,-⟩:=bT C;rw[kqk,H] at w3;obtain rfl:=Option.some.inj w3;cases D:l.drop k with
  | nil=>rw[D] at J;simp at J
  | cons c t =>
   rw[D] at I G;have Y:c=bkAt x a:=by rw[<-I];rfl
   rw[Y] at G;simp only[bJ,kqz] at G;have L:=G.1;unfold dm at L;rw[m8] at L
   simpa using L
 have T:mdOk (ak x (ae x).2) u=true:=by
  have h7:=(bn _).1 o;have U:(ah (wd x a)).kind=1:=m8;unfold mdOk az;rw[p,z,o,U];simp only[beq_self_eq_true,kzx,kvm];unfold cD at F |-;have et:tyA ({ ah (wd x a) with mark:=false }:Bk)=tyA (bkAt x a):=rfl;have htl:tyA (bkAt x a)+1<112:=by have:(bkAt x a).typ=(ah (wd x a)).typ:=rfl;unfold tyA;rw[this];dsimp only at h7;omega
  rw[et,g _ (by unfold tyA;omega) (by omega),g _ (by unfold tyA;omega) (by omega)];exact F
 have hg:=C4 g T hu (u-128) 128 (by omega) (by omega) (by rw[R];exact B);rw[N] at hg;have g5:wd (ak x (ae x).2) 17=a+szAt x a:=by rw[e,y];exact j5
 have g6:wd (ak x (ae x).2) 18=u+szAt x a:=by rw[e,y];exact j6
 refine⟨X,P,?_⟩;unfold av;rw[if_pos (Gz k3 (by omega)),if_pos P,g5,g6,if_pos hg,C0 (ws:=ak x (jt x a u)) (by rw[aD,aD]) (λj hj=>V j (by omega)) (by omega)];exact s4
end
theorem E6(hck:av x=0)(p4:wd x 16=4)(hnx:be x ((wd x 17:Nat):Int)≠0):eF x=0:=by
 obtain⟨h,-,a,e,b,f,i,l,d,g⟩:=v6 hck (by omega);obtain⟨-,-,-,c⟩:=cr hck;have hF:128<=wd x 17:=by
  rcases (cq _ _ _).1 c with b|b|b
  .exact ((aQ _).1 b.2.1).1
  .omega
  omega
 have j:a=wd x 17:=by unfold fR at e;rw[if_neg (by omega)] at e;omega
 subst j;have k:lfN x=0:=by
  rw[g];by_cases o:0<(dG l).length
  .obtain ⟨m,z,l',n,-⟩:=mG h b f i d o;exact absurd n hnx
  omega
 unfold eF;rw[if_pos hck,if_pos ⟨p4,k⟩]
theorem sX{x:Nat}(h:az x=true)(hk:(ah x).kind=1)(m n:Bool):fJ (fJ x m) n=fJ x n:=by obtain⟨a,b,-,-⟩:=iy h hk m;obtain⟨y,c⟩:=xq (fJ x m);rw[c] at a b |-;unfold fJ;rw[if_pos a,if_pos h];unfold ge;rw[b]
theorem RmL.trans(h:RmL ws xs)(g:RmL xs ys):RmL ws ys:=by
 refine⟨g.len.trans h.len,λi b=>?_⟩;rcases g.at_ i b with a|⟨a,l,k,f,m,c⟩
 .rw[a];exact h.at_ i b
 rcases h.at_ i b with d|⟨d,h2,j,e,m0,n⟩
 .rw[d] at k f c;exact .inr ⟨a,l,k,f,m,c⟩
 exact .inr ⟨a,l,j,e,m,by rw[c,n,sX j e]⟩
theorem Rm.toL(h:Rm ws xs):RmL ws xs:=⟨h.len,λi _=>h.at_ i⟩
theorem NxL.trans(h0:af ws=0)(h:NxL ws xs)(g:NxL xs ys):NxL ws ys:=by
 refine⟨g.len.trans h.len,λi e=>?_⟩;rcases g.at_ i e with a|⟨b,d,a⟩
 .rw[a];exact h.at_ i e
 rw[((h.ev h0).heap h0).2] at d;obtain⟨f,c,rfl⟩:=kzi.1 d;exact .inr ⟨f,c,a⟩
theorem mkd_nx(xs:List Nat)(l:List Bk):dG (l.map (nxB xs))=dG l:=by
 induction l with
 | nil=>rfl
 | cons b l ih =>
  unfold dG at ih |-;rw[kxk];have e:(nxB xs b).mark=b.mark:=rfl;have a:(nxB xs b).at_=b.at_:=rfl;simp only[kjy,e];split
  .simp only[kxk,a,ih]
  exact ih
theorem uv(xs:List Nat):∀(l:List Bk) (s:Int),aq (l.map (nxB xs)) s=aq l s:=by
 intro l
 induction l with
 | nil=>intro s;rfl
 | cons b l ih =>intro s;have e:aK (nxB xs b)=aK b:=rfl;have a:(nxB xs b).at_=b.at_:=rfl;have c:(nxB xs b).size=b.size:=rfl;simp only[kxk,aq,e,a,c,ih]
theorem Be{n:Nat}(h:Small n E)(hi:i<16\/19<=i/\i<112):wd (ak ws E) i=wd ws i:=aT _ _ _ λe a=>by have:=(h.ins e a).1;omega
theorem px(hi:i<16\/19<=i/\i<112):∀n x,(∀v∈x,v<18446744073709551616)->mzS p x<=n->(cK p x).1=0->wd (cK p x).2.2 i=wd x i:=by
 intro n
 induction n with
 | zero =>
  intro x c h _;have a:wd x 16≠p:=λa=>by unfold mzS at h;rw[if_pos a] at h;omega
  rw[ci a]
 | succ n ih =>
  intro x c h d;by_cases a:wd x 16=p
  .by_cases f:(ae x).1=6
   .rw[kJ a f]
   by_cases b:(ae x).1=0
   .have hd:=fi c a b;rw[dh c a b] at d |-;by_cases e:(cK p (ak x (ae x).2)).1=0
    .rw[if_pos e];have:=ih (ak x (ae x).2) (cY c b) (by omega) e;exact this.trans (Be (lQ c b).2.1 hi)
    rw[if_neg e] at d;exact absurd d e
   rw[qc a f b] at d;exact absurd d b
  rw[ci a]
def HsL (ws xs:List Nat):Prop:=∀i:Nat,19<=i->wd xs i=wd ws i\/∃b∈aa ws,(i:Int)=b.at_
theorem Fk(hE:∀e∈E,e.a<19\/∃b∈aa x,e.a=b.at_):HsL x (ak x E):=λi h19=>by
 by_cases d:∃b∈aa x,(i:Int)=b.at_
 .exact .inr d
 .refine .inl (aT _ _ _ λe h f=>?_);rcases hE e h with c|⟨b,g,c⟩
  .omega
  .exact d ⟨b,g,by rw[<-c,f]⟩
theorem uI(h:ax x=0):∀e∈aM x,∃b∈aa x,e.a=b.at_:=λe c=>by obtain⟨a,d,-,-,-,-,-,rfl,-⟩:=dl h c;exact⟨_,d,(ab x a).symm⟩
theorem Cz:∀n x,(∀v∈x,v<18446744073709551616)->mzS 1 x<=n->wd x 16=1->av x=0->ax x=0->RmL x (cK 1 x).2.2/\HsL x (cK 1 x).2.2/\ax (cK 1 x).2.2=0/\aR (cK 1 x).2.2=aR x/\dG (aa (cK 1 x).2.2)=aR x:=by
 intro n
 induction n with
 | zero=>intro x _ h g;exfalso;unfold mzS at h;rw[if_pos g] at h;omega
 | succ n ih =>
  intro x o h g q a;have e:ae x=(0,gN (aM x) 2):=by unfold ae;rw[if_pos q,if_pos g,if_pos a]
  have j:(ae x).1=0:=by rw[e]
  have hd:=fi o g j;obtain⟨-,-,E,-,-,-,-,-⟩:=lQ o j;obtain⟨M,r2⟩:=pT a;obtain⟨g1,g2,g3,m,g5,g6⟩:=fa q g (.inl rfl) (dg a) (λy G=>by
   obtain⟨i,s⟩:=kj1.1 G;exact M i y s) (qg a)
  simp only[Nat.reduceAdd] at m;rw[dh o g j];by_cases c:32<=(aM x).length
  .rw[if_pos c] at m;obtain⟨d,k⟩:=FT g j c;have l:RmL x (ak x (ae x).2):=by rw[e,b9 c];exact (iw a (kjs 31 _)).toL
   have t:HsL x (ak x (ae x).2):=by rw[e,b9 c];exact Fk λe r=>.inr (uI a e (kxu r))
   have p:wd (ak x (ae x).2) 16=1:=by rw[e];exact m
   have f:av (ak x (ae x).2)=0:=wg E (by omega) (by omega) (aA d).1;obtain⟨I,-⟩:=um _ _ (cY o j) (kqg _) p f d;obtain⟨C,J,B,K,L⟩:=ih _ (cY o j) (by omega) p f d;rw[if_pos I];refine⟨l.trans C,λi s=>?_,B,K.trans k,L.trans k⟩;rcases J i s with w|⟨b,z,w⟩
   .rw[w];exact t i s
   rw[(l.heap (aA a).1).2] at z;obtain⟨A,u,rfl⟩:=kzi.1 z;exact .inr ⟨A,u,w⟩
  rw[if_neg c] at m;have p2':wd (ak x (ae x).2) 16=2:=by rw[e];exact m
  rw[ci (by omega),if_pos rfl];rw[e,ip c];obtain⟨H,D,l3,F⟩:=F5 a 2;refine⟨uW a 2,Fk λe r=>?_,H,D,F⟩;rcases kq0.1 r with rfl|r
  .exact .inl (by dsimp only;omega)
  exact .inr (uI a e r)
theorem Hc(hhp:af x=0):NxL x (ak x (gN (aH x) 3)):=by
 have f:∀e∈aH x,∃b∈aa x,e.a=b.at_+1:=by intro e c;rw[qW hhp] at c;obtain⟨b,g,-,h⟩:=fu c;exact⟨b,g,h⟩
 refine pJ λe c=>?_;by_cases d:32<=(aH x).length
 .rw[b9 d] at c;exact .inr (f e (kxu c))
 rw[ip d] at c;rcases kq0.1 c with rfl|c
 .exact .inl (by dsimp only;omega)
 exact .inr (f e c)
theorem NxL.mkd(h:NxL ws xs)(h0:af ws=0):dG (aa xs)=dG (aa ws)/\aq (aa xs) 128=aq (aa ws) 128:=by rw[((h.ev h0).heap h0).2];exact⟨mkd_nx _ _,uv _ _ _⟩
theorem Hk:∀n x,(∀v∈x,v<18446744073709551616)->mzS 2 x<=n->wd x 16=2->av x=0->NxL x (cK 2 x).2.2/\aH (cK 2 x).2.2=[]:=by
 intro n
 induction n with
 | zero=>intro x _ h d;exfalso;unfold mzS at h;rw[if_pos d] at h;omega
 | succ n ih =>
  intro x l h d b;have a:af x=0:=by have:=b;unfold av at this;rw[if_pos (kv b),if_neg (by omega),if_neg (by omega)] at this;exact this
  have e:ae x=(0,gN (aH x) 3):=by unfold ae;rw[if_pos b,if_neg (by omega),if_pos d,if_pos a]
  have g:(ae x).1=0:=by rw[e]
  have hd:=fi l d g;obtain⟨-,-,p,-,-,-,-,-⟩:=lQ l g;obtain⟨y,q,r⟩:=nV a;obtain⟨g1,g2,g3,k,w,g6⟩:=fa b d (.inr rfl) y q r;simp only[Nat.reduceAdd] at k w;have i:NxL x (ak x (ae x).2):=by rw[e];exact Hc a
  rw[dh l d g];by_cases f:32<=(aH x).length
  .rw[if_pos f] at k;have j:wd (ak x (ae x).2) 16=2:=by rw[e];exact k
   have c:av (ak x (ae x).2)=0:=wg p (by omega) (by omega) (uj d g).1;obtain⟨s,-⟩:=tM _ _ (cY l g) (kqg _) j c;obtain⟨o,m⟩:=ih _ (cY l g) (by omega) j c;rw[if_pos s];exact⟨i.trans a o,m⟩
  rw[if_neg f] at k;have p3':wd (ak x (ae x).2) 16=3:=by rw[e];exact k
  obtain⟨f1,-,u,t⟩:=uF a f;rw[ci (by omega),if_pos rfl];refine⟨i,?_⟩;rw[e,qW u,t];exact nj
theorem Gh(h:ax x=0)(hm:dG (aa x)=aR x):aM x=[]:=by
 obtain⟨m,-,-⟩:=aA h;rw[dx h,show lf (seenL x) (aa x)=[] from ?_]
 .rfl
 unfold lf;rw[List.filter_eq_nil_iff];intro b k;obtain⟨a,rfl,a1,a2,n,a4⟩:=(bG m).1 b k;have f:(bkAt x a).mark=dU x (bkAt x a):=by
  rw[kzr,eN n];constructor
  .intro r;have d:((a:Nat):Int)∈dG (aa x):=by unfold dG;exact kzi.2 ⟨bkAt x a,kzv.2 ⟨k,r⟩,ab x a⟩
   rw[hm,cO h] at d;obtain⟨q,e,-,g⟩:=d;obtain rfl:a=q:=by omega
   exact g
  intro g;have d:((a:Nat):Int)∈aR x:=(cO h _).2 ⟨a,rfl,n,g⟩;rw[<-hm] at d;unfold dG at d;obtain⟨c,p,i⟩:=kzi.1 d;obtain⟨l,j⟩:=kzv.1 p;have o:=pE (bG m).2 l k (by rw[i,ab]);rw[<-o];exact j
 unfold dU at f;unfold dS;rw[f];simp
theorem iq{l:List En}{a:Int}{v:Nat}(h:(i:Int)≠a):wd (ak x (⟨a,v⟩::l)) i=wd (ak x l) i:=by
 simp only[ak];split
 .refine lg (by rw[kze]) ?_;unfold wd;rw[kjo (by omega)]
 rfl
theorem Hd.trans(h0:af ws=0)(h:Hd ws xs)(g:Hd xs ys):Hd ws ys:=by refine⟨g.len.trans h.len,λi a c=>(g.low i a c).trans (h.low i a c),λb d=>?_⟩;obtain⟨e,j⟩:=h.blk b d;obtain⟨f,k⟩:=g.blk b (by rw[(h.heap h0).2];exact d);exact⟨f.trans e,k.trans j⟩
theorem Hd.rs(h:Hd ws xs)(h0:af ws=0)(a:Int):bI xs a=bI ws a:=by
 have d:=h.heap h0;have c:aO xs 128=aO ws 128:=by rw[(eY d.1).2.1,(eY h0).2.1,d.2]
 unfold bI;rw[if_pos d.1,if_pos h0,c];cases f:kN (aO ws 128) a with
 | none=>rfl
 | some b =>obtain⟨e,b2,j⟩:=jb f;rw[(eY h0).2.1] at e;obtain⟨g,i⟩:=h.ty h0 e j;dsimp only;unfold fA xP;rw[g,i]
def Mk (ws:List Nat) (m:Nat):Prop:=bkAt ws m∈aa ws/\(bkAt ws m).mark=true
theorem oQ(h0:af ws=0)(h:Mk ws m):cb ws m/\(bkAt ws m).kind=1:=by
 have d:(bkAt ws m).kind=1:=iV (eY h0).2.2.2 (by omega) _ h.1 h.2;obtain⟨k,b,e⟩:=kqu h.1;obtain⟨a,c,g⟩:=ju h0 b (by rw[e];exact d);rw[e] at c;have f:=congrArg Bk.at_ c;rw[ab,ab] at f;obtain rfl:m=a:=by omega
 exact⟨g,d⟩
theorem Hd.mks(h:Hd ws xs)(h0:af ws=0):Mk xs m↔Mk ws m:=by
 constructor
 .rintro ⟨a,b⟩;obtain⟨g,f⟩:=zA h h0 a;exact⟨g,by rw[<-f];exact b⟩
 rintro ⟨a,b⟩;obtain⟨c,d⟩:=h.blk _ a;rw[ab,kqk] at c d;have e:bkAt xs m=bkAt ws m:=by unfold bkAt;rw[c,d]
 exact⟨by rw[(h.heap h0).2,e];exact a,by rw[e];exact b⟩
theorem Ff(h0:af ws=0){k0:Nat}(hk:k0<=(aa ws).length)(hb:blocks ws c=some ((aa ws).drop k0))(hj:j<(aa ws).length)(hc:(c:Int)<=(aa ws)[j].at_):k0<=j:=by
 rcases kq9 j k0 with b|f
 .exfalso;obtain⟨a,i,a1,a2,a3,a4⟩:=(bG h0).1 _ (kqm hj);rw[i,ab] at hc;have d:c<ws.length:=by omega
  obtain⟨l,k,-⟩:=bZ hb d;rw[kxc] at l;have g:k0<(aa ws).length:=by omega
  have e:(aa ws)[k0]=bkAt ws c:=by rw[<-k];unfold gk;rw[kx8,kqj (by omega),kq2];rfl
  have h:=(bG h0).2;rw[kzf] at h;have:=h j k0 hj g b;rw[e,i,ab,ab] at this;omega
 exact f
theorem Ia(h0:af ws=0)(hb:Bd ws c)(hc:c<=ws.length):c%2=0:=by
 obtain⟨-,b,hk0,f⟩:=hb;have hs:=(ac _).1 (ao h0).1;by_cases he:c=ws.length
 .omega
 obtain⟨i,g,-⟩:=bZ f (by omega);rw[kxc] at i;obtain⟨a,d,a1,a2,-⟩:=(bG h0).1 _ (kqm (show b<(aa ws).length by omega));have e:(aa ws)[b]'(by omega)=bkAt ws c:=by rw[<-g];unfold gk;rw[kx8,kqj (by omega),kq2];rfl
 rw[e] at d;have h:=congrArg Bk.at_ d;rw[ab,ab] at h;omega
theorem bd_gap(h0:af ws=0)(hb:Bd ws c)(hn:be ws (c:Int)=0)(e:iC ws (c:Int)=bkAt ws m)(hm:Mk ws m')(hc:c<=m'):m<=m':=by
 obtain⟨s,r⟩:=hm;obtain⟨h1,a,i,b⟩:=hb;obtain⟨-,-,-,y,t,p1,-,p3,-,p5,-,-,-,l,o,-,-,k,q,v,x⟩:=eW hn;have u:y=m:=by have:=t.symm.trans e;have h:=congrArg Bk.at_ this;rw[ab,ab] at h;omega
 subst u;rw[o] at b;obtain rfl:=Option.some.inj b;obtain⟨j,n,d⟩:=kqu s;have hj0:=Ff h0 i o n (by rw[d,ab];omega);rw[kxc] at q;rcases kq9 (j-a) k with g|hge
 .exfalso;have:=v (j-a) g;unfold gk at this;rw[kx8,show a+(j-a)=j by omega,kqj n,kq2,d,r] at this;cases this
 obtain⟨f1,f,-⟩:=bZ x (by omega);unfold gk at f;rw[kxz,kx8,kxd,kqj (by omega),kq2] at f;have p:=(bG h0).2;rw[kzf] at p;by_cases w:j=a+k
 .subst w;rw[f] at d;have h:=congrArg Bk.at_ d;rw[ab,ab] at h;omega
 have:=p (a+k) j (by omega) n (by omega);rw[f,d,ab,ab] at this;omega
theorem B5(h0:af ws=0)(hb:Bd ws c)(hcl:c<=ws.length)(hn:be ws (c:Int)≠0)(hm:Mk ws m'):¬ c<=m':=by
 intro hc;have k:=Ia h0 hb hcl;obtain⟨n,i⟩:=hm;obtain⟨h,e,f,a⟩:=hb;obtain⟨j,o,g⟩:=kqu n;have hj0:=Ff h0 f a o (by rw[g,ab];omega);have b:bkAt ws m'∈(aa ws).drop e:=by rw[<-g];refine kve.2 ⟨j-e,by rw[kxc];omega,?_⟩;rw[kj6];congr 1;omega
 have d:0<(dG ((aa ws).drop e)).length:=by
  have:((m':Nat):Int)∈dG ((aa ws).drop e):=by unfold dG;exact kzi.2 ⟨bkAt ws m',kzv.2 ⟨b,i⟩,ab ws m'⟩
  exact List.length_pos_of_mem this
 obtain⟨m,z,l',l,-⟩:=mG (ao h0).1 h hcl k a d;exact hn l
theorem ij(h0:af ws=0)(h:Mk ws m)(h':Mk ws m')(hlt:m<m'):m+szAt ws m<=m':=by have:=gp h0 (oQ h0 h).1 h'.1;rw[ab] at this;omega
theorem uY(h0:af ws=0)(h:Mk ws m)(h':Mk ws m')(hr:r∈bI ws (m:Int))(hr':r∈bI ws (m':Int)):m=m':=by
 obtain⟨i,e1,-,e2,-⟩:=gj h0 hr;obtain⟨i',f1,-,f2,-⟩:=gj h0 hr';rcases kjt m m' with a|a|a
 .have:=ij h0 h h' a;omega
 .exact a
 have:=ij h0 h' h a;omega
theorem CT(h0:af ws=0):∀k a,ws.length-a<=k->a<=ws.length->Bd ws a->AR ws a->(kM ws a=(0,bK)/\∀m:Nat,Mk ws m->a<=m->bI ws (m:Int)=[])\/∃m:Nat,a<=m/\m+szAt ws m<=ws.length/\2<=szAt ws m/\Mk ws m/\kM ws a=(0,⟨17,m+szAt ws m⟩::cw ws (m:Int))/\∀b:Nat,Mk ws b->a<=b->b < m->bI ws (b:Int)=[]:=by
 intro k
 induction k with
 | zero =>
  intro a H j n s;by_cases d:be ws (a:Int)=0
  .obtain ⟨-,-,-,m,e,-⟩:=eW d;obtain⟨t,x,u,-⟩:=pH n d e;omega
  exact .inl ⟨jM d,λm r f=>absurd f (B5 h0 n j d r)⟩
 | succ k ih =>
  intro a H j n s;by_cases d:be ws (a:Int)=0
  .obtain ⟨-,-,-,m,e,-⟩:=eW d;obtain⟨t,x,u,F,w,v,n7⟩:=pH n d e;have g:=λb (c:Mk ws b) (f:a<=b)=>bd_gap h0 n d e c f;have h:Mk ws m:=⟨w,v⟩;by_cases o:bI ws (m:Int)=[]
   .rw[jT d e o];rcases ih (m+szAt ws m) (by omega) u F (λb i p h3=>s b i p (by omega)) with⟨z,G⟩|⟨b,j1,y,C,E,B,D⟩
    .refine .inl ⟨z,λb c f=>?_⟩;rcases kq9 m b with i|i
     .exact G b c (ij h0 h c i)
     have:=g b c f;obtain rfl:m=b:=by omega
     exact o
    refine .inr ⟨b,by omega,y,C,E,B,λq l f p=>?_⟩;rcases kq9 m q with i|i
    .exact D q l (ij h0 h l i) p
    have:=g q l f;obtain rfl:m=q:=by omega
    exact o
   have A:=s m w v t;refine .inr ⟨m,t,u,x,h,pI d e o A,λb c f p=>?_⟩;have:=g b c f;omega
  exact .inl ⟨jM d,λm r f=>absurd f (B5 h0 n j d r)⟩
theorem nq(hob:dw x (m:Int)=0)(h17:j≠17)(hj:∀r∈bI x (m:Int),r≠(j:Int)):wd (ak x (⟨17,f⟩::cw x (m:Int))) j=wd x j:=by
 obtain⟨g,-,-,-,-,q5,s,q,c,h⟩:=iu hob;refine aT _ _ _ λe b o=>?_;rcases kq0.1 b with rfl|b
 .dsimp only at o;omega
 obtain⟨r,p,r2,n,r4⟩:=c e b;obtain rfl:r=j:=by omega
 have l:=q r (λi d k=>hj _ (kqm d) (by rw[(s i d).1,k]));have a:=dy _ x h e b (by omega) (by omega);rw[p,kqk,l] at a;exact n a
theorem ob_hd(hp:af x=0)(hob:dw x (m:Int)=0):Hd x (ak x (⟨17,f⟩::cw x (m:Int))):=by
 refine⟨aD _ _,λi h1 h2=>nq hob (by omega) λr d g=>?_,λb h=>?_⟩
 .obtain ⟨j,k,-,-,e⟩:=gj hp d;have:=e.1;omega
 obtain⟨a,rfl,a1,a2,-⟩:=(bG hp).1 b h;have c:(bkAt x a).at_=(a:Int):=ab x a;rw[c,kqk];refine⟨nq hob (by omega) λr d g=>?_,nq hob (by omega) λr d g=>?_⟩
 .obtain ⟨j,k,l,n,e⟩:=gj hp d;have:=gp hp e h;rw[c] at this;omega
 obtain⟨j,k,l,n,e⟩:=gj hp d;have:=gp hp e h;rw[c] at this;omega
structure FxT (ws xs:List Nat) (c:Nat):Prop where
 hd:Hd ws xs
 sl:∀i,i<16->slAt xs i=nwS ws (iE ws 128 128) i
 done:∀m:Nat,Mk ws m->m<c->∀r∈bI ws (m:Int),Cq ws xs (iE ws 128 128) r.toNat
 todo:∀m:Nat,Mk ws m->c<=m->∀r∈bI ws (m:Int),wd xs r.toNat=wd ws r.toNat
 off:∀i:Nat,128<=i->(∀m:Nat,Mk ws m->(i:Int) ∉ bI ws (m:Int))->wd xs i=wd ws i
theorem zR(hfs:eE x=0):FxT x (ak x (⟨17,128⟩::dK x)) 128:=by
 obtain⟨-,j,-,-,-,-,-,o,q2,q3,l,-⟩:=jj hfs;have b:∀e∈(⟨17,128⟩::dK x:List En),e.a<19\/112<=e.a/\e.a<128:=λe d=>by
  rcases kq0.1 d with rfl|d
  .exact .inl (by dsimp only;omega)
  exact .inr (o e d).1
 have c:∀i:Nat,128<=i->wd (ak x (⟨17,128⟩::dK x)) i=wd x i:=λi f=>aT _ _ _ λe d h=>by
  rcases b e d with g|g<;>omega
 refine⟨ui j b,λi f=>?_,λm k g=>?_,λm k g r n=>?_,λi f _=>c i f⟩
 .rw[<-l i f];unfold slAt;rw[iq (by omega)]
 .have:=(oQ j k).1.1;omega
 obtain⟨i,rfl,-,-,p⟩:=gj j n;rw[kqk];exact c _ (by have:=p.1;omega)
theorem Eg(h0:af ws=0)(hr0:a9 ws 128 128=0)(hx:FxT ws x c)(hm:Mk x m)(hcm:c<=m)(hob:dw x (m:Int)=0)(hno:∀a:Nat,Mk x a->c<=a->a < m->bI x (a:Int)=[]):FxT ws (ak x (⟨17,m+szAt x m⟩::cw x (m:Int))) (m+szAt x m):=by
 have t:=(hx.hd.heap h0).1;have A:Mk ws m:=(hx.hd.mks h0).1 hm;have s:=hx.hd.rs h0;obtain⟨hrx,B⟩:=hx.hd.rd h0 hr0;have hsz:=aC (oQ t hm).1.2.2.2.1;refine⟨hx.hd.trans h0 (ob_hd t hob),λi z=>?_,λa l hlt r f=>?_,λa l hle r f=>?_,λi z o=>?_⟩
 .rw[<-hx.sl i z];unfold slAt;rw[nq hob (by omega) λr f h=>?_];obtain⟨i',C,-,-,q⟩:=gj t f;have:=q.1;omega
 .have k:r∈bI x (a:Int):=by rw[s];exact f
  have d:Mk x a:=(hx.hd.mks h0).2 l;rcases kjt a m with u|u|u
  .rcases kq9 a c with w|w
   .have b:=hx.done a l w r f;obtain⟨i,rfl,-,-,q⟩:=gj h0 f;rw[kqk] at b |-;have e:wd (ak x (⟨17,m+szAt x m⟩::cw x (m:Int))) (a+2+i)=wd x (a+2+i):=nq hob (by have:=q.1;omega) λr p h=>by
     subst h;have:=uY t hm d p k;omega
    unfold Cq at b |-;rw[e];exact b
   rw[hno a d w u] at k;cases k
  .subst u;have n:=hx.todo a l hcm r f;obtain⟨g,-,-,-,-,q5,E,-⟩:=iu hob;obtain⟨j,D,y⟩:=kqu k;obtain⟨C,-,-,v⟩:=E j D;obtain⟨i,rfl,-,-,q⟩:=gj h0 f;rw[C] at y;have y:g j=a+2+i:=by omega
   rw[y,B] at v;rw[kqk] at n |-;have e:wd (ak x (⟨17,a+szAt x a⟩::cw x (a:Int))) (a+2+i)=wd (ak x (cw x (a:Int))) (a+2+i):=iq (by have:=q.1;omega);unfold Cq at v |-;rw[e,<-n];rw[hx.hd.len] at v;exact v
  have:=ij t hm d u;omega
 .have d:Mk x a:=(hx.hd.mks h0).2 l;have k:r∈bI x (a:Int):=by rw[s];exact f
  have b:=hx.todo a l (by omega) r f;obtain⟨i,rfl,-,-,q⟩:=gj h0 f;rw[kqk] at b |-;rw[nq hob (by have:=q.1;omega) λr p h=>?_]
  .exact b
  subst h;have:=uY t hm d p k;omega
 rw[nq hob (by omega) λr f h=>?_]
 .exact hx.off i z o
 subst h;rw[s] at f;exact o m A f
theorem Gj(h0:af ws=0)(hx:FxT ws x c)(hno:∀m:Nat,Mk x m->c<=m->bI x (m:Int)=[]):FxT ws (ak x bK) ws.length:=by
 have o:=(hx.hd.heap h0).1;have n:=hx.hd.rs h0;have b:∀i:Nat,19<=i->wd (ak x bK) i=wd x i:=λi k=>aT _ _ _ λe f h=>by
  simp only[bK,kq0,kzu,or_false] at f;rcases f with rfl|rfl|rfl<;>(dsimp only at h;omega)
 have hd:Hd x (ak x bK):=ui o λe f=>by
  simp only[bK,kq0,kzu,or_false] at f;rcases f with rfl|rfl|rfl<;>exact .inl (by dsimp only;omega)
 refine⟨hx.hd.trans h0 hd,λi k=>?_,λm g hlt r j=>?_,λm g hle=>?_,λi k d=>(b i (by omega)).trans (hx.off i k d)⟩
 .rw[<-hx.sl i k];unfold slAt;rw[b _ (by omega)]
 .rcases kq9 m c with l|l
  .have a:=hx.done m g l r j;obtain⟨i,rfl,-,-,p⟩:=gj h0 j;rw[kqk] at a |-;unfold Cq at a |-;rw[b _ (by have:=p.1;omega)];exact a
  have:=hno m ((hx.hd.mks h0).2 g) l;rw[n] at this;rw[this] at j;cases j
 have:=(oQ h0 g).1.2.2.1;omega
theorem DX(h0:af ws=0)(hr0:a9 ws 128 128=0):∀n x,(∀v∈x,v<18446744073709551616)->mzS 3 x<=n->I3 x->wd x 17≠0->FxT ws x (wd x 17)->FxT ws (cK 3 x).2.2 ws.length:=by
 intro n
 induction n with
 | zero=>intro x _ h a;exfalso;have:=a.p3;unfold mzS at h;rw[if_pos this] at h;omega
 | succ n ih =>
  intro x f h a z s;obtain⟨k,c⟩:=pw f a;have hd:=fi f a.p3 k;have p3:=a.p3;have e:ae x=kM x (wd x 17):=by unfold ae;rw[if_pos a.ck,if_neg (by omega),if_neg (by omega),if_pos p3];unfold cZ;rw[if_neg z]
  obtain⟨-,D,F,hph⟩:=cr a.ck;have hb:=(ac _).1 D;obtain⟨⟨l1,A,l3⟩,-⟩:=(bj x).1 F;have p:Bd x (wd x 17):=by
   refine bd_of a.hp ?_;have b:=kv a.ck;unfold cC at b;by_cases g:oU x (wd x 17)=true
   .exact g
   split at b
   .rw[if_pos ⟨p3,z,by simpa using g⟩] at b;cases b
   exact absurd b (by assumption)
  rw[dh f p3 k];rcases CT a.hp _ (wd x 17) (kqg _) A p a.fx with⟨C,B⟩|⟨m,w,m2,m3,i,y,E⟩
  .rw[C] at e;have r:wd (ak x (ae x).2) 16=4:=by rw[e];exact (fV a.ck p3).2.2.2.1
   rw[ci (by omega),if_pos rfl,e];exact Gj h0 s B
  rw[y] at e;have d:dw x (m:Int)=0:=a.fx m i.1 i.2 w;have u:=Dv d;have hm128:=(oQ a.hp i).1.1;have l:wd (ak x (ae x).2) 17=m+szAt x m:=by rw[e];exact jE (j:=17) (by omega) λe q=>by have:=(u e q).1;omega
  have r:wd (ak x (ae x).2) 16=3:=by rw[e,iq (by omega),aT _ _ _ λe q=>by have:=(u e q).1;omega];exact p3
  have t:I3 (ak x (ae x).2):=by
   rcases c with c|⟨g1,-⟩
   .exact c
   omega
  have o:=(pO _ _ (cY f k) (kqg _) t).1;rw[if_pos o];refine ih _ (cY f k) (by omega) t (by omega) ?_;rw[l,e];exact Eg h0 hr0 s i w d E
theorem FH(ho:∀v∈x,v<18446744073709551616)(h3:I3 x)(z:wd x 17=0):FxT x (cK 3 x).2.2 x.length:=by
 obtain⟨h,b⟩:=pw ho h3;have p3:=h3.p3;have a:=h3.sl z;have f:=h3.rd;have e:ae x=(0,⟨17,128⟩::dK x):=by unfold ae;rw[if_pos h3.ck,if_neg (by omega),if_neg (by omega),if_pos p3];unfold cZ;rw[if_pos z,if_pos a]
 obtain⟨h256,-,-,-,-,-,-,i,-⟩:=jj a;have d:wd (ak x (ae x).2) 17=128:=by rw[e];exact jE (j:=17) (by omega) λe g=>by have:=(i e g).1;omega
 have h16:wd (ak x (ae x).2) 16=3:=by rw[e,iq (by omega),aT _ _ _ λe g=>by have:=(i e g).1;omega];exact p3
 have k:I3 (ak x (ae x).2):=by
  rcases b with b|⟨g1,-⟩
  .exact b
  omega
 have c:=(pO _ _ (cY ho h) (kqg _) k).1;rw[dh ho p3 h,if_pos c];refine DX h3.hp f _ _ (cY ho h) (kqg _) k (by omega) ?_;rw[d,e];exact zR a
def MvW (ws xs:List Nat) (m t:Nat):Prop:=wd xs t=cg { ah (wd ws m) with mark:=false }/\wd xs (t+1)=0/\∀j,2<=j->j<szAt ws m->wd xs (t+j)=wd ws (m+j)
structure SlT (ws xs:List Nat) (k F T:Nat):Prop where
 len:xs.length=ws.length
 low:∀i,19<=i->i<128->wd xs i=wd ws i
 up:∀i,T<=i->128<=i->wd xs i=wd ws i
 kle:k<=(aa ws).length
 bl:blocks ws F=some ((aa ws).drop k)
 to:aI ((aa ws).take k) 128=(T:Int)
 mv:∀p∈aq ((aa ws).take k) 128,∃m t:Nat,p=((m:Int),(t:Int))/\MvW ws xs m t/\128<=t/\t+szAt ws m<=T/\2<=szAt ws m
theorem unlive(h:b.mark=false):aK b=false:=by unfold aK;rw[h];simp
theorem uT:∀ {l:List Bk} {s:Int},ep l l.length->aI l s=s/\aq l s=[]:=by
 intro l
 induction l with
 | nil=>intro s _;exact⟨rfl,rfl⟩
 | cons b l ih =>
  intro s h;have e:b.mark=false:=h 0 (by simp);obtain⟨a,d⟩:=ih (s:=s) λj c=>by have:=h (j+1) (by simpa using c);rwa [gV] at this
  simp only[aI,aq,unlive e];exact⟨a,d⟩
theorem sh{l:List Bk}(hk:k<=l.length)(h:ep l k):ep (l.take k) (l.take k).length:=by intro j a;rw[kq6] at a;have:=h j (by omega);unfold gk at this |-;rw[List.getElem?_take,if_pos (by omega)];exact this
theorem Ej(hck:av x=0)(p4:wd x 16=4)(hnx:be x ((wd x 17:Nat):Int)=0)(h0:(ae x).1=0)(em:iC x ((wd x 17:Nat):Int)=bkAt x m):ae x=(0,⟨17,m+szAt x m⟩::⟨18,wd x 18+szAt x m⟩::jt x m (wd x 18))/\eG x (m:Int) ((wd x 18:Nat):Int)=0:=by
 have e:ae x=ey x:=by unfold ae;rw[if_pos hck,if_neg (by omega),if_neg (by omega),if_neg (by omega),if_pos p4]
 rw[e] at h0 |-;have a:eG x (m:Int) ((wd x 18:Nat):Int)=0:=by
  by_cases b:eG x (m:Int) ((wd x 18:Nat):Int)=0
  .exact b
  unfold ey at h0;rw[if_pos hnx,em,ab,if_neg b] at h0;exact absurd h0 b
 refine⟨?_,a⟩;unfold ey;rw[if_pos hnx,em,ab,if_pos a,aV,show ((m:Int)+((szAt x m:Nat):Int)).toNat=m+szAt x m by omega,show (((wd x 18:Nat):Int)+((szAt x m:Nat):Int)).toNat=wd x 18+szAt x m by omega];unfold jO;rw[if_pos a,kqk,kqk]
theorem D9{u:Nat}(hin:u+szAt x a<=x.length)(h19:19<=i):wd (ak x (⟨17,f⟩::⟨18,u+szAt x a⟩::jt x a u)) i=if u<=i/\i<u+szAt x a then (if i=u then cg { ah (wd x a) with mark:=false } else if i=u+1 then 0 else wd x (a+(i-u))) else wd x i:=by
 rw[iq (by omega),iq (by omega),zo hin,rt _ _ _ _ (by rw[fD];exact hin),fD];by_cases h:u<=i/\i<u+szAt x a
 .rw[if_pos h,if_pos h,jF _ _ _ (by omega),kq2];by_cases b:i=u
  .rw[if_pos (by omega),if_pos b]
  rw[if_neg (by omega),if_neg b];by_cases c:i=u+1
  .rw[if_pos (by omega),if_pos c]
  rw[if_neg (by omega),if_neg c]
 rw[if_neg h,if_neg h]
theorem Dr(hx:SlT ws x k F T)(h128:128<=T)(hTF:T<=F)(hn:be x (F:Int)=0)(e:iC x (F:Int)=bkAt x m):∃k',SlT ws (ak x (⟨17,m+szAt x m⟩::⟨18,T+szAt x m⟩::jt x m T)) k' (m+szAt x m) (T+szAt x m)/\F<=m/\aq ((aa ws).take k') 128=aq ((aa ws).take k) 128++[((m:Int),(T:Int))]:=by
 obtain⟨-,-,-,b,X,A,p2,p3,p4,p5,p6,N,K,l,W,-,-,d,R,q3,q4⟩:=eW hn;have em:b=m:=by have:=X.symm.trans e;have V:=congrArg Bk.at_ this;rw[ab,ab] at V;omega
 subst em;have c:∀i,F<=i->wd x i=wd ws i:=λi M=>hx.up i (by omega) (by omega);have r:blocks ws F=blocks x F:=(dX hx.len F λj P=>c j P).symm;rw[hx.bl,W] at r;obtain rfl:=Option.some.inj r;rw[kxc] at R;have z:k+d<(aa ws).length:=by omega
 have H:blocks ws b=some (((aa ws).drop k).drop d):=by rw[<-q4];exact (dX hx.len b λj P=>c j (by omega)).symm
 have y:szAt x b=szAt ws b:=by unfold szAt;rw[c b A]
 have C:bkAt x b=bkAt ws b:=by unfold bkAt;rw[c b A,c (b+1) (by omega)]
 obtain⟨f1,U,f3,O⟩:=bZ H (by rw[<-hx.len];omega);rw[kxz,kxz] at O;have w:(aa ws)[k+d]=bkAt ws b:=by rw[<-U];unfold gk;rw[kxz,kx8,kxd,kqj z,kq2]
 have q:(aa ws).take (k+d+1)=(aa ws).take k++(((aa ws).drop k).take d++[bkAt ws b]):=by rw[kqp z,w,List.take_add,kkj]
 have E:=sh (l:=(aa ws).drop k) (k:=d) (by rw[kxc];omega) q3;obtain⟨L,Z⟩:=uT (s:=(T:Int)) E;have o:aK (bkAt ws b)=true:=by rw[C] at N K;unfold aK;rw[N,K];rfl
 have v:aI ((aa ws).take (k+d+1)) 128=((T+szAt x b:Nat):Int):=by rw[q,fU,fU,hx.to,L];simp only[aI,o,if_true];rw[aV,y];omega
 have h:aq ((aa ws).take (k+d+1)) 128=aq ((aa ws).take k) 128++[((b:Int),(T:Int))]:=by rw[q,ff,ff,hx.to,L,Z];simp only[aq,o,if_true,kz5];rw[ab]
 have G:T+szAt x b<=x.length:=by omega
 have g:=λi (M:19<=i)=>D9 (x:=x) (a:=b) (f:=b+szAt x b) (u:=T) (i:=i) G M;refine⟨k+d+1,⟨?_,λi B D=>?_,λi B D=>?_,by omega,?_,v,λp n=>?_⟩,A,h⟩
 .rw[aD];exact hx.len
 .rw[g i B,if_neg (by omega)];exact hx.low i B D
 .rw[g i (by omega),if_neg (by omega)];exact hx.up i (by omega) D
 .rw[y,O,kjz]
 rw[h] at n;rcases kzo.1 n with n|n
 .obtain ⟨a,t,rfl,⟨w1,Q,w3⟩,S,t2,Y⟩:=hx.mv p n;refine⟨a,t,rfl,⟨?_,?_,λj J I=>?_⟩,S,by omega,Y⟩
  .rw[g _ (by omega),if_neg (by omega)];exact w1
  .rw[g _ (by omega),if_neg (by omega)];exact Q
  rw[g _ (by omega),if_neg (by omega)];exact w3 j J I
 rw[kq1] at n;subst n;refine⟨b,T,rfl,⟨?_,?_,λj J I=>?_⟩,h128,by omega,by omega⟩
 .rw[g _ (by omega),if_pos (by omega),if_pos rfl,c b A]
 .rw[g _ (by omega),if_pos (by omega),if_neg (by omega),if_pos rfl]
 rw[g _ (by omega),if_pos (by omega),if_neg (by omega),if_neg (by omega),show T+j-T=j by omega];exact c _ (by omega)
structure SlE (ws xs:List Nat) (T:Nat):Prop where
 len:xs.length=ws.length
 low:∀i,19<=i->i<128->wd xs i=wd ws i
 up:∀i,T<=i->128<=i->wd xs i=wd ws i
 to:aI (aa ws) 128=(T:Int)
 mv:∀p∈aq (aa ws) 128,∃m t:Nat,p=((m:Int),(t:Int))/\MvW ws xs m t/\128<=t/\t+szAt ws m<=T/\2<=szAt ws m
theorem GH(h0:af ws=0)(hx:SlT ws x k F T)(h128:128<=T)(hTF:T<=F)(hFl:F<=ws.length)(hF2:F%2=0)(hn:be x (F:Int)≠0):SlE ws x T:=by
 have d:∀i,F<=i->wd x i=wd ws i:=λi hi=>hx.up i (by omega) (by omega);have e:blocks x F=some ((aa ws).drop k):=by rw[dX hx.len F λj a=>d j a];exact hx.bl
 have hz:(dG ((aa ws).drop k)).length=0:=by
  rcases kx6 (dG ((aa ws).drop k)).length with b|b
  .exact b
  obtain⟨m,z,l',l,-⟩:=mG (by rw[hx.len];exact (ao h0).1) (by omega) (by rw[hx.len];exact hFl) hF2 e b;exact absurd l hn
 have c:ep ((aa ws).drop k) ((aa ws).drop k).length:=by
  intro j a;unfold gk;rw[kqj a,kq2];cases g:(((aa ws).drop k)[j]).mark with
  | false=>rfl
  | true =>
   have:(((aa ws).drop k)[j]).at_∈dG ((aa ws).drop k):=by unfold dG;exact kzi.2 ⟨_,kzv.2 ⟨kqm a,g⟩,rfl⟩
   have:=List.length_pos_of_mem this;omega
 obtain⟨h,n⟩:=uT (s:=(T:Int)) c;refine⟨hx.len,hx.low,hx.up,?_,λp f=>hx.mv p ?_⟩
 .conv=>lhs;rw[<-kxo k (aa ws)]
  rw[fU,hx.to,h]
 rw[<-kxo k (aa ws),ff,hx.to,n,kz1] at f;exact f
theorem Gt(h0:af ws=0):∀n x k,(∀v∈x,v<18446744073709551616)->mzS 4 x<=n->av x=0->wd x 16=4->SlT ws x k (wd x 17) (wd x 18)->(cK 4 x).1=0/\wd (cK 4 x).2.2 16=4/\av (cK 4 x).2.2=0/\be (cK 4 x).2.2 ((wd (cK 4 x).2.2 17:Nat):Int)≠0/\SlE ws (cK 4 x).2.2 (wd (cK 4 x).2.2 18):=by
 intro n
 induction n with
 | zero=>intro x k _ h _ d;exfalso;unfold mzS at h;rw[if_pos d] at h;omega
 | succ n ih =>
  intro x k i h b d o;obtain⟨-,A,G,r⟩:=cr b;obtain⟨⟨l1,l2,l3⟩,-⟩:=(bj x).1 G;have c:kT (wd x 17)=true/\kT (wd x 18)=true/\wd x 18<=wd x 17:=by
   rcases (cq _ _ _).1 r with s|s|s
   .exact s.2
   .omega
   omega
  have F:=(aQ _).1 c.1;have B:=(aQ _).1 c.2.1;by_cases a:be x ((wd x 17:Nat):Int)=0
  .obtain ⟨g,J,t⟩:=Dj i b d a;obtain⟨-,-,-,m,z,m1,-⟩:=eW a;obtain⟨e,hmv⟩:=Ej b d a g z;obtain⟨y,p,hFm,-⟩:=Dr o B.1 c.2.2 a z;have hd:=fi i d g;have l:wd (ak x (ae x).2) 17=m+szAt x m:=by
    rw[e];have H:=(ac _).1 A;refine jE (j:=17) (by omega) λe f=>?_;rcases kq0.1 f with rfl|f
    .dsimp only;omega
    obtain⟨q,I,rfl⟩:=kqu f;rw[fL];omega
   have u:wd (ak x (ae x).2) 18=wd x 18+szAt x m:=by rw[e,iq (by omega)];have H:=(ac _).1 A;refine jE (j:=18) (by omega) λe f=>?_;obtain⟨q,I,rfl⟩:=kqu f;rw[fL];omega
   have w:SlT ws (ak x (ae x).2) y (wd (ak x (ae x).2) 17) (wd (ak x (ae x).2) 18):=by rw[l,u,e];exact p
   obtain⟨D,C⟩:=ih _ y (cY i g) (by omega) t J w;rw[dh i d g,if_pos D];exact⟨rfl,C⟩
  have E:(ae x).1=6:=by unfold ae;rw[if_pos b,if_neg (by omega),if_neg (by omega),if_neg (by omega),if_pos d];unfold ey;rw[if_neg a]
  rw[kJ d E];exact⟨rfl,d,b,a,GH h0 o B.1 c.2.2 (by rw[<-o.len];omega) F.2.2 a⟩
theorem yZ(h0:af x=0):SlT x x 0 128 128:=⟨rfl,λ_ _ _=>rfl,λ_ _ _=>rfl,kqy _,(eY h0).2.2.2,rfl,λp a=>by simp[aq] at a⟩
noncomputable def v1 (x:List Nat):List Nat:=(cK 1 x).2.2
noncomputable def v2 (x:List Nat):List Nat:=(cK 2 (v1 x)).2.2
noncomputable def v3 (x:List Nat):List Nat:=(cK 3 (v2 x)).2.2
noncomputable def v4 (x:List Nat):List Nat:=(cK 4 (v3 x)).2.2
noncomputable def vE (x:List Nat):List Nat:=ak (v4 x) (du (v4 x))
theorem end_rs(ho:∀v∈x,v<18446744073709551616)(hck:av x=0)(p4:wd x 16=4)(hnx:be x ((wd x 17:Nat):Int)≠0):rsE x=(0,[du x],ak x (du x)):=by
 have a:=E6 hck p4 hnx;have i:(ae x).1=6:=by unfold ae;rw[if_pos hck,if_neg (by omega),if_neg (by omega),if_neg (by omega),if_pos p4];unfold ey;rw[if_neg hnx]
 have d:cQ x=(0,false,du x):=by unfold cQ;rw[if_pos i,if_neg (by omega),a]
 obtain⟨os,-,-,-,h,-,-,e,-⟩:=zv a;have g:=(pC a).2;have c:av (ak x (du x))=0:=by unfold av;rw[if_pos e,if_neg (by omega),if_neg (by omega)];exact h
 have f:(ae (ak x (du x))).1=6:=by unfold ae;rw[if_pos c,if_neg (by omega),if_neg (by omega),if_neg (by omega),if_neg (by omega)]
 have b:cQ (ak x (du x))=(0,true,[]):=by unfold cQ;rw[if_pos f,if_pos g]
 rw[im ho (by rw[d]) (by rw[d]),d];dsimp only;rw[jq (by rw[b]) (by rw[b]),if_pos rfl]
structure CpF (x:List Nat):Prop where
 e1:(cK 1 x).1=0
 e2:(cK 2 (v1 x)).1=0
 e3:(cK 3 (v2 x)).1=0
 e4:(cK 4 (v3 x)).1=0
 o1:∀v∈v1 x,v<18446744073709551616
 o2:∀v∈v2 x,v<18446744073709551616
 o3:∀v∈v3 x,v<18446744073709551616
 o4:∀v∈v4 x,v<18446744073709551616
 c1:av (v1 x)=0
 c2:av (v2 x)=0
 c3:av (v3 x)=0
 c4:av (v4 x)=0
 p1:wd (v1 x) 16=2
 p2:wd (v2 x) 16=3
 p3:wd (v3 x) 16=4
 p4:wd (v4 x) 16=4
 n1:1<=(cK 1 x).2.1.length
 n2:1<=(cK 2 (v1 x)).2.1.length
 n3:1<=(cK 3 (v2 x)).2.1.length
 h1:af (v1 x)=0
 h2:af (v2 x)=0
 h3:af (v3 x)=0
 r1:RmL x (v1 x)
 s1:HsL x (v1 x)
 m1:dG (aa (v1 x))=aR x
 k1:ax (v1 x)=0
 r2:NxL (v1 x) (v2 x)
 d2:a9 (v2 x) 128 128=0
 z2:wd (v2 x) 17=0
 r3:FxT (v2 x) (v3 x) (v2 x).length
 r4:SlE (v3 x) (v4 x) (wd (v4 x) 18)
 l4:∀i,i<16\/19<=i/\i<112->wd (v4 x) i=wd x i
 nx:be (v4 x) ((wd (v4 x) 17:Nat):Int)≠0
 en:eF (v4 x)=0
 all:rsE x=(0,(cK 1 x).2.1++((cK 2 (v1 x)).2.1++((cK 3 (v2 x)).2.1++((cK 4 (v3 x)).2.1++[du (v4 x)]))),vE x)
theorem ki(ho:∀v∈x,v<18446744073709551616)(e:(cK p x).1=0){L:List (List En)}(h:rsE (cK p x).2.2=(0,L,y)):rsE x=(0,(cK p x).2.1++L,y):=by have:=(y8 (p:=p) _ x ho (kqg _)).2 e;unfold ll at this;rw[this,h,if_pos rfl]
theorem cpF(ho:∀v∈x,v<18446744073709551616)(p1:wd x 16=1)(hck:av x=0)(hrc:ax x=0):CpF x:=by
 obtain⟨k,f,J,X⟩:=um _ x ho (kqg _) p1 hck hrc;obtain⟨O,T,q,Q,z⟩:=Cz _ x ho (kqg _) p1 hck hrc;have c:=(kE (p:=1) _ x ho (kqg _) k).1;have P:=λi a=>px (p:=1) (i:=i) a _ x ho (kqg _) k
 change ∀v∈v1 x,_ at c
 change wd (v1 x) 16=2 at f
 change cy (v1 x)=0 at J
 change RmL x (v1 x) at O
 change HsL x (v1 x) at T
 change ax (v1 x)=0 at q
 change aR (v1 x)=_ at Q
 change dG (aa (v1 x))=_ at z
 change ∀i,_->wd (v1 x) i=_ at P
 have h:=(aA q).1;have t:av (v1 x)=0:=wg J (by omega) (by omega) h;obtain⟨j,s,o,M,f5,F,I⟩:=tM _ (v1 x) c (kqg _) f t;obtain⟨l,L⟩:=Hk _ (v1 x) c (kqg _) f t;have b:=(kE (p:=2) _ (v1 x) c (kqg _) j).1;have E:=λi a=>px (p:=2) (i:=i) a _ (v1 x) c (kqg _) j
 change ∀v∈v2 x,_ at b
 change wd (v2 x) 16=3 at s
 change wd (v2 x) 17=0 at o
 change cy (v2 x)=0 at M
 change a9 (v2 x) 128 128=0 at F
 change af (v2 x)=0 at I
 change NxL (v1 x) (v2 x) at l
 change aH (v2 x)=[] at L
 change ∀i,_->wd (v2 x) i=_ at E
 obtain⟨-,B,H⟩:=l.same h;rw[q] at B;rw[Q] at H;have A:aM (v2 x)=[]:=Gh B (by rw[(l.mkd h).1,z,H]);have w:=yH b M s o B A L;obtain⟨m,C,R,K,y,n,i7⟩:=pO _ (v2 x) b (kqg _) w;have G:=FH b w o;have d:=(kE (p:=3) _ (v2 x) b (kqg _) m).1;have S:=λi a=>px (p:=3) (i:=i) a _ (v2 x) b (kqg _) m
 change ∀v∈v3 x,_ at d
 change wd (v3 x) 16=4 at C
 change wd (v3 x) 17=128 at R
 change wd (v3 x) 18=128 at K
 change av (v3 x)=0 at y
 change af (v3 x)=0 at n
 change FxT (v2 x) (v3 x) _ at G
 change ∀i,_->wd (v3 x) i=_ at S
 obtain⟨g,r,u,D,Y⟩:=Gt n _ (v3 x) 0 d (kqg _) y C (by rw[R,K];exact yZ n);have N:=(kE (p:=4) _ (v3 x) d (kqg _) g).1;have V:=λi a=>px (p:=4) (i:=i) a _ (v3 x) d (kqg _) g;have e:=end_rs N u r D;have q4:=ki d g e;have Z:=ki b m q4;have U:=ki c j Z;have W:=ki ho k U;exact⟨k,j,m,g,c,b,d,N,t,w.ck,y,u,f,s,C,r,X,f5,i7,h,I,n,O,T,z,q,l,F,o,G,Y,λi a=>(V i a).trans ((S i a).trans ((E i a).trans (P i a))),D,E6 u r D,W⟩
noncomputable def mkS (x:List Nat) (b:Bk):Bk:={ b with mark:=dU x b }
noncomputable def cpL (x:List Nat):List Bk:=(aa x).map (mkS x)
noncomputable def cpM (x:List Nat):List (Int × Int):=aq (cpL x) 128
def FxV (M:List (Int × Int)) (v u:Nat):Prop:=(v=0/\u=0)\/(0<v/\ed M (v:Int)=some (u:Int))
theorem yp(h0:af x=0):Mk x m↔(m:Int)∈dG (aa x):=by
 unfold dG;rw[kzi];constructor
 .rintro ⟨d,f⟩;exact⟨bkAt x m,kzv.2 ⟨d,f⟩,ab x m⟩
 rintro ⟨c,g,e⟩;obtain⟨b,h⟩:=kzv.1 g;obtain⟨a,rfl,-⟩:=(bG h0).1 c b;rw[ab] at e;obtain rfl:a=m:=by omega
 exact⟨b,h⟩
theorem zj(h:ax x=0)(hm:dG (aa x)=aR x)(hb:b∈aa x):b.mark=dU x b:=by
 obtain⟨d,-,-⟩:=aA h;obtain⟨a,rfl,a1,a2,g,a4⟩:=(bG d).1 b hb;rw[kzr,eN g];constructor
 .intro j;have c:(a:Int)∈dG (aa x):=(yp d).1 ⟨hb,j⟩;rw[hm,cO h] at c;obtain⟨i,e,-,f⟩:=c;obtain rfl:a=i:=by omega
  exact f
 intro f;have c:(a:Int)∈aR x:=(cO h _).2 ⟨a,rfl,g,f⟩;rw[<-hm,<-yp d] at c;exact c.2
theorem end_nx(xs:List Nat):∀(l:List Bk) (s:Int),aI (l.map (nxB xs)) s=aI l s:=by
 intro l
 induction l with
 | nil=>intro s;rfl
 | cons b l ih =>intro s;have e:aK (nxB xs b)=aK b:=rfl;have a:(nxB xs b).size=b.size:=rfl;simp only[kxk,aI,e,a,ih]
theorem E9(h0:af ws=0)(ho:cb ws m)(r:Int):r∈bI ws (m:Int)↔∃i:Nat,r=((m+2+i:Nat):Int)/\(flds ws m)[i]? = some 3:=by
 obtain⟨k,o,e,-⟩:=ho.2.2.2.2.2.2;have b:bkAt ws m∈aa ws:=by rw[<-e];exact kqm o
 have f:aO ws 128=aa ws:=(eY h0).2.1;obtain⟨b2,c⟩:=mN (l:=aa ws) (a:=(m:Int)) b (ab ws m) ho.2.2.2.2.1;obtain⟨j,g,f3⟩:=jb c;obtain rfl:=pE (bG h0).2 j b (by rw[g,ab]);have h:bI ws (m:Int)=fA ws (bkAt ws m):=by unfold bI;rw[if_pos h0,f,c]
 have n:xP ws (bkAt ws m)=flds ws m:=rfl;rw[h];unfold fA;rw[kc,n,ab];constructor
 .rintro ⟨i,-,d,i3⟩;exact⟨i,by omega,d⟩
 rintro ⟨i,i1,d⟩;exact⟨i,(kq7.1 d).1,d,by omega⟩
theorem in_obj(h0:af ws=0)(ho:cb ws m)(h1:2<=j)(h2:j<szAt ws m)(hb:b∈aa ws):b.at_≠((m+j:Nat):Int)/\b.at_+1≠((m+j:Nat):Int):=by have:=gp h0 ho hb;omega
section
variable {x:List Nat}
theorem CpF.bl1(F:CpF x)(hrc:ax x=0):aa (v1 x)=cpL x:=by
 obtain⟨f,h,g,g4,c⟩:=F.r1.same hrc;rw[c];unfold cpL;refine kzm λb d=>?_;have a:mkB (v1 x) b∈aa (v1 x):=by rw[c];exact kz9 d
 have:=zj f (by rw[F.m1,h]) a;have e:dU (v1 x) (mkB (v1 x) b)=dU x b:=by unfold dU;rw[g];rfl
 rw[e] at this;unfold mkB mkS at *;dsimp only at this;rw[this]
theorem CpF.bl2(F:CpF x):aa (v2 x)=(aa (v1 x)).map (nxB (v2 x)):=((F.r2.ev F.h1).heap F.h1).2
theorem CpF.bl3(F:CpF x):aa (v3 x)=aa (v2 x):=(F.r3.hd.heap F.h2).2
theorem CpF.mvs(F:CpF x)(hrc:ax x=0):aq (aa (v2 x)) 128=cpM x/\aI (aa (v2 x)) 128=aI (cpL x) 128/\iE (v2 x) 128 128=cpM x:=by
 have a:aq (aa (v2 x)) 128=cpM x:=by rw[F.bl2,uv,F.bl1 hrc];rfl
 refine⟨a,by rw[F.bl2,end_nx,F.bl1 hrc],?_⟩;obtain⟨-,-,l,b,-,c⟩:=bT F.d2;rw[show ((128:Int)).toNat=128 from rfl,(eY F.h2).2.2.2] at b;obtain rfl:=Option.some.inj b;rw[c,a]
theorem CpF.mk2(F:CpF x)(hrc:ax x=0):Mk (v2 x) m↔Rch x m:=by
 rw[yp F.h2,(F.r2.mkd F.h1).1,F.m1,cO hrc];constructor
 .rintro ⟨a,e,-,h⟩;obtain rfl:m=a:=by omega
  exact h
 intro h;exact⟨m,rfl,nL ((aA hrc).2.2 m h),h⟩
theorem Fa(hrc:ax x=0)(F:CpF x):(cpM x).map Prod.fst=aR x:=by have h:=la (iV (eY F.h1).2.2.2 (by omega)) 128;rw[F.m1,F.bl1 hrc] at h;exact h.symm
theorem EC:∀ {M:List (Int × Int)} {a:Int},a∈M.map Prod.fst->∃t,ed M a=some t:=by
 intro M
 induction M with
 | nil=>intro a h;simp at h
 | cons p M ih =>
  intro a h;simp only[ed];by_cases e:p.1=a
  .exact ⟨p.2,by rw[if_pos e]⟩
  rw[if_neg e];rw[kxk,kq0] at h;exact ih (h.resolve_left λh=>e h.symm)
theorem mB(hrc:ax x=0)(h:Rch x m):cb x m:=by obtain⟨b,-,-,-,a⟩:=pm hrc h;exact a
theorem CpF.sz(F:CpF x)(hrc:ax x=0)(h:Rch x m):szAt (v3 x) m=szAt x m/\cb (v2 x) m/\flds (v2 x) m=flds x m/\(wd (v3 x) m=wd (v1 x) m):=by
 have d:=(F.mk2 hrc).2 h;have a:=mB hrc h;have f:=(aA hrc).1;have c:=(aA hrc).2.2 m h;have b:=(F.r3.hd.blk _ d.1).1;rw[ab,kqk] at b;have e:wd (v2 x) m=wd (v1 x) m:=F.r2.even F.h1 (by have:=a.1;omega) a.2.1;refine⟨?_,(oQ F.h2 d).1,?_,b.trans e⟩
 .rw[<-F.r1.szAt m (by have:=a.1;omega)];unfold szAt;rw[b,e]
 rw[F.r2.flds F.h1 (by rw[F.r1.tb f];exact c),F.r1.flds f c]
theorem CpF.in_(F:CpF x)(hrc:ax x=0)(h:Rch x m)(h1:2<=j)(h2:j<szAt x m):wd (v2 x) (m+j)=wd x (m+j):=by
 have f:=mB hrc h;have g:=(aA hrc).1;have d:=λb c=>in_obj (b:=b) g f h1 h2 c;have h128:=f.1;have i:wd (v2 x) (m+j)=wd (v1 x) (m+j):=by
  rcases F.r2.at_ (m+j) (by omega) with a|⟨b,c,a⟩
  .exact a
  rw[(F.r1.heap g).2] at c;obtain⟨k,e,rfl⟩:=kzi.1 c;exact absurd a.symm (d k e).2
 rw[i];rcases F.s1 (m+j) (by omega) with a|⟨b,c,a⟩
 .exact a
 exact absurd a.symm (d b c).1
structure CpD (w z:List Nat) (M:List (Int × Int)) (T:Nat):Prop where
 len:z.length=w.length
 low:∀i,i<16\/19<=i/\i<112->wd z i=wd w i
 line:wd z 16=0/\wd z 17=0/\wd z 18=0
 sl:∀i,i<16->slAt z i=nwS w M i
 obj:∀p∈M,∃m t:Nat,p=((m:Int),(t:Int))/\Rch w m/\128<=t/\t+szAt w m<=T/\2<=szAt w m/\wd z t=cg { ah (wd w m) with mark:=false }/\wd z (t+1)=0/\(∀i,(flds w m)[i]? = some 3->FxV M (wd w (m+2+i)) (wd z (t+2+i)))/\∀i,2+i<szAt w m->(flds w m)[i]? ≠ some 3->wd z (t+2+i)=wd w (m+2+i)
 to:128<=T/\T<=w.length/\T%2=0
 free:T<w.length->wd z T=cg (cJ (w.length-T))/\wd z (T+1)=0
 rest:∀i,T+2<=i->(∀b∈aa w,(i:Int)≠b.at_/\(i:Int)≠b.at_+1)->(∀m,Rch w m->¬ (m<=i/\i<m+szAt w m))->wd z i=wd w i
theorem okFx_v{M:List (Int × Int)}{r:Nat}(h:Cq ws y M r):FxV M (wd ws r) (wd y r):=by
 rcases h with h|⟨a,t,m,b,c,-⟩
 .exact .inl h
 exact .inr ⟨a,by rw[c];exact b⟩
theorem CpF.desc(F:CpF x)(hrc:ax x=0):CpD x (vE x) (cpM x) (aI (cpL x) 128).toNat/\aI (cpL x) 128=((aI (cpL x) 128).toNat:Int):=by
 have h0:=(aA hrc).1;obtain⟨m1,m2,O⟩:=F.mvs hrc;obtain⟨hs,-,-,-,i5,H,-,i8⟩:=hG F.en;have G:=(aQ _).1 i5;have hTe:aI (cpL x) 128=((wd (v4 x) 18:Nat):Int):=by rw[<-m2,<-F.bl3];exact F.r4.to
 have U:(aI (cpL x) 128).toNat=wd (v4 x) 18:=by omega
 rw[U];obtain⟨T,A⟩:=xq (wd (v4 x) 18);have l:(v4 x).length=x.length:=by rw[F.r4.len,F.r3.hd.len,F.r2.len,F.r1.len]
 have c:=zt F.en;rw[i8,A,l] at c
 change ∀j,wd (vE x) j=_ at c
 have r4:=F.r4;rw[A] at H G r4 |-;rw[l] at H;have n:∀i,19<=i->i<T->wd (vE x) i=wd (v4 x) i:=λi h1 h2=>by
  rw[c,if_neg (by omega),if_neg (by omega),if_neg (by omega)]
 refine⟨⟨?_,λi f=>?_,⟨by rw[c,if_pos (by omega)],by rw[c,if_pos (by omega)],by rw[c,if_pos (by omega)]⟩,λi f=>?_,λp R=>?_,⟨G.1,H,G.2.2⟩,λk=>⟨?_,?_⟩,λi f S V=>?_⟩,by omega⟩
 .unfold vE;rw[aD,l]
 .rw[c,if_neg (by omega),if_neg (by omega),if_neg (by omega)];exact F.l4 i f
 .have C:slAt (vE x) i=slAt (v3 x) i:=by unfold slAt;rw[n _ (by omega) (by omega),r4.low _ (by omega) (by omega)]
  have g:slAt (v2 x) i=slAt x i:=by rw[F.r2.slAt F.h1 f,F.r1.slAt f]
  rw[C,F.r3.sl i f,O];unfold nwS;rw[g]
 .have K:p∈aq (aa (v3 x)) 128:=by rw[F.bl3,m1];exact R
  obtain⟨m,t,rfl,⟨w1,W,L⟩,X,N,P⟩:=r4.mv p K;have d:Rch x m:=by
   have:(m:Int)∈(cpM x).map Prod.fst:=kzi.2 ⟨_,R,rfl⟩;rw[Fa hrc F,cO hrc] at this;obtain⟨a,e,-,h⟩:=this;obtain rfl:m=a:=by omega
   exact h
  obtain⟨s1,I,M,Z⟩:=F.sz hrc d;have v:=mB hrc d;have w:=v.1;rw[s1] at L N P;refine⟨m,t,rfl,d,X,N,P,?_,?_,λi E=>?_,λi h1 E=>?_⟩
  .rw[n _ (by omega) (by omega),w1,Z,F.r1.raw m (by omega)]
  .rw[n _ (by omega) (by omega),W]
  .have s:((m+2+i:Nat):Int)∈bI (v2 x) (m:Int):=(E9 F.h2 I _).2 ⟨i,rfl,by rw[M];exact E⟩;obtain⟨Q,C,-,g,-⟩:=gj F.h2 s;have y:szAt (v2 x) m=szAt x m:=by have g:wd (v2 x) m=wd (v1 x) m:=F.r2.even F.h1 (by omega) v.2.1;rw[<-F.r1.szAt m (by omega)];unfold szAt;rw[g]
   have k:2+i<szAt x m:=by omega
   have hd:=F.r3.done m ((F.mk2 hrc).2 d) (by have:=I.2.2.1;omega) _ s;rw[kqk,O] at hd;have:=okFx_v hd;rw[show m+2+i=m+(2+i) by omega,F.in_ hrc d (by omega) k] at this;rw[show m+2+i=m+(2+i) by omega,show t+2+i=t+(2+i) by omega,n _ (by omega) (by omega),L _ (by omega) k];exact this
  rw[show m+2+i=m+(2+i) by omega,show t+2+i=t+(2+i) by omega,n _ (by omega) (by omega),L _ (by omega) (by omega),F.r3.off _ (by omega) λr q s=>?_,F.in_ hrc d (by omega) h1];have z:=(F.mk2 hrc).2 d;obtain⟨Q,C,-,g,-⟩:=gj F.h2 s;have y:szAt (v2 x) m=szAt x m:=by have g:wd (v2 x) m=wd (v1 x) m:=F.r2.even F.h1 (by omega) v.2.1;rw[<-F.r1.szAt m (by omega)];unfold szAt;rw[g]
  have hq:m=r:=by
   rcases kjt m r with B|B|B
   .have:=ij F.h2 z q B;omega
   .exact B
   have:=ij F.h2 q z B;omega
  subst hq;obtain⟨i2,e3,D⟩:=(E9 F.h2 I _).1 s;obtain rfl:i=i2:=by omega
  rw[M] at D;exact E D
 .rw[c,if_neg (by omega),if_pos ⟨k,rfl⟩]
 .rw[c,if_neg (by omega),if_neg (by omega),if_pos ⟨k,rfl⟩]
 have D:wd (vE x) i=wd (v4 x) i:=by rw[c,if_neg (by omega),if_neg (by omega),if_neg (by omega)]
 rw[D,r4.up i (by omega) (by omega),F.r3.off i (by omega) λr q s=>?_]
 .have g:wd (v2 x) i=wd (v1 x) i:=by
   rcases F.r2.at_ i (by omega) with u|⟨b,o,u⟩
   .exact u
   rw[(F.r1.heap h0).2] at o;obtain⟨Y,J,rfl⟩:=kzi.1 o;exact absurd u (S Y J).2
  rw[g];rcases F.s1 i (by omega) with u|⟨b,o,u⟩
  .exact u
  exact absurd u (S b o).1
 obtain⟨Q,C,-,g,e3⟩:=gj F.h2 s;have d:=(F.mk2 hrc).1 q;have v:=mB hrc d;have w:=v.1;have y:szAt (v2 x) r=szAt x r:=by have g:wd (v2 x) r=wd (v1 x) r:=F.r2.even F.h1 (by omega) v.2.1;rw[<-F.r1.szAt r (by omega)];unfold szAt;rw[g]
 exact V r d ⟨by omega,by omega⟩
end
end Go.Proofs.YtpcajamacpbjcaaGreat
