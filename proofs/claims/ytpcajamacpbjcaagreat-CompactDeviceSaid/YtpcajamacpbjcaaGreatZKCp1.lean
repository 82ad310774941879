/- Texts laid together: CpP CpQ CpR CpS CpT CpU CpV CpW CpX CpY CpZ CpD. -/
import Derived.Test.YtpcajamacpbjcaaGreatZKStg3
import Derived.Test.YtpcajamacpbjcaaGreatZKRs
set_option maxHeartbeats 16000000
set_option linter.all false
namespace Go.Proofs.YtpcajamacpbjcaaGreat
open Go.RowKit
variable {b:Bk}{r:Int}{E:List En}{ws x xs y ys:List Nat}{F T a c f i j k m m' p:Nat}
theorem Jd(h:cK x=0)(h3:wd x 16≠3):cP x=0:=by unfold cP;rw[if_pos h,if_neg (λh=>h3 h.1)]
theorem xe(h:cK x=0)(h3:wd x 16≠3)(h4:wd x 16≠4)(hh:ah x=0):az x=0:=by unfold az;rw[if_pos (Jd h h3),if_neg h4,if_neg h3];exact hh
theorem vq:∀n x,(∀v∈x,v<18446744073709551616)->mzS 1 x<=n->wd x 16=1->az x=0->aC x=0->(dx 1 x).1=0/\wd (dx 1 x).2.2 16=2/\cK (dx 1 x).2.2=0/\1<=(dx 1 x).2.1.length:=by
 intro n
 induction n with
 | zero=>intro x _ h d;exfalso;unfold mzS at h;rw[if_pos d] at h;omega
 | succ n ih =>
  intro x l h d g a;have e:ae x=(0,ie (aK x) 2):=by unfold ae;rw[if_pos g,if_pos d,if_pos a]
  have k:(ae x).1=0:=by rw[e]
  have hd:=fL l d k;obtain⟨-,-,p,-,-,-,-,-⟩:=lC l k;obtain⟨r,r2⟩:=nU a;obtain⟨g1,g2,g3,f,g5,g6⟩:=eE g d (.inl rfl) (dg a) (λy w=>by
   obtain⟨i,u⟩:=kjr.1 w;exact r i y u) (nP a)
  simp only[Nat.reduceAdd] at f;rw[dM l d k];by_cases b:32<=(aK x).length
  .rw[if_pos b] at f;have c:aC (ak x (ae x).2)=0:=by rw[e,cm b];exact (vg a b).1
   have o:wd (ak x (ae x).2) 16=1:=by rw[e];exact f
   have j:az (ak x (ae x).2)=0:=xe p (by omega) (by omega) (aI c).1;obtain⟨q,t,s,i4⟩:=ih _ (dH l k) (by omega) o j c;rw[if_pos q];exact⟨rfl,t,s,by simp⟩
  rw[if_neg b] at f;have m:wd (ak x (ae x).2) 16=2:=by rw[e];exact f
  rw[cM (by omega),if_pos rfl];exact⟨rfl,m,p,by simp⟩
theorem vO(hhp:ah x=0)(hf:¬ 32<=(ay x).length):bh (ak x (ie (ay x) 3)) 128 128=0/\iB (ak x (ie (ay x) 3)) 128 128=aB (af x) 128/\ah (ak x (ie (ay x) 3))=0/\af (ak x (ie (ay x) 3))=fwB (af x) 128:=by
 have j:=pT (x:=x) (E:=[⟨16,3⟩]) (λe c=>by
  rw[kq1] at c;subst c;exact .inl (by dsimp only;omega))
 obtain⟨k,h⟩:=(j.ev hhp).heap hhp;have d:=ch hhp;have hid:(af x).map (nxB (ak x [⟨16,3⟩]))=af x:=by
  rw[kz2 (g:=id) (λb f=>?_),List.map_id];obtain⟨a,rfl,a1,a2,-⟩:=d.1 b f;show nxB (ak x [⟨16,3⟩]) (bkAt x a)=bkAt x a;unfold nxB;refine tM ?_;rw[ab,show ((a:Int)).toNat=a from kqj a,aU _ _ _ (λe c=>by
   rw[kq1] at c;subst c;dsimp only;omega)]
  rfl
 rw[hid] at h;have f:=pM k;obtain⟨l,-,i,-,o,m,n,p,-⟩:=f;rw[h] at i;subst i;have e:ak x (ie (ay x) 3)=ak (ak x [⟨16,3⟩]) (aV (af x) 128):=by rw[fC hf,<-eK,oL hhp];rfl
 rw[e];exact⟨o,m,n,p⟩
theorem uP:∀n x,(∀v∈x,v<18446744073709551616)->mzS 2 x<=n->wd x 16=2->az x=0->(dx 2 x).1=0/\wd (dx 2 x).2.2 16=3/\wd (dx 2 x).2.2 17=0/\cK (dx 2 x).2.2=0/\1<=(dx 2 x).2.1.length/\bh (dx 2 x).2.2 128 128=0/\ah (dx 2 x).2.2=0:=by
 intro n
 induction n with
 | zero=>intro x _ h c;exfalso;unfold mzS at h;rw[if_pos c] at h;omega
 | succ n ih =>
  intro x j h c a;have d:ah x=0:=by have:=a;unfold az at this;rw[if_pos (kQ a),if_neg (by omega),if_neg (by omega)] at this;exact this
  have e:ae x=(0,ie (ay x) 3):=by unfold ae;rw[if_pos a,if_neg (by omega),if_pos c,if_pos d]
  have f:(ae x).1=0:=by rw[e]
  have hd:=fL j c f;obtain⟨-,-,o,-,-,-,-,-⟩:=lC j f;obtain⟨q,B,y⟩:=mu d;obtain⟨g1,g2,g3,g,m,g6⟩:=eE a c (.inr rfl) q B y;simp only[Nat.reduceAdd] at g m;rw[dM j c f];by_cases b:32<=(ay x).length
  .rw[if_pos b] at g;have k:wd (ak x (ae x).2) 16=2:=by rw[e];exact g
   have i:az (ak x (ae x).2)=0:=xe o (by omega) (by omega) (ut c f).1;obtain⟨p,t,s,z,i5,r,A⟩:=ih _ (dH j f) (by omega) k i;rw[if_pos p];exact⟨rfl,t,s,z,by simp,r,A⟩
  rw[if_neg b] at g;have l:wd (ak x (ae x).2) 16=3:=by rw[e];exact g
  obtain⟨u,-,w,-⟩:=vO d b;rw[cM (by omega),if_pos rfl];refine⟨rfl,l,by rw[e];exact m,o,by simp,?_,?_⟩
  .rw[e];exact u
  rw[e];exact w
structure Hd (ws xs:List Nat):Prop where
 len:xs.length=ws.length
 low:∀i:Nat,96<=i->i<112->wd xs i=wd ws i
 blk:∀b∈af ws,wd xs b.at_.toNat=wd ws b.at_.toNat/\wd xs (b.at_.toNat+1)=wd ws (b.at_.toNat+1)
section
variable {ws xs:List Nat}
theorem Hd.blocks(h:Hd ws xs):∀i l,blocks ws i=some l->(∀b∈l,b∈af ws)->Proofs.YtpcajamacpbjcaaGreat.blocks xs i=some l:=by
 refine d7 (λi l=>(∀b∈l,b∈af ws)->Proofs.YtpcajamacpbjcaaGreat.blocks xs i=some l) (λi d _=>?_) (λi l d g j f k=>?_)
 .exact aH (by rw[h.len];exact d)
 have f:=f (λb j=>k b (kxw _ j));obtain⟨a,m⟩:=h.blk _ (k (bkAt ws i) (by simp));rw[ab,kqj] at a m;have n:szAt xs i=szAt ws i:=by unfold szAt;rw[a]
 have e:stands xs i=true:=by unfold Proofs.YtpcajamacpbjcaaGreat.stands at g |-;rw[a,h.len];exact g
 have c:bkAt xs i=bkAt ws i:=by unfold bkAt;rw[a,m]
 rw[aR (by rw[h.len];exact d) e,n,f,c];rfl
theorem Hd.ty(h:Hd ws xs)(h0:ah ws=0)(hb:b∈af ws)(hk:b.kind=1):wd xs (tyA b)=wd ws (tyA b)/\wd xs (tyA b+1)=wd ws (tyA b+1):=by obtain⟨k,a,rfl⟩:=kqz hb;have ht:=jM (gj h0).2.2.2 (by omega) a hk;unfold tyA;exact⟨h.low _ (by omega) (by omega),h.low _ (by omega) (by omega)⟩
theorem Hd.fit(h:Hd ws xs)(h0:ah ws=0)(hb:b∈af ws):dK xs b=dK ws b:=by
 unfold dK;by_cases a:b.kind=1
 .obtain ⟨c,d⟩:=h.ty h0 hb a;unfold cZ;rw[c,d]
 have:(b.kind != 1)=true:=by rw[kqv];exact a
 rw[this,kkw,kkw]
theorem Hd.heap(h:Hd ws xs)(h0:ah ws=0):ah xs=0/\af xs=af ws:=by obtain⟨g,l,f,e,d⟩:=aA h0;have c:=h.blocks 128 l f (λb c=>by rw[d];exact c);rw[d];refine fT (by rw[h.len];exact g) c ?_;rw[kzu] at e |-;intro b a;rw[h.fit h0 (by rw[d];exact a)];exact e b a
theorem Hd.mv(h:Hd ws xs)(h0:ah ws=0):∀(l:List Bk) (s:Int),(∀b∈l,b∈af ws)->ci xs l s=ci ws l s:=by
 intro l
 induction l with
 | nil=>intro s _;rfl
 | cons b l ih =>intro s a;simp only[ci];rw[h.fit h0 (a b (by simp)),ih _ (λc d=>a c (kxw _ d)),ih _ (λc d=>a c (kxw _ d))]
theorem Hd.rd(h:Hd ws xs)(h0:ah ws=0)(hr:bh ws 128 128=0):bh xs 128 128=0/\iB xs 128 128=iB ws 128 128:=by
 obtain⟨g,m,l,c,k,i⟩:=cj hr;have e:l=af ws:=by have:=(gj h0).2.2.2;rw[show ((128:Int)).toNat=128 from rfl] at c;rw[c] at this;exact Option.some.inj this
 have a:=h.blocks 128 l c (λb a=>by rw[<-e];exact a);have f:bh xs 128 128=0:=by rw[iY (by rw[h.len];exact g) (by rw[h.len];exact m) (l:=l) a,h.mv h0 l _ (λb a=>by rw[<-e];exact a),if_pos k]
 obtain⟨-,-,l2,d,-,j⟩:=cj f;rw[show ((128:Int)).toNat=128 from rfl] at d;rw[a] at d;obtain rfl:=Option.some.inj d;exact⟨f,by rw[j,i]⟩
theorem Hd.fx(h:Hd ws xs)(h0:cu ws=0):cu xs=0/\eW xs=eW ws/\aQ xs 128=aQ ws 128:=by
 obtain⟨a,f,e⟩:=dF h0;obtain⟨b,d⟩:=h.heap a;obtain⟨g,j⟩:=h.rd a f;have c:cu xs=0:=by unfold cu;rw[if_pos b];exact g
 obtain⟨-,-,i⟩:=dF c;exact⟨c,by rw[i,e,j],by rw[(gj b).2.1,(gj a).2.1,d]⟩
theorem pg{M:List (Int × Int)}:∀ {R:List Int},(∀r∈R,wd xs r.toNat=wd ws r.toNat)->dm xs M R=dm ws M R:=by
 intro R
 induction R with
 | nil=>intro _;rfl
 | cons r R ih =>
  intro h;simp only[dm];rw[ih (λx a=>h x (kxw _ a))];have:fR xs M r.toNat=fR ws M r.toNat:=by unfold fR;rw[h r (by simp)]
  rw[this]
theorem Hd.ob(h:Hd ws xs){a:Int}(h0:dA ws a=0)(hr:∀r∈bU ws a,wd xs r.toNat=wd ws r.toNat):dA xs a=0/\cD xs a=cD ws a/\bU xs a=bU ws a:=by
 have e:cu ws=0:=by
  by_cases j:cu ws=0
  .exact j
  rw[(vj rfl j).1] at h0;exact absurd h0 j
 obtain⟨v,y,z⟩:=h.fx e;obtain⟨g,f2,f3⟩:=dF e;have n:=h.heap g;cases d:jW (aQ ws 128) a with
 | none=>rw[(rf e d).1] at h0;cases h0
 | some b =>
  have f:jW (aQ xs 128) a=some b:=by rw[z];exact d
  obtain⟨q,b2,x⟩:=jA d;rw[(gj g).2.1] at q;have k:r8 xs b=r8 ws b:=by obtain⟨t,u⟩:=h.ty g q x;unfold r8;rw[t,u]
  have p:fj xs b=fj ws b:=by unfold fj;rw[k]
  have s:bU ws a=fj ws b:=by simp[bU,g,d]
  have m:bU xs a=fj xs b:=by simp[bU,n.1,f]
  rw[s] at hr;cases c:b.mark with
  | false=>rw[(qK e d c).1] at h0;cases h0
  | true =>
   cases l:dm ws (eW ws) (fj ws b) with
   | none=>rw[(uS e d c l).1] at h0;cases h0
   | some o =>
    have i:dm xs (eW xs) (fj xs b)=some o:=by rw[p,y,pg hr];exact l
    obtain⟨o1,w⟩:=ym e d c l;obtain⟨B,A⟩:=ym v f c i;exact⟨B,by rw[A,w],by rw[m,s,p]⟩
end
def Bd (ws:List Nat) (a:Nat):Prop:=128<=a/\∃k,k<=(af ws).length/\blocks ws a=some ((af ws).drop k)
theorem DP(h:ah ws=0):Bd ws 128:=⟨kqa _,0,kqy _,(gj h).2.2.2⟩
theorem qF(h:Bd ws a)(hn:bj ws (a:Int)=0)(e:iK ws (a:Int)=bkAt ws m):a<=m/\2<=szAt ws m/\m+szAt ws m<=ws.length/\Bd ws (m+szAt ws m)/\bkAt ws m∈af ws/\(bkAt ws m).mark=true/\(bkAt ws m).kind=1:=by
 obtain⟨h1,k,hk,d⟩:=h;obtain⟨-,-,-,i,j,x,p2,o,p4,y,p6,p,u,l,n,-,-,c,w,-,t⟩:=fm hn;have q:i=m:=by have:=j.symm.trans e;have v:=congrArg Bk.at_ this;rw[ab,ab] at v;omega
 subst q;rw[n] at d;obtain rfl:=Option.some.inj d;have b:i<ws.length:=by omega
 obtain⟨f,r,f3,g⟩:=cC t b;rw[kxl,kxl] at g;refine⟨x,o,y,⟨by omega,k+c+1,?_,?_⟩,?_,p,u⟩
 .rw[kzv] at w;omega
 .rw[g,kj7]
 rw[<-r];have s:gk ((List.drop k (af ws)).drop c) 0∈(List.drop k (af ws)).drop c:=by unfold gk;rw[kql f,kq8];exact kqq f
 exact kjb (kjb s)
theorem bd_of(h:ah ws=0)(hb:oG ws f=true):Bd ws f:=by
 obtain⟨-,-,-,d⟩:=gj h;obtain⟨l,-⟩:=aA h;have hbd:=(aa _).1 l;unfold oG at hb;rw[d] at hb;dsimp only at hb;rw[kxy,kx3] at hb;rcases hb with⟨b,i,c⟩|c
 .rw[kqw] at c;obtain⟨k,g,rfl⟩:=kqz i;obtain⟨a,e,a1,m,a3,a4,j⟩:=cp 128 _ d (by omega) k g;rw[e,ab] at c;obtain rfl:a=f:=by omega
  exact⟨m,k,by omega,j⟩
 rw[kqw] at c;subst c;exact⟨by omega,_,kqa _,by rw[kkc];exact aH (kqa _)⟩
theorem bd_is(h:ah ws=0)(hb:Bd ws f)(hf:f<=ws.length):oG ws f=true:=by
 obtain⟨-,-,-,e⟩:=gj h;obtain⟨h1,k,hk,d⟩:=hb;unfold oG;rw[e];dsimp only;rw[kxy,kx3];by_cases b:f=ws.length
 .right;rw[kqw];exact b
 left;obtain⟨a,c,f3,f4⟩:=cC d (by omega);refine⟨bkAt ws f,?_,by rw[kqw,ab]⟩;rw[<-c];unfold gk;rw[kql a,kq8];exact kjb (kqq a)
def AR (ws:List Nat) (a:Nat):Prop:=∀m:Nat,bkAt ws m∈af ws->(bkAt ws m).mark=true->a<=m->dA ws (m:Int)=0
theorem CD :∀k a,ws.length-a<=k->Bd ws a->AR ws a->(ke ws a).1=0/\(ke ws a=(0,b9)\/∃m:Nat,a<=m/\2<=szAt ws m/\m+szAt ws m<=ws.length/\Bd ws (m+szAt ws m)/\bkAt ws m∈af ws/\(bkAt ws m).mark=true/\ke ws a=(0,⟨17,m+szAt ws m⟩::cD ws (m:Int))):=by
 intro k
 induction k with
 | zero =>
  intro a t f c;by_cases b:bj ws (a:Int)=0
  .obtain ⟨-,-,-,m,e,-⟩:=fm b;obtain⟨d,o,j,-⟩:=qF f b e;omega
  rw[ki b];exact⟨rfl,.inl rfl⟩
 | succ k ih =>
  intro a t f c;by_cases b:bj ws (a:Int)=0
  .obtain ⟨-,-,-,m,e,-⟩:=fm b;obtain⟨d,o,j,p,l,i,n7⟩:=qF f b e;by_cases n:bU ws (m:Int)=[]
   .rw[kV b e n];obtain⟨u,h⟩:=ih (m+szAt ws m) (by omega) p (λg s A h3=>c g s A (by omega));refine⟨u,?_⟩;rcases h with h|⟨g,j1,y,v,r,q,w,z⟩
    .exact .inl h
    exact .inr ⟨g,by omega,y,v,r,q,w,z⟩
   have x:=c m l i d;rw[qA b e n x];exact⟨rfl,.inr ⟨m,d,o,j,p,l,i,rfl⟩⟩
  rw[ki b];exact⟨rfl,.inl rfl⟩
theorem iF(h:ah ws=0)(hr:r∈bU ws (m:Int)):∃i:Nat,r=((m+2+i:Nat):Int)/\i<(flds ws m).length/\m+2+i<m+szAt ws m/\fW ws m:=by
 unfold bU at hr;rw[if_pos h] at hr;cases d:jW (aQ ws 128) (m:Int) with
 | none=>rw[d] at hr;cases hr
 | some b =>
  rw[d] at hr;dsimp only at hr;obtain⟨a,e1,j,e⟩:=uR h d;obtain rfl:a=m:=by omega
  have l:r8 ws b=flds ws a:=by rw[j];rfl
  have f:b.at_=(a:Int):=by rw[j,ab]
  unfold fj at hr;obtain⟨i,g,-,n⟩:=ky.1 hr;rw[l] at g;have c:=e.2.2.2.2.2.1;rw[jC (ws:=ws) (b:=bkAt ws a) e.2.2.2.2.1] at c;simp only[kqt,kqw] at c;have k:=c.2;rw[bq] at k;have h8:(flds ws a).length=(bp (wd ws (tyA (bkAt ws a))) (wd ws (tyA (bkAt ws a)+1))).length:=rfl;unfold bi at k;exact⟨i,by rw[n,f];omega,g,by omega,e⟩
theorem ip(h:ah ws=0)(ho:fW ws a)(hb:b∈af ws):b.at_<=(a:Int)/\(b.at_=(a:Int)\/b.at_+2<=(a:Int))\/((a+szAt ws a:Nat):Int)<=b.at_:=by
 obtain⟨o1,o2,o,r,o5,o6,k,n,e,d⟩:=ho;obtain⟨j,g,rfl⟩:=kqz hb;rcases kq6 k j with m|m
 .rw[aR o r] at d;cases f:blocks ws (a+szAt ws a) with
  | none=>rw[f] at d;cases d
  | some l' =>
   rw[f] at d;simp only[kzy,Option.some.injEq] at d;have s:l'=(af ws).drop (k+1):=by
    have:=congrArg (List.drop 1) d;rw[kxl] at this
    simpa using this
   have p:(af ws)[j]∈l':=by rw[s];refine kvk.2 ⟨j-(k+1),by rw[kzv];omega,?_⟩;rw[kkj];congr 1;omega
   have:=(lG _ _ f).1 _ p;exact .inr this
 have i:=(ch h).2;rw[kzd] at i;have ha:(af ws)[k].at_=(a:Int):=by rw[e,ab]
 obtain⟨c,q,c1,c2,-⟩:=(ch h).1 _ (kqq g);have hc:(af ws)[j].at_=(c:Int):=by rw[q,ab]
 left;rcases kq6 j k with l|l
 .have:=i j k g n l;omega
 have:j=k:=by omega
 subst this;omega
structure I3 (x:List Nat):Prop where
 ck:az x=0
 p3:wd x 16=3
 hp:ah x=0
 sl:wd x 17=0->dZ x=0
 fx:AR x (wd x 17)
theorem I3.rd(h:I3 x):bh x 128 128=0:=by have:=h.ck;unfold az at this;rw[if_pos (kQ h.ck),if_neg (by rw[h.p3];decide),if_pos h.p3] at this;exact this
theorem hd_put(h:ah x=0)(hE:∀e∈E,e.a<19\/112<=e.a/\∀b∈af x,e.a≠b.at_/\e.a≠b.at_+1):Hd x (ak x E):=by
 refine⟨ax _ _,λi h1 h2=>aU _ _ _ λe f g=>?_,λb j=>?_⟩
 .rcases hE e f with c|c<;>omega
 obtain⟨a,rfl,a1,-⟩:=(ch h).1 b j;have d:(bkAt x a).at_=(a:Int):=ab x a;rw[d,kqj];refine⟨aU _ _ _ λe f g=>?_,aU _ _ _ λe f g=>?_⟩
 .rcases hE e f with c|⟨-,c⟩
  .omega
  exact (c _ j).1 (by rw[d];exact g)
 rcases hE e f with c|⟨-,c⟩
 .omega
 exact (c _ j).2 (by rw[d,g];rfl)
theorem vX(h:ah x=0)(hE:∀e∈E,e.a<19\/112<=e.a/\e.a<128):Hd x (ak x E):=hd_put h λe g=>by
 rcases hE e g with c|c
 .exact .inl c
 .refine .inr ⟨c.1,λb f=>?_⟩;obtain⟨a,rfl,a1,-⟩:=(ch h).1 b f;have d:(bkAt x a).at_=(a:Int):=ab x a;rw[d];omega
theorem Al(h:Hd x xs)(h0:ah x=0)(hm:bkAt xs m∈af xs):bkAt x m∈af x/\bkAt xs m=bkAt x m:=by
 rw[(h.heap h0).2] at hm;obtain⟨a,e,-⟩:=(ch h0).1 _ hm;have b:=congrArg Bk.at_ e;rw[ab,ab] at b;obtain rfl:m=a:=by omega
 rw[e] at hm;exact⟨hm,e⟩
theorem hd_bd(h:Hd x xs)(h0:ah x=0)(c:Bd x a):Bd xs a:=by obtain⟨f,k,d,e⟩:=c;refine⟨f,k,by rw[(h.heap h0).2];exact d,?_⟩;rw[(h.heap h0).2];exact h.blocks a _ e λb c=>kjb c
theorem qs(ho:∀v∈x,v<18446744073709551616)(h:I3 x):(ae x).1=0/\(I3 (ak x (ae x).2)\/wd (ak x (ae x).2) 16=4/\wd (ak x (ae x).2) 17=128/\wd (ak x (ae x).2) 18=128/\Hd x (ak x (ae x).2)/\cK (ak x (ae x).2)=0):=by
 have p3:=h.p3;have e:ae x=sgFix x:=by unfold ae;rw[if_pos h.ck,if_neg (by omega),if_neg (by omega),if_pos p3]
 obtain⟨-,hs,hl,M⟩:=cg h.ck;have L:=(aa _).1 hs;obtain⟨⟨l1,l2,l3⟩,-⟩:=(bo x).1 hl;have G:=h.rd;by_cases z:wd x 17=0
 .have E:=h.sl z;have C:sgFix x=(0,⟨17,128⟩::dL x):=by unfold sgFix;rw[if_pos z,if_pos E]
  have F:(ae x).1=0:=by rw[e,C]
  obtain⟨-,-,u,-⟩:=lC ho F;refine⟨F,.inl ?_⟩;obtain⟨-,-,-,-,-,-,-,K,q2,q3,-⟩:=iQ E;obtain⟨g1,Y,Z,q,y,R⟩:=gb (f:=128) (l:=dL x) h.ck p3 (by decide) (by omega) (by omega) (by omega) q2 (λe c=>by have:=(K e c).1;omega) (λe c=>(K e c).2);have o:Hd x (ak x (⟨17,128⟩::dL x)):=vX h.hp λe c=>by
   rcases kqx.1 c with rfl|c
   .exact .inl (by dsimp only;omega)
   exact .inr (K e c).1
  rw[e,C] at u |-;dsimp only at u |-;have n:=(o.heap h.hp).1;have d:cP (ak x (⟨17,128⟩::dL x))=0:=by unfold cP;rw[if_pos u,if_neg];rintro ⟨-,-,p⟩;rw[y,bd_is n (DP n) (by rw[o.len];omega)] at p;cases p
  refine⟨?_,q,n,λg=>?_,λm g D p=>?_⟩
  .unfold az;rw[if_pos d,if_neg (by rw[q];decide),if_pos q];exact (o.rd h.hp G).1
  .rw[y] at g;cases g
  obtain⟨P,m2⟩:=Al o h.hp g;rw[m2] at D;have t:=h.fx m P D (by omega);refine (o.ob t λr w=>?_).1;obtain⟨i,rfl,T,V,s⟩:=iF h.hp w;rw[kqj];refine aU _ _ _ λe c U=>?_;have:=s.1;rcases kqx.1 c with rfl|c
  .dsimp only at U;omega
  have:=(K e c).1;omega
 have hF:128<=wd x 17:=by
  rcases (co _ _ _).1 M with g|⟨-,-,g⟩|g
  .omega
  .rcases g with g|g
   .exact absurd g z
   exact ((aL _).1 g).1
  omega
 have C:sgFix x=ke x (wd x 17):=by unfold sgFix;rw[if_neg z]
 have Q:Bd x (wd x 17):=by
  refine bd_of h.hp ?_;have d:=kQ h.ck;unfold cP at d;by_cases H:oG x (wd x 17)=true
  .exact H
  split at d
  .rw[if_pos ⟨p3,z,by simpa using H⟩] at d;cases d
  exact absurd d (by assumption)
 obtain⟨f1,N⟩:=CD _ (wd x 17) (kqa _) Q h.fx;have F:(ae x).1=0:=by rw[e,C];exact f1
 obtain⟨-,-,u,-⟩:=lC ho F;refine⟨F,?_⟩;rcases N with N|⟨m,P,m2,m3,m4,m5,m6,m7⟩
 .right;rw[e,C,N] at u |-;obtain⟨g1,Y,Z,q,y,R⟩:=fE h.ck p3;refine⟨q,y,R,vX h.hp λe c=>?_,u⟩;simp only[b9,kqx,kzf,or_false] at c;rcases c with rfl|rfl|rfl<;>exact .inl (by dsimp only;omega)
 left;rw[e,C,m7] at u |-;dsimp only at u |-;have t:=h.fx m m5 m6 P;obtain⟨f,-,-,-,-,q5,q6,q7,W,q9⟩:=gN t;have q8:=De t;have hme:m%2=0/\szAt x m%2=0:=by
  obtain⟨a,ea,a1,a2,a3,a4⟩:=(ch h.hp).1 _ m5;have p:=congrArg Bk.at_ ea;rw[ab,ab] at p;obtain rfl:m=a:=by omega
  have:=aF a4;omega
 obtain⟨g1,Y,Z,q,y,R⟩:=gb (f:=m+szAt x m) (l:=cD x (m:Int)) h.ck p3 ((aL _).2 (by omega)) m3 (by omega) (by omega) q9 (λe c=>by have:=q8 e c;omega) (λe c=>by have:=q8 e c;omega);have k:∀j:Nat,j≠17->(∀r∈bU x (m:Int),r≠(j:Int))->wd (ak x (⟨17,m+szAt x m⟩::cD x (m:Int))) j=wd x j:=by
  intro j h17 hj;refine aU _ _ _ λe c U=>?_;rcases kqx.1 c with rfl|c
  .dsimp only at U;omega
  obtain⟨r,r1,r2,r3,r4⟩:=W e c;obtain rfl:r=j:=by omega
  have h6:=q7 r (λi hi hf=>hj _ (kqq hi) (by rw[(q6 i hi).1,hf]));have I:=du _ x q9 e c (by omega) (by omega);rw[r1,kqj,h6] at I;exact r3 I
 have o:Hd x (ak x (⟨17,m+szAt x m⟩::cD x (m:Int))):=by
  refine⟨ax _ _,λi g D=>k i (by omega) λr w A=>?_,λb L=>?_⟩
  .obtain ⟨X,S,-,-,s⟩:=iF h.hp w;have:=s.1;omega
  obtain⟨a,rfl,a1,a2,-⟩:=(ch h.hp).1 b L;have B:(bkAt x a).at_=(a:Int):=ab x a;rw[B,kqj];refine⟨k _ (by omega) λr w A=>?_,k _ (by omega) λr w A=>?_⟩
  .obtain ⟨X,S,T,V,s⟩:=iF h.hp w;have:=ip h.hp s L;rw[B] at this;omega
  obtain⟨X,S,T,V,s⟩:=iF h.hp w;have:=ip h.hp s L;rw[B] at this;omega
 have n:=(o.heap h.hp).1;have d:cP (ak x (⟨17,m+szAt x m⟩::cD x (m:Int)))=0:=by unfold cP;rw[if_pos u,if_neg];rintro ⟨-,-,p⟩;rw[y,bd_is n (hd_bd o h.hp m4) (by rw[o.len];omega)] at p;cases p
 refine⟨?_,q,n,λg=>?_,λm' g D p=>?_⟩
 .unfold az;rw[if_pos d,if_neg (by rw[q];decide),if_pos q];exact (o.rd h.hp G).1
 .rw[y] at g;omega
 obtain⟨n1,n2⟩:=Al o h.hp g;rw[n2] at D;rw[y] at p;have J:=h.fx m' n1 D (by omega);refine (o.ob J λr w=>?_).1;obtain⟨i,rfl,T,V,s⟩:=iF h.hp w;rw[kqj];refine k _ (by have:=s.1;omega) λr2 O A=>?_;obtain⟨X,S,j1,j2,j3⟩:=iF h.hp O;omega
theorem AK(x:List Nat)(t:Nat):mvd x t t=true:=by
 unfold mvd;cases t with
 | zero=>unfold uw;simp
 | succ t=>unfold uw;rw[if_neg (by omega)];simp
theorem qk:∀n x,(∀v∈x,v<18446744073709551616)->mzS 3 x<=n->I3 x->(dx 3 x).1=0/\wd (dx 3 x).2.2 16=4/\wd (dx 3 x).2.2 17=128/\wd (dx 3 x).2.2 18=128/\az (dx 3 x).2.2=0/\ah (dx 3 x).2.2=0/\1<=(dx 3 x).2.1.length:=by
 intro n
 induction n with
 | zero=>intro x _ h a;exfalso;have:=a.p3;unfold mzS at h;rw[if_pos this] at h;omega
 | succ n ih =>
  intro x c h a;obtain⟨d,b⟩:=qs c a;have hd:=fL c a.p3 d;rw[dM c a.p3 d];rcases b with b|⟨e,g,i,f,p⟩
  .obtain ⟨k,o,m,q,j,l,i7⟩:=ih _ (dH c d) (by omega) b;rw[if_pos k];exact⟨rfl,o,m,q,j,l,by simp⟩
  rw[cM (by omega),if_pos rfl];refine⟨rfl,e,g,i,?_,(f.heap a.hp).1,by simp⟩;unfold az;rw[if_pos (Jd p (by omega)),if_pos e];dsimp only;rw[i,g,if_pos (AK _ _)];exact (f.rd a.hp a.rd).1
theorem AC(ho:∀v∈x,v<18446744073709551616)(hp:cK x=0)(p3:wd x 16=3)(p17:wd x 17=0)(hrc:aC x=0)(hw:aK x=[])(hn:ay x=[]):I3 x:=by
 obtain⟨n,b,M,d,c,s1,i,p,s,t,-⟩:=tK hrc ho;rw[hw] at d;have d:n=x:=d;subst d;rw[hn] at c;have c:b=n:=c;subst c;have a:=(aI hrc).1;have g:cP b=0:=by unfold cP;rw[if_pos hp,if_neg];rintro ⟨-,h,-⟩;exact h p17
 refine⟨?_,p3,a,λ_=>s,λm w y _=>?_⟩
 .unfold az;rw[if_pos g,if_neg (by omega),if_pos p3];exact i
 have j:=(gj a).2.2.2;obtain⟨-,-,l,o,-,u⟩:=cj i;rw[show ((128:Int)).toNat=128 from rfl,j] at o;obtain rfl:=Option.some.inj o;have e:=lL (jl j (by omega)) 128;have k:(m:Int)∈eG (af b):=by unfold eG;refine kzr.2 ⟨bkAt b m,kzp.2 ⟨w,y⟩,ab b m⟩
 rw[e] at k;obtain⟨q,r,f⟩:=kzr.1 k;rw[<-f];exact t q (by rw[<-p,u];exact r)
section
variable {ws xs:List Nat}
theorem sA(h:∀j,96<=j->wd xs j=wd ws j)(b:Bk):dK xs b=dK ws b:=by unfold dK cZ;rw[h (tyA b) (by unfold tyA;omega),h (tyA b+1) (by unfold tyA;omega)]
theorem F2(h:∀j,96<=j->wd xs j=wd ws j):∀(l:List Bk) (s:Int),ci xs l s=ci ws l s:=by
 intro l
 induction l with
 | nil=>intro s;rfl
 | cons b l ih =>intro s;simp only[ci];rw[sA h,ih,ih]
theorem vv(hn:xs.length=ws.length)(h:∀j,96<=j->wd xs j=wd ws j){f s:Int}(hf:96<=f.toNat):bh xs f s=bh ws f s:=by
 unfold bh lB;rw[hn,dX hn f.toNat (λj hj=>h j (by omega))];cases blocks ws f.toNat with
 | none=>rfl
 | some l=>dsimp only;rw[F2 h]
theorem Fb{t:Nat}(h:∀j,96<=j->j<t->wd xs j=wd ws j)(ht:mdOk xs t=true)(h128:128<=t):∀n i,t-i<=n->128<=i->mvd ws i t=true->mvd xs i (t+szAt xs t)=true:=by
 have hsz:=l5 ht;have a:mvd xs t (t+szAt xs t)=true:=by rw[k8 (by omega) ht,kj (kqa _)];simp
 intro n
 induction n with
 | zero =>intro i q p b;rw[kj (by omega),kqw] at b;subst b;exact a
 | succ n ih =>
  intro i q p b;by_cases e:i<t
  .cases c:mdOk ws i with
   | false=>rw[tq e c] at b;cases b
   | true =>
    have hz:=l5 c;rw[k8 e c] at b;have k:wd xs i=wd ws i:=h i (by omega) e;have f:mdOk xs i=true:=by unfold mdOk at c |-;rw[k];simp only[kqt,kqw] at c |-;obtain⟨d,o,m,g⟩:=c;refine⟨d,o,m,?_⟩;unfold aD at d;rw[kqt] at d;have h7:=(bD _).1 d.1;unfold cZ at g |-;rw[h (tyA (aq (wd ws i))) (by unfold tyA;omega) (by unfold tyA;omega),h (tyA (aq (wd ws i))+1) (by unfold tyA;omega) (by unfold tyA;omega)];exact g
    have l:szAt xs i=szAt ws i:=by unfold szAt;rw[k]
    rw[k8 (by omega) f,l];exact ih (i+szAt ws i) (by omega) (by omega) b
  rw[kj (by omega),kqw] at b;subst b;exact a
theorem Iu :∀ {k:Nat} {l:List Bk} {s:Int},k<=l.length->ff l k->ci ws l s=true->ci ws (l.drop k) s=true:=by
 intro k
 induction k with
 | zero=>intro l s _ _ h;exact h
 | succ k ih =>
  intro l s c d h;cases l with
  | nil=>simp at c
  | cons b l =>
   have e:b.mark=false:=d 0 (by omega);have a:a8 b=false:=by unfold a8;rw[e];simp
   simp only[ci,a,kqt] at h;rw[List.drop_succ_cons];refine ih (by simpa using c) (λj hj=>?_) (by simpa using h.2);have:=d (j+1) (by omega);exact this
theorem FJ(ho:∀v∈x,v<18446744073709551616)(hck:az x=0)(p4:wd x 16=4)(hnx:bj x ((wd x 17:Nat):Int)=0):(ae x).1=0/\wd (ak x (ae x).2) 16=4/\az (ak x (ae x).2)=0:=by
 have e:ae x=sgSld x:=by unfold ae;rw[if_pos hck,if_neg (by omega),if_neg (by omega),if_neg (by omega),if_pos p4]
 obtain⟨-,hs,hl,L⟩:=cg hck;have hb:=(aa _).1 hs;have N:mvd x 128 (wd x 18)=true/\bh x ((wd x 17:Nat):Int) ((wd x 18:Nat):Int)=0:=by
  have:=hck;unfold az at this;rw[if_pos (kQ hck),if_pos p4] at this;by_cases A:mvd x 128 (wd x 18)=true
  .rw[if_pos A] at this;exact⟨A,this⟩
  rw[if_neg A] at this;cases this
 obtain⟨A,S⟩:=N;obtain⟨-,a1,a2,m,em,m1,m2,m3,m4,m5,m6,m7,m8,l,q1,-,-,k,q2,q3,I⟩:=fm hnx;obtain⟨r1,r2,l2,r3,r4,-⟩:=cj S;rw[kqj,q1] at r3;obtain rfl:=Option.some.inj r3;obtain⟨u1,u2,u3,u4,u5⟩:=gQ r2;have C:bh x (m:Int) ((wd x 18:Nat):Int)=0:=by
  have W:fU x.length (m:Int) ((wd x 18:Nat):Int)=false:=by
   cases hq:fU x.length (m:Int) ((wd x 18:Nat):Int) with
   | false=>rfl
   | true=>exact absurd ⟨by omega,by omega,by omega,by omega,by omega⟩ ((lg _ _ _).1 hq)
  rw[iY r1 W (l:=l.drop k) (by rw[kqj];exact I),if_pos (Iu (by omega) q3 r4)]
 obtain⟨K,G,f3,f4⟩:=cC I (by omega);have w:dG x (m:Int) ((wd x 18:Nat):Int)=0:=by
  unfold dG;rw[if_pos C,kqj,I];cases D:l.drop k with
  | nil=>rw[D] at K;simp at K
  | cons c t =>
   dsimp only;rw[D] at G;have X:c=bkAt x m:=by rw[<-G];rfl
   rw[X,m7];rfl
 have E:sgSld x=(0,⟨17,m+szAt x m⟩::⟨18,wd x 18+szAt x m⟩::ju x m (wd x 18)):=by unfold sgSld;rw[if_pos hnx,em,ab,if_pos w,bq,show ((m:Int)+((szAt x m:Nat):Int)).toNat=m+szAt x m by omega,show (((wd x 18:Nat):Int)+((szAt x m:Nat):Int)).toNat=wd x 18+szAt x m by omega];unfold iO;rw[if_pos w,kqj,kqj]
 have M:(ae x).1=0:=by rw[e,E]
 obtain⟨-,-,k3,-⟩:=lC ho M;obtain⟨a,u,n,ea,U,en,n2,n10,hu,hua,han,hst,hlv,⟨l3,-,-,-,s4,-⟩,z,o⟩:=fB w;have ea:a=m:=by omega
 have U:u=wd x 18:=by omega
 subst ea;subst en;have P:=U;have O:=(tS ho hck p4 (by rw[<-e];exact M)).1;have y:=Cj (ws:=x) (a:=a) (u:=u) (by omega);rw[<-y] at s4 z;rw[<-U] at E;rw[<-e] at O;have q:(ju x a u).Pairwise (λa b=>a.a<b.a):=by rw[kzd];intro i j hi hj hij;rw[fa,fa];omega
 have s:∀e∈ju x a u,(u:Int)<=e.a/\e.a<((u+szAt x a:Nat):Int):=λe d=>by
  obtain⟨k,hk,rfl⟩:=kqz d;rw[fa];rw[fD] at hk;omega
 have Y:∀j:Nat,19<=j->wd (ak x (ae x).2) j=wd (ak x (ju x a u)) j:=by
  intro j hj;rw[e,E,show (⟨17,a+szAt x a⟩::⟨18,u+szAt x a⟩::ju x a u:List En)=[⟨17,a+szAt x a⟩,⟨18,u+szAt x a⟩]++ju x a u from rfl,eK];by_cases r:∃e∈ju x a u,e.a=(j:Int)
  .obtain ⟨J,d,h5⟩:=r;have hm2:=s J d;have t1:=du (ju x a u) (ak x [⟨17,a+szAt x a⟩,⟨18,u+szAt x a⟩]) q J d (by omega) (by rw[ax];omega);have t2:=du (ju x a u) x q J d (by omega) (by omega);rw[show J.a.toNat=j by omega] at t1 t2;rw[t1,t2]
  rw[aU _ _ _ (λe d h=>r ⟨e,d,h⟩),aU _ _ _ (λe d h=>r ⟨e,d,h⟩)];refine aU _ _ _ λe d h=>?_;simp only[kqx,kzf,or_false] at d;rcases d with rfl|rfl<;>(dsimp only at h;omega)
 have hfp:=(co _ _ _).1 L;obtain⟨j1,j2,-,j4,j5,j6⟩:=k9 (f:=a+szAt x a) (t:=u+szAt x a) (l:=ju x a u) hck p4 ((aL _).2 (by omega)) ((aL _).2 (by omega)) (by omega) (by omega) (by omega) (by omega) (by rw[fD];omega) q (λe d=>by have:=s e d;omega) (qy ho o);have hlen:(ak x (ae x).2).length=x.length:=ax _ _;have g:∀j:Nat,96<=j->j<u->wd (ak x (ae x).2) j=wd x j:=λj h1 h2=>by
  rw[Y j (by omega)];exact aU _ _ _ λe d h=>by have:=s e d;omega
 have F:wd (ak x (ae x).2) u=cV { aq (wd x a) with mark:=false }:=by rw[Y u (by omega)];exact z
 have p:aq (wd (ak x (ae x).2) u)={ aq (wd x a) with mark:=false }:=by rw[F,mI o];rfl
 have Q:szAt (ak x (ae x).2) u=szAt x a:=by have:=congrArg Bk.size p;have e1:(aq (wd (ak x (ae x).2) u)).size=((szAt (ak x (ae x).2) u:Nat):Int):=rfl;have e3:({ aq (wd x a) with mark:=false }:Bk).size=((szAt x a:Nat):Int):=rfl;rw[e1,e3] at this;omega
 have B:cZ x (bkAt x a)=true:=by
  obtain⟨-,-,l4,Z,H,-⟩:=cj C;rw[kqj,I] at Z;obtain rfl:=Option.some.inj Z;cases D:l.drop k with
  | nil=>rw[D] at K;simp at K
  | cons c t =>
   rw[D] at G H;have X:c=bkAt x a:=by rw[<-G];rfl
   rw[X] at H;simp only[ci,kqt] at H;have R:=H.1;unfold dK at R;rw[m8] at R
   simpa using R
 have T:mdOk (ak x (ae x).2) u=true:=by
  have h7:=(bD _).1 o;have V:(aq (wd x a)).kind=1:=m8;unfold mdOk aD;rw[p,F,o,V];simp only[beq_self_eq_true,kzq,kvb];unfold cZ at B |-;have et:tyA ({ aq (wd x a) with mark:=false }:Bk)=tyA (bkAt x a):=rfl;have htl:tyA (bkAt x a)+1<112:=by have:(bkAt x a).typ=(aq (wd x a)).typ:=rfl;unfold tyA;rw[this];dsimp only at h7;omega
  rw[et,g _ (by unfold tyA;omega) (by omega),g _ (by unfold tyA;omega) (by omega)];exact B
 have hg:=Fb g T hu (u-128) 128 (by omega) (by omega) (by rw[P];exact A);rw[Q] at hg;have g5:wd (ak x (ae x).2) 17=a+szAt x a:=by rw[e,E];exact j5
 have g6:wd (ak x (ae x).2) 18=u+szAt x a:=by rw[e,E];exact j6
 refine⟨M,O,?_⟩;unfold az;rw[if_pos (Jd k3 (by omega)),if_pos O,g5,g6,if_pos hg,vv (ws:=ak x (ju x a u)) (by rw[ax,ax]) (λj hj=>Y j (by omega)) (by omega)];exact s4
end
theorem GB(hck:az x=0)(p4:wd x 16=4)(hnx:bj x ((wd x 17:Nat):Int)≠0):el x=0:=by
 obtain⟨f,-,a,e,b,j,g,l,o,n⟩:=yp hck (by omega);obtain⟨-,-,-,c⟩:=cg hck;have hF:128<=wd x 17:=by
  rcases (co _ _ _).1 c with b|b|b
  .exact ((aL _).1 b.2.1).1
  .omega
  omega
 have k:a=wd x 17:=by unfold ga at e;rw[if_neg (by omega)] at e;omega
 subst k;have i:lfN x=0:=by
  rw[n];by_cases d:0<(eG l).length
  .obtain ⟨m,z,l',h,-⟩:=m9 f b j g o d;exact absurd h hnx
  omega
 unfold el;rw[if_pos hck,if_pos ⟨p4,i⟩]
theorem tY{x:Nat}(h:aD x=true)(hk:(aq x).kind=1)(m n:Bool):gt (gt x m) n=gt x n:=by obtain⟨b,a,-,-⟩:=hU h hk m;obtain⟨y,c⟩:=xq (gt x m);rw[c] at b a |-;unfold gt;rw[if_pos b,if_pos h];unfold iC;rw[a]
theorem RmL.trans(h:RmL ws xs)(g:RmL xs ys):RmL ws ys:=by
 refine⟨g.len.trans h.len,λi b=>?_⟩;rcases g.at_ i b with a|⟨a,d,e,k,m,c⟩
 .rw[a];exact h.at_ i b
 rcases h.at_ i b with l|⟨l,h2,f,j,m0,n⟩
 .rw[l] at e k c;exact .inr ⟨a,d,e,k,m,c⟩
 exact .inr ⟨a,d,f,j,m,by rw[c,n,tY f j]⟩
theorem Rm.toL(h:Rm ws xs):RmL ws xs:=⟨h.len,λi _=>h.at_ i⟩
theorem NxL.trans(h0:ah ws=0)(h:NxL ws xs)(g:NxL xs ys):NxL ws ys:=by
 refine⟨g.len.trans h.len,λi d=>?_⟩;rcases g.at_ i d with a|⟨b,e,a⟩
 .rw[a];exact h.at_ i d
 rw[((h.ev h0).heap h0).2] at e;obtain⟨f,c,rfl⟩:=kzr.1 e;exact .inr ⟨f,c,a⟩
theorem mkd_nx(xs:List Nat)(l:List Bk):eG (l.map (nxB xs))=eG l:=by
 induction l with
 | nil=>rfl
 | cons b l ih =>
  unfold eG at ih |-;rw[kxj];have e:(nxB xs b).mark=b.mark:=rfl;have a:(nxB xs b).at_=b.at_:=rfl;simp only[kxr,e];split
  .simp only[kxj,a,ih]
  exact ih
theorem vM(xs:List Nat):∀(l:List Bk) (s:Int),aB (l.map (nxB xs)) s=aB l s:=by
 intro l
 induction l with
 | nil=>intro s;rfl
 | cons b l ih =>intro s;have e:a8 (nxB xs b)=a8 b:=rfl;have a:(nxB xs b).at_=b.at_:=rfl;have c:(nxB xs b).size=b.size:=rfl;simp only[kxj,aB,e,a,c,ih]
theorem C4{n:Nat}(h:Small n E)(hi:i<16\/19<=i/\i<112):wd (ak ws E) i=wd ws i:=aU _ _ _ λe a=>by have:=(h.ins e a).1;omega
theorem qO(hi:i<16\/19<=i/\i<112):∀n x,(∀v∈x,v<18446744073709551616)->mzS p x<=n->(dx p x).1=0->wd (dx p x).2.2 i=wd x i:=by
 intro n
 induction n with
 | zero =>
  intro x d h _;have a:wd x 16≠p:=λa=>by unfold mzS at h;rw[if_pos a] at h;omega
  rw[cM a]
 | succ n ih =>
  intro x d h c;by_cases a:wd x 16=p
  .by_cases f:(ae x).1=6
   .rw[kH a f]
   by_cases b:(ae x).1=0
   .have hd:=fL d a b;rw[dM d a b] at c |-;by_cases e:(dx p (ak x (ae x).2)).1=0
    .rw[if_pos e];have:=ih (ak x (ae x).2) (dH d b) (by omega) e;exact this.trans (C4 (lC d b).2.1 hi)
    rw[if_neg e] at c;exact absurd c e
   rw[qY a f b] at c;exact absurd c b
  rw[cM a]
def HsL (ws xs:List Nat):Prop:=∀i:Nat,19<=i->wd xs i=wd ws i\/∃b∈af ws,(i:Int)=b.at_
theorem Gw(hE:∀e∈E,e.a<19\/∃b∈af x,e.a=b.at_):HsL x (ak x E):=λi h19=>by
 by_cases c:∃b∈af x,(i:Int)=b.at_
 .exact .inr c
 .refine .inl (aU _ _ _ λe g h=>?_);rcases hE e g with d|⟨b,f,d⟩
  .omega
  .exact c ⟨b,f,by rw[<-d,h]⟩
theorem uD(h:aC x=0):∀e∈aK x,∃b∈af x,e.a=b.at_:=λe c=>by obtain⟨a,d,-,-,-,-,-,rfl,-⟩:=dh h c;exact⟨_,d,(ab x a).symm⟩
theorem D5:∀n x,(∀v∈x,v<18446744073709551616)->mzS 1 x<=n->wd x 16=1->az x=0->aC x=0->RmL x (dx 1 x).2.2/\HsL x (dx 1 x).2.2/\aC (dx 1 x).2.2=0/\eh (dx 1 x).2.2=eh x/\eG (af (dx 1 x).2.2)=eh x:=by
 intro n
 induction n with
 | zero=>intro x _ h g;exfalso;unfold mzS at h;rw[if_pos g] at h;omega
 | succ n ih =>
  intro x o h g q a;have e:ae x=(0,ie (aK x) 2):=by unfold ae;rw[if_pos q,if_pos g,if_pos a]
  have j:(ae x).1=0:=by rw[e]
  have hd:=fL o g j;obtain⟨-,-,K,-,-,-,-,-⟩:=lC o j;obtain⟨F,r2⟩:=nU a;obtain⟨g1,g2,g3,l,g5,g6⟩:=eE q g (.inl rfl) (dg a) (λy M=>by
   obtain⟨i,s⟩:=kjr.1 M;exact F i y s) (nP a)
  simp only[Nat.reduceAdd] at l;rw[dM o g j];by_cases c:32<=(aK x).length
  .rw[if_pos c] at l;obtain⟨d,r⟩:=GR g j c;have p:RmL x (ak x (ae x).2):=by rw[e,cm c];exact (gp a (kxt 31 _)).toL
   have u:HsL x (ak x (ae x).2):=by rw[e,cm c];exact Gw λe m=>.inr (uD a e (kxv m))
   have k:wd (ak x (ae x).2) 16=1:=by rw[e];exact l
   have f:az (ak x (ae x).2)=0:=xe K (by omega) (by omega) (aI d).1;obtain⟨E,-⟩:=vq _ _ (dH o j) (kqa _) k f d;obtain⟨J,A,I,G,D⟩:=ih _ (dH o j) (by omega) k f d;rw[if_pos E];refine⟨p.trans J,λi s=>?_,I,G.trans r,D.trans r⟩;rcases A i s with t|⟨b,z,t⟩
   .rw[t];exact u i s
   rw[(p.heap (aI a).1).2] at z;obtain⟨L,w,rfl⟩:=kzr.1 z;exact .inr ⟨L,w,t⟩
  rw[if_neg c] at l;have p2':wd (ak x (ae x).2) 16=2:=by rw[e];exact l
  rw[cM (by omega),if_pos rfl];rw[e,fC c];obtain⟨B,H,l3,C⟩:=Jc a 2;refine⟨uW a 2,Gw λe m=>?_,B,H,C⟩;rcases kqx.1 m with rfl|m
  .exact .inl (by dsimp only;omega)
  exact .inr (uD a e m)
theorem I5(hhp:ah x=0):NxL x (ak x (ie (ay x) 3)):=by
 have f:∀e∈ay x,∃b∈af x,e.a=b.at_+1:=by intro e c;rw[oL hhp] at c;obtain⟨b,g,-,h⟩:=fu c;exact⟨b,g,h⟩
 refine pT λe c=>?_;by_cases d:32<=(ay x).length
 .rw[cm d] at c;exact .inr (f e (kxv c))
 rw[fC d] at c;rcases kqx.1 c with rfl|c
 .exact .inl (by dsimp only;omega)
 exact .inr (f e c)
theorem NxL.mkd(h:NxL ws xs)(h0:ah ws=0):eG (af xs)=eG (af ws)/\aB (af xs) 128=aB (af ws) 128:=by rw[((h.ev h0).heap h0).2];exact⟨mkd_nx _ _,vM _ _ _⟩
theorem IL:∀n x,(∀v∈x,v<18446744073709551616)->mzS 2 x<=n->wd x 16=2->az x=0->NxL x (dx 2 x).2.2/\ay (dx 2 x).2.2=[]:=by
 intro n
 induction n with
 | zero=>intro x _ h f;exfalso;unfold mzS at h;rw[if_pos f] at h;omega
 | succ n ih =>
  intro x l h f b;have a:ah x=0:=by have:=b;unfold az at this;rw[if_pos (kQ b),if_neg (by omega),if_neg (by omega)] at this;exact this
  have e:ae x=(0,ie (ay x) 3):=by unfold ae;rw[if_pos b,if_neg (by omega),if_pos f,if_pos a]
  have g:(ae x).1=0:=by rw[e]
  have hd:=fL l f g;obtain⟨-,-,u,-,-,-,-,-⟩:=lC l g;obtain⟨o,y,w⟩:=mu a;obtain⟨g1,g2,g3,k,p,g6⟩:=eE b f (.inr rfl) o y w;simp only[Nat.reduceAdd] at k p;have i:NxL x (ak x (ae x).2):=by rw[e];exact I5 a
  rw[dM l f g];by_cases d:32<=(ay x).length
  .rw[if_pos d] at k;have j:wd (ak x (ae x).2) 16=2:=by rw[e];exact k
   have c:az (ak x (ae x).2)=0:=xe u (by omega) (by omega) (ut f g).1;obtain⟨m,-⟩:=uP _ _ (dH l g) (kqa _) j c;obtain⟨t,s⟩:=ih _ (dH l g) (by omega) j c;rw[if_pos m];exact⟨i.trans a t,s⟩
  rw[if_neg d] at k;have p3':wd (ak x (ae x).2) 16=3:=by rw[e];exact k
  obtain⟨f1,-,q,r⟩:=vO a d;rw[cM (by omega),if_pos rfl];refine⟨i,?_⟩;rw[e,oL q,r];exact nH
theorem H4(h:aC x=0)(hm:eG (af x)=eh x):aK x=[]:=by
 obtain⟨m,-,-⟩:=aI h;rw[dd h,show lw (seenL x) (af x)=[] from ?_]
 .rfl
 unfold lw;rw[kke];intro b g;obtain⟨a,rfl,a1,a2,n,a4⟩:=(ch m).1 b g;have f:(bkAt x a).mark=ew x (bkAt x a):=by
  rw[kzg,fv n];constructor
  .intro p;have d:((a:Nat):Int)∈eG (af x):=by unfold eG;exact kzr.2 ⟨bkAt x a,kzp.2 ⟨g,p⟩,ab x a⟩
   rw[hm,gx h] at d;obtain⟨q,e,-,j⟩:=d;obtain rfl:a=q:=by omega
   exact j
  intro j;have d:((a:Nat):Int)∈eh x:=(gx h _).2 ⟨a,rfl,n,j⟩;rw[<-hm] at d;unfold eG at d;obtain⟨c,r,i⟩:=kzr.1 d;obtain⟨l,k⟩:=kzp.1 r;have o:=pW (ch m).2 l g (by rw[i,ab]);rw[<-o];exact k
 unfold ew at f;unfold cG;rw[f];simp
theorem iZ{l:List En}{a:Int}{v:Nat}(h:(i:Int)≠a):wd (ak x (⟨a,v⟩::l)) i=wd (ak x l) i:=by
 simp only[ak];split
 .refine lM (by rw[kq4]) ?_;unfold wd;rw[kjc (by omega)]
 rfl
theorem Hd.trans(h0:ah ws=0)(h:Hd ws xs)(g:Hd xs ys):Hd ws ys:=by refine⟨g.len.trans h.len,λi d c=>(g.low i d c).trans (h.low i d c),λb a=>?_⟩;obtain⟨e,j⟩:=h.blk b a;obtain⟨f,k⟩:=g.blk b (by rw[(h.heap h0).2];exact a);exact⟨f.trans e,k.trans j⟩
theorem Hd.rs(h:Hd ws xs)(h0:ah ws=0)(a:Int):bU xs a=bU ws a:=by
 have d:=h.heap h0;have c:aQ xs 128=aQ ws 128:=by rw[(gj d.1).2.1,(gj h0).2.1,d.2]
 unfold bU;rw[if_pos d.1,if_pos h0,c];cases f:jW (aQ ws 128) a with
 | none=>rfl
 | some b =>obtain⟨e,b2,j⟩:=jA f;rw[(gj h0).2.1] at e;obtain⟨g,i⟩:=h.ty h0 e j;dsimp only;unfold fj r8;rw[g,i]
def Mk (ws:List Nat) (m:Nat):Prop:=bkAt ws m∈af ws/\(bkAt ws m).mark=true
theorem pe(h0:ah ws=0)(h:Mk ws m):fW ws m/\(bkAt ws m).kind=1:=by
 have c:(bkAt ws m).kind=1:=jl (gj h0).2.2.2 (by omega) _ h.1 h.2;obtain⟨k,b,e⟩:=kqz h.1;obtain⟨a,d,f⟩:=pL h0 b (by rw[e];exact c);rw[e] at d;have g:=congrArg Bk.at_ d;rw[ab,ab] at g;obtain rfl:m=a:=by omega
 exact⟨f,c⟩
theorem Hd.mks(h:Hd ws xs)(h0:ah ws=0):Mk xs m↔Mk ws m:=by
 constructor
 .rintro ⟨a,b⟩;obtain⟨f,g⟩:=Al h h0 a;exact⟨f,by rw[<-g];exact b⟩
 rintro ⟨a,b⟩;obtain⟨c,d⟩:=h.blk _ a;rw[ab,kqj] at c d;have e:bkAt xs m=bkAt ws m:=by unfold bkAt;rw[c,d]
 exact⟨by rw[(h.heap h0).2,e];exact a,by rw[e];exact b⟩
theorem F3(h0:ah ws=0){k0:Nat}(hk:k0<=(af ws).length)(hb:blocks ws c=some ((af ws).drop k0))(hj:j<(af ws).length)(hc:(c:Int)<=(af ws)[j].at_):k0<=j:=by
 rcases kq6 j k0 with g|d
 .exfalso;obtain⟨a,i,a1,a2,a3,a4⟩:=(ch h0).1 _ (kqq hj);rw[i,ab] at hc;have b:c<ws.length:=by omega
  obtain⟨l,k,-⟩:=cC hb b;rw[kzv] at l;have f:k0<(af ws).length:=by omega
  have e:(af ws)[k0]=bkAt ws c:=by rw[<-k];unfold gk;rw[kx9,kql (by omega),kq8];rfl
  have h:=(ch h0).2;rw[kzd] at h;have:=h j k0 hj f g;rw[e,i,ab,ab] at this;omega
 exact d
theorem Hi(h0:ah ws=0)(hb:Bd ws c)(hc:c<=ws.length):c%2=0:=by
 obtain⟨-,b,hk0,h⟩:=hb;have hs:=(aa _).1 (aA h0).1;by_cases he:c=ws.length
 .omega
 obtain⟨f,g,-⟩:=cC h (by omega);rw[kzv] at f;obtain⟨a,d,a1,a2,-⟩:=(ch h0).1 _ (kqq (show b<(af ws).length by omega));have e:(af ws)[b]'(by omega)=bkAt ws c:=by rw[<-g];unfold gk;rw[kx9,kql (by omega),kq8];rfl
 rw[e] at d;have i:=congrArg Bk.at_ d;rw[ab,ab] at i;omega
theorem bd_gap(h0:ah ws=0)(hb:Bd ws c)(hn:bj ws (c:Int)=0)(e:iK ws (c:Int)=bkAt ws m)(hm:Mk ws m')(hc:c<=m'):m<=m':=by
 obtain⟨x,s⟩:=hm;obtain⟨h1,a,n,b⟩:=hb;obtain⟨-,-,-,y,q,p1,-,p3,-,p5,-,-,-,l,o,-,-,k,w,v,r⟩:=fm hn;have u:y=m:=by have:=q.symm.trans e;have i:=congrArg Bk.at_ this;rw[ab,ab] at i;omega
 subst u;rw[o] at b;obtain rfl:=Option.some.inj b;obtain⟨j,g,d⟩:=kqz x;have hj0:=F3 h0 n o g (by rw[d,ab];omega);rw[kzv] at w;rcases kq6 (j-a) k with h|hge
 .exfalso;have:=v (j-a) h;unfold gk at this;rw[kx9,show a+(j-a)=j by omega,kql g,kq8,d,s] at this;cases this
 obtain⟨f1,f,-⟩:=cC r (by omega);unfold gk at f;rw[kxl,kx9,kz8,kql (by omega),kq8] at f;have p:=(ch h0).2;rw[kzd] at p;by_cases t:j=a+k
 .subst t;rw[f] at d;have i:=congrArg Bk.at_ d;rw[ab,ab] at i;omega
 have:=p (a+k) j (by omega) g (by omega);rw[f,d,ab,ab] at this;omega
theorem Dj(h0:ah ws=0)(hb:Bd ws c)(hcl:c<=ws.length)(hn:bj ws (c:Int)≠0)(hm:Mk ws m'):¬ c<=m':=by
 intro hc;have i:=Hi h0 hb hcl;obtain⟨k,l⟩:=hm;obtain⟨o,e,f,a⟩:=hb;obtain⟨j,n,g⟩:=kqz k;have hj0:=F3 h0 f a n (by rw[g,ab];omega);have d:bkAt ws m'∈(af ws).drop e:=by rw[<-g];refine kvk.2 ⟨j-e,by rw[kzv];omega,?_⟩;rw[kkj];congr 1;omega
 have b:0<(eG ((af ws).drop e)).length:=by
  have:((m':Nat):Int)∈eG ((af ws).drop e):=by unfold eG;exact kzr.2 ⟨bkAt ws m',kzp.2 ⟨d,l⟩,ab ws m'⟩
  exact List.length_pos_of_mem this
 obtain⟨m,z,l',h,-⟩:=m9 (aA h0).1 o hcl i a b;exact hn h
theorem iW(h0:ah ws=0)(h:Mk ws m)(h':Mk ws m')(hlt:m<m'):m+szAt ws m<=m':=by have:=ip h0 (pe h0 h).1 h'.1;rw[ab] at this;omega
theorem uy(h0:ah ws=0)(h:Mk ws m)(h':Mk ws m')(hr:r∈bU ws (m:Int))(hr':r∈bU ws (m':Int)):m=m':=by
 obtain⟨i,e1,-,e2,-⟩:=iF h0 hr;obtain⟨i',f1,-,f2,-⟩:=iF h0 hr';rcases kj6 m m' with a|a|a
 .have:=iW h0 h h' a;omega
 .exact a
 have:=iW h0 h' h a;omega
theorem Fl(h0:ah ws=0):∀k a,ws.length-a<=k->a<=ws.length->Bd ws a->AR ws a->(ke ws a=(0,b9)/\∀m:Nat,Mk ws m->a<=m->bU ws (m:Int)=[])\/∃m:Nat,a<=m/\m+szAt ws m<=ws.length/\2<=szAt ws m/\Mk ws m/\ke ws a=(0,⟨17,m+szAt ws m⟩::cD ws (m:Int))/\∀b:Nat,Mk ws b->a<=b->b < m->bU ws (b:Int)=[]:=by
 intro k
 induction k with
 | zero =>
  intro a A l n r;by_cases d:bj ws (a:Int)=0
  .obtain ⟨-,-,-,m,e,-⟩:=fm d;obtain⟨s,x,u,-⟩:=qF n d e;omega
  exact .inl ⟨ki d,λm t f=>absurd f (Dj h0 n l d t)⟩
 | succ k ih =>
  intro a A l n r;by_cases d:bj ws (a:Int)=0
  .obtain ⟨-,-,-,m,e,-⟩:=fm d;obtain⟨s,x,u,H,w,v,n7⟩:=qF n d e;have g:=λb (c:Mk ws b) (f:a<=b)=>bd_gap h0 n d e c f;have h:Mk ws m:=⟨w,v⟩;by_cases o:bU ws (m:Int)=[]
   .rw[kV d e o];rcases ih (m+szAt ws m) (by omega) u H (λb i q h3=>r b i q (by omega)) with⟨B,D⟩|⟨b,j1,G,C,z,y,E⟩
    .refine .inl ⟨B,λb c f=>?_⟩;rcases kq6 m b with i|i
     .exact D b c (iW h0 h c i)
     have:=g b c f;obtain rfl:m=b:=by omega
     exact o
    refine .inr ⟨b,by omega,G,C,z,y,λp j f q=>?_⟩;rcases kq6 m p with i|i
    .exact E p j (iW h0 h j i) q
    have:=g p j f;obtain rfl:m=p:=by omega
    exact o
   have F:=r m w v s;refine .inr ⟨m,s,u,x,h,qA d e o F,λb c f q=>?_⟩;have:=g b c f;omega
  exact .inl ⟨ki d,λm t f=>absurd f (Dj h0 n l d t)⟩
theorem nV(hob:dA x (m:Int)=0)(h17:j≠17)(hj:∀r∈bU x (m:Int),r≠(j:Int)):wd (ak x (⟨17,f⟩::cD x (m:Int))) j=wd x j:=by
 obtain⟨g,-,-,-,-,q5,o,q,c,k⟩:=gN hob;refine aU _ _ _ λe b p=>?_;rcases kqx.1 b with rfl|b
 .dsimp only at p;omega
 obtain⟨r,n,r2,s,r4⟩:=c e b;obtain rfl:r=j:=by omega
 have l:=q r (λi d h=>hj _ (kqq d) (by rw[(o i d).1,h]));have a:=du _ x k e b (by omega) (by omega);rw[n,kqj,l] at a;exact s a
theorem ob_hd(hp:ah x=0)(hob:dA x (m:Int)=0):Hd x (ak x (⟨17,f⟩::cD x (m:Int))):=by
 refine⟨ax _ _,λi h1 h2=>nV hob (by omega) λr g d=>?_,λb h=>?_⟩
 .obtain ⟨k,j,-,-,e⟩:=iF hp g;have:=e.1;omega
 obtain⟨a,rfl,a1,a2,-⟩:=(ch hp).1 b h;have c:(bkAt x a).at_=(a:Int):=ab x a;rw[c,kqj];refine⟨nV hob (by omega) λr g d=>?_,nV hob (by omega) λr g d=>?_⟩
 .obtain ⟨k,j,n,l,e⟩:=iF hp g;have:=ip hp e h;rw[c] at this;omega
 obtain⟨k,j,n,l,e⟩:=iF hp g;have:=ip hp e h;rw[c] at this;omega
structure FxT (ws xs:List Nat) (c:Nat):Prop where
 hd:Hd ws xs
 sl:∀i,i<16->slAt xs i=nwS ws (iB ws 128 128) i
 done:∀m:Nat,Mk ws m->m<c->∀r∈bU ws (m:Int),Ds ws xs (iB ws 128 128) r.toNat
 todo:∀m:Nat,Mk ws m->c<=m->∀r∈bU ws (m:Int),wd xs r.toNat=wd ws r.toNat
 off:∀i:Nat,128<=i->(∀m:Nat,Mk ws m->(i:Int) ∉ bU ws (m:Int))->wd xs i=wd ws i
theorem Ao(hfs:dZ x=0):FxT x (ak x (⟨17,128⟩::dL x)) 128:=by
 obtain⟨-,j,-,-,-,-,-,n,q2,q3,l,-⟩:=iQ hfs;have b:∀e∈(⟨17,128⟩::dL x:List En),e.a<19\/112<=e.a/\e.a<128:=λe c=>by
  rcases kqx.1 c with rfl|c
  .exact .inl (by dsimp only;omega)
  exact .inr (n e c).1
 have d:∀i:Nat,128<=i->wd (ak x (⟨17,128⟩::dL x)) i=wd x i:=λi f=>aU _ _ _ λe c h=>by
  rcases b e c with g|g<;>omega
 refine⟨vX j b,λi f=>?_,λm k g=>?_,λm k g r p=>?_,λi f _=>d i f⟩
 .rw[<-l i f];unfold slAt;rw[iZ (by omega)]
 .have:=(pe j k).1.1;omega
 obtain⟨i,rfl,-,-,o⟩:=iF j p;rw[kqj];exact d _ (by have:=o.1;omega)
theorem DZ(h0:ah ws=0)(hr0:bh ws 128 128=0)(hx:FxT ws x c)(hm:Mk x m)(hcm:c<=m)(hob:dA x (m:Int)=0)(hno:∀a:Nat,Mk x a->c<=a->a < m->bU x (a:Int)=[]):FxT ws (ak x (⟨17,m+szAt x m⟩::cD x (m:Int))) (m+szAt x m):=by
 have t:=(hx.hd.heap h0).1;have w:Mk ws m:=(hx.hd.mks h0).1 hm;have p:=hx.hd.rs h0;obtain⟨hrx,y⟩:=hx.hd.rd h0 hr0;have hsz:=aF (pe t hm).1.2.2.2.1;refine⟨hx.hd.trans h0 (ob_hd t hob),λi A=>?_,λa k hlt r f=>?_,λa k hle r f=>?_,λi A o=>?_⟩
 .rw[<-hx.sl i A];unfold slAt;rw[nV hob (by omega) λr f h=>?_];obtain⟨i',C,-,-,q⟩:=iF t f;have:=q.1;omega
 .have l:r∈bU x (a:Int):=by rw[p];exact f
  have d:Mk x a:=(hx.hd.mks h0).2 k;rcases kj6 a m with u|u|u
  .rcases kq6 a c with B|B
   .have b:=hx.done a k B r f;obtain⟨i,rfl,-,-,q⟩:=iF h0 f;rw[kqj] at b |-;have e:wd (ak x (⟨17,m+szAt x m⟩::cD x (m:Int))) (a+2+i)=wd x (a+2+i):=nV hob (by have:=q.1;omega) λr s h=>by
     subst h;have:=uy t hm d s l;omega
    unfold Ds at b |-;rw[e];exact b
   rw[hno a d B u] at l;cases l
  .subst u;have n:=hx.todo a k hcm r f;obtain⟨g,-,-,-,-,q5,E,-⟩:=gN hob;obtain⟨j,D,z⟩:=kqz l;obtain⟨C,-,-,v⟩:=E j D;obtain⟨i,rfl,-,-,q⟩:=iF h0 f;rw[C] at z;have z:g j=a+2+i:=by omega
   rw[z,y] at v;rw[kqj] at n |-;have e:wd (ak x (⟨17,a+szAt x a⟩::cD x (a:Int))) (a+2+i)=wd (ak x (cD x (a:Int))) (a+2+i):=iZ (by have:=q.1;omega);unfold Ds at v |-;rw[e,<-n];rw[hx.hd.len] at v;exact v
  have:=iW t hm d u;omega
 .have d:Mk x a:=(hx.hd.mks h0).2 k;have l:r∈bU x (a:Int):=by rw[p];exact f
  have b:=hx.todo a k (by omega) r f;obtain⟨i,rfl,-,-,q⟩:=iF h0 f;rw[kqj] at b |-;rw[nV hob (by have:=q.1;omega) λr s h=>?_]
  .exact b
  subst h;have:=uy t hm d s l;omega
 rw[nV hob (by omega) λr f h=>?_]
 .exact hx.off i A o
 subst h;rw[p] at f;exact o m w f
theorem Jm(h0:ah ws=0)(hx:FxT ws x c)(hno:∀m:Nat,Mk x m->c<=m->bU x (m:Int)=[]):FxT ws (ak x b9) ws.length:=by
 have p:=(hx.hd.heap h0).1;have n:=hx.hd.rs h0;have b:∀i:Nat,19<=i->wd (ak x b9) i=wd x i:=λi k=>aU _ _ _ λe f h=>by
  simp only[b9,kqx,kzf,or_false] at f;rcases f with rfl|rfl|rfl<;>(dsimp only at h;omega)
 have hd:Hd x (ak x b9):=vX p λe f=>by
  simp only[b9,kqx,kzf,or_false] at f;rcases f with rfl|rfl|rfl<;>exact .inl (by dsimp only;omega)
 refine⟨hx.hd.trans h0 hd,λi k=>?_,λm g hlt r j=>?_,λm g hle=>?_,λi k d=>(b i (by omega)).trans (hx.off i k d)⟩
 .rw[<-hx.sl i k];unfold slAt;rw[b _ (by omega)]
 .rcases kq6 m c with l|l
  .have a:=hx.done m g l r j;obtain⟨i,rfl,-,-,o⟩:=iF h0 j;rw[kqj] at a |-;unfold Ds at a |-;rw[b _ (by have:=o.1;omega)];exact a
  have:=hno m ((hx.hd.mks h0).2 g) l;rw[n] at this;rw[this] at j;cases j
 have:=(pe h0 g).1.2.2.1;omega
theorem FU(h0:ah ws=0)(hr0:bh ws 128 128=0):∀n x,(∀v∈x,v<18446744073709551616)->mzS 3 x<=n->I3 x->wd x 17≠0->FxT ws x (wd x 17)->FxT ws (dx 3 x).2.2 ws.length:=by
 intro n
 induction n with
 | zero=>intro x _ h a;exfalso;have:=a.p3;unfold mzS at h;rw[if_pos this] at h;omega
 | succ n ih =>
  intro x f h a z s;obtain⟨k,c⟩:=qs f a;have hd:=fL f a.p3 k;have p3:=a.p3;have e:ae x=ke x (wd x 17):=by unfold ae;rw[if_pos a.ck,if_neg (by omega),if_neg (by omega),if_pos p3];unfold sgFix;rw[if_neg z]
  obtain⟨-,F,A,hph⟩:=cg a.ck;have hb:=(aa _).1 F;obtain⟨⟨l1,E,l3⟩,-⟩:=(bo x).1 A;have l:Bd x (wd x 17):=by
   refine bd_of a.hp ?_;have b:=kQ a.ck;unfold cP at b;by_cases d:oG x (wd x 17)=true
   .exact d
   split at b
   .rw[if_pos ⟨p3,z,by simpa using d⟩] at b;cases b
   exact absurd b (by assumption)
  rw[dM f p3 k];rcases Fl a.hp _ (wd x 17) (kqa _) E l a.fx with⟨C,B⟩|⟨m,w,m2,m3,i,D,y⟩
  .rw[C] at e;have q:wd (ak x (ae x).2) 16=4:=by rw[e];exact (fE a.ck p3).2.2.2.1
   rw[cM (by omega),if_pos rfl,e];exact Jm h0 s B
  rw[D] at e;have g:dA x (m:Int)=0:=a.fx m i.1 i.2 w;have u:=De g;have hm128:=(pe a.hp i).1.1;have r:wd (ak x (ae x).2) 17=m+szAt x m:=by rw[e];exact kq (j:=17) (by omega) λe p=>by have:=(u e p).1;omega
  have q:wd (ak x (ae x).2) 16=3:=by rw[e,iZ (by omega),aU _ _ _ λe p=>by have:=(u e p).1;omega];exact p3
  have t:I3 (ak x (ae x).2):=by
   rcases c with c|⟨g1,-⟩
   .exact c
   omega
  have o:=(qk _ _ (dH f k) (kqa _) t).1;rw[if_pos o];refine ih _ (dH f k) (by omega) t (by omega) ?_;rw[r,e];exact DZ h0 hr0 s i w g y
theorem I4(ho:∀v∈x,v<18446744073709551616)(h3:I3 x)(z:wd x 17=0):FxT x (dx 3 x).2.2 x.length:=by
 obtain⟨c,b⟩:=qs ho h3;have p3:=h3.p3;have a:=h3.sl z;have f:=h3.rd;have e:ae x=(0,⟨17,128⟩::dL x):=by unfold ae;rw[if_pos h3.ck,if_neg (by omega),if_neg (by omega),if_pos p3];unfold sgFix;rw[if_pos z,if_pos a]
 obtain⟨h256,-,-,-,-,-,-,k,-⟩:=iQ a;have g:wd (ak x (ae x).2) 17=128:=by rw[e];exact kq (j:=17) (by omega) λe d=>by have:=(k e d).1;omega
 have h16:wd (ak x (ae x).2) 16=3:=by rw[e,iZ (by omega),aU _ _ _ λe d=>by have:=(k e d).1;omega];exact p3
 have i:I3 (ak x (ae x).2):=by
  rcases b with b|⟨g1,-⟩
  .exact b
  omega
 have h:=(qk _ _ (dH ho c) (kqa _) i).1;rw[dM ho p3 c,if_pos h];refine FU h3.hp f _ _ (dH ho c) (kqa _) i (by omega) ?_;rw[g,e];exact Ao a
def MvW (ws xs:List Nat) (m t:Nat):Prop:=wd xs t=cV { aq (wd ws m) with mark:=false }/\wd xs (t+1)=0/\∀j,2<=j->j<szAt ws m->wd xs (t+j)=wd ws (m+j)
structure SlT (ws xs:List Nat) (k F T:Nat):Prop where
 len:xs.length=ws.length
 low:∀i,19<=i->i<128->wd xs i=wd ws i
 up:∀i,T<=i->128<=i->wd xs i=wd ws i
 kle:k<=(af ws).length
 bl:blocks ws F=some ((af ws).drop k)
 to:aP ((af ws).take k) 128=(T:Int)
 mv:∀p∈aB ((af ws).take k) 128,∃m t:Nat,p=((m:Int),(t:Int))/\MvW ws xs m t/\128<=t/\t+szAt ws m<=T/\2<=szAt ws m
theorem unlive(h:b.mark=false):a8 b=false:=by unfold a8;rw[h];simp
theorem vl:∀ {l:List Bk} {s:Int},ff l l.length->aP l s=s/\aB l s=[]:=by
 intro l
 induction l with
 | nil=>intro s _;exact⟨rfl,rfl⟩
 | cons b l ih =>
  intro s h;have d:b.mark=false:=h 0 (by simp);obtain⟨a,e⟩:=ih (s:=s) λj c=>by have:=h (j+1) (by simpa using c);rwa [iT] at this
  simp only[aP,aB,unlive d];exact⟨a,e⟩
theorem tv{l:List Bk}(hk:k<=l.length)(h:ff l k):ff (l.take k) (l.take k).length:=by intro j a;rw[kq3] at a;have:=h j (by omega);unfold gk at this |-;rw[kk6,if_pos (by omega)];exact this
theorem Fq(hck:az x=0)(p4:wd x 16=4)(hnx:bj x ((wd x 17:Nat):Int)=0)(h0:(ae x).1=0)(em:iK x ((wd x 17:Nat):Int)=bkAt x m):ae x=(0,⟨17,m+szAt x m⟩::⟨18,wd x 18+szAt x m⟩::ju x m (wd x 18))/\dG x (m:Int) ((wd x 18:Nat):Int)=0:=by
 have e:ae x=sgSld x:=by unfold ae;rw[if_pos hck,if_neg (by omega),if_neg (by omega),if_neg (by omega),if_pos p4]
 rw[e] at h0 |-;have a:dG x (m:Int) ((wd x 18:Nat):Int)=0:=by
  by_cases b:dG x (m:Int) ((wd x 18:Nat):Int)=0
  .exact b
  unfold sgSld at h0;rw[if_pos hnx,em,ab,if_neg b] at h0;exact absurd h0 b
 refine⟨?_,a⟩;unfold sgSld;rw[if_pos hnx,em,ab,if_pos a,bq,show ((m:Int)+((szAt x m:Nat):Int)).toNat=m+szAt x m by omega,show (((wd x 18:Nat):Int)+((szAt x m:Nat):Int)).toNat=wd x 18+szAt x m by omega];unfold iO;rw[if_pos a,kqj,kqj]
theorem FA{u:Nat}(hin:u+szAt x a<=x.length)(h19:19<=i):wd (ak x (⟨17,f⟩::⟨18,u+szAt x a⟩::ju x a u)) i=if u<=i/\i<u+szAt x a then (if i=u then cV { aq (wd x a) with mark:=false } else if i=u+1 then 0 else wd x (a+(i-u))) else wd x i:=by
 rw[iZ (by omega),iZ (by omega),Cj hin,rZ _ _ _ _ (by rw[f9];exact hin),f9];by_cases h:u<=i/\i<u+szAt x a
 .rw[if_pos h,if_pos h,kr _ _ _ (by omega),kq8];by_cases c:i=u
  .rw[if_pos (by omega),if_pos c]
  rw[if_neg (by omega),if_neg c];by_cases b:i=u+1
  .rw[if_pos (by omega),if_pos b]
  rw[if_neg (by omega),if_neg b]
 rw[if_neg h,if_neg h]
theorem FX(hx:SlT ws x k F T)(h128:128<=T)(hTF:T<=F)(hn:bj x (F:Int)=0)(e:iK x (F:Int)=bkAt x m):∃k',SlT ws (ak x (⟨17,m+szAt x m⟩::⟨18,T+szAt x m⟩::ju x m T)) k' (m+szAt x m) (T+szAt x m)/\F<=m/\aB ((af ws).take k') 128=aB ((af ws).take k) 128++[((m:Int),(T:Int))]:=by
 obtain⟨-,-,-,b,R,A,p2,p3,p4,p5,p6,K,L,l,U,-,-,d,Z,X,S⟩:=fm hn;have V:b=m:=by have:=R.symm.trans e;have Y:=congrArg Bk.at_ this;rw[ab,ab] at Y;omega
 subst V;have c:∀i,F<=i->wd x i=wd ws i:=λi M=>hx.up i (by omega) (by omega);have w:blocks ws F=blocks x F:=(dX hx.len F λj J=>c j J).symm;rw[hx.bl,U] at w;obtain rfl:=Option.some.inj w;rw[kzv] at Z;have v:k+d<(af ws).length:=by omega
 have C:blocks ws b=some (((af ws).drop k).drop d):=by rw[<-S];exact (dX hx.len b λj J=>c j (by omega)).symm
 have o:szAt x b=szAt ws b:=by unfold szAt;rw[c b A]
 have B:bkAt x b=bkAt ws b:=by unfold bkAt;rw[c b A,c (b+1) (by omega)]
 obtain⟨f1,W,f3,N⟩:=cC C (by rw[<-hx.len];omega);rw[kxl,kxl] at N;have r:(af ws)[k+d]=bkAt ws b:=by rw[<-W];unfold gk;rw[kxl,kx9,kz8,kql v,kq8]
 have q:(af ws).take (k+d+1)=(af ws).take k++(((af ws).drop k).take d++[bkAt ws b]):=by rw[kqp v,r,List.take_add,kxs]
 have E:=tv (l:=(af ws).drop k) (k:=d) (by rw[kzv];omega) X;obtain⟨I,n2⟩:=vl (s:=(T:Int)) E;have y:a8 (bkAt ws b)=true:=by rw[B] at K L;unfold a8;rw[K,L];rfl
 have z:aP ((af ws).take (k+d+1)) 128=((T+szAt x b:Nat):Int):=by rw[q,gP,gP,hx.to,I];simp only[aP,y,if_true];rw[bq,o];omega
 have g:aB ((af ws).take (k+d+1)) 128=aB ((af ws).take k) 128++[((b:Int),(T:Int))]:=by rw[q,fG,fG,hx.to,I,n2];simp only[aB,y,if_true,kz1];rw[ab]
 have G:T+szAt x b<=x.length:=by omega
 have h:=λi (M:19<=i)=>FA (x:=x) (a:=b) (f:=b+szAt x b) (u:=T) (i:=i) G M;refine⟨k+d+1,⟨?_,λi D H=>?_,λi D H=>?_,by omega,?_,z,λp n=>?_⟩,A,g⟩
 .rw[ax];exact hx.len
 .rw[h i D,if_neg (by omega)];exact hx.low i D H
 .rw[h i (by omega),if_neg (by omega)];exact hx.up i (by omega) H
 .rw[o,N,kj7]
 rw[g] at n;rcases kz0.1 n with n|n
 .obtain ⟨a,t,rfl,⟨w1,w2,w3⟩,Q,t2,t3⟩:=hx.mv p n;refine⟨a,t,rfl,⟨?_,?_,λj P O=>?_⟩,Q,by omega,t3⟩
  .rw[h _ (by omega),if_neg (by omega)];exact w1
  .rw[h _ (by omega),if_neg (by omega)];exact w2
  rw[h _ (by omega),if_neg (by omega)];exact w3 j P O
 rw[kq1] at n;subst n;refine⟨b,T,rfl,⟨?_,?_,λj P O=>?_⟩,h128,by omega,by omega⟩
 .rw[h _ (by omega),if_pos (by omega),if_pos rfl,c b A]
 .rw[h _ (by omega),if_pos (by omega),if_neg (by omega),if_pos rfl]
 rw[h _ (by omega),if_pos (by omega),if_neg (by omega),if_neg (by omega),show T+j-T=j by omega];exact c _ (by omega)
structure SlE (ws xs:List Nat) (T:Nat):Prop where
 len:xs.length=ws.length
 low:∀i,19<=i->i<128->wd xs i=wd ws i
 up:∀i,T<=i->128<=i->wd xs i=wd ws i
 to:aP (af ws) 128=(T:Int)
 mv:∀p∈aB (af ws) 128,∃m t:Nat,p=((m:Int),(t:Int))/\MvW ws xs m t/\128<=t/\t+szAt ws m<=T/\2<=szAt ws m
theorem Im(h0:ah ws=0)(hx:SlT ws x k F T)(h128:128<=T)(hTF:T<=F)(hFl:F<=ws.length)(hF2:F%2=0)(hn:bj x (F:Int)≠0):SlE ws x T:=by
 have b:∀i,F<=i->wd x i=wd ws i:=λi hi=>hx.up i (by omega) (by omega);have c:blocks x F=some ((af ws).drop k):=by rw[dX hx.len F λj a=>b j a];exact hx.bl
 have hz:(eG ((af ws).drop k)).length=0:=by
  rcases kx7 (eG ((af ws).drop k)).length with d|d
  .exact d
  obtain⟨m,z,l',g,-⟩:=m9 (by rw[hx.len];exact (aA h0).1) (by omega) (by rw[hx.len];exact hFl) hF2 c d;exact absurd g hn
 have e:ff ((af ws).drop k) ((af ws).drop k).length:=by
  intro j a;unfold gk;rw[kql a,kq8];cases h:(((af ws).drop k)[j]).mark with
  | false=>rfl
  | true =>
   have:(((af ws).drop k)[j]).at_∈eG ((af ws).drop k):=by unfold eG;exact kzr.2 ⟨_,kzp.2 ⟨kqq a,h⟩,rfl⟩
   have:=List.length_pos_of_mem this;omega
 obtain⟨l,n⟩:=vl (s:=(T:Int)) e;refine⟨hx.len,hx.low,hx.up,?_,λp f=>hx.mv p ?_⟩
 .conv=>lhs;rw[<-kxa k (af ws)]
  rw[gP,hx.to,l]
 rw[<-kxa k (af ws),fG,hx.to,n,kzs] at f;exact f
theorem GU(h0:ah ws=0):∀n x k,(∀v∈x,v<18446744073709551616)->mzS 4 x<=n->az x=0->wd x 16=4->SlT ws x k (wd x 17) (wd x 18)->(dx 4 x).1=0/\wd (dx 4 x).2.2 16=4/\az (dx 4 x).2.2=0/\bj (dx 4 x).2.2 ((wd (dx 4 x).2.2 17:Nat):Int)≠0/\SlE ws (dx 4 x).2.2 (wd (dx 4 x).2.2 18):=by
 intro n
 induction n with
 | zero=>intro x k _ h _ c;exfalso;unfold mzS at h;rw[if_pos c] at h;omega
 | succ n ih =>
  intro x k g h b c p;obtain⟨-,B,H,r⟩:=cg b;obtain⟨⟨l1,l2,l3⟩,-⟩:=(bo x).1 H;have d:kA (wd x 17)=true/\kA (wd x 18)=true/\wd x 18<=wd x 17:=by
   rcases (co _ _ _).1 r with s|s|s
   .exact s.2
   .omega
   omega
  have G:=(aL _).1 d.1;have z:=(aL _).1 d.2.1;by_cases a:bj x ((wd x 17:Nat):Int)=0
  .obtain ⟨i,C,u⟩:=FJ g b c a;obtain⟨-,-,-,m,y,m1,-⟩:=fm a;obtain⟨e,hmv⟩:=Fq b c a i y;obtain⟨A,l,hFm,-⟩:=FX p z.1 d.2.2 a y;have hd:=fL g c i;have w:wd (ak x (ae x).2) 17=m+szAt x m:=by
    rw[e];have F:=(aa _).1 B;refine kq (j:=17) (by omega) λe f=>?_;rcases kqx.1 f with rfl|f
    .dsimp only;omega
    obtain⟨q,D,rfl⟩:=kqz f;rw[fa];omega
   have t:wd (ak x (ae x).2) 18=wd x 18+szAt x m:=by rw[e,iZ (by omega)];have F:=(aa _).1 B;refine kq (j:=18) (by omega) λe f=>?_;obtain⟨q,D,rfl⟩:=kqz f;rw[fa];omega
   have o:SlT ws (ak x (ae x).2) A (wd (ak x (ae x).2) 17) (wd (ak x (ae x).2) 18):=by rw[w,t,e];exact l
   obtain⟨J,I⟩:=ih _ A (dH g i) (by omega) u C o;rw[dM g c i,if_pos J];exact⟨rfl,I⟩
  have E:(ae x).1=6:=by unfold ae;rw[if_pos b,if_neg (by omega),if_neg (by omega),if_neg (by omega),if_pos c];unfold sgSld;rw[if_neg a]
  rw[kH c E];exact⟨rfl,c,b,a,Im h0 p z.1 d.2.2 (by rw[<-p.len];omega) G.2.2 a⟩
theorem Bq(h0:ah x=0):SlT x x 0 128 128:=⟨rfl,λ_ _ _=>rfl,λ_ _ _=>rfl,kqy _,(gj h0).2.2.2,rfl,λp a=>by simp[aB] at a⟩
noncomputable def v1 (x:List Nat):List Nat:=(dx 1 x).2.2
noncomputable def v2 (x:List Nat):List Nat:=(dx 2 (v1 x)).2.2
noncomputable def v3 (x:List Nat):List Nat:=(dx 3 (v2 x)).2.2
noncomputable def v4 (x:List Nat):List Nat:=(dx 4 (v3 x)).2.2
noncomputable def vE (x:List Nat):List Nat:=ak (v4 x) (dl (v4 x))
theorem end_rs(ho:∀v∈x,v<18446744073709551616)(hck:az x=0)(p4:wd x 16=4)(hnx:bj x ((wd x 17:Nat):Int)≠0):rsE x=(0,[dl x],ak x (dl x)):=by
 have a:=GB hck p4 hnx;have h:(ae x).1=6:=by unfold ae;rw[if_pos hck,if_neg (by omega),if_neg (by omega),if_neg (by omega),if_pos p4];unfold sgSld;rw[if_neg hnx]
 have d:cJ x=(0,false,dl x):=by unfold cJ;rw[if_pos h,if_neg (by omega),a]
 obtain⟨os,-,-,-,i,-,-,f,-⟩:=Cr a;have e:=(ql a).2;have c:az (ak x (dl x))=0:=by unfold az;rw[if_pos f,if_neg (by omega),if_neg (by omega)];exact i
 have g:(ae (ak x (dl x))).1=6:=by unfold ae;rw[if_pos c,if_neg (by omega),if_neg (by omega),if_neg (by omega),if_neg (by omega)]
 have b:cJ (ak x (dl x))=(0,true,[]):=by unfold cJ;rw[if_pos g,if_pos e]
 rw[iR ho (by rw[d]) (by rw[d]),d];dsimp only;rw[jP (by rw[b]) (by rw[b]),if_pos rfl]
structure CpF (x:List Nat):Prop where
 e1:(dx 1 x).1=0
 e2:(dx 2 (v1 x)).1=0
 e3:(dx 3 (v2 x)).1=0
 e4:(dx 4 (v3 x)).1=0
 o1:∀v∈v1 x,v<18446744073709551616
 o2:∀v∈v2 x,v<18446744073709551616
 o3:∀v∈v3 x,v<18446744073709551616
 o4:∀v∈v4 x,v<18446744073709551616
 c1:az (v1 x)=0
 c2:az (v2 x)=0
 c3:az (v3 x)=0
 c4:az (v4 x)=0
 p1:wd (v1 x) 16=2
 p2:wd (v2 x) 16=3
 p3:wd (v3 x) 16=4
 p4:wd (v4 x) 16=4
 n1:1<=(dx 1 x).2.1.length
 n2:1<=(dx 2 (v1 x)).2.1.length
 n3:1<=(dx 3 (v2 x)).2.1.length
 h1:ah (v1 x)=0
 h2:ah (v2 x)=0
 h3:ah (v3 x)=0
 r1:RmL x (v1 x)
 s1:HsL x (v1 x)
 m1:eG (af (v1 x))=eh x
 k1:aC (v1 x)=0
 r2:NxL (v1 x) (v2 x)
 d2:bh (v2 x) 128 128=0
 z2:wd (v2 x) 17=0
 r3:FxT (v2 x) (v3 x) (v2 x).length
 r4:SlE (v3 x) (v4 x) (wd (v4 x) 18)
 l4:∀i,i<16\/19<=i/\i<112->wd (v4 x) i=wd x i
 nx:bj (v4 x) ((wd (v4 x) 17:Nat):Int)≠0
 en:el (v4 x)=0
 all:rsE x=(0,(dx 1 x).2.1++((dx 2 (v1 x)).2.1++((dx 3 (v2 x)).2.1++((dx 4 (v3 x)).2.1++[dl (v4 x)]))),vE x)
theorem ll(ho:∀v∈x,v<18446744073709551616)(e:(dx p x).1=0){L:List (List En)}(h:rsE (dx p x).2.2=(0,L,y)):rsE x=(0,(dx p x).2.1++L,y):=by have:=(Cw (p:=p) _ x ho (kqa _)).2 e;unfold lI at this;rw[this,h,if_pos rfl]
theorem cpF(ho:∀v∈x,v<18446744073709551616)(p1:wd x 16=1)(hck:az x=0)(hrc:aC x=0):CpF x:=by
 obtain⟨j,o,R,U⟩:=vq _ x ho (kqa _) p1 hck hrc;obtain⟨F,Q,m,G,z⟩:=D5 _ x ho (kqa _) p1 hck hrc;have c:=(kW (p:=1) _ x ho (kqa _) j).1;have T:=λi a=>qO (p:=1) (i:=i) a _ x ho (kqa _) j
 change ∀v∈v1 x,_ at c
 change wd (v1 x) 16=2 at o
 change cK (v1 x)=0 at R
 change RmL x (v1 x) at F
 change HsL x (v1 x) at Q
 change aC (v1 x)=0 at m
 change eh (v1 x)=_ at G
 change eG (af (v1 x))=_ at z
 change ∀i,_->wd (v1 x) i=_ at T
 have f:=(aI m).1;have C:az (v1 x)=0:=xe R (by omega) (by omega) f;obtain⟨l,y,n,K,f5,H,M⟩:=uP _ (v1 x) c (kqa _) o C;obtain⟨g,J⟩:=IL _ (v1 x) c (kqa _) o C;have b:=(kW (p:=2) _ (v1 x) c (kqa _) l).1;have O:=λi a=>qO (p:=2) (i:=i) a _ (v1 x) c (kqa _) l
 change ∀v∈v2 x,_ at b
 change wd (v2 x) 16=3 at y
 change wd (v2 x) 17=0 at n
 change cK (v2 x)=0 at K
 change bh (v2 x) 128 128=0 at H
 change ah (v2 x)=0 at M
 change NxL (v1 x) (v2 x) at g
 change ay (v2 x)=[] at J
 change ∀i,_->wd (v2 x) i=_ at O
 obtain⟨-,t,E⟩:=g.same f;rw[m] at t;rw[G] at E;have u:aK (v2 x)=[]:=H4 t (by rw[(g.mkd f).1,z,E]);have w:=AC b K y n t u J;obtain⟨h,B,I,S,r,k,i7⟩:=qk _ (v2 x) b (kqa _) w;have P:=I4 b w n;have d:=(kW (p:=3) _ (v2 x) b (kqa _) h).1;have N:=λi a=>qO (p:=3) (i:=i) a _ (v2 x) b (kqa _) h
 change ∀v∈v3 x,_ at d
 change wd (v3 x) 16=4 at B
 change wd (v3 x) 17=128 at I
 change wd (v3 x) 18=128 at S
 change az (v3 x)=0 at r
 change ah (v3 x)=0 at k
 change FxT (v2 x) (v3 x) _ at P
 change ∀i,_->wd (v3 x) i=_ at N
 obtain⟨q,s,D,A,k5⟩:=GU k _ (v3 x) 0 d (kqa _) r B (by rw[I,S];exact Bq k);have L:=(kW (p:=4) _ (v3 x) d (kqa _) q).1;have Y:=λi a=>qO (p:=4) (i:=i) a _ (v3 x) d (kqa _) q;have e:=end_rs L D s A;have V:=ll d q e;have X:=ll b h V;have Z:=ll c l X;have W:=ll ho j Z;exact⟨j,l,h,q,c,b,d,L,C,w.ck,r,D,o,y,B,s,U,f5,i7,f,M,k,F,Q,z,m,g,H,n,P,k5,λi a=>(Y i a).trans ((N i a).trans ((O i a).trans (T i a))),A,GB D s A,W⟩
noncomputable def mkS (x:List Nat) (b:Bk):Bk:={ b with mark:=ew x b }
noncomputable def cpL (x:List Nat):List Bk:=(af x).map (mkS x)
noncomputable def cpM (x:List Nat):List (Int × Int):=aB (cpL x) 128
def FxV (M:List (Int × Int)) (v u:Nat):Prop:=(v=0/\u=0)\/(0<v/\ic M (v:Int)=some (u:Int))
theorem AP(h0:ah x=0):Mk x m↔(m:Int)∈eG (af x):=by
 unfold eG;rw[kzr];constructor
 .rintro ⟨g,f⟩;exact⟨bkAt x m,kzp.2 ⟨g,f⟩,ab x m⟩
 rintro ⟨c,d,e⟩;obtain⟨b,h⟩:=kzp.1 d;obtain⟨a,rfl,-⟩:=(ch h0).1 c b;rw[ab] at e;obtain rfl:a=m:=by omega
 exact⟨b,h⟩
theorem AD(h:aC x=0)(hm:eG (af x)=eh x)(hb:b∈af x):b.mark=ew x b:=by
 obtain⟨d,-,-⟩:=aI h;obtain⟨a,rfl,a1,a2,g,a4⟩:=(ch d).1 b hb;rw[kzg,fv g];constructor
 .intro i;have c:(a:Int)∈eG (af x):=(AP d).1 ⟨hb,i⟩;rw[hm,gx h] at c;obtain⟨j,e,-,f⟩:=c;obtain rfl:a=j:=by omega
  exact f
 intro f;have c:(a:Int)∈eh x:=(gx h _).2 ⟨a,rfl,g,f⟩;rw[<-hm,<-AP d] at c;exact c.2
theorem end_nx(xs:List Nat):∀(l:List Bk) (s:Int),aP (l.map (nxB xs)) s=aP l s:=by
 intro l
 induction l with
 | nil=>intro s;rfl
 | cons b l ih =>intro s;have e:a8 (nxB xs b)=a8 b:=rfl;have a:(nxB xs b).size=b.size:=rfl;simp only[kxj,aP,e,a,ih]
theorem Gp(h0:ah ws=0)(ho:fW ws m)(r:Int):r∈bU ws (m:Int)↔∃i:Nat,r=((m+2+i:Nat):Int)/\(flds ws m)[i]? = some 3:=by
 obtain⟨k,g,e,-⟩:=ho.2.2.2.2.2.2;have b:bkAt ws m∈af ws:=by rw[<-e];exact kqq g
 have f:aQ ws 128=af ws:=(gj h0).2.1;obtain⟨b2,c⟩:=nA (l:=af ws) (a:=(m:Int)) b (ab ws m) ho.2.2.2.2.1;obtain⟨o,n,f3⟩:=jA c;obtain rfl:=pW (ch h0).2 o b (by rw[n,ab]);have h:bU ws (m:Int)=fj ws (bkAt ws m):=by unfold bU;rw[if_pos h0,f,c]
 have j:r8 ws (bkAt ws m)=flds ws m:=rfl;rw[h];unfold fj;rw[ky,j,ab];constructor
 .rintro ⟨i,-,d,i3⟩;exact⟨i,by omega,d⟩
 rintro ⟨i,i1,d⟩;exact⟨i,(kzb.1 d).1,d,by omega⟩
theorem in_obj(h0:ah ws=0)(ho:fW ws m)(h1:2<=j)(h2:j<szAt ws m)(hb:b∈af ws):b.at_≠((m+j:Nat):Int)/\b.at_+1≠((m+j:Nat):Int):=by have:=ip h0 ho hb;omega
section
variable {x:List Nat}
theorem CpF.bl1(F:CpF x)(hrc:aC x=0):af (v1 x)=cpL x:=by
 obtain⟨d,g,h,g4,c⟩:=F.r1.same hrc;rw[c];unfold cpL;refine kz2 λb f=>?_;have a:mkB (v1 x) b∈af (v1 x):=by rw[c];exact kjk f
 have:=AD d (by rw[F.m1,g]) a;have e:ew (v1 x) (mkB (v1 x) b)=ew x b:=by unfold ew;rw[h];rfl
 rw[e] at this;unfold mkB mkS at *;dsimp only at this;rw[this]
theorem CpF.bl2(F:CpF x):af (v2 x)=(af (v1 x)).map (nxB (v2 x)):=((F.r2.ev F.h1).heap F.h1).2
theorem CpF.bl3(F:CpF x):af (v3 x)=af (v2 x):=(F.r3.hd.heap F.h2).2
theorem CpF.mvs(F:CpF x)(hrc:aC x=0):aB (af (v2 x)) 128=cpM x/\aP (af (v2 x)) 128=aP (cpL x) 128/\iB (v2 x) 128 128=cpM x:=by
 have b:aB (af (v2 x)) 128=cpM x:=by rw[F.bl2,vM,F.bl1 hrc];rfl
 refine⟨b,by rw[F.bl2,end_nx,F.bl1 hrc],?_⟩;obtain⟨-,-,l,a,-,c⟩:=cj F.d2;rw[show ((128:Int)).toNat=128 from rfl,(gj F.h2).2.2.2] at a;obtain rfl:=Option.some.inj a;rw[c,b]
theorem CpF.mk2(F:CpF x)(hrc:aC x=0):Mk (v2 x) m↔Rch x m:=by
 rw[AP F.h2,(F.r2.mkd F.h1).1,F.m1,gx hrc];constructor
 .rintro ⟨a,e,-,h⟩;obtain rfl:m=a:=by omega
  exact h
 intro h;exact⟨m,rfl,sG ((aI hrc).2.2 m h),h⟩
theorem cp_fst(hrc:aC x=0)(F:CpF x):(cpM x).map Prod.fst=eh x:=by have h:=lL (jl (gj F.h1).2.2.2 (by omega)) 128;rw[F.m1,F.bl1 hrc] at h;exact h.symm
theorem pR(hrc:aC x=0)(h:Rch x m):fW x m:=by obtain⟨b,-,-,-,a⟩:=rb hrc h;exact a
theorem CpF.sz(F:CpF x)(hrc:aC x=0)(h:Rch x m):szAt (v3 x) m=szAt x m/\fW (v2 x) m/\flds (v2 x) m=flds x m/\(wd (v3 x) m=wd (v1 x) m):=by
 have d:=(F.mk2 hrc).2 h;have b:=pR hrc h;have e:=(aI hrc).1;have f:=(aI hrc).2.2 m h;have a:=(F.r3.hd.blk _ d.1).1;rw[ab,kqj] at a;have c:wd (v2 x) m=wd (v1 x) m:=F.r2.even F.h1 (by have:=b.1;omega) b.2.1;refine⟨?_,(pe F.h2 d).1,?_,a.trans c⟩
 .rw[<-F.r1.szAt m (by have:=b.1;omega)];unfold szAt;rw[a,c]
 rw[F.r2.flds F.h1 (by rw[F.r1.tb e];exact f),F.r1.flds e f]
theorem CpF.in_(F:CpF x)(hrc:aC x=0)(h:Rch x m)(h1:2<=j)(h2:j<szAt x m):wd (v2 x) (m+j)=wd x (m+j):=by
 have f:=pR hrc h;have g:=(aI hrc).1;have d:=λb c=>in_obj (b:=b) g f h1 h2 c;have h128:=f.1;have k:wd (v2 x) (m+j)=wd (v1 x) (m+j):=by
  rcases F.r2.at_ (m+j) (by omega) with a|⟨b,c,a⟩
  .exact a
  rw[(F.r1.heap g).2] at c;obtain⟨i,e,rfl⟩:=kzr.1 c;exact absurd a.symm (d i e).2
 rw[k];rcases F.s1 (m+j) (by omega) with a|⟨b,c,a⟩
 .exact a
 exact absurd a.symm (d b c).1
structure CpD (w z:List Nat) (M:List (Int × Int)) (T:Nat):Prop where
 len:z.length=w.length
 low:∀i,i<16\/19<=i/\i<112->wd z i=wd w i
 line:wd z 16=0/\wd z 17=0/\wd z 18=0
 sl:∀i,i<16->slAt z i=nwS w M i
 obj:∀p∈M,∃m t:Nat,p=((m:Int),(t:Int))/\Rch w m/\128<=t/\t+szAt w m<=T/\2<=szAt w m/\wd z t=cV { aq (wd w m) with mark:=false }/\wd z (t+1)=0/\(∀i,(flds w m)[i]? = some 3->FxV M (wd w (m+2+i)) (wd z (t+2+i)))/\∀i,2+i<szAt w m->(flds w m)[i]? ≠ some 3->wd z (t+2+i)=wd w (m+2+i)
 to:128<=T/\T<=w.length/\T%2=0
 free:T<w.length->wd z T=cV (ep (w.length-T))/\wd z (T+1)=0
 rest:∀i,T+2<=i->(∀b∈af w,(i:Int)≠b.at_/\(i:Int)≠b.at_+1)->(∀m,Rch w m->¬ (m<=i/\i<m+szAt w m))->wd z i=wd w i
theorem okFx_v{M:List (Int × Int)}{r:Nat}(h:Ds ws y M r):FxV M (wd ws r) (wd y r):=by
 rcases h with h|⟨c,t,m,a,b,-⟩
 .exact .inl h
 exact .inr ⟨c,by rw[b];exact a⟩
theorem CpF.desc(F:CpF x)(hrc:aC x=0):CpD x (vE x) (cpM x) (aP (cpL x) 128).toNat/\aP (cpL x) 128=((aP (cpL x) 128).toNat:Int):=by
 have h0:=(aI hrc).1;obtain⟨m1,m2,R⟩:=F.mvs hrc;obtain⟨hs,-,-,-,U,I,-,i8⟩:=gO F.en;have J:=(aL _).1 U;have hTe:aP (cpL x) 128=((wd (v4 x) 18:Nat):Int):=by rw[<-m2,<-F.bl3];exact F.r4.to
 have Y:(aP (cpL x) 128).toNat=wd (v4 x) 18:=by omega
 rw[Y];obtain⟨T,y⟩:=xq (wd (v4 x) 18);have n:(v4 x).length=x.length:=by rw[F.r4.len,F.r3.hd.len,F.r2.len,F.r1.len]
 have c:=y8 F.en;rw[i8,y,n] at c
 change ∀j,wd (vE x) j=_ at c
 have r4:=F.r4;rw[y] at I J r4 |-;rw[n] at I;have k:∀i,19<=i->i<T->wd (vE x) i=wd (v4 x) i:=λi h1 h2=>by
  rw[c,if_neg (by omega),if_neg (by omega),if_neg (by omega)]
 refine⟨⟨?_,λi f=>?_,⟨by rw[c,if_pos (by omega)],by rw[c,if_pos (by omega)],by rw[c,if_pos (by omega)]⟩,λi f=>?_,λp S=>?_,⟨J.1,I,J.2.2⟩,λl=>⟨?_,?_⟩,λi f O Z=>?_⟩,by omega⟩
 .unfold vE;rw[ax,n]
 .rw[c,if_neg (by omega),if_neg (by omega),if_neg (by omega)];exact F.l4 i f
 .have C:slAt (vE x) i=slAt (v3 x) i:=by unfold slAt;rw[k _ (by omega) (by omega),r4.low _ (by omega) (by omega)]
  have g:slAt (v2 x) i=slAt x i:=by rw[F.r2.slAt F.h1 f,F.r1.slAt f]
  rw[C,F.r3.sl i f,R];unfold nwS;rw[g]
 .have H:p∈aB (af (v3 x)) 128:=by rw[F.bl3,m1];exact S
  obtain⟨m,t,rfl,⟨w1,w2,K⟩,V,N,Q⟩:=r4.mv p H;have d:Rch x m:=by
   have:(m:Int)∈(cpM x).map Prod.fst:=kzr.2 ⟨_,S,rfl⟩;rw[cp_fst hrc F,gx hrc] at this;obtain⟨a,e,-,h⟩:=this;obtain rfl:m=a:=by omega
   exact h
  obtain⟨s1,G,M,X⟩:=F.sz hrc d;have v:=pR hrc d;have B:=v.1;rw[s1] at K N Q;refine⟨m,t,rfl,d,V,N,Q,?_,?_,λi E=>?_,λi h1 E=>?_⟩
  .rw[k _ (by omega) (by omega),w1,X,F.r1.raw m (by omega)]
  .rw[k _ (by omega) (by omega),w2]
  .have u:((m+2+i:Nat):Int)∈bU (v2 x) (m:Int):=(Gp F.h2 G _).2 ⟨i,rfl,by rw[M];exact E⟩;obtain⟨P,C,-,g,-⟩:=iF F.h2 u;have w:szAt (v2 x) m=szAt x m:=by have g:wd (v2 x) m=wd (v1 x) m:=F.r2.even F.h1 (by omega) v.2.1;rw[<-F.r1.szAt m (by omega)];unfold szAt;rw[g]
   have l:2+i<szAt x m:=by omega
   have hd:=F.r3.done m ((F.mk2 hrc).2 d) (by have:=G.2.2.1;omega) _ u;rw[kqj,R] at hd;have:=okFx_v hd;rw[show m+2+i=m+(2+i) by omega,F.in_ hrc d (by omega) l] at this;rw[show m+2+i=m+(2+i) by omega,show t+2+i=t+(2+i) by omega,k _ (by omega) (by omega),K _ (by omega) l];exact this
  rw[show m+2+i=m+(2+i) by omega,show t+2+i=t+(2+i) by omega,k _ (by omega) (by omega),K _ (by omega) (by omega),F.r3.off _ (by omega) λr q u=>?_,F.in_ hrc d (by omega) h1];have z:=(F.mk2 hrc).2 d;obtain⟨P,C,-,g,-⟩:=iF F.h2 u;have w:szAt (v2 x) m=szAt x m:=by have g:wd (v2 x) m=wd (v1 x) m:=F.r2.even F.h1 (by omega) v.2.1;rw[<-F.r1.szAt m (by omega)];unfold szAt;rw[g]
  have W:m=r:=by
   rcases kj6 m r with A|A|A
   .have:=iW F.h2 z q A;omega
   .exact A
   have:=iW F.h2 q z A;omega
  subst W;obtain⟨i2,e3,D⟩:=(Gp F.h2 G _).1 u;obtain rfl:i=i2:=by omega
  rw[M] at D;exact E D
 .rw[c,if_neg (by omega),if_pos ⟨l,rfl⟩]
 .rw[c,if_neg (by omega),if_neg (by omega),if_pos ⟨l,rfl⟩]
 have D:wd (vE x) i=wd (v4 x) i:=by rw[c,if_neg (by omega),if_neg (by omega),if_neg (by omega)]
 rw[D,r4.up i (by omega) (by omega),F.r3.off i (by omega) λr q u=>?_]
 .have g:wd (v2 x) i=wd (v1 x) i:=by
   rcases F.r2.at_ i (by omega) with s|⟨b,o,s⟩
   .exact s
   rw[(F.r1.heap h0).2] at o;obtain⟨b0,L,rfl⟩:=kzr.1 o;exact absurd s (O b0 L).2
  rw[g];rcases F.s1 i (by omega) with s|⟨b,o,s⟩
  .exact s
  exact absurd s (O b o).1
 obtain⟨P,C,-,g,e3⟩:=iF F.h2 u;have d:=(F.mk2 hrc).1 q;have v:=pR hrc d;have B:=v.1;have w:szAt (v2 x) r=szAt x r:=by have g:wd (v2 x) r=wd (v1 x) r:=F.r2.even F.h1 (by omega) v.2.1;rw[<-F.r1.szAt r (by omega)];unfold szAt;rw[g]
 exact Z r d ⟨by omega,by omega⟩
end
end Go.Proofs.YtpcajamacpbjcaaGreat
