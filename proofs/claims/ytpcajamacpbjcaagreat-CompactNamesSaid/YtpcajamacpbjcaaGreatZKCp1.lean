/- Texts laid together: CpP CpQ CpR CpS CpT CpU CpV CpW CpX CpY CpZ CpD. -/
import Derived.Test.YtpcajamacpbjcaaGreatZKStg3
import Derived.Test.YtpcajamacpbjcaaGreatZKRs
set_option maxHeartbeats 16000000
set_option linter.all false
namespace Go.Proofs.YtpcajamacpbjcaaGreat
open Go.RowKit
variable {b:Bk}{r:Int}{E:List En}{ws x xs y ys:List Nat}{F T a c f i j k m m' p:Nat}
theorem Hm(h:cu x=0)(h3:wd x 16≠3):cF x=0:=by unfold cF;rw[if_pos h,if_neg (λh=>h3 h.1)]
theorem uU(h:cu x=0)(h3:wd x 16≠3)(h4:wd x 16≠4)(hh:ah x=0):aw x=0:=by unfold aw;rw[if_pos (Hm h h3),if_neg h4,if_neg h3];exact hh
theorem uw:∀n x,(∀v∈x,v<18446744073709551616)->mzS 1 x<=n->wd x 16=1->aw x=0->aA x=0->(db 1 x).1=0/\wd (db 1 x).2.2 16=2/\cu (db 1 x).2.2=0/\1<=(db 1 x).2.1.length:=by
 intro n
 induction n with
 | zero=>intro x _ h d;exfalso;unfold mzS at h;rw[if_pos d] at h;omega
 | succ n ih =>
  intro x l h d g a;have e:ag x=(0,ir (aL x) 2):=by unfold ag;rw[if_pos g,if_pos d,if_pos a]
  have k:(ag x).1=0:=by rw[e]
  have hd:=fG l d k;obtain⟨-,-,p,-,-,-,-,-⟩:=l8 l k;obtain⟨t,r2⟩:=pn a;obtain⟨g1,g2,g3,f,g5,g6⟩:=fA g d (.inl rfl) (dx a) (λy r=>by
   obtain⟨i,s⟩:=kjt.1 r;exact t i y s) (oO a)
  simp only[Nat.reduceAdd] at f;rw[dE l d k];by_cases b:32<=(aL x).length
  .rw[if_pos b] at f;have c:aA (aj x (ag x).2)=0:=by rw[e,cm b];exact (tM a b).1
   have o:wd (aj x (ag x).2) 16=1:=by rw[e];exact f
   have j:aw (aj x (ag x).2)=0:=uU p (by omega) (by omega) (aC c).1;obtain⟨w,u,q,i4⟩:=ih _ (dr l k) (by omega) o j c;rw[if_pos w];exact⟨rfl,u,q,by simp⟩
  rw[if_neg b] at f;have m:wd (aj x (ag x).2) 16=2:=by rw[e];exact f
  rw[cB (by omega),if_pos rfl];exact⟨rfl,m,p,by simp⟩
theorem uG(hhp:ah x=0)(hf:¬ 32<=(aD x).length):aW (aj x (ir (aD x) 3)) 128 128=0/\ia (aj x (ir (aD x) 3)) 128 128=az (af x) 128/\ah (aj x (ir (aD x) 3))=0/\af (aj x (ir (aD x) 3))=fwB (af x) 128:=by
 have k:=pO (x:=x) (E:=[⟨16,3⟩]) (λe c=>by
  rw[kqx] at c;subst c;exact .inl (by dsimp only;omega))
 obtain⟨n,i⟩:=(k.ev hhp).heap hhp;have d:=b8 hhp;have hid:(af x).map (nxB (aj x [⟨16,3⟩]))=af x:=by
  rw[kzy (g:=id) (λb f=>?_),List.map_id];obtain⟨a,rfl,a1,a2,-⟩:=d.1 b f;show nxB (aj x [⟨16,3⟩]) (bkAt x a)=bkAt x a;unfold nxB;refine rK ?_;rw[ab,show ((a:Int)).toNat=a from kqi a,aQ _ _ _ (λe c=>by
   rw[kqx] at c;subst c;dsimp only;omega)]
  rfl
 rw[hid] at i;have f:=ow n;obtain⟨l,-,h,-,p,o,m,j,-⟩:=f;rw[i] at h;subst h;have e:aj x (ir (aD x) 3)=aj (aj x [⟨16,3⟩]) (aN (af x) 128):=by rw[iE hf,<-eI,rt hhp];rfl
 rw[e];exact⟨p,o,m,j⟩
theorem t7:∀n x,(∀v∈x,v<18446744073709551616)->mzS 2 x<=n->wd x 16=2->aw x=0->(db 2 x).1=0/\wd (db 2 x).2.2 16=3/\wd (db 2 x).2.2 17=0/\cu (db 2 x).2.2=0/\1<=(db 2 x).2.1.length/\aW (db 2 x).2.2 128 128=0/\ah (db 2 x).2.2=0:=by
 intro n
 induction n with
 | zero=>intro x _ h d;exfalso;unfold mzS at h;rw[if_pos d] at h;omega
 | succ n ih =>
  intro x j h d a;have b:ah x=0:=by have:=a;unfold aw at this;rw[if_pos (kP a),if_neg (by omega),if_neg (by omega)] at this;exact this
  have e:ag x=(0,ir (aD x) 3):=by unfold ag;rw[if_pos a,if_neg (by omega),if_pos d,if_pos b]
  have g:(ag x).1=0:=by rw[e]
  have hd:=fG j d g;obtain⟨-,-,m,-,-,-,-,-⟩:=l8 j g;obtain⟨z,u,q⟩:=nW b;obtain⟨g1,g2,g3,f,o,g6⟩:=fA a d (.inr rfl) z u q;simp only[Nat.reduceAdd] at f o;rw[dE j d g];by_cases c:32<=(aD x).length
  .rw[if_pos c] at f;have l:wd (aj x (ag x).2) 16=2:=by rw[e];exact f
   have i:aw (aj x (ag x).2)=0:=uU m (by omega) (by omega) (uD d g).1;obtain⟨B,A,p,t,i5,w,s⟩:=ih _ (dr j g) (by omega) l i;rw[if_pos B];exact⟨rfl,A,p,t,by simp,w,s⟩
  rw[if_neg c] at f;have k:wd (aj x (ag x).2) 16=3:=by rw[e];exact f
  obtain⟨r,-,y,-⟩:=uG b c;rw[cB (by omega),if_pos rfl];refine⟨rfl,k,by rw[e];exact o,m,by simp,?_,?_⟩
  .rw[e];exact r
  rw[e];exact y
structure Hd (ws xs:List Nat):Prop where
 len:xs.length=ws.length
 low:∀i:Nat,96<=i->i<112->wd xs i=wd ws i
 blk:∀b∈af ws,wd xs b.at_.toNat=wd ws b.at_.toNat/\wd xs (b.at_.toNat+1)=wd ws (b.at_.toNat+1)
section
variable {ws xs:List Nat}
theorem Hd.blocks(h:Hd ws xs):∀i l,blocks ws i=some l->(∀b∈l,b∈af ws)->Proofs.YtpcajamacpbjcaaGreat.blocks xs i=some l:=by
 refine dJ (λi l=>(∀b∈l,b∈af ws)->Proofs.YtpcajamacpbjcaaGreat.blocks xs i=some l) (λi c _=>?_) (λi l c k m d g=>?_)
 .exact aE (by rw[h.len];exact c)
 have d:=d (λb m=>g b (kx2 _ m));obtain⟨a,j⟩:=h.blk _ (g (bkAt ws i) (by simp));rw[ab,kqi] at a j;have n:szAt xs i=szAt ws i:=by unfold szAt;rw[a]
 have e:stands xs i=true:=by unfold Proofs.YtpcajamacpbjcaaGreat.stands at k |-;rw[a,h.len];exact k
 have f:bkAt xs i=bkAt ws i:=by unfold bkAt;rw[a,j]
 rw[aP (by rw[h.len];exact c) e,n,d,f];rfl
theorem Hd.ty(h:Hd ws xs)(h0:ah ws=0)(hb:b∈af ws)(hk:b.kind=1):wd xs (tyA b)=wd ws (tyA b)/\wd xs (tyA b+1)=wd ws (tyA b+1):=by obtain⟨k,a,rfl⟩:=kq2 hb;have ht:=jK (ga h0).2.2.2 (by omega) a hk;unfold tyA;exact⟨h.low _ (by omega) (by omega),h.low _ (by omega) (by omega)⟩
theorem Hd.fit(h:Hd ws xs)(h0:ah ws=0)(hb:b∈af ws):du xs b=du ws b:=by
 unfold du;by_cases a:b.kind=1
 .obtain ⟨d,c⟩:=h.ty h0 hb a;unfold cK;rw[d,c]
 have:(b.kind != 1)=true:=by rw[kqu];exact a
 rw[this,kkj,kkj]
theorem Hd.heap(h:Hd ws xs)(h0:ah ws=0):ah xs=0/\af xs=af ws:=by obtain⟨g,l,f,e,d⟩:=ay h0;have c:=h.blocks 128 l f (λb c=>by rw[d];exact c);rw[d];refine fM (by rw[h.len];exact g) c ?_;rw[kzo] at e |-;intro b a;rw[h.fit h0 (by rw[d];exact a)];exact e b a
theorem Hd.mv(h:Hd ws xs)(h0:ah ws=0):∀(l:List Bk) (s:Int),(∀b∈l,b∈af ws)->bL xs l s=bL ws l s:=by
 intro l
 induction l with
 | nil=>intro s _;rfl
 | cons b l ih =>intro s a;simp only[bL];rw[h.fit h0 (a b (by simp)),ih _ (λc d=>a c (kx2 _ d)),ih _ (λc d=>a c (kx2 _ d))]
theorem Hd.rd(h:Hd ws xs)(h0:ah ws=0)(hr:aW ws 128 128=0):aW xs 128 128=0/\ia xs 128 128=ia ws 128 128:=by
 obtain⟨j,g,l,c,k,i⟩:=bQ hr;have f:l=af ws:=by have:=(ga h0).2.2.2;rw[show ((128:Int)).toNat=128 from rfl] at c;rw[c] at this;exact Option.some.inj this
 have a:=h.blocks 128 l c (λb a=>by rw[<-f];exact a);have e:aW xs 128 128=0:=by rw[iy (by rw[h.len];exact j) (by rw[h.len];exact g) (l:=l) a,h.mv h0 l _ (λb a=>by rw[<-f];exact a),if_pos k]
 obtain⟨-,-,l2,d,-,m⟩:=bQ e;rw[show ((128:Int)).toNat=128 from rfl] at d;rw[a] at d;obtain rfl:=Option.some.inj d;exact⟨e,by rw[m,i]⟩
theorem Hd.fx(h:Hd ws xs)(h0:cg ws=0):cg xs=0/\eT xs=eT ws/\aJ xs 128=aJ ws 128:=by
 obtain⟨a,f,j⟩:=dQ h0;obtain⟨c,e⟩:=h.heap a;obtain⟨d,i⟩:=h.rd a f;have b:cg xs=0:=by unfold cg;rw[if_pos c];exact d
 obtain⟨-,-,g⟩:=dQ b;exact⟨b,by rw[g,j,i],by rw[(ga c).2.1,(ga a).2.1,e]⟩
theorem nX{M:List (Int × Int)}:∀ {R:List Int},(∀r∈R,wd xs r.toNat=wd ws r.toNat)->cX xs M R=cX ws M R:=by
 intro R
 induction R with
 | nil=>intro _;rfl
 | cons r R ih =>
  intro h;simp only[cX];rw[ih (λx a=>h x (kx2 _ a))];have:fI xs M r.toNat=fI ws M r.toNat:=by unfold fI;rw[h r (by simp)]
  rw[this]
theorem Hd.ob(h:Hd ws xs){a:Int}(h0:dp ws a=0)(hr:∀r∈bH ws a,wd xs r.toNat=wd ws r.toNat):dp xs a=0/\cr xs a=cr ws a/\bH xs a=bH ws a:=by
 have e:cg ws=0:=by
  by_cases k:cg ws=0
  .exact k
  rw[(xP rfl k).1] at h0;exact absurd h0 k
 obtain⟨B,t,y⟩:=h.fx e;obtain⟨g,f2,f3⟩:=dQ e;have j:=h.heap g;cases d:jS (aJ ws 128) a with
 | none=>rw[(sA e d).1] at h0;cases h0
 | some b =>
  have f:jS (aJ xs 128) a=some b:=by rw[y];exact d
  obtain⟨p,b2,u⟩:=jk d;rw[(ga g).2.1] at p;have i:t4 xs b=t4 ws b:=by obtain⟨v,A⟩:=h.ty g p u;unfold t4;rw[v,A]
  have s:fv xs b=fv ws b:=by unfold fv;rw[i]
  have q:bH ws a=fv ws b:=by simp[bH,g,d]
  have m:bH xs a=fv xs b:=by simp[bH,j.1,f]
  rw[q] at hr;cases c:b.mark with
  | false=>rw[(rU e d c).1] at h0;cases h0
  | true =>
   cases n:cX ws (eT ws) (fv ws b) with
   | none=>rw[(zr e d c n).1] at h0;cases h0
   | some o =>
    have l:cX xs (eT xs) (fv xs b)=some o:=by rw[s,t,nX hr];exact n
    obtain⟨o1,z⟩:=AK e d c n;obtain⟨w,x⟩:=AK B f c l;exact⟨w,by rw[x,z],by rw[m,q,s]⟩
end
def Bd (ws:List Nat) (a:Nat):Prop:=128<=a/\∃k,k<=(af ws).length/\blocks ws a=some ((af ws).drop k)
theorem Db(h:ah ws=0):Bd ws 128:=⟨kqa _,0,kqy _,(ga h).2.2.2⟩
theorem qa(h:Bd ws a)(hn:a9 ws (a:Int)=0)(e:ie ws (a:Int)=bkAt ws m):a<=m/\2<=szAt ws m/\m+szAt ws m<=ws.length/\Bd ws (m+szAt ws m)/\bkAt ws m∈af ws/\(bkAt ws m).mark=true/\(bkAt ws m).kind=1:=by
 obtain⟨h1,k,hk,f⟩:=h;obtain⟨-,-,-,i,s,q,p2,y,p4,o,p6,r,w,l,u,-,-,c,v,-,p⟩:=fu hn;have x:i=m:=by have:=s.symm.trans e;have n:=congrArg Bk.at_ this;rw[ab,ab] at n;omega
 subst x;rw[u] at f;obtain rfl:=Option.some.inj f;have b:i<ws.length:=by omega
 obtain⟨d,t,f3,g⟩:=cj p b;rw[kxg,kxg] at g;refine⟨q,y,o,⟨by omega,k+c+1,?_,?_⟩,?_,r,w⟩
 .rw[kzj] at v;omega
 .rw[g,kj2]
 rw[<-t];have j:gk ((List.drop k (af ws)).drop c) 0∈(List.drop k (af ws)).drop c:=by unfold gk;rw[kql d,kq8];exact kqp d
 exact kx1 (kx1 j)
theorem bd_of(h:ah ws=0)(hb:nM ws f=true):Bd ws f:=by
 obtain⟨-,-,-,d⟩:=ga h;obtain⟨j,-⟩:=ay h;have hbd:=(ae _).1 j;unfold nM at hb;rw[d] at hb;dsimp only at hb;rw[kxw,kjq] at hb;rcases hb with⟨b,i,c⟩|c
 .rw[kqw] at c;obtain⟨k,g,rfl⟩:=kq2 i;obtain⟨a,e,a1,m,a3,a4,l⟩:=b9 128 _ d (by omega) k g;rw[e,ab] at c;obtain rfl:a=f:=by omega
  exact⟨m,k,by omega,l⟩
 rw[kqw] at c;subst c;exact⟨by omega,_,kqa _,by rw[kj5];exact aE (kqa _)⟩
theorem bd_is(h:ah ws=0)(hb:Bd ws f)(hf:f<=ws.length):nM ws f=true:=by
 obtain⟨-,-,-,e⟩:=ga h;obtain⟨h1,k,hk,b⟩:=hb;unfold nM;rw[e];dsimp only;rw[kxw,kjq];by_cases c:f=ws.length
 .right;rw[kqw];exact c
 left;obtain⟨a,d,f3,f4⟩:=cj b (by omega);refine⟨bkAt ws f,?_,by rw[kqw,ab]⟩;rw[<-d];unfold gk;rw[kql a,kq8];exact kx1 (kqp a)
def xz (ws:List Nat) (a:Nat):Prop:=∀m:Nat,bkAt ws m∈af ws->(bkAt ws m).mark=true->a<=m->dp ws (m:Int)=0
theorem At :∀k a,ws.length-a<=k->Bd ws a->xz ws a->(kM ws a).1=0/\(kM ws a=(0,bN)\/∃m:Nat,a<=m/\2<=szAt ws m/\m+szAt ws m<=ws.length/\Bd ws (m+szAt ws m)/\bkAt ws m∈af ws/\(bkAt ws m).mark=true/\kM ws a=(0,⟨17,m+szAt ws m⟩::cr ws (m:Int))):=by
 intro k
 induction k with
 | zero =>
  intro a q c d;by_cases b:a9 ws (a:Int)=0
  .obtain ⟨-,-,-,m,e,-⟩:=fu b;obtain⟨h,j,o,-⟩:=qa c b e;omega
  rw[jZ b];exact⟨rfl,.inl rfl⟩
 | succ k ih =>
  intro a q c d;by_cases b:a9 ws (a:Int)=0
  .obtain ⟨-,-,-,m,e,-⟩:=fu b;obtain⟨h,j,o,p,l,n,n7⟩:=qa c b e;by_cases i:bH ws (m:Int)=[]
   .rw[kr b e i];obtain⟨w,g⟩:=ih (m+szAt ws m) (by omega) p (λf v s h3=>d f v s (by omega));refine⟨w,?_⟩;rcases g with g|⟨f,j1,r,z,x,A,t,u⟩
    .exact .inl g
    exact .inr ⟨f,by omega,r,z,x,A,t,u⟩
   have y:=d m l n h;rw[pe b e i y];exact⟨rfl,.inr ⟨m,h,j,o,p,l,n,rfl⟩⟩
  rw[jZ b];exact⟨rfl,.inl rfl⟩
theorem io(h:ah ws=0)(hr:r∈bH ws (m:Int)):∃i:Nat,r=((m+2+i:Nat):Int)/\i<(flds ws m).length/\m+2+i<m+szAt ws m/\fT ws m:=by
 unfold bH at hr;rw[if_pos h] at hr;cases d:jS (aJ ws 128) (m:Int) with
 | none=>rw[d] at hr;cases hr
 | some b =>
  rw[d] at hr;dsimp only at hr;obtain⟨c,e1,j,e⟩:=zx h d;obtain rfl:c=m:=by omega
  have n:t4 ws b=flds ws c:=by rw[j];rfl
  have f:b.at_=(c:Int):=by rw[j,ab]
  unfold fv at hr;obtain⟨i,k,-,l⟩:=kt.1 hr;rw[n] at k;have a:=e.2.2.2.2.2.1;rw[js (ws:=ws) (b:=bkAt ws c) e.2.2.2.2.1] at a;simp only[kqo,kqw] at a;have g:=a.2;rw[bC] at g;have h8:(flds ws c).length=(bB (wd ws (tyA (bkAt ws c))) (wd ws (tyA (bkAt ws c)+1))).length:=rfl;unfold bZ at g;exact⟨i,by rw[l,f];omega,k,by omega,e⟩
theorem gO(h:ah ws=0)(ho:fT ws a)(hb:b∈af ws):b.at_<=(a:Int)/\(b.at_=(a:Int)\/b.at_+2<=(a:Int))\/((a+szAt ws a:Nat):Int)<=b.at_:=by
 obtain⟨o1,o2,r,s,o5,o6,k,m,e,d⟩:=ho;obtain⟨j,l,rfl⟩:=kq2 hb;rcases kq6 k j with p|p
 .rw[aP r s] at d;cases f:blocks ws (a+szAt ws a) with
  | none=>rw[f] at d;cases d
  | some l' =>
   rw[f] at d;simp only[kzt,Option.some.injEq] at d;have o:l'=(af ws).drop (k+1):=by
    have:=congrArg (List.drop 1) d;rw[kxg] at this
    simpa using this
   have n:(af ws)[j]∈l':=by rw[o];refine kk8.2 ⟨j-(k+1),by rw[kzj];omega,?_⟩;rw[kjx];congr 1;omega
   have:=(lO _ _ f).1 _ n;exact .inr this
 have i:=(b8 h).2;rw[kze] at i;have ha:(af ws)[k].at_=(a:Int):=by rw[e,ab]
 obtain⟨c,q,c1,c2,-⟩:=(b8 h).1 _ (kqp l);have hc:(af ws)[j].at_=(c:Int):=by rw[q,ab]
 left;rcases kq6 j k with g|g
 .have:=i j k l m g;omega
 have:j=k:=by omega
 subst this;omega
structure I3 (x:List Nat):Prop where
 ck:aw x=0
 p3:wd x 16=3
 hp:ah x=0
 sl:wd x 17=0->ei x=0
 fx:xz x (wd x 17)
theorem I3.rd(h:I3 x):aW x 128 128=0:=by have:=h.ck;unfold aw at this;rw[if_pos (kP h.ck),if_neg (by rw[h.p3];decide),if_pos h.p3] at this;exact this
theorem hd_put(h:ah x=0)(hE:∀e∈E,e.a<19\/112<=e.a/\∀b∈af x,e.a≠b.at_/\e.a≠b.at_+1):Hd x (aj x E):=by
 refine⟨av _ _,λi h1 h2=>aQ _ _ _ λe f g=>?_,λb j=>?_⟩
 .rcases hE e f with d|d<;>omega
 obtain⟨a,rfl,a1,-⟩:=(b8 h).1 b j;have c:(bkAt x a).at_=(a:Int):=ab x a;rw[c,kqi];refine⟨aQ _ _ _ λe f g=>?_,aQ _ _ _ λe f g=>?_⟩
 .rcases hE e f with d|⟨-,d⟩
  .omega
  exact (d _ j).1 (by rw[c];exact g)
 rcases hE e f with d|⟨-,d⟩
 .omega
 exact (d _ j).2 (by rw[c,g];rfl)
theorem tV(h:ah x=0)(hE:∀e∈E,e.a<19\/112<=e.a/\e.a<128):Hd x (aj x E):=hd_put h λe f=>by
 rcases hE e f with c|c
 .exact .inl c
 .refine .inr ⟨c.1,λb g=>?_⟩;obtain⟨a,rfl,a1,-⟩:=(b8 h).1 b g;have d:(bkAt x a).at_=(a:Int):=ab x a;rw[d];omega
theorem Bu(h:Hd x xs)(h0:ah x=0)(hm:bkAt xs m∈af xs):bkAt x m∈af x/\bkAt xs m=bkAt x m:=by
 rw[(h.heap h0).2] at hm;obtain⟨a,e,-⟩:=(b8 h0).1 _ hm;have b:=congrArg Bk.at_ e;rw[ab,ab] at b;obtain rfl:m=a:=by omega
 rw[e] at hm;exact⟨hm,e⟩
theorem hd_bd(h:Hd x xs)(h0:ah x=0)(c:Bd x a):Bd xs a:=by obtain⟨f,k,d,e⟩:=c;refine⟨f,k,by rw[(h.heap h0).2];exact d,?_⟩;rw[(h.heap h0).2];exact h.blocks a _ e λb c=>kx1 c
theorem pQ(ho:∀v∈x,v<18446744073709551616)(h:I3 x):(ag x).1=0/\(I3 (aj x (ag x).2)\/wd (aj x (ag x).2) 16=4/\wd (aj x (ag x).2) 17=128/\wd (aj x (ag x).2) 18=128/\Hd x (aj x (ag x).2)/\cu (aj x (ag x).2)=0):=by
 have p3:=h.p3;have e:ag x=sgFix x:=by unfold ag;rw[if_pos h.ck,if_neg (by omega),if_neg (by omega),if_pos p3]
 obtain⟨-,hs,hl,W⟩:=cC h.ck;have K:=(ae _).1 hs;obtain⟨⟨l1,l2,l3⟩,-⟩:=(bq x).1 hl;have E:=h.rd;by_cases z:wd x 17=0
 .have H:=h.sl z;have D:sgFix x=(0,⟨17,128⟩::dK x):=by unfold sgFix;rw[if_pos z,if_pos H]
  have G:(ag x).1=0:=by rw[e,D]
  obtain⟨-,-,u,-⟩:=l8 ho G;refine⟨G,.inl ?_⟩;obtain⟨-,-,-,-,-,-,-,L,q2,q3,-⟩:=jE H;obtain⟨g1,Y,g3,t,y,V⟩:=jf (f:=128) (l:=dK x) h.ck p3 (by decide) (by omega) (by omega) (by omega) q2 (λe c=>by have:=(L e c).1;omega) (λe c=>(L e c).2);have o:Hd x (aj x (⟨17,128⟩::dK x)):=tV h.hp λe c=>by
   rcases kqt.1 c with rfl|c
   .exact .inl (by dsimp only;omega)
   exact .inr (L e c).1
  rw[e,D] at u |-;dsimp only at u |-;have n:=(o.heap h.hp).1;have d:cF (aj x (⟨17,128⟩::dK x))=0:=by unfold cF;rw[if_pos u,if_neg];rintro ⟨-,-,p⟩;rw[y,bd_is n (Db n) (by rw[o.len];omega)] at p;cases p
  refine⟨?_,t,n,λg=>?_,λm g C p=>?_⟩
  .unfold aw;rw[if_pos d,if_neg (by rw[t];decide),if_pos t];exact (o.rd h.hp E).1
  .rw[y] at g;cases g
  obtain⟨U,m2⟩:=Bu o h.hp g;rw[m2] at C;have w:=h.fx m U C (by omega);refine (o.ob w λr s=>?_).1;obtain⟨i,rfl,P,T,q⟩:=io h.hp s;rw[kqi];refine aQ _ _ _ λe c N=>?_;have:=q.1;rcases kqt.1 c with rfl|c
  .dsimp only at N;omega
  have:=(L e c).1;omega
 have hF:128<=wd x 17:=by
  rcases (cG _ _ _).1 W with g|⟨-,-,g⟩|g
  .omega
  .rcases g with g|g
   .exact absurd g z
   exact ((aT _).1 g).1
  omega
 have D:sgFix x=kM x (wd x 17):=by unfold sgFix;rw[if_neg z]
 have X:Bd x (wd x 17):=by
  refine bd_of h.hp ?_;have d:=kP h.ck;unfold cF at d;by_cases I:nM x (wd x 17)=true
  .exact I
  split at d
  .rw[if_pos ⟨p3,z,by simpa using I⟩] at d;cases d
  exact absurd d (by assumption)
 obtain⟨f1,O⟩:=At _ (wd x 17) (kqa _) X h.fx;have G:(ag x).1=0:=by rw[e,D];exact f1
 obtain⟨-,-,u,-⟩:=l8 ho G;refine⟨G,?_⟩;rcases O with O|⟨m,U,m2,m3,m4,m5,m6,m7⟩
 .right;rw[e,D,O] at u |-;obtain⟨g1,Y,g3,t,y,V⟩:=gz h.ck p3;refine⟨t,y,V,tV h.hp λe c=>?_,u⟩;simp only[bN,kqt,kzb,or_false] at c;rcases c with rfl|rfl|rfl<;>exact .inl (by dsimp only;omega)
 left;rw[e,D,m7] at u |-;dsimp only at u |-;have w:=h.fx m m5 m6 U;obtain⟨f,-,-,-,-,q5,q6,q7,Q,q9⟩:=iz w;have Z:=D5 w;have hme:m%2=0/\szAt x m%2=0:=by
  obtain⟨a,ea,a1,a2,a3,a4⟩:=(b8 h.hp).1 _ m5;have p:=congrArg Bk.at_ ea;rw[ab,ab] at p;obtain rfl:m=a:=by omega
  have:=aG a4;omega
 obtain⟨g1,Y,g3,t,y,V⟩:=jf (f:=m+szAt x m) (l:=cr x (m:Int)) h.ck p3 ((aT _).2 (by omega)) m3 (by omega) (by omega) q9 (λe c=>by have:=Z e c;omega) (λe c=>by have:=Z e c;omega);have k:∀j:Nat,j≠17->(∀r∈bH x (m:Int),r≠(j:Int))->wd (aj x (⟨17,m+szAt x m⟩::cr x (m:Int))) j=wd x j:=by
  intro j h17 hj;refine aQ _ _ _ λe c N=>?_;rcases kqt.1 c with rfl|c
  .dsimp only at N;omega
  obtain⟨r,r1,r2,r3,r4⟩:=Q e c;obtain rfl:r=j:=by omega
  have h6:=q7 r (λi hi hf=>hj _ (kqp hi) (by rw[(q6 i hi).1,hf]));have F:=dX _ x q9 e c (by omega) (by omega);rw[r1,kqi,h6] at F;exact r3 F
 have o:Hd x (aj x (⟨17,m+szAt x m⟩::cr x (m:Int))):=by
  refine⟨av _ _,λi g C=>k i (by omega) λr s B=>?_,λb K=>?_⟩
  .obtain ⟨S,M,-,-,q⟩:=io h.hp s;have:=q.1;omega
  obtain⟨a,rfl,a1,a2,-⟩:=(b8 h.hp).1 b K;have A:(bkAt x a).at_=(a:Int):=ab x a;rw[A,kqi];refine⟨k _ (by omega) λr s B=>?_,k _ (by omega) λr s B=>?_⟩
  .obtain ⟨S,M,P,T,q⟩:=io h.hp s;have:=gO h.hp q K;rw[A] at this;omega
  obtain⟨S,M,P,T,q⟩:=io h.hp s;have:=gO h.hp q K;rw[A] at this;omega
 have n:=(o.heap h.hp).1;have d:cF (aj x (⟨17,m+szAt x m⟩::cr x (m:Int)))=0:=by unfold cF;rw[if_pos u,if_neg];rintro ⟨-,-,p⟩;rw[y,bd_is n (hd_bd o h.hp m4) (by rw[o.len];omega)] at p;cases p
 refine⟨?_,t,n,λg=>?_,λm' g C p=>?_⟩
 .unfold aw;rw[if_pos d,if_neg (by rw[t];decide),if_pos t];exact (o.rd h.hp E).1
 .rw[y] at g;omega
 obtain⟨n1,n2⟩:=Bu o h.hp g;rw[n2] at C;rw[y] at p;have J:=h.fx m' n1 C (by omega);refine (o.ob J λr s=>?_).1;obtain⟨i,rfl,P,T,q⟩:=io h.hp s;rw[kqi];refine k _ (by have:=q.1;omega) λr2 R B=>?_;obtain⟨S,M,j1,j2,j3⟩:=io h.hp R;omega
theorem zZ(x:List Nat)(t:Nat):mvd x t t=true:=by
 unfold mvd;cases t with
 | zero=>unfold tC;simp
 | succ t=>unfold tC;rw[if_neg (by omega)];simp
theorem pm:∀n x,(∀v∈x,v<18446744073709551616)->mzS 3 x<=n->I3 x->(db 3 x).1=0/\wd (db 3 x).2.2 16=4/\wd (db 3 x).2.2 17=128/\wd (db 3 x).2.2 18=128/\aw (db 3 x).2.2=0/\ah (db 3 x).2.2=0/\1<=(db 3 x).2.1.length:=by
 intro n
 induction n with
 | zero=>intro x _ h a;exfalso;have:=a.p3;unfold mzS at h;rw[if_pos this] at h;omega
 | succ n ih =>
  intro x c h a;obtain⟨d,b⟩:=pQ c a;have hd:=fG c a.p3 d;rw[dE c a.p3 d];rcases b with b|⟨i,e,g,f,p⟩
  .obtain ⟨q,o,j,k,m,l,i7⟩:=ih _ (dr c d) (by omega) b;rw[if_pos q];exact⟨rfl,o,j,k,m,l,by simp⟩
  rw[cB (by omega),if_pos rfl];refine⟨rfl,i,e,g,?_,(f.heap a.hp).1,by simp⟩;unfold aw;rw[if_pos (Hm p (by omega)),if_pos i];dsimp only;rw[g,e,if_pos (zZ _ _)];exact (f.rd a.hp a.rd).1
theorem AJ(ho:∀v∈x,v<18446744073709551616)(hp:cu x=0)(p3:wd x 16=3)(p17:wd x 17=0)(hrc:aA x=0)(hw:aL x=[])(hn:aD x=[]):I3 x:=by
 obtain⟨k,a,M,c,d,s1,o,r,t,u,-⟩:=r9 hrc ho;rw[hw] at c;have c:k=x:=c;subst c;rw[hn] at d;have d:a=k:=d;subst d;have b:=(aC hrc).1;have f:cF a=0:=by unfold cF;rw[if_pos hp,if_neg];rintro ⟨-,h,-⟩;exact h p17
 refine⟨?_,p3,b,λ_=>t,λm y w _=>?_⟩
 .unfold aw;rw[if_pos f,if_neg (by omega),if_pos p3];exact o
 have j:=(ga b).2.2.2;obtain⟨-,-,l,i,-,s⟩:=bQ o;rw[show ((128:Int)).toNat=128 from rfl,j] at i;obtain rfl:=Option.some.inj i;have e:=lv (jq j (by omega)) 128;have n:(m:Int)∈eG (af a):=by unfold eG;refine kzz.2 ⟨bkAt a m,kzm.2 ⟨y,w⟩,ab a m⟩
 rw[e] at n;obtain⟨q,p,g⟩:=kzz.1 n;rw[<-g];exact u q (by rw[<-r,s];exact p)
section
variable {ws xs:List Nat}
theorem qn(h:∀j,96<=j->wd xs j=wd ws j)(b:Bk):du xs b=du ws b:=by unfold du cK;rw[h (tyA b) (by unfold tyA;omega),h (tyA b+1) (by unfold tyA;omega)]
theorem D4(h:∀j,96<=j->wd xs j=wd ws j):∀(l:List Bk) (s:Int),bL xs l s=bL ws l s:=by
 intro l
 induction l with
 | nil=>intro s;rfl
 | cons b l ih =>intro s;simp only[bL];rw[qn h,ih,ih]
theorem uv(hn:xs.length=ws.length)(h:∀j,96<=j->wd xs j=wd ws j){f s:Int}(hf:96<=f.toNat):aW xs f s=aW ws f s:=by
 unfold aW lq;rw[hn,dF hn f.toNat (λj hj=>h j (by omega))];cases blocks ws f.toNat with
 | none=>rfl
 | some l=>dsimp only;rw[D4 h]
theorem C3{t:Nat}(h:∀j,96<=j->j<t->wd xs j=wd ws j)(ht:mdOk xs t=true)(h128:128<=t):∀n i,t-i<=n->128<=i->mvd ws i t=true->mvd xs i (t+szAt xs t)=true:=by
 have hsz:=lB ht;have a:mvd xs t (t+szAt xs t)=true:=by rw[kH (by omega) ht,jY (kqa _)];simp
 intro n
 induction n with
 | zero =>intro i m l b;rw[jY (by omega),kqw] at b;subst b;exact a
 | succ n ih =>
  intro i m l b;by_cases f:i<t
  .cases c:mdOk ws i with
   | false=>rw[sN f c] at b;cases b
   | true =>
    have hz:=lB c;rw[kH f c] at b;have g:wd xs i=wd ws i:=h i (by omega) f;have e:mdOk xs i=true:=by unfold mdOk at c |-;rw[g];simp only[kqo,kqw] at c |-;obtain⟨d,p,o,k⟩:=c;refine⟨d,p,o,?_⟩;unfold aM at d;rw[kqo] at d;have h7:=(bt _).1 d.1;unfold cK at k |-;rw[h (tyA (ar (wd ws i))) (by unfold tyA;omega) (by unfold tyA;omega),h (tyA (ar (wd ws i))+1) (by unfold tyA;omega) (by unfold tyA;omega)];exact k
    have q:szAt xs i=szAt ws i:=by unfold szAt;rw[g]
    rw[kH (by omega) e,q];exact ih (i+szAt ws i) (by omega) (by omega) b
  rw[jY (by omega),kqw] at b;subst b;exact a
theorem Ga :∀ {k:Nat} {l:List Bk} {s:Int},k<=l.length->eZ l k->bL ws l s=true->bL ws (l.drop k) s=true:=by
 intro k
 induction k with
 | zero=>intro l s _ _ h;exact h
 | succ k ih =>
  intro l s d c h;cases l with
  | nil=>simp at d
  | cons b l =>
   have e:b.mark=false:=c 0 (by omega);have a:aV b=false:=by unfold aV;rw[e];simp
   simp only[bL,a,kqo] at h;rw[List.drop_succ_cons];refine ih (by simpa using d) (λj hj=>?_) (by simpa using h.2);have:=c (j+1) (by omega);exact this
theorem Dl(ho:∀v∈x,v<18446744073709551616)(hck:aw x=0)(p4:wd x 16=4)(hnx:a9 x ((wd x 17:Nat):Int)=0):(ag x).1=0/\wd (aj x (ag x).2) 16=4/\aw (aj x (ag x).2)=0:=by
 have e:ag x=sgSld x:=by unfold ag;rw[if_pos hck,if_neg (by omega),if_neg (by omega),if_neg (by omega),if_pos p4]
 obtain⟨-,hs,hl,Q⟩:=cC hck;have hb:=(ae _).1 hs;have O:mvd x 128 (wd x 18)=true/\aW x ((wd x 17:Nat):Int) ((wd x 18:Nat):Int)=0:=by
  have:=hck;unfold aw at this;rw[if_pos (kP hck),if_pos p4] at this;by_cases y:mvd x 128 (wd x 18)=true
  .rw[if_pos y] at this;exact⟨y,this⟩
  rw[if_neg y] at this;cases this
 obtain⟨y,M⟩:=O;obtain⟨-,a1,a2,m,em,m1,m2,m3,m4,m5,m6,m7,m8,l,q1,-,-,k,q2,q3,K⟩:=fu hnx;obtain⟨r1,r2,l2,r3,r4,-⟩:=bQ M;rw[kqi,q1] at r3;obtain rfl:=Option.some.inj r3;obtain⟨u1,u2,u3,u4,u5⟩:=gC r2;have C:aW x (m:Int) ((wd x 18:Nat):Int)=0:=by
  have U:fJ x.length (m:Int) ((wd x 18:Nat):Int)=false:=by
   cases hq:fJ x.length (m:Int) ((wd x 18:Nat):Int) with
   | false=>rfl
   | true=>exact absurd ⟨by omega,by omega,by omega,by omega,by omega⟩ ((kO _ _ _).1 hq)
  rw[iy r1 U (l:=l.drop k) (by rw[kqi];exact K),if_pos (Ga (by omega) q3 r4)]
 obtain⟨H,G,f3,f4⟩:=cj K (by omega);have q:dA x (m:Int) ((wd x 18:Nat):Int)=0:=by
  unfold dA;rw[if_pos C,kqi,K];cases E:l.drop k with
  | nil=>rw[E] at H;simp at H
  | cons c t =>
   dsimp only;rw[E] at G;have N:c=bkAt x m:=by rw[<-G];rfl
   rw[N,m7];rfl
 have B:sgSld x=(0,⟨17,m+szAt x m⟩::⟨18,wd x 18+szAt x m⟩::jM x m (wd x 18)):=by unfold sgSld;rw[if_pos hnx,em,ab,if_pos q,bC,show ((m:Int)+((szAt x m:Nat):Int)).toNat=m+szAt x m by omega,show (((wd x 18:Nat):Int)+((szAt x m:Nat):Int)).toNat=wd x 18+szAt x m by omega];unfold iW;rw[if_pos q,kqi,kqi]
 have P:(ag x).1=0:=by rw[e,B]
 obtain⟨-,-,k3,-⟩:=l8 ho P;obtain⟨a,u,n,Z,T,en,n2,n10,hu,hua,han,hst,hlv,⟨l3,-,-,-,s4,-⟩,F,o⟩:=gj q;have Z:a=m:=by omega
 have T:u=wd x 18:=by omega
 subst Z;subst en;have S:=T;have R:=(zX ho hck p4 (by rw[<-e];exact P)).1;have z:=xC (ws:=x) (a:=a) (u:=u) (by omega);rw[<-z] at s4 F;rw[<-T] at B;rw[<-e] at R;have r:(jM x a u).Pairwise (λa b=>a.a<b.a):=by rw[kze];intro i j hi hj hij;rw[ge,ge];omega
 have s:∀e∈jM x a u,(u:Int)<=e.a/\e.a<((u+szAt x a:Nat):Int):=λe d=>by
  obtain⟨k,hk,rfl⟩:=kq2 d;rw[ge];rw[iP] at hk;omega
 have V:∀j:Nat,19<=j->wd (aj x (ag x).2) j=wd (aj x (jM x a u)) j:=by
  intro j hj;rw[e,B,show (⟨17,a+szAt x a⟩::⟨18,u+szAt x a⟩::jM x a u:List En)=[⟨17,a+szAt x a⟩,⟨18,u+szAt x a⟩]++jM x a u from rfl,eI];by_cases w:∃e∈jM x a u,e.a=(j:Int)
  .obtain ⟨I,d,h5⟩:=w;have hm2:=s I d;have t1:=dX (jM x a u) (aj x [⟨17,a+szAt x a⟩,⟨18,u+szAt x a⟩]) r I d (by omega) (by rw[av];omega);have t2:=dX (jM x a u) x r I d (by omega) (by omega);rw[show I.a.toNat=j by omega] at t1 t2;rw[t1,t2]
  rw[aQ _ _ _ (λe d h=>w ⟨e,d,h⟩),aQ _ _ _ (λe d h=>w ⟨e,d,h⟩)];refine aQ _ _ _ λe d h=>?_;simp only[kqt,kzb,or_false] at d;rcases d with rfl|rfl<;>(dsimp only at h;omega)
 have hfp:=(cG _ _ _).1 Q;obtain⟨j1,j2,-,j4,j5,j6⟩:=nm (f:=a+szAt x a) (t:=u+szAt x a) (l:=jM x a u) hck p4 ((aT _).2 (by omega)) ((aT _).2 (by omega)) (by omega) (by omega) (by omega) (by omega) (by rw[iP];omega) r (λe d=>by have:=s e d;omega) (rR ho o);have hlen:(aj x (ag x).2).length=x.length:=av _ _;have g:∀j:Nat,96<=j->j<u->wd (aj x (ag x).2) j=wd x j:=λj h1 h2=>by
  rw[V j (by omega)];exact aQ _ _ _ λe d h=>by have:=s e d;omega
 have D:wd (aj x (ag x).2) u=da { ar (wd x a) with mark:=false }:=by rw[V u (by omega)];exact F
 have p:ar (wd (aj x (ag x).2) u)={ ar (wd x a) with mark:=false }:=by rw[D,mw o];rfl
 have Y:szAt (aj x (ag x).2) u=szAt x a:=by have:=congrArg Bk.size p;have e1:(ar (wd (aj x (ag x).2) u)).size=((szAt (aj x (ag x).2) u:Nat):Int):=rfl;have e3:({ ar (wd x a) with mark:=false }:Bk).size=((szAt x a:Nat):Int):=rfl;rw[e1,e3] at this;omega
 have A:cK x (bkAt x a)=true:=by
  obtain⟨-,-,l4,w3,J,-⟩:=bQ C;rw[kqi,K] at w3;obtain rfl:=Option.some.inj w3;cases E:l.drop k with
  | nil=>rw[E] at H;simp at H
  | cons c t =>
   rw[E] at G J;have N:c=bkAt x a:=by rw[<-G];rfl
   rw[N] at J;simp only[bL,kqo] at J;have W:=J.1;unfold du at W;rw[m8] at W
   simpa using W
 have L:mdOk (aj x (ag x).2) u=true:=by
  have h7:=(bt _).1 o;have X:(ar (wd x a)).kind=1:=m8;unfold mdOk aM;rw[p,D,o,X];simp only[beq_self_eq_true,kzx,Bool.not_false];unfold cK at A |-;have et:tyA ({ ar (wd x a) with mark:=false }:Bk)=tyA (bkAt x a):=rfl;have htl:tyA (bkAt x a)+1<112:=by have:(bkAt x a).typ=(ar (wd x a)).typ:=rfl;unfold tyA;rw[this];dsimp only at h7;omega
  rw[et,g _ (by unfold tyA;omega) (by omega),g _ (by unfold tyA;omega) (by omega)];exact A
 have hg:=C3 g L hu (u-128) 128 (by omega) (by omega) (by rw[S];exact y);rw[Y] at hg;have g5:wd (aj x (ag x).2) 17=a+szAt x a:=by rw[e,B];exact j5
 have g6:wd (aj x (ag x).2) 18=u+szAt x a:=by rw[e,B];exact j6
 refine⟨P,R,?_⟩;unfold aw;rw[if_pos (Hm k3 (by omega)),if_pos R,g5,g6,if_pos hg,uv (ws:=aj x (jM x a u)) (by rw[av,av]) (λj hj=>V j (by omega)) (by omega)];exact s4
end
theorem EC(hck:aw x=0)(p4:wd x 16=4)(hnx:a9 x ((wd x 17:Nat):Int)≠0):el x=0:=by
 obtain⟨h,-,a,e,b,f,i,l,o,j⟩:=v8 hck (by omega);obtain⟨-,-,-,c⟩:=cC hck;have hF:128<=wd x 17:=by
  rcases (cG _ _ _).1 c with b|b|b
  .exact ((aT _).1 b.2.1).1
  .omega
  omega
 have k:a=wd x 17:=by unfold gm at e;rw[if_neg (by omega)] at e;omega
 subst k;have g:lfN x=0:=by
  rw[j];by_cases d:0<(eG l).length
  .obtain ⟨m,z,l',n,-⟩:=nn h b f i o d;exact absurd n hnx
  omega
 unfold el;rw[if_pos hck,if_pos ⟨p4,g⟩]
theorem sE{x:Nat}(h:aM x=true)(hk:(ar x).kind=1)(m n:Bool):gb (gb x m) n=gb x n:=by obtain⟨a,b,-,-⟩:=iC h hk m;obtain⟨y,c⟩:=xq (gb x m);rw[c] at a b |-;unfold gb;rw[if_pos a,if_pos h];unfold il;rw[b]
theorem RmL.trans(h:RmL ws xs)(g:RmL xs ys):RmL ws ys:=by
 refine⟨g.len.trans h.len,λi b=>?_⟩;rcases g.at_ i b with a|⟨a,j,d,l,m,c⟩
 .rw[a];exact h.at_ i b
 rcases h.at_ i b with e|⟨e,h2,f,k,m0,n⟩
 .rw[e] at d l c;exact .inr ⟨a,j,d,l,m,c⟩
 exact .inr ⟨a,j,f,k,m,by rw[c,n,sE f k]⟩
theorem Rm.toL(h:Rm ws xs):RmL ws xs:=⟨h.len,λi _=>h.at_ i⟩
theorem NxL.trans(h0:ah ws=0)(h:NxL ws xs)(g:NxL xs ys):NxL ws ys:=by
 refine⟨g.len.trans h.len,λi e=>?_⟩;rcases g.at_ i e with c|⟨b,d,c⟩
 .rw[c];exact h.at_ i e
 rw[((h.ev h0).heap h0).2] at d;obtain⟨f,a,rfl⟩:=kzz.1 d;exact .inr ⟨f,a,c⟩
theorem mkd_nx(xs:List Nat)(l:List Bk):eG (l.map (nxB xs))=eG l:=by
 induction l with
 | nil=>rfl
 | cons b l ih =>
  unfold eG at ih |-;rw[kx9];have e:(nxB xs b).mark=b.mark:=rfl;have a:(nxB xs b).at_=b.at_:=rfl;simp only[kjg,e];split
  .simp only[kx9,a,ih]
  exact ih
theorem ui(xs:List Nat):∀(l:List Bk) (s:Int),az (l.map (nxB xs)) s=az l s:=by
 intro l
 induction l with
 | nil=>intro s;rfl
 | cons b l ih =>intro s;have e:aV (nxB xs b)=aV b:=rfl;have a:(nxB xs b).at_=b.at_:=rfl;have c:(nxB xs b).size=b.size:=rfl;simp only[kx9,az,e,a,c,ih]
theorem Bq{n:Nat}(h:Small n E)(hi:i<16\/19<=i/\i<112):wd (aj ws E) i=wd ws i:=aQ _ _ _ λe a=>by have:=(h.ins e a).1;omega
theorem oN(hi:i<16\/19<=i/\i<112):∀n x,(∀v∈x,v<18446744073709551616)->mzS p x<=n->(db p x).1=0->wd (db p x).2.2 i=wd x i:=by
 intro n
 induction n with
 | zero =>
  intro x d h _;have a:wd x 16≠p:=λa=>by unfold mzS at h;rw[if_pos a] at h;omega
  rw[cB a]
 | succ n ih =>
  intro x d h c;by_cases a:wd x 16=p
  .by_cases f:(ag x).1=6
   .rw[kT a f]
   by_cases b:(ag x).1=0
   .have hd:=fG d a b;rw[dE d a b] at c |-;by_cases e:(db p (aj x (ag x).2)).1=0
    .rw[if_pos e];have:=ih (aj x (ag x).2) (dr d b) (by omega) e;exact this.trans (Bq (l8 d b).2.1 hi)
    rw[if_neg e] at c;exact absurd c e
   rw[pU a f b] at c;exact absurd c b
  rw[cB a]
def HsL (ws xs:List Nat):Prop:=∀i:Nat,19<=i->wd xs i=wd ws i\/∃b∈af ws,(i:Int)=b.at_
theorem EI(hE:∀e∈E,e.a<19\/∃b∈af x,e.a=b.at_):HsL x (aj x E):=λi h19=>by
 by_cases c:∃b∈af x,(i:Int)=b.at_
 .exact .inr c
 .refine .inl (aQ _ _ _ λe g f=>?_);rcases hE e g with d|⟨b,h,d⟩
  .omega
  .exact c ⟨b,h,by rw[<-d,f]⟩
theorem tF(h:aA x=0):∀e∈aL x,∃b∈af x,e.a=b.at_:=λe c=>by obtain⟨a,d,-,-,-,-,-,rfl,-⟩:=dH h c;exact⟨_,d,(ab x a).symm⟩
theorem CZ:∀n x,(∀v∈x,v<18446744073709551616)->mzS 1 x<=n->wd x 16=1->aw x=0->aA x=0->RmL x (db 1 x).2.2/\HsL x (db 1 x).2.2/\aA (db 1 x).2.2=0/\dU (db 1 x).2.2=dU x/\eG (af (db 1 x).2.2)=dU x:=by
 intro n
 induction n with
 | zero=>intro x _ h g;exfalso;unfold mzS at h;rw[if_pos g] at h;omega
 | succ n ih =>
  intro x r h g o a;have e:ag x=(0,ir (aL x) 2):=by unfold ag;rw[if_pos o,if_pos g,if_pos a]
  have j:(ag x).1=0:=by rw[e]
  have hd:=fG r g j;obtain⟨-,-,E,-,-,-,-,-⟩:=l8 r j;obtain⟨F,r2⟩:=pn a;obtain⟨g1,g2,g3,l,g5,g6⟩:=fA o g (.inl rfl) (dx a) (λy B=>by
   obtain⟨i,s⟩:=kjt.1 B;exact F i y s) (oO a)
  simp only[Nat.reduceAdd] at l;rw[dE r g j];by_cases c:32<=(aL x).length
  .rw[if_pos c] at l;obtain⟨d,m⟩:=F9 g j c;have k:RmL x (aj x (ag x).2):=by rw[e,cm c];exact (iH a (kjj 31 _)).toL
   have u:HsL x (aj x (ag x).2):=by rw[e,cm c];exact EI λe p=>.inr (tF a e (kx0 p))
   have q:wd (aj x (ag x).2) 16=1:=by rw[e];exact l
   have f:aw (aj x (ag x).2)=0:=uU E (by omega) (by omega) (aC d).1;obtain⟨H,-⟩:=uw _ _ (dr r j) (kqa _) q f d;obtain⟨D,M,A,K,J⟩:=ih _ (dr r j) (by omega) q f d;rw[if_pos H];refine⟨k.trans D,λi s=>?_,A,K.trans m,J.trans m⟩;rcases M i s with t|⟨b,z,t⟩
   .rw[t];exact u i s
   rw[(k.heap (aC a).1).2] at z;obtain⟨I,w,rfl⟩:=kzz.1 z;exact .inr ⟨I,w,t⟩
  rw[if_neg c] at l;have p2':wd (aj x (ag x).2) 16=2:=by rw[e];exact l
  rw[cB (by omega),if_pos rfl];rw[e,iE c];obtain⟨L,C,l3,G⟩:=Ha a 2;refine⟨tu a 2,EI λe p=>?_,L,C,G⟩;rcases kqt.1 p with rfl|p
  .exact .inl (by dsimp only;omega)
  exact .inr (tF a e p)
theorem E5(hhp:ah x=0):NxL x (aj x (ir (aD x) 3)):=by
 have f:∀e∈aD x,∃b∈af x,e.a=b.at_+1:=by intro e c;rw[rt hhp] at c;obtain⟨b,g,-,h⟩:=fU c;exact⟨b,g,h⟩
 refine pO λe c=>?_;by_cases d:32<=(aD x).length
 .rw[cm d] at c;exact .inr (f e (kx0 c))
 rw[iE d] at c;rcases kqt.1 c with rfl|c
 .exact .inl (by dsimp only;omega)
 exact .inr (f e c)
theorem NxL.mkd(h:NxL ws xs)(h0:ah ws=0):eG (af xs)=eG (af ws)/\az (af xs) 128=az (af ws) 128:=by rw[((h.ev h0).heap h0).2];exact⟨mkd_nx _ _,ui _ _ _⟩
theorem He:∀n x,(∀v∈x,v<18446744073709551616)->mzS 2 x<=n->wd x 16=2->aw x=0->NxL x (db 2 x).2.2/\aD (db 2 x).2.2=[]:=by
 intro n
 induction n with
 | zero=>intro x _ h f;exfalso;unfold mzS at h;rw[if_pos f] at h;omega
 | succ n ih =>
  intro x l h f b;have a:ah x=0:=by have:=b;unfold aw at this;rw[if_pos (kP b),if_neg (by omega),if_neg (by omega)] at this;exact this
  have e:ag x=(0,ir (aD x) 3):=by unfold ag;rw[if_pos b,if_neg (by omega),if_pos f,if_pos a]
  have g:(ag x).1=0:=by rw[e]
  have hd:=fG l f g;obtain⟨-,-,r,-,-,-,-,-⟩:=l8 l g;obtain⟨t,p,m⟩:=nW a;obtain⟨g1,g2,g3,i,w,g6⟩:=fA b f (.inr rfl) t p m;simp only[Nat.reduceAdd] at i w;have k:NxL x (aj x (ag x).2):=by rw[e];exact E5 a
  rw[dE l f g];by_cases d:32<=(aD x).length
  .rw[if_pos d] at i;have j:wd (aj x (ag x).2) 16=2:=by rw[e];exact i
   have c:aw (aj x (ag x).2)=0:=uU r (by omega) (by omega) (uD f g).1;obtain⟨y,-⟩:=t7 _ _ (dr l g) (kqa _) j c;obtain⟨q,o⟩:=ih _ (dr l g) (by omega) j c;rw[if_pos y];exact⟨k.trans a q,o⟩
  rw[if_neg d] at i;have p3':wd (aj x (ag x).2) 16=3:=by rw[e];exact i
  obtain⟨f1,-,s,u⟩:=uG a d;rw[cB (by omega),if_pos rfl];refine⟨k,?_⟩;rw[e,rt s,u];exact na
theorem Fp(h:aA x=0)(hm:eG (af x)=dU x):aL x=[]:=by
 obtain⟨m,-,-⟩:=aC h;rw[d6 h,show lu (seenL x) (af x)=[] from ?_]
 .rfl
 unfold lu;rw[kku];intro b i;obtain⟨a,rfl,a1,a2,n,a4⟩:=(b8 m).1 b i;have f:(bkAt x a).mark=eQ x (bkAt x a):=by
  rw[kzq,fe n];constructor
  .intro o;have d:((a:Nat):Int)∈eG (af x):=by unfold eG;exact kzz.2 ⟨bkAt x a,kzm.2 ⟨i,o⟩,ab x a⟩
   rw[hm,fY h] at d;obtain⟨q,e,-,k⟩:=d;obtain rfl:a=q:=by omega
   exact k
  intro k;have d:((a:Nat):Int)∈dU x:=(fY h _).2 ⟨a,rfl,n,k⟩;rw[<-hm] at d;unfold eG at d;obtain⟨c,r,l⟩:=kzz.1 d;obtain⟨g,j⟩:=kzm.1 r;have p:=px (b8 m).2 g i (by rw[l,ab]);rw[<-p];exact j
 unfold eQ at f;unfold eJ;rw[f];simp
theorem iL{l:List En}{a:Int}{v:Nat}(h:(i:Int)≠a):wd (aj x (⟨a,v⟩::l)) i=wd (aj x l) i:=by
 simp only[aj];split
 .refine ly (by rw[kq4]) ?_;unfold wd;rw[kx3 (by omega)]
 rfl
theorem Hd.trans(h0:ah ws=0)(h:Hd ws xs)(g:Hd xs ys):Hd ws ys:=by refine⟨g.len.trans h.len,λi c a=>(g.low i c a).trans (h.low i c a),λb d=>?_⟩;obtain⟨j,e⟩:=h.blk b d;obtain⟨f,k⟩:=g.blk b (by rw[(h.heap h0).2];exact d);exact⟨f.trans j,k.trans e⟩
theorem Hd.rs(h:Hd ws xs)(h0:ah ws=0)(a:Int):bH xs a=bH ws a:=by
 have c:=h.heap h0;have d:aJ xs 128=aJ ws 128:=by rw[(ga c.1).2.1,(ga h0).2.1,c.2]
 unfold bH;rw[if_pos c.1,if_pos h0,d];cases f:jS (aJ ws 128) a with
 | none=>rfl
 | some b =>obtain⟨e,b2,g⟩:=jk f;rw[(ga h0).2.1] at e;obtain⟨j,i⟩:=h.ty h0 e g;dsimp only;unfold fv t4;rw[j,i]
def Mk (ws:List Nat) (m:Nat):Prop:=bkAt ws m∈af ws/\(bkAt ws m).mark=true
theorem oi(h0:ah ws=0)(h:Mk ws m):fT ws m/\(bkAt ws m).kind=1:=by
 have c:(bkAt ws m).kind=1:=jq (ga h0).2.2.2 (by omega) _ h.1 h.2;obtain⟨k,b,e⟩:=kq2 h.1;obtain⟨a,d,g⟩:=oh h0 b (by rw[e];exact c);rw[e] at d;have f:=congrArg Bk.at_ d;rw[ab,ab] at f;obtain rfl:m=a:=by omega
 exact⟨g,c⟩
theorem Hd.mks(h:Hd ws xs)(h0:ah ws=0):Mk xs m↔Mk ws m:=by
 constructor
 .rintro ⟨a,b⟩;obtain⟨f,g⟩:=Bu h h0 a;exact⟨f,by rw[<-g];exact b⟩
 rintro ⟨a,b⟩;obtain⟨c,d⟩:=h.blk _ a;rw[ab,kqi] at c d;have e:bkAt xs m=bkAt ws m:=by unfold bkAt;rw[c,d]
 exact⟨by rw[(h.heap h0).2,e];exact a,by rw[e];exact b⟩
theorem EJ(h0:ah ws=0){k0:Nat}(hk:k0<=(af ws).length)(hb:blocks ws c=some ((af ws).drop k0))(hj:j<(af ws).length)(hc:(c:Int)<=(af ws)[j].at_):k0<=j:=by
 rcases kq6 j k0 with d|g
 .exfalso;obtain⟨a,i,a1,a2,a3,a4⟩:=(b8 h0).1 _ (kqp hj);rw[i,ab] at hc;have b:c<ws.length:=by omega
  obtain⟨k,l,-⟩:=cj hb b;rw[kzj] at k;have f:k0<(af ws).length:=by omega
  have e:(af ws)[k0]=bkAt ws c:=by rw[<-l];unfold gk;rw[kxy,kql (by omega),kq8];rfl
  have h:=(b8 h0).2;rw[kze] at h;have:=h j k0 hj f d;rw[e,i,ab,ab] at this;omega
 exact g
theorem FG(h0:ah ws=0)(hb:Bd ws c)(hc:c<=ws.length):c%2=0:=by
 obtain⟨-,d,hk0,f⟩:=hb;have hs:=(ae _).1 (ay h0).1;by_cases he:c=ws.length
 .omega
 obtain⟨g,i,-⟩:=cj f (by omega);rw[kzj] at g;obtain⟨a,b,a1,a2,-⟩:=(b8 h0).1 _ (kqp (show d<(af ws).length by omega));have e:(af ws)[d]'(by omega)=bkAt ws c:=by rw[<-i];unfold gk;rw[kxy,kql (by omega),kq8];rfl
 rw[e] at b;have h:=congrArg Bk.at_ b;rw[ab,ab] at h;omega
theorem bd_gap(h0:ah ws=0)(hb:Bd ws c)(hn:a9 ws (c:Int)=0)(e:ie ws (c:Int)=bkAt ws m)(hm:Mk ws m')(hc:c<=m'):m<=m':=by
 obtain⟨y,v⟩:=hm;obtain⟨h1,a,n,b⟩:=hb;obtain⟨-,-,-,u,t,p1,-,p3,-,p5,-,-,-,l,p,-,-,k,w,r,s⟩:=fu hn;have x:u=m:=by have:=t.symm.trans e;have h:=congrArg Bk.at_ this;rw[ab,ab] at h;omega
 subst x;rw[p] at b;obtain rfl:=Option.some.inj b;obtain⟨j,i,d⟩:=kq2 y;have hj0:=EJ h0 n p i (by rw[d,ab];omega);rw[kzj] at w;rcases kq6 (j-a) k with g|hge
 .exfalso;have:=r (j-a) g;unfold gk at this;rw[kxy,show a+(j-a)=j by omega,kql i,kq8,d,v] at this;cases this
 obtain⟨f1,f,-⟩:=cj s (by omega);unfold gk at f;rw[kxg,kxy,kz8,kql (by omega),kq8] at f;have o:=(b8 h0).2;rw[kze] at o;by_cases q:j=a+k
 .subst q;rw[f] at d;have h:=congrArg Bk.at_ d;rw[ab,ab] at h;omega
 have:=o (a+k) j (by omega) i (by omega);rw[f,d,ab,ab] at this;omega
theorem zc(h0:ah ws=0)(hb:Bd ws c)(hcl:c<=ws.length)(hn:a9 ws (c:Int)≠0)(hm:Mk ws m'):¬ c<=m':=by
 intro hc;have h:=FG h0 hb hcl;obtain⟨k,n⟩:=hm;obtain⟨i,e,f,b⟩:=hb;obtain⟨j,l,g⟩:=kq2 k;have hj0:=EJ h0 f b l (by rw[g,ab];omega);have d:bkAt ws m'∈(af ws).drop e:=by rw[<-g];refine kk8.2 ⟨j-e,by rw[kzj];omega,?_⟩;rw[kjx];congr 1;omega
 have a:0<(eG ((af ws).drop e)).length:=by
  have:((m':Nat):Int)∈eG ((af ws).drop e):=by unfold eG;exact kzz.2 ⟨bkAt ws m',kzm.2 ⟨d,n⟩,ab ws m'⟩
  exact List.length_pos_of_mem this
 obtain⟨m,z,l',o,-⟩:=nn (ay h0).1 i hcl h b a;exact hn o
theorem iR(h0:ah ws=0)(h:Mk ws m)(h':Mk ws m')(hlt:m<m'):m+szAt ws m<=m':=by have:=gO h0 (oi h0 h).1 h'.1;rw[ab] at this;omega
theorem tE(h0:ah ws=0)(h:Mk ws m)(h':Mk ws m')(hr:r∈bH ws (m:Int))(hr':r∈bH ws (m':Int)):m=m':=by
 obtain⟨i,e1,-,e2,-⟩:=io h0 hr;obtain⟨i',f1,-,f2,-⟩:=io h0 hr';rcases kjz m m' with a|a|a
 .have:=iR h0 h h' a;omega
 .exact a
 have:=iR h0 h' h a;omega
theorem CE(h0:ah ws=0):∀k a,ws.length-a<=k->a<=ws.length->Bd ws a->xz ws a->(kM ws a=(0,bN)/\∀m:Nat,Mk ws m->a<=m->bH ws (m:Int)=[])\/∃m:Nat,a<=m/\m+szAt ws m<=ws.length/\2<=szAt ws m/\Mk ws m/\kM ws a=(0,⟨17,m+szAt ws m⟩::cr ws (m:Int))/\∀b:Nat,Mk ws b->a<=b->b < m->bH ws (b:Int)=[]:=by
 intro k
 induction k with
 | zero =>
  intro a y j n r;by_cases d:a9 ws (a:Int)=0
  .obtain ⟨-,-,-,m,e,-⟩:=fu d;obtain⟨t,v,u,-⟩:=qa n d e;omega
  exact .inl ⟨jZ d,λm s f=>absurd f (zc h0 n j d s)⟩
 | succ k ih =>
  intro a y j n r;by_cases d:a9 ws (a:Int)=0
  .obtain ⟨-,-,-,m,e,-⟩:=fu d;obtain⟨t,v,u,H,w,x,n7⟩:=qa n d e;have g:=λb (c:Mk ws b) (f:a<=b)=>bd_gap h0 n d e c f;have i:Mk ws m:=⟨w,x⟩;by_cases p:bH ws (m:Int)=[]
   .rw[kr d e p];rcases ih (m+szAt ws m) (by omega) u H (λb l o h3=>r b l o (by omega)) with⟨C,B⟩|⟨b,j1,z,F,D,G,A⟩
    .refine .inl ⟨C,λb c f=>?_⟩;rcases kq6 m b with l|l
     .exact B b c (iR h0 i c l)
     have:=g b c f;obtain rfl:m=b:=by omega
     exact p
    refine .inr ⟨b,by omega,z,F,D,G,λq h f o=>?_⟩;rcases kq6 m q with l|l
    .exact A q h (iR h0 i h l) o
    have:=g q h f;obtain rfl:m=q:=by omega
    exact p
   have E:=r m w x t;refine .inr ⟨m,t,u,v,i,pe d e p E,λb c f o=>?_⟩;have:=g b c f;omega
  exact .inl ⟨jZ d,λm s f=>absurd f (zc h0 n j d s)⟩
theorem nA(hob:dp x (m:Int)=0)(h17:j≠17)(hj:∀r∈bH x (m:Int),r≠(j:Int)):wd (aj x (⟨17,f⟩::cr x (m:Int))) j=wd x j:=by
 obtain⟨g,-,-,-,-,q5,q,s,c,p⟩:=iz hob;refine aQ _ _ _ λe b l=>?_;rcases kqt.1 b with rfl|b
 .dsimp only at l;omega
 obtain⟨r,o,r2,h,r4⟩:=c e b;obtain rfl:r=j:=by omega
 have n:=s r (λi d k=>hj _ (kqp d) (by rw[(q i d).1,k]));have a:=dX _ x p e b (by omega) (by omega);rw[o,kqi,n] at a;exact h a
theorem ob_hd(hp:ah x=0)(hob:dp x (m:Int)=0):Hd x (aj x (⟨17,f⟩::cr x (m:Int))):=by
 refine⟨av _ _,λi h1 h2=>nA hob (by omega) λr g e=>?_,λb h=>?_⟩
 .obtain ⟨j,k,-,-,d⟩:=io hp g;have:=d.1;omega
 obtain⟨a,rfl,a1,a2,-⟩:=(b8 hp).1 b h;have c:(bkAt x a).at_=(a:Int):=ab x a;rw[c,kqi];refine⟨nA hob (by omega) λr g e=>?_,nA hob (by omega) λr g e=>?_⟩
 .obtain ⟨j,k,n,l,d⟩:=io hp g;have:=gO hp d h;rw[c] at this;omega
 obtain⟨j,k,n,l,d⟩:=io hp g;have:=gO hp d h;rw[c] at this;omega
structure FxT (ws xs:List Nat) (c:Nat):Prop where
 hd:Hd ws xs
 sl:∀i,i<16->slAt xs i=nwS ws (ia ws 128 128) i
 done:∀m:Nat,Mk ws m->m<c->∀r∈bH ws (m:Int),BG ws xs (ia ws 128 128) r.toNat
 todo:∀m:Nat,Mk ws m->c<=m->∀r∈bH ws (m:Int),wd xs r.toNat=wd ws r.toNat
 off:∀i:Nat,128<=i->(∀m:Nat,Mk ws m->(i:Int) ∉ bH ws (m:Int))->wd xs i=wd ws i
theorem zd(hfs:ei x=0):FxT x (aj x (⟨17,128⟩::dK x)) 128:=by
 obtain⟨-,g,-,-,-,-,-,p,q2,q3,o,-⟩:=jE hfs;have b:∀e∈(⟨17,128⟩::dK x:List En),e.a<19\/112<=e.a/\e.a<128:=λe c=>by
  rcases kqt.1 c with rfl|c
  .exact .inl (by dsimp only;omega)
  exact .inr (p e c).1
 have d:∀i:Nat,128<=i->wd (aj x (⟨17,128⟩::dK x)) i=wd x i:=λi f=>aQ _ _ _ λe c h=>by
  rcases b e c with j|j<;>omega
 refine⟨tV g b,λi f=>?_,λm k j=>?_,λm k j r n=>?_,λi f _=>d i f⟩
 .rw[<-o i f];unfold slAt;rw[iL (by omega)]
 .have:=(oi g k).1.1;omega
 obtain⟨i,rfl,-,-,l⟩:=io g n;rw[kqi];exact d _ (by have:=l.1;omega)
theorem Dp(h0:ah ws=0)(hr0:aW ws 128 128=0)(hx:FxT ws x c)(hm:Mk x m)(hcm:c<=m)(hob:dp x (m:Int)=0)(hno:∀a:Nat,Mk x a->c<=a->a < m->bH x (a:Int)=[]):FxT ws (aj x (⟨17,m+szAt x m⟩::cr x (m:Int))) (m+szAt x m):=by
 have t:=(hx.hd.heap h0).1;have y:Mk ws m:=(hx.hd.mks h0).1 hm;have q:=hx.hd.rs h0;obtain⟨hrx,w⟩:=hx.hd.rd h0 hr0;have hsz:=aG (oi t hm).1.2.2.2.1;refine⟨hx.hd.trans h0 (ob_hd t hob),λi A=>?_,λa l hlt r f=>?_,λa l hle r f=>?_,λi A o=>?_⟩
 .rw[<-hx.sl i A];unfold slAt;rw[nA hob (by omega) λr f k=>?_];obtain⟨i',C,-,-,p⟩:=io t f;have:=p.1;omega
 .have h:r∈bH x (a:Int):=by rw[q];exact f
  have d:Mk x a:=(hx.hd.mks h0).2 l;rcases kjz a m with u|u|u
  .rcases kq6 a c with z|z
   .have b:=hx.done a l z r f;obtain⟨i,rfl,-,-,p⟩:=io h0 f;rw[kqi] at b |-;have e:wd (aj x (⟨17,m+szAt x m⟩::cr x (m:Int))) (a+2+i)=wd x (a+2+i):=nA hob (by have:=p.1;omega) λr s k=>by
     subst k;have:=tE t hm d s h;omega
    unfold BG at b |-;rw[e];exact b
   rw[hno a d z u] at h;cases h
  .subst u;have n:=hx.todo a l hcm r f;obtain⟨g,-,-,-,-,q5,E,-⟩:=iz hob;obtain⟨j,D,B⟩:=kq2 h;obtain⟨C,-,-,v⟩:=E j D;obtain⟨i,rfl,-,-,p⟩:=io h0 f;rw[C] at B;have B:g j=a+2+i:=by omega
   rw[B,w] at v;rw[kqi] at n |-;have e:wd (aj x (⟨17,a+szAt x a⟩::cr x (a:Int))) (a+2+i)=wd (aj x (cr x (a:Int))) (a+2+i):=iL (by have:=p.1;omega);unfold BG at v |-;rw[e,<-n];rw[hx.hd.len] at v;exact v
  have:=iR t hm d u;omega
 .have d:Mk x a:=(hx.hd.mks h0).2 l;have h:r∈bH x (a:Int):=by rw[q];exact f
  have b:=hx.todo a l (by omega) r f;obtain⟨i,rfl,-,-,p⟩:=io h0 f;rw[kqi] at b |-;rw[nA hob (by have:=p.1;omega) λr s k=>?_]
  .exact b
  subst k;have:=tE t hm d s h;omega
 rw[nA hob (by omega) λr f k=>?_]
 .exact hx.off i A o
 subst k;rw[q] at f;exact o m y f
theorem GM(h0:ah ws=0)(hx:FxT ws x c)(hno:∀m:Nat,Mk x m->c<=m->bH x (m:Int)=[]):FxT ws (aj x bN) ws.length:=by
 have p:=(hx.hd.heap h0).1;have l:=hx.hd.rs h0;have b:∀i:Nat,19<=i->wd (aj x bN) i=wd x i:=λi j=>aQ _ _ _ λe f h=>by
  simp only[bN,kqt,kzb,or_false] at f;rcases f with rfl|rfl|rfl<;>(dsimp only at h;omega)
 have hd:Hd x (aj x bN):=tV p λe f=>by
  simp only[bN,kqt,kzb,or_false] at f;rcases f with rfl|rfl|rfl<;>exact .inl (by dsimp only;omega)
 refine⟨hx.hd.trans h0 hd,λi j=>?_,λm g hlt r k=>?_,λm g hle=>?_,λi j d=>(b i (by omega)).trans (hx.off i j d)⟩
 .rw[<-hx.sl i j];unfold slAt;rw[b _ (by omega)]
 .rcases kq6 m c with n|n
  .have a:=hx.done m g n r k;obtain⟨i,rfl,-,-,o⟩:=io h0 k;rw[kqi] at a |-;unfold BG at a |-;rw[b _ (by have:=o.1;omega)];exact a
  have:=hno m ((hx.hd.mks h0).2 g) n;rw[l] at this;rw[this] at k;cases k
 have:=(oi h0 g).1.2.2.1;omega
theorem DL(h0:ah ws=0)(hr0:aW ws 128 128=0):∀n x,(∀v∈x,v<18446744073709551616)->mzS 3 x<=n->I3 x->wd x 17≠0->FxT ws x (wd x 17)->FxT ws (db 3 x).2.2 ws.length:=by
 intro n
 induction n with
 | zero=>intro x _ h a;exfalso;have:=a.p3;unfold mzS at h;rw[if_pos this] at h;omega
 | succ n ih =>
  intro x d h a z s;obtain⟨i,c⟩:=pQ d a;have hd:=fG d a.p3 i;have p3:=a.p3;have e:ag x=kM x (wd x 17):=by unfold ag;rw[if_pos a.ck,if_neg (by omega),if_neg (by omega),if_pos p3];unfold sgFix;rw[if_neg z]
  obtain⟨-,F,E,hph⟩:=cC a.ck;have hb:=(ae _).1 F;obtain⟨⟨l1,A,l3⟩,-⟩:=(bq x).1 E;have p:Bd x (wd x 17):=by
   refine bd_of a.hp ?_;have b:=kP a.ck;unfold cF at b;by_cases g:nM x (wd x 17)=true
   .exact g
   split at b
   .rw[if_pos ⟨p3,z,by simpa using g⟩] at b;cases b
   exact absurd b (by assumption)
  rw[dE d p3 i];rcases CE a.hp _ (wd x 17) (kqa _) A p a.fx with⟨y,C⟩|⟨m,w,m2,m3,k,D,B⟩
  .rw[y] at e;have o:wd (aj x (ag x).2) 16=4:=by rw[e];exact (gz a.ck p3).2.2.2.1
   rw[cB (by omega),if_pos rfl,e];exact GM h0 s C
  rw[D] at e;have f:dp x (m:Int)=0:=a.fx m k.1 k.2 w;have u:=D5 f;have hm128:=(oi a.hp k).1.1;have r:wd (aj x (ag x).2) 17=m+szAt x m:=by rw[e];exact ki (j:=17) (by omega) λe q=>by have:=(u e q).1;omega
  have o:wd (aj x (ag x).2) 16=3:=by rw[e,iL (by omega),aQ _ _ _ λe q=>by have:=(u e q).1;omega];exact p3
  have t:I3 (aj x (ag x).2):=by
   rcases c with c|⟨g1,-⟩
   .exact c
   omega
  have l:=(pm _ _ (dr d i) (kqa _) t).1;rw[if_pos l];refine ih _ (dr d i) (by omega) t (by omega) ?_;rw[r,e];exact Dp h0 hr0 s k w f B
theorem E4(ho:∀v∈x,v<18446744073709551616)(h3:I3 x)(z:wd x 17=0):FxT x (db 3 x).2.2 x.length:=by
 obtain⟨f,b⟩:=pQ ho h3;have p3:=h3.p3;have a:=h3.sl z;have d:=h3.rd;have e:ag x=(0,⟨17,128⟩::dK x):=by unfold ag;rw[if_pos h3.ck,if_neg (by omega),if_neg (by omega),if_pos p3];unfold sgFix;rw[if_pos z,if_pos a]
 obtain⟨h256,-,-,-,-,-,-,k,-⟩:=jE a;have h:wd (aj x (ag x).2) 17=128:=by rw[e];exact ki (j:=17) (by omega) λe g=>by have:=(k e g).1;omega
 have h16:wd (aj x (ag x).2) 16=3:=by rw[e,iL (by omega),aQ _ _ _ λe g=>by have:=(k e g).1;omega];exact p3
 have i:I3 (aj x (ag x).2):=by
  rcases b with b|⟨g1,-⟩
  .exact b
  omega
 have c:=(pm _ _ (dr ho f) (kqa _) i).1;rw[dE ho p3 f,if_pos c];refine DL h3.hp d _ _ (dr ho f) (kqa _) i (by omega) ?_;rw[h,e];exact zd a
def MvW (ws xs:List Nat) (m t:Nat):Prop:=wd xs t=da { ar (wd ws m) with mark:=false }/\wd xs (t+1)=0/\∀j,2<=j->j<szAt ws m->wd xs (t+j)=wd ws (m+j)
structure SlT (ws xs:List Nat) (k F T:Nat):Prop where
 len:xs.length=ws.length
 low:∀i,19<=i->i<128->wd xs i=wd ws i
 up:∀i,T<=i->128<=i->wd xs i=wd ws i
 kle:k<=(af ws).length
 bl:blocks ws F=some ((af ws).drop k)
 to:aI ((af ws).take k) 128=(T:Int)
 mv:∀p∈az ((af ws).take k) 128,∃m t:Nat,p=((m:Int),(t:Int))/\MvW ws xs m t/\128<=t/\t+szAt ws m<=T/\2<=szAt ws m
theorem unlive(h:b.mark=false):aV b=false:=by unfold aV;rw[h];simp
theorem ti:∀ {l:List Bk} {s:Int},eZ l l.length->aI l s=s/\az l s=[]:=by
 intro l
 induction l with
 | nil=>intro s _;exact⟨rfl,rfl⟩
 | cons b l ih =>
  intro s h;have c:b.mark=false:=h 0 (by simp);obtain⟨e,a⟩:=ih (s:=s) λj d=>by have:=h (j+1) (by simpa using d);rwa [ix] at this
  simp only[aI,az,unlive c];exact⟨e,a⟩
theorem sy{l:List Bk}(hk:k<=l.length)(h:eZ l k):eZ (l.take k) (l.take k).length:=by intro j a;rw[kq3] at a;have:=h j (by omega);unfold gk at this |-;rw[kkr,if_pos (by omega)];exact this
theorem Ca(hck:aw x=0)(p4:wd x 16=4)(hnx:a9 x ((wd x 17:Nat):Int)=0)(h0:(ag x).1=0)(em:ie x ((wd x 17:Nat):Int)=bkAt x m):ag x=(0,⟨17,m+szAt x m⟩::⟨18,wd x 18+szAt x m⟩::jM x m (wd x 18))/\dA x (m:Int) ((wd x 18:Nat):Int)=0:=by
 have e:ag x=sgSld x:=by unfold ag;rw[if_pos hck,if_neg (by omega),if_neg (by omega),if_neg (by omega),if_pos p4]
 rw[e] at h0 |-;have a:dA x (m:Int) ((wd x 18:Nat):Int)=0:=by
  by_cases b:dA x (m:Int) ((wd x 18:Nat):Int)=0
  .exact b
  unfold sgSld at h0;rw[if_pos hnx,em,ab,if_neg b] at h0;exact absurd h0 b
 refine⟨?_,a⟩;unfold sgSld;rw[if_pos hnx,em,ab,if_pos a,bC,show ((m:Int)+((szAt x m:Nat):Int)).toNat=m+szAt x m by omega,show (((wd x 18:Nat):Int)+((szAt x m:Nat):Int)).toNat=wd x 18+szAt x m by omega];unfold iW;rw[if_pos a,kqi,kqi]
theorem C6{u:Nat}(hin:u+szAt x a<=x.length)(h19:19<=i):wd (aj x (⟨17,f⟩::⟨18,u+szAt x a⟩::jM x a u)) i=if u<=i/\i<u+szAt x a then (if i=u then da { ar (wd x a) with mark:=false } else if i=u+1 then 0 else wd x (a+(i-u))) else wd x i:=by
 rw[iL (by omega),iL (by omega),xC hin,qY _ _ _ _ (by rw[gh];exact hin),gh];by_cases h:u<=i/\i<u+szAt x a
 .rw[if_pos h,if_pos h,jV _ _ _ (by omega),kq8];by_cases b:i=u
  .rw[if_pos (by omega),if_pos b]
  rw[if_neg (by omega),if_neg b];by_cases c:i=u+1
  .rw[if_pos (by omega),if_pos c]
  rw[if_neg (by omega),if_neg c]
 rw[if_neg h,if_neg h]
theorem DO(hx:SlT ws x k F T)(h128:128<=T)(hTF:T<=F)(hn:a9 x (F:Int)=0)(e:ie x (F:Int)=bkAt x m):∃k',SlT ws (aj x (⟨17,m+szAt x m⟩::⟨18,T+szAt x m⟩::jM x m T)) k' (m+szAt x m) (T+szAt x m)/\F<=m/\az ((af ws).take k') 128=az ((af ws).take k) 128++[((m:Int),(T:Int))]:=by
 obtain⟨-,-,-,b,Y,A,p2,p3,p4,p5,p6,M,O,l,q1,-,-,d,q2,S,V⟩:=fu hn;have em:b=m:=by have:=Y.symm.trans e;have R:=congrArg Bk.at_ this;rw[ab,ab] at R;omega
 subst em;have c:∀i,F<=i->wd x i=wd ws i:=λi K=>hx.up i (by omega) (by omega);have w:blocks ws F=blocks x F:=(dF hx.len F λj L=>c j L).symm;rw[hx.bl,q1] at w;obtain rfl:=Option.some.inj w;rw[kzj] at q2;have q:k+d<(af ws).length:=by omega
 have C:blocks ws b=some (((af ws).drop k).drop d):=by rw[<-V];exact (dF hx.len b λj L=>c j (by omega)).symm
 have z:szAt x b=szAt ws b:=by unfold szAt;rw[c b A]
 have H:bkAt x b=bkAt ws b:=by unfold bkAt;rw[c b A,c (b+1) (by omega)]
 obtain⟨f1,Z,f3,N⟩:=cj C (by rw[<-hx.len];omega);rw[kxg,kxg] at N;have r:(af ws)[k+d]=bkAt ws b:=by rw[<-Z];unfold gk;rw[kxg,kxy,kz8,kql q,kq8]
 have v:(af ws).take (k+d+1)=(af ws).take k++(((af ws).drop k).take d++[bkAt ws b]):=by rw[kqn q,r,List.take_add,kxs]
 have B:=sy (l:=(af ws).drop k) (k:=d) (by rw[kzj];omega) S;obtain⟨P,X⟩:=ti (s:=(T:Int)) B;have y:aV (bkAt ws b)=true:=by rw[H] at M O;unfold aV;rw[M,O];rfl
 have o:aI ((af ws).take (k+d+1)) 128=((T+szAt x b:Nat):Int):=by rw[v,gw,gw,hx.to,P];simp only[aI,y,if_true];rw[bC,z];omega
 have g:az ((af ws).take (k+d+1)) 128=az ((af ws).take k) 128++[((b:Int),(T:Int))]:=by rw[v,fm,fm,hx.to,P,X];simp only[az,y,if_true,kzv];rw[ab]
 have D:T+szAt x b<=x.length:=by omega
 have h:=λi (K:19<=i)=>C6 (x:=x) (a:=b) (f:=b+szAt x b) (u:=T) (i:=i) D K;refine⟨k+d+1,⟨?_,λi G E=>?_,λi G E=>?_,by omega,?_,o,λp n=>?_⟩,A,g⟩
 .rw[av];exact hx.len
 .rw[h i G,if_neg (by omega)];exact hx.low i G E
 .rw[h i (by omega),if_neg (by omega)];exact hx.up i (by omega) E
 .rw[z,N,kj2]
 rw[g] at n;rcases kzu.1 n with n|n
 .obtain ⟨a,t,rfl,⟨U,w2,w3⟩,W,t2,Q⟩:=hx.mv p n;refine⟨a,t,rfl,⟨?_,?_,λj J I=>?_⟩,W,by omega,Q⟩
  .rw[h _ (by omega),if_neg (by omega)];exact U
  .rw[h _ (by omega),if_neg (by omega)];exact w2
  rw[h _ (by omega),if_neg (by omega)];exact w3 j J I
 rw[kqx] at n;subst n;refine⟨b,T,rfl,⟨?_,?_,λj J I=>?_⟩,h128,by omega,by omega⟩
 .rw[h _ (by omega),if_pos (by omega),if_pos rfl,c b A]
 .rw[h _ (by omega),if_pos (by omega),if_neg (by omega),if_pos rfl]
 rw[h _ (by omega),if_pos (by omega),if_neg (by omega),if_neg (by omega),show T+j-T=j by omega];exact c _ (by omega)
structure SlE (ws xs:List Nat) (T:Nat):Prop where
 len:xs.length=ws.length
 low:∀i,19<=i->i<128->wd xs i=wd ws i
 up:∀i,T<=i->128<=i->wd xs i=wd ws i
 to:aI (af ws) 128=(T:Int)
 mv:∀p∈az (af ws) 128,∃m t:Nat,p=((m:Int),(t:Int))/\MvW ws xs m t/\128<=t/\t+szAt ws m<=T/\2<=szAt ws m
theorem FV(h0:ah ws=0)(hx:SlT ws x k F T)(h128:128<=T)(hTF:T<=F)(hFl:F<=ws.length)(hF2:F%2=0)(hn:a9 x (F:Int)≠0):SlE ws x T:=by
 have b:∀i,F<=i->wd x i=wd ws i:=λi hi=>hx.up i (by omega) (by omega);have e:blocks x F=some ((af ws).drop k):=by rw[dF hx.len F λj a=>b j a];exact hx.bl
 have hz:(eG ((af ws).drop k)).length=0:=by
  rcases kjr (eG ((af ws).drop k)).length with c|c
  .exact c
  obtain⟨m,z,l',n,-⟩:=nn (by rw[hx.len];exact (ay h0).1) (by omega) (by rw[hx.len];exact hFl) hF2 e c;exact absurd n hn
 have d:eZ ((af ws).drop k) ((af ws).drop k).length:=by
  intro j a;unfold gk;rw[kql a,kq8];cases g:(((af ws).drop k)[j]).mark with
  | false=>rfl
  | true =>
   have:(((af ws).drop k)[j]).at_∈eG ((af ws).drop k):=by unfold eG;exact kzz.2 ⟨_,kzm.2 ⟨kqp a,g⟩,rfl⟩
   have:=List.length_pos_of_mem this;omega
 obtain⟨l,h⟩:=ti (s:=(T:Int)) d;refine⟨hx.len,hx.low,hx.up,?_,λp f=>hx.mv p ?_⟩
 .conv=>lhs;rw[<-kz9 k (af ws)]
  rw[gw,hx.to,l]
 rw[<-kz9 k (af ws),fm,hx.to,h,kzr] at f;exact f
theorem Fi(h0:ah ws=0):∀n x k,(∀v∈x,v<18446744073709551616)->mzS 4 x<=n->aw x=0->wd x 16=4->SlT ws x k (wd x 17) (wd x 18)->(db 4 x).1=0/\wd (db 4 x).2.2 16=4/\aw (db 4 x).2.2=0/\a9 (db 4 x).2.2 ((wd (db 4 x).2.2 17:Nat):Int)≠0/\SlE ws (db 4 x).2.2 (wd (db 4 x).2.2 18):=by
 intro n
 induction n with
 | zero=>intro x k _ h _ c;exfalso;unfold mzS at h;rw[if_pos c] at h;omega
 | succ n ih =>
  intro x k i h b c l;obtain⟨-,A,J,p⟩:=cC b;obtain⟨⟨l1,l2,l3⟩,-⟩:=(bq x).1 J;have d:lz (wd x 17)=true/\lz (wd x 18)=true/\wd x 18<=wd x 17:=by
   rcases (cG _ _ _).1 p with t|t|t
   .exact t.2
   .omega
   omega
  have I:=(aT _).1 d.1;have z:=(aT _).1 d.2.1;by_cases a:a9 x ((wd x 17:Nat):Int)=0
  .obtain ⟨g,H,s⟩:=Dl i b c a;obtain⟨-,-,-,m,B,m1,-⟩:=fu a;obtain⟨e,hmv⟩:=Ca b c a g B;obtain⟨y,u,hFm,-⟩:=DO l z.1 d.2.2 a B;have hd:=fG i c g;have w:wd (aj x (ag x).2) 17=m+szAt x m:=by
    rw[e];have E:=(ae _).1 A;refine ki (j:=17) (by omega) λe f=>?_;rcases kqt.1 f with rfl|f
    .dsimp only;omega
    obtain⟨q,C,rfl⟩:=kq2 f;rw[ge];omega
   have o:wd (aj x (ag x).2) 18=wd x 18+szAt x m:=by rw[e,iL (by omega)];have E:=(ae _).1 A;refine ki (j:=18) (by omega) λe f=>?_;obtain⟨q,C,rfl⟩:=kq2 f;rw[ge];omega
   have r:SlT ws (aj x (ag x).2) y (wd (aj x (ag x).2) 17) (wd (aj x (ag x).2) 18):=by rw[w,o,e];exact u
   obtain⟨F,D⟩:=ih _ y (dr i g) (by omega) s H r;rw[dE i c g,if_pos F];exact⟨rfl,D⟩
  have G:(ag x).1=6:=by unfold ag;rw[if_pos b,if_neg (by omega),if_neg (by omega),if_neg (by omega),if_pos c];unfold sgSld;rw[if_neg a]
  rw[kT c G];exact⟨rfl,c,b,a,FV h0 l z.1 d.2.2 (by rw[<-l.len];omega) I.2.2 a⟩
theorem xg(h0:ah x=0):SlT x x 0 128 128:=⟨rfl,λ_ _ _=>rfl,λ_ _ _=>rfl,kqy _,(ga h0).2.2.2,rfl,λp a=>by simp[az] at a⟩
noncomputable def v1 (x:List Nat):List Nat:=(db 1 x).2.2
noncomputable def v2 (x:List Nat):List Nat:=(db 2 (v1 x)).2.2
noncomputable def v3 (x:List Nat):List Nat:=(db 3 (v2 x)).2.2
noncomputable def v4 (x:List Nat):List Nat:=(db 4 (v3 x)).2.2
noncomputable def vE (x:List Nat):List Nat:=aj (v4 x) (dm (v4 x))
theorem end_rs(ho:∀v∈x,v<18446744073709551616)(hck:aw x=0)(p4:wd x 16=4)(hnx:a9 x ((wd x 17:Nat):Int)≠0):rsE x=(0,[dm x],aj x (dm x)):=by
 have a:=EC hck p4 hnx;have i:(ag x).1=6:=by unfold ag;rw[if_pos hck,if_neg (by omega),if_neg (by omega),if_neg (by omega),if_pos p4];unfold sgSld;rw[if_neg hnx]
 have d:cJ x=(0,false,dm x):=by unfold cJ;rw[if_pos i,if_neg (by omega),a]
 obtain⟨os,-,-,-,e,-,-,g,-⟩:=zm a;have f:=(t6 a).2;have c:aw (aj x (dm x))=0:=by unfold aw;rw[if_pos g,if_neg (by omega),if_neg (by omega)];exact e
 have h:(ag (aj x (dm x))).1=6:=by unfold ag;rw[if_pos c,if_neg (by omega),if_neg (by omega),if_neg (by omega),if_neg (by omega)]
 have b:cJ (aj x (dm x))=(0,true,[]):=by unfold cJ;rw[if_pos h,if_pos f]
 rw[iK ho (by rw[d]) (by rw[d]),d];dsimp only;rw[jH (by rw[b]) (by rw[b]),if_pos rfl]
structure CpF (x:List Nat):Prop where
 e1:(db 1 x).1=0
 e2:(db 2 (v1 x)).1=0
 e3:(db 3 (v2 x)).1=0
 e4:(db 4 (v3 x)).1=0
 o1:∀v∈v1 x,v<18446744073709551616
 o2:∀v∈v2 x,v<18446744073709551616
 o3:∀v∈v3 x,v<18446744073709551616
 o4:∀v∈v4 x,v<18446744073709551616
 c1:aw (v1 x)=0
 c2:aw (v2 x)=0
 c3:aw (v3 x)=0
 c4:aw (v4 x)=0
 p1:wd (v1 x) 16=2
 p2:wd (v2 x) 16=3
 p3:wd (v3 x) 16=4
 p4:wd (v4 x) 16=4
 n1:1<=(db 1 x).2.1.length
 n2:1<=(db 2 (v1 x)).2.1.length
 n3:1<=(db 3 (v2 x)).2.1.length
 h1:ah (v1 x)=0
 h2:ah (v2 x)=0
 h3:ah (v3 x)=0
 r1:RmL x (v1 x)
 s1:HsL x (v1 x)
 m1:eG (af (v1 x))=dU x
 k1:aA (v1 x)=0
 r2:NxL (v1 x) (v2 x)
 d2:aW (v2 x) 128 128=0
 z2:wd (v2 x) 17=0
 r3:FxT (v2 x) (v3 x) (v2 x).length
 r4:SlE (v3 x) (v4 x) (wd (v4 x) 18)
 l4:∀i,i<16\/19<=i/\i<112->wd (v4 x) i=wd x i
 nx:a9 (v4 x) ((wd (v4 x) 17:Nat):Int)≠0
 en:el (v4 x)=0
 all:rsE x=(0,(db 1 x).2.1++((db 2 (v1 x)).2.1++((db 3 (v2 x)).2.1++((db 4 (v3 x)).2.1++[dm (v4 x)]))),vE x)
theorem kY(ho:∀v∈x,v<18446744073709551616)(e:(db p x).1=0){L:List (List En)}(h:rsE (db p x).2.2=(0,L,y)):rsE x=(0,(db p x).2.1++L,y):=by have:=(AT (p:=p) _ x ho (kqa _)).2 e;unfold lP at this;rw[this,h,if_pos rfl]
theorem cpF(ho:∀v∈x,v<18446744073709551616)(p1:wd x 16=1)(hck:aw x=0)(hrc:aA x=0):CpF x:=by
 obtain⟨m,k,P,W⟩:=uw _ x ho (kqa _) p1 hck hrc;obtain⟨G,M,g,L,C⟩:=CZ _ x ho (kqa _) p1 hck hrc;have c:=(kJ (p:=1) _ x ho (kqa _) m).1;have N:=λi a=>oN (p:=1) (i:=i) a _ x ho (kqa _) m
 change ∀v∈v1 x,_ at c
 change wd (v1 x) 16=2 at k
 change cu (v1 x)=0 at P
 change RmL x (v1 x) at G
 change HsL x (v1 x) at M
 change aA (v1 x)=0 at g
 change dU (v1 x)=_ at L
 change eG (af (v1 x))=_ at C
 change ∀i,_->wd (v1 x) i=_ at N
 have l:=(aC g).1;have D:aw (v1 x)=0:=uU P (by omega) (by omega) l;obtain⟨f,y,j,O,X,I,R⟩:=t7 _ (v1 x) c (kqa _) k D;obtain⟨q,H⟩:=He _ (v1 x) c (kqa _) k D;have b:=(kJ (p:=2) _ (v1 x) c (kqa _) f).1;have S:=λi a=>oN (p:=2) (i:=i) a _ (v1 x) c (kqa _) f
 change ∀v∈v2 x,_ at b
 change wd (v2 x) 16=3 at y
 change wd (v2 x) 17=0 at j
 change cu (v2 x)=0 at O
 change aW (v2 x) 128 128=0 at I
 change ah (v2 x)=0 at R
 change NxL (v1 x) (v2 x) at q
 change aD (v2 x)=[] at H
 change ∀i,_->wd (v2 x) i=_ at S
 obtain⟨-,z,F⟩:=q.same l;rw[g] at z;rw[L] at F;have B:aL (v2 x)=[]:=Fp z (by rw[(q.mkd l).1,C,F]);have s:=AJ b O y j z B H;obtain⟨n,w,E,J,u,h,U⟩:=pm _ (v2 x) b (kqa _) s;have K:=E4 b s j;have d:=(kJ (p:=3) _ (v2 x) b (kqa _) n).1;have Q:=λi a=>oN (p:=3) (i:=i) a _ (v2 x) b (kqa _) n
 change ∀v∈v3 x,_ at d
 change wd (v3 x) 16=4 at w
 change wd (v3 x) 17=128 at E
 change wd (v3 x) 18=128 at J
 change aw (v3 x)=0 at u
 change ah (v3 x)=0 at h
 change FxT (v2 x) (v3 x) _ at K
 change ∀i,_->wd (v3 x) i=_ at Q
 obtain⟨o,A,t,r,Z⟩:=Fi h _ (v3 x) 0 d (kqa _) u w (by rw[E,J];exact xg h);have T:=(kJ (p:=4) _ (v3 x) d (kqa _) o).1;have w4:=λi a=>oN (p:=4) (i:=i) a _ (v3 x) d (kqa _) o;have e:=end_rs T t A r;have Y:=kY d o e;have V:=kY b n Y;have q2:=kY c f V;have q1:=kY ho m q2;exact⟨m,f,n,o,c,b,d,T,D,s.ck,u,t,k,y,w,A,W,X,U,l,R,h,G,M,C,g,q,I,j,K,Z,λi a=>(w4 i a).trans ((Q i a).trans ((S i a).trans (N i a))),r,EC t A r,q1⟩
noncomputable def mkS (x:List Nat) (b:Bk):Bk:={ b with mark:=eQ x b }
noncomputable def cpL (x:List Nat):List Bk:=(af x).map (mkS x)
noncomputable def cpM (x:List Nat):List (Int × Int):=az (cpL x) 128
def FxV (M:List (Int × Int)) (v u:Nat):Prop:=(v=0/\u=0)\/(0<v/\gM M (v:Int)=some (u:Int))
theorem Av(h0:ah x=0):Mk x m↔(m:Int)∈eG (af x):=by
 unfold eG;rw[kzz];constructor
 .rintro ⟨f,d⟩;exact⟨bkAt x m,kzm.2 ⟨f,d⟩,ab x m⟩
 rintro ⟨c,g,e⟩;obtain⟨b,h⟩:=kzm.1 g;obtain⟨a,rfl,-⟩:=(b8 h0).1 c b;rw[ab] at e;obtain rfl:a=m:=by omega
 exact⟨b,h⟩
theorem xO(h:aA x=0)(hm:eG (af x)=dU x)(hb:b∈af x):b.mark=eQ x b:=by
 obtain⟨d,-,-⟩:=aC h;obtain⟨a,rfl,a1,a2,g,a4⟩:=(b8 d).1 b hb;rw[kzq,fe g];constructor
 .intro i;have c:(a:Int)∈eG (af x):=(Av d).1 ⟨hb,i⟩;rw[hm,fY h] at c;obtain⟨j,e,-,f⟩:=c;obtain rfl:a=j:=by omega
  exact f
 intro f;have c:(a:Int)∈dU x:=(fY h _).2 ⟨a,rfl,g,f⟩;rw[<-hm,<-Av d] at c;exact c.2
theorem end_nx(xs:List Nat):∀(l:List Bk) (s:Int),aI (l.map (nxB xs)) s=aI l s:=by
 intro l
 induction l with
 | nil=>intro s;rfl
 | cons b l ih =>intro s;have e:aV (nxB xs b)=aV b:=rfl;have a:(nxB xs b).size=b.size:=rfl;simp only[kx9,aI,e,a,ih]
theorem Eo(h0:ah ws=0)(ho:fT ws m)(r:Int):r∈bH ws (m:Int)↔∃i:Nat,r=((m+2+i:Nat):Int)/\(flds ws m)[i]? = some 3:=by
 obtain⟨k,g,e,-⟩:=ho.2.2.2.2.2.2;have b:bkAt ws m∈af ws:=by rw[<-e];exact kqp g
 have f:aJ ws 128=af ws:=(ga h0).2.1;obtain⟨b2,c⟩:=mA (l:=af ws) (a:=(m:Int)) b (ab ws m) ho.2.2.2.2.1;obtain⟨h,o,f3⟩:=jk c;obtain rfl:=px (b8 h0).2 h b (by rw[o,ab]);have j:bH ws (m:Int)=fv ws (bkAt ws m):=by unfold bH;rw[if_pos h0,f,c]
 have n:t4 ws (bkAt ws m)=flds ws m:=rfl;rw[j];unfold fv;rw[kt,n,ab];constructor
 .rintro ⟨i,-,d,i3⟩;exact⟨i,by omega,d⟩
 rintro ⟨i,i1,d⟩;exact⟨i,(kq7.1 d).1,d,by omega⟩
theorem in_obj(h0:ah ws=0)(ho:fT ws m)(h1:2<=j)(h2:j<szAt ws m)(hb:b∈af ws):b.at_≠((m+j:Nat):Int)/\b.at_+1≠((m+j:Nat):Int):=by have:=gO h0 ho hb;omega
section
variable {x:List Nat}
theorem CpF.bl1(F:CpF x)(hrc:aA x=0):af (v1 x)=cpL x:=by
 obtain⟨h,g,d,g4,c⟩:=F.r1.same hrc;rw[c];unfold cpL;refine kzy λb f=>?_;have a:mkB (v1 x) b∈af (v1 x):=by rw[c];exact kj4 f
 have:=xO h (by rw[F.m1,g]) a;have e:eQ (v1 x) (mkB (v1 x) b)=eQ x b:=by unfold eQ;rw[d];rfl
 rw[e] at this;unfold mkB mkS at *;dsimp only at this;rw[this]
theorem CpF.bl2(F:CpF x):af (v2 x)=(af (v1 x)).map (nxB (v2 x)):=((F.r2.ev F.h1).heap F.h1).2
theorem CpF.bl3(F:CpF x):af (v3 x)=af (v2 x):=(F.r3.hd.heap F.h2).2
theorem CpF.mvs(F:CpF x)(hrc:aA x=0):az (af (v2 x)) 128=cpM x/\aI (af (v2 x)) 128=aI (cpL x) 128/\ia (v2 x) 128 128=cpM x:=by
 have a:az (af (v2 x)) 128=cpM x:=by rw[F.bl2,ui,F.bl1 hrc];rfl
 refine⟨a,by rw[F.bl2,end_nx,F.bl1 hrc],?_⟩;obtain⟨-,-,l,b,-,c⟩:=bQ F.d2;rw[show ((128:Int)).toNat=128 from rfl,(ga F.h2).2.2.2] at b;obtain rfl:=Option.some.inj b;rw[c,a]
theorem CpF.mk2(F:CpF x)(hrc:aA x=0):Mk (v2 x) m↔Rch x m:=by
 rw[Av F.h2,(F.r2.mkd F.h1).1,F.m1,fY hrc];constructor
 .rintro ⟨a,e,-,h⟩;obtain rfl:m=a:=by omega
  exact h
 intro h;exact⟨m,rfl,rg ((aC hrc).2.2 m h),h⟩
theorem cp_fst(hrc:aA x=0)(F:CpF x):(cpM x).map Prod.fst=dU x:=by have h:=lv (jq (ga F.h1).2.2.2 (by omega)) 128;rw[F.m1,F.bl1 hrc] at h;exact h.symm
theorem pZ(hrc:aA x=0)(h:Rch x m):fT x m:=by obtain⟨b,-,-,-,a⟩:=pw hrc h;exact a
theorem CpF.sz(F:CpF x)(hrc:aA x=0)(h:Rch x m):szAt (v3 x) m=szAt x m/\fT (v2 x) m/\flds (v2 x) m=flds x m/\(wd (v3 x) m=wd (v1 x) m):=by
 have c:=(F.mk2 hrc).2 h;have a:=pZ hrc h;have f:=(aC hrc).1;have d:=(aC hrc).2.2 m h;have b:=(F.r3.hd.blk _ c.1).1;rw[ab,kqi] at b;have e:wd (v2 x) m=wd (v1 x) m:=F.r2.even F.h1 (by have:=a.1;omega) a.2.1;refine⟨?_,(oi F.h2 c).1,?_,b.trans e⟩
 .rw[<-F.r1.szAt m (by have:=a.1;omega)];unfold szAt;rw[b,e]
 rw[F.r2.flds F.h1 (by rw[F.r1.tb f];exact d),F.r1.flds f d]
theorem CpF.in_(F:CpF x)(hrc:aA x=0)(h:Rch x m)(h1:2<=j)(h2:j<szAt x m):wd (v2 x) (m+j)=wd x (m+j):=by
 have f:=pZ hrc h;have g:=(aC hrc).1;have d:=λb c=>in_obj (b:=b) g f h1 h2 c;have h128:=f.1;have i:wd (v2 x) (m+j)=wd (v1 x) (m+j):=by
  rcases F.r2.at_ (m+j) (by omega) with a|⟨b,c,a⟩
  .exact a
  rw[(F.r1.heap g).2] at c;obtain⟨k,e,rfl⟩:=kzz.1 c;exact absurd a.symm (d k e).2
 rw[i];rcases F.s1 (m+j) (by omega) with a|⟨b,c,a⟩
 .exact a
 exact absurd a.symm (d b c).1
structure CpD (w z:List Nat) (M:List (Int × Int)) (T:Nat):Prop where
 len:z.length=w.length
 low:∀i,i<16\/19<=i/\i<112->wd z i=wd w i
 line:wd z 16=0/\wd z 17=0/\wd z 18=0
 sl:∀i,i<16->slAt z i=nwS w M i
 obj:∀p∈M,∃m t:Nat,p=((m:Int),(t:Int))/\Rch w m/\128<=t/\t+szAt w m<=T/\2<=szAt w m/\wd z t=da { ar (wd w m) with mark:=false }/\wd z (t+1)=0/\(∀i,(flds w m)[i]? = some 3->FxV M (wd w (m+2+i)) (wd z (t+2+i)))/\∀i,2+i<szAt w m->(flds w m)[i]? ≠ some 3->wd z (t+2+i)=wd w (m+2+i)
 to:128<=T/\T<=w.length/\T%2=0
 free:T<w.length->wd z T=da (eh (w.length-T))/\wd z (T+1)=0
 rest:∀i,T+2<=i->(∀b∈af w,(i:Int)≠b.at_/\(i:Int)≠b.at_+1)->(∀m,Rch w m->¬ (m<=i/\i<m+szAt w m))->wd z i=wd w i
theorem okFx_v{M:List (Int × Int)}{r:Nat}(h:BG ws y M r):FxV M (wd ws r) (wd y r):=by
 rcases h with h|⟨b,t,m,a,c,-⟩
 .exact .inl h
 exact .inr ⟨b,by rw[c];exact a⟩
theorem CpF.desc(F:CpF x)(hrc:aA x=0):CpD x (vE x) (cpM x) (aI (cpL x) 128).toNat/\aI (cpL x) 128=((aI (cpL x) 128).toNat:Int):=by
 have h0:=(aC hrc).1;obtain⟨m1,m2,O⟩:=F.mvs hrc;obtain⟨hs,-,-,-,i5,H,-,Y⟩:=iA F.en;have I:=(aT _).1 i5;have hTe:aI (cpL x) 128=((wd (v4 x) 18:Nat):Int):=by rw[<-m2,<-F.bl3];exact F.r4.to
 have V:(aI (cpL x) 128).toNat=wd (v4 x) 18:=by omega
 rw[V];obtain⟨T,w⟩:=xq (wd (v4 x) 18);have n:(v4 x).length=x.length:=by rw[F.r4.len,F.r3.hd.len,F.r2.len,F.r1.len]
 have c:=AD F.en;rw[Y,w,n] at c
 change ∀j,wd (vE x) j=_ at c
 have r4:=F.r4;rw[w] at H I r4 |-;rw[n] at H;have l:∀i,19<=i->i<T->wd (vE x) i=wd (v4 x) i:=λi h1 h2=>by
  rw[c,if_neg (by omega),if_neg (by omega),if_neg (by omega)]
 refine⟨⟨?_,λi f=>?_,⟨by rw[c,if_pos (by omega)],by rw[c,if_pos (by omega)],by rw[c,if_pos (by omega)]⟩,λi f=>?_,λp R=>?_,⟨I.1,H,I.2.2⟩,λk=>⟨?_,?_⟩,λi f N X=>?_⟩,by omega⟩
 .unfold vE;rw[av,n]
 .rw[c,if_neg (by omega),if_neg (by omega),if_neg (by omega)];exact F.l4 i f
 .have C:slAt (vE x) i=slAt (v3 x) i:=by unfold slAt;rw[l _ (by omega) (by omega),r4.low _ (by omega) (by omega)]
  have g:slAt (v2 x) i=slAt x i:=by rw[F.r2.slAt F.h1 f,F.r1.slAt f]
  rw[C,F.r3.sl i f,O];unfold nwS;rw[g]
 .have G:p∈az (af (v3 x)) 128:=by rw[F.bl3,m1];exact R
  obtain⟨m,t,rfl,⟨w1,w2,L⟩,t1,S,P⟩:=r4.mv p G;have d:Rch x m:=by
   have:(m:Int)∈(cpM x).map Prod.fst:=kzz.2 ⟨_,R,rfl⟩;rw[cp_fst hrc F,fY hrc] at this;obtain⟨a,e,-,h⟩:=this;obtain rfl:m=a:=by omega
   exact h
  obtain⟨s1,J,M,Z⟩:=F.sz hrc d;have v:=pZ hrc d;have z:=v.1;rw[s1] at L S P;refine⟨m,t,rfl,d,t1,S,P,?_,?_,λi E=>?_,λi h1 E=>?_⟩
  .rw[l _ (by omega) (by omega),w1,Z,F.r1.raw m (by omega)]
  .rw[l _ (by omega) (by omega),w2]
  .have u:((m+2+i:Nat):Int)∈bH (v2 x) (m:Int):=(Eo F.h2 J _).2 ⟨i,rfl,by rw[M];exact E⟩;obtain⟨Q,C,-,g,-⟩:=io F.h2 u;have B:szAt (v2 x) m=szAt x m:=by have g:wd (v2 x) m=wd (v1 x) m:=F.r2.even F.h1 (by omega) v.2.1;rw[<-F.r1.szAt m (by omega)];unfold szAt;rw[g]
   have k:2+i<szAt x m:=by omega
   have hd:=F.r3.done m ((F.mk2 hrc).2 d) (by have:=J.2.2.1;omega) _ u;rw[kqi,O] at hd;have:=okFx_v hd;rw[show m+2+i=m+(2+i) by omega,F.in_ hrc d (by omega) k] at this;rw[show m+2+i=m+(2+i) by omega,show t+2+i=t+(2+i) by omega,l _ (by omega) (by omega),L _ (by omega) k];exact this
  rw[show m+2+i=m+(2+i) by omega,show t+2+i=t+(2+i) by omega,l _ (by omega) (by omega),L _ (by omega) (by omega),F.r3.off _ (by omega) λo r u=>?_,F.in_ hrc d (by omega) h1];have A:=(F.mk2 hrc).2 d;obtain⟨Q,C,-,g,-⟩:=io F.h2 u;have B:szAt (v2 x) m=szAt x m:=by have g:wd (v2 x) m=wd (v1 x) m:=F.r2.even F.h1 (by omega) v.2.1;rw[<-F.r1.szAt m (by omega)];unfold szAt;rw[g]
  have U:m=o:=by
   rcases kjz m o with y|y|y
   .have:=iR F.h2 A r y;omega
   .exact y
   have:=iR F.h2 r A y;omega
  subst U;obtain⟨i2,W,D⟩:=(Eo F.h2 J _).1 u;obtain rfl:i=i2:=by omega
  rw[M] at D;exact E D
 .rw[c,if_neg (by omega),if_pos ⟨k,rfl⟩]
 .rw[c,if_neg (by omega),if_neg (by omega),if_pos ⟨k,rfl⟩]
 have D:wd (vE x) i=wd (v4 x) i:=by rw[c,if_neg (by omega),if_neg (by omega),if_neg (by omega)]
 rw[D,r4.up i (by omega) (by omega),F.r3.off i (by omega) λo r u=>?_]
 .have g:wd (v2 x) i=wd (v1 x) i:=by
   rcases F.r2.at_ i (by omega) with s|⟨b,q,s⟩
   .exact s
   rw[(F.r1.heap h0).2] at q;obtain⟨b0,K,rfl⟩:=kzz.1 q;exact absurd s (N b0 K).2
  rw[g];rcases F.s1 i (by omega) with s|⟨b,q,s⟩
  .exact s
  exact absurd s (N b q).1
 obtain⟨Q,C,-,g,W⟩:=io F.h2 u;have d:=(F.mk2 hrc).1 r;have v:=pZ hrc d;have z:=v.1;have B:szAt (v2 x) o=szAt x o:=by have g:wd (v2 x) o=wd (v1 x) o:=F.r2.even F.h1 (by omega) v.2.1;rw[<-F.r1.szAt o (by omega)];unfold szAt;rw[g]
 exact X o d ⟨by omega,by omega⟩
end
end Go.Proofs.YtpcajamacpbjcaaGreat
