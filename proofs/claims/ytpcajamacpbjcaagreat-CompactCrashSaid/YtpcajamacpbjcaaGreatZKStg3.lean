/- Texts laid together: StgR Frsh Al25P StgN StgM StgT MkJP FxTP StgV. -/
import Derived.Test.YtpcajamacpbjcaaGreatZKStg2
import Derived.Test.YtpcajamacpbjcaaGreatZKMove
import Derived.Test.YtpcajamacpbjcaaGreatZKImage
import Derived.Test.YtpcajamacpbjcaaGreatZKStg1
import Derived.Test.YtpcajamacpbjcaaGreatZKFix
set_option maxHeartbeats 16000000
set_option linter.all false
namespace Go.Proofs.YtpcajamacpbjcaaGreat
open Go.RowKit
variable {b:Bk}{l:List Bk}{ws x:List Nat}{a i:Nat}
def stX (x:List Nat) (outs:List (List En)) (n:Nat):List Nat:=(outs.take n).foldl am x
theorem u9(x:List Nat)(outs:List (List En)):stX x outs 0=x:=rfl
theorem DT(x:List Nat)(E:List En)(outs:List (List En))(n:Nat):stX x (E::outs) (n+1)=stX (am x E) outs n:=rfl
def nt:List Nat:=mU 256 [] [] []
theorem jD:nt.length=256:=by decide +kernel
theorem hpOut_few(ws:List Nat):(ag ws).length<=ws.length:=by
 unfold ag;split
 .rename_i h;obtain⟨b,l,a,-⟩:=ay h;have hb:=(aa _).1 b;have:=(bG (by omega) _ _ a (by omega) (by omega) (by omega)).1;rw[a];simp only[kq9];omega
 simp
theorem Ft(p1:wd x 16=1)(h:(af x).1=0):aA x=0/\af x=(0,iA (aO x) 2):=by
 have b:aw x=0:=by
  by_cases a:aw x=0
  .exact a
  unfold af at h;rw[if_neg a] at h;exact absurd h a
 have c:aA x=0:=by
  by_cases a:aA x=0
  .exact a
  unfold af at h;rw[if_pos b,if_pos p1,if_neg a] at h;exact absurd h a
 exact⟨c,by unfold af;rw[if_pos b,if_pos p1,if_pos c]⟩
theorem yQ(p2:wd x 16=2)(h:(af x).1=0):ah x=0/\af x=(0,iA (aG x) 3):=by
 have c:aw x=0:=by
  by_cases a:aw x=0
  .exact a
  unfold af at h;rw[if_neg a] at h;exact absurd h a
 have d:¬ wd x 16=1:=by omega
 have b:ah x=0:=by
  by_cases a:ah x=0
  .exact a
  unfold af at h;rw[if_pos c,if_neg d,if_pos p2,if_neg a] at h;exact absurd h a
 exact⟨b,by unfold af;rw[if_pos c,if_neg d,if_pos p2,if_pos b]⟩
theorem Ip(p1:wd x 16=1)(h:(af x).1=0)(h32:32<=(aO x).length):aA (am x (af x).2)=0/\dX (am x (af x).2)=dX x:=by obtain⟨a,e⟩:=Ft p1 h;rw[e];dsimp only;rw[cr h32];obtain⟨c,b,-⟩:=(iJ a (kjr 31 _)).same a;exact⟨c,b⟩
structure RmL (ws xs:List Nat):Prop where
 len:xs.length=ws.length
 at_:∀i,19<=i->wd xs i=wd ws i\/(128<=i/\i%2=0/\aB (wd ws i)=true/\(ar (wd ws i)).kind=1/\∃m,wd xs i=fX (wd ws i) m)
section
variable {ws xs:List Nat}
theorem RmL.low(h:RmL ws xs)(h19:19<=i)(hi:i<128):wd xs i=wd ws i:=by
 rcases h.at_ i h19 with a|a
 .exact a
 omega
theorem RmL.odd(h:RmL ws xs)(h19:19<=i)(hi:i%2=1):wd xs i=wd ws i:=by
 rcases h.at_ i h19 with a|a
 .exact a
 omega
theorem RmL.sp(h:RmL ws xs)(i:Nat)(h19:19<=i):aB (wd xs i)=aB (wd ws i):=by
 rcases h.at_ i h19 with b|⟨-,-,a,c,m,d⟩
 .rw[b]
 rw[d,a,(iS a c m).1]
theorem RmL.raw(h:RmL ws xs)(i:Nat)(h19:19<=i):ar (wd xs i)={ ar (wd ws i) with mark:=rO xs i }:=by
 unfold rO;rcases h.at_ i h19 with a|⟨-,-,d,b,m,c⟩
 .rw[a]
 rw[c,(iS d b m).2.1]
theorem RmL.sz(h:RmL ws xs)(i:Nat)(h19:19<=i):(ar (wd xs i)).size=(ar (wd ws i)).size:=by rw[h.raw i h19]
theorem RmL.szAt(h:RmL ws xs)(i:Nat)(h19:19<=i):szAt xs i=szAt ws i:=by have a:=h.sz i h19;have e:∀w,(ar w).size=((w/65536%65536:Nat):Int):=λ_=>rfl;rw[e,e] at a;unfold Proofs.YtpcajamacpbjcaaGreat.szAt;exact Int.ofNat.inj a
theorem RmL.stands(h:RmL ws xs)(i:Nat)(h19:19<=i):stands xs i=stands ws i:=by unfold Proofs.YtpcajamacpbjcaaGreat.stands;rw[h.sp i h19,h.sz i h19,h.len]
theorem RmL.bkAt(h:RmL ws xs)(h19:19<=i)(hi:i%2=0):bkAt xs i=mkB xs (bkAt ws i):=by
 unfold mkB;have a:(Proofs.YtpcajamacpbjcaaGreat.bkAt ws i).at_.toNat=i:=by rw[ae,kqj]
 rw[a];unfold Proofs.YtpcajamacpbjcaaGreat.bkAt;rw[h.raw i h19,h.odd (i:=i+1) (by omega) (by omega)]
theorem RmL.blocks(h:RmL ws xs):∀i l,blocks ws i=some l->i%2=0->19<=i->blocks xs i=some (l.map (mkB xs)):=by
 refine dU (λi l=>i%2=0->19<=i->Proofs.YtpcajamacpbjcaaGreat.blocks xs i=some (l.map (mkB xs))) (λi b _ _=>?_) (λi l b d hb c e a=>?_)
 .exact aD (by rw[h.len];exact b)
 have hsz:=aH d;have c:=c (by omega) (by omega);rw[aL (by rw[h.len];exact b) (by rw[h.stands i a];exact d),h.szAt i a,c,h.bkAt a e];rfl
theorem Db(h:RmL ws xs)(hb:b.kind=1->tyA b+1<128):dC xs (mkB xs b)=dC ws b:=by
 by_cases a:b.kind=1
 .have h2:=hb a;unfold dC cZ;show (b.kind != 1||(ch (wd xs (tyA b)) (wd xs (tyA b+1))&&b.size==((aY (wd xs (tyA b)%256):Nat):Int)))=_;rw[h.low (by unfold tyA;omega) (by omega),h.low (by unfold tyA;omega) (by omega)]
 rw[ey a,ey (b:=mkB xs b) a]
theorem RmL.heap(h:RmL ws xs)(h0:ah ws=0):ah xs=0/\ag xs=(ag ws).map (mkB xs):=by obtain⟨f,l,c,d,g⟩:=ay h0;have e:=h.blocks 128 l c (by omega) (by omega);rw[g];refine fS (by rw[h.len];exact f) e ?_;rw[List.all_map,kzu];rw[kzu] at d;intro b a;show dC xs (mkB xs b)=true;rw[Db h (je c (by omega) b a)];exact d b a
theorem RmL.tb(h:RmL ws xs)(h0:ah ws=0)(a:Nat):tb xs a=tb ws a:=by unfold Proofs.YtpcajamacpbjcaaGreat.tb;rw[(h.heap h0).2,h.len,yv]
theorem RmL.slAt(h:RmL ws xs)(hi:i<16):slAt xs i=slAt ws i:=by unfold Proofs.YtpcajamacpbjcaaGreat.slAt;rw[h.low (by omega) (by omega)]
theorem RmL.slsOk(h:RmL ws xs):slsOk xs=slsOk ws:=by
 rw[kzg,cN,cN];unfold nY;constructor
 .intro b i a;rw[<-h.slAt a];exact b i a
 intro b i a;rw[h.slAt a];exact b i a
theorem RmL.flds(h:RmL ws xs)(h0:ah ws=0)(ha:Proofs.YtpcajamacpbjcaaGreat.tb ws a≠0):flds xs a=flds ws a:=by obtain⟨b,-⟩:=iy h0 ha;have:=nJ b;have h19:=b.1;unfold Proofs.YtpcajamacpbjcaaGreat.flds;rw[h.raw a (by omega)];dsimp only;rw[h.low (by omega) (by omega),h.low (by omega) (by omega)]
theorem RmL.ref(h:RmL ws xs)(hg:oB ws)(h0:ah ws=0)(ha:Rch ws a)(ht:Proofs.YtpcajamacpbjcaaGreat.tb ws a≠0)(hf:(Proofs.YtpcajamacpbjcaaGreat.flds ws a)[i]? = some 3):wd xs (a+2+i)=wd ws (a+2+i):=by
 have h19:=(iy h0 ht).1.1;rcases h.at_ (a+2+i) (by omega) with c|⟨-,-,d,-⟩
 .exact c
 exfalso;have hb:=nB d;have b:=hg _ (Rch.ref a i ha ht hf (by omega));rw[kva (by omega)] at b;have:=rZ b;have:=(gJ ws (ay h0).1).2.1;omega
theorem RmL.rch(h:RmL ws xs)(hg:oB ws)(h0:ah ws=0)(a:Nat):Rch xs a↔Rch ws a:=by
 constructor
 .intro b
  induction b with
  | slot i hi hu=>rw[h.slAt hi] at hu |-;exact Rch.slot i hi hu
  | ref a i b ht hf hv ih =>rw[h.tb h0] at ht;rw[h.flds h0 ht] at hf;rw[h.ref hg h0 ih ht hf] at hv |-;exact Rch.ref a i ih ht hf hv
 intro b
 induction b with
 | slot i hi hu=>rw[<-h.slAt hi] at hu |-;exact Rch.slot i hi hu
 | ref a i b ht hf hv ih =>rw[<-h.ref hg h0 b ht hf] at hv |-;exact Rch.ref a i ih (by rw[h.tb h0];exact ht) (by rw[h.flds h0 ht];exact hf) hv
theorem RmL.same(h:RmL ws xs)(h0:aA ws=0):aA xs=0/\dX xs=dX ws/\seenL xs=seenL ws/\ah xs=0/\ag xs=(ag ws).map (mkB xs):=by
 obtain⟨b,j,e⟩:=aF h0;have f:=h.rch e b;have c:=h.heap b;have i:oB xs:=λa k=>by rw[h.tb b];exact e a ((f a).1 k)
 have g:aA xs=0:=Ap c.1 (by rw[h.slsOk];exact j) i;have d:seenL xs=seenL ws:=by unfold seenL;rw[h.len];refine kz4 λa _=>?_;exact decide_eq_decide.2 (f a)
 refine⟨g,?_,d,c⟩;rw[dW g,dW h0,d,h.len]
end
theorem lB :∀ {l:List En} {x z:List Nat},z.length=x.length->wd z i=wd x i->wd (am z l) i=wd (am x l) i:=by
 intro l
 induction l with
 | nil=>intro x z _ h;exact h
 | cons e l ih =>
  intro x z b h;simp only[am];rw[b];split
  .refine ih (by rw[kq4,kq4,b]) ?_;rename_i hr;by_cases c:i=e.a.toNat
   .subst c;unfold wd;rw[kz6 (by omega),kz6 (by omega)]
   unfold wd;rw[kjc (by omega),kjc (by omega)];exact h
  exact ih b h
theorem tJ(h:aA x=0)(p:Nat):RmL x (am x (⟨16,p⟩::aO x)):=by
 have a:=zM h;refine⟨ax _ _,λi h19=>?_⟩;have e:wd (am x (⟨16,p⟩::aO x)) i=wd (am x (aO x)) i:=by
  simp only[am];split
  .refine lB (by rw[kq4]) ?_;unfold wd;rw[kjc (by simp;omega)]
  rfl
 rw[e];exact a.at_ i
theorem F8{l:List En}(p:Nat)(h19:19<=i):wd (am x (⟨16,p⟩::l)) i=wd (am x l) i:=by
 simp only[am];split
 .refine lB (by rw[kq4]) ?_;unfold wd;rw[kjc (by simp;omega)]
 rfl
theorem GQ(h:aA x=0)(p:Nat):aA (am x (⟨16,p⟩::aO x))=0/\dX (am x (⟨16,p⟩::aO x))=dX x/\ah (am x (⟨16,p⟩::aO x))=0/\eE (ag (am x (⟨16,p⟩::aO x)))=dX x:=by obtain⟨c,g,g3,f,e⟩:=(tJ h p).same h;refine⟨c,g,f,?_⟩;rw[e,<-DJ h];congr 1;refine kz4 λb d=>?_;obtain⟨a,rfl,a1,-⟩:=(cg (aF h).1).1 b d;unfold mkB rO;rw[ae,kqj,F8 p (by omega)]
def refsN (ws:List Nat) (a k:Nat):List Int:=((List.range k).filter λi=>(flds ws a)[i]? == some 3).map λi=>((a+2+i:Nat):Int)
def FF (ws:List Nat) (a:Nat):List Int:=refsN ws a (flds ws a).length
theorem qW{x:Int}:x∈FF ws a↔∃i:Nat,x=((a+2+i:Nat):Int)/\(flds ws a)[i]? = some 3:=by
 unfold FF refsN;rw[kzw];constructor
 .rintro ⟨i,b,rfl⟩;rw[kzo] at b;exact⟨i,rfl,by simpa using b.2⟩
 rintro ⟨i,rfl,b⟩;refine⟨i,kzo.2 ⟨kzh.2 (kza.1 b).1,by simpa using b⟩,rfl⟩
theorem Ge(h:aA ws=0)(ha:Rch ws a){r:Int}(b:r∈FF ws a):(∃j:Nat,r=(j:Int)/\j<ws.length)/\wd ws r.toNat<ws.length/\(wd ws r.toNat≠0->Rch ws (wd ws r.toNat)):=by
 obtain⟨l,h2,c⟩:=aF h;obtain⟨i,rfl,g⟩:=qW.1 b;have hb:=gJ ws (ay l).1;obtain⟨m,-⟩:=iy l (c a ha);have d:=sP m (kza.1 g).1;refine⟨⟨_,rfl,d⟩,?_⟩;rw[kqj];by_cases k:wd ws (a+2+i)=0
 .exact ⟨by omega,λh=>absurd k h⟩
 have b:=Rch.ref a i ha (c a ha) g k;have f:=rZ (c _ b);have e:min (wd ws (a+2+i)) 2048=wd ws (a+2+i):=by omega
 rw[e] at b f;exact⟨f,λ_=>b⟩
theorem obj_from(h:aA ws=0)(ha:Rch ws a):bQ ws (a:Int)=0/\(∃v:0<(aN ws (a:Int)).length,(aN ws (a:Int))[0]=bkAt ws a)/\(bkAt ws a).kind=1/\(∃t:Nat,(bkAt ws a).typ=(t:Int)/\t<8/\ch (wd ws (96+2*t)) (wd ws (96+2*t+1))=true/\flds ws a=a8 (wd ws (96+2*t)) (wd ws (96+2*t+1)))/\a+2+(flds ws a).length<=ws.length:=by
 obtain⟨n,v,q⟩:=aF h;obtain⟨j,-⟩:=iy n (q a ha);have g:=nJ j;obtain⟨o1,o2,o3,p,o,s,k,hk,e,f⟩:=j;have i:=(ay n).1;obtain⟨u,r⟩:=cF (ws:=ws) (a:=(a:Int)) i (by
  simp only[fc,kzl,kqh,kqq];omega) (l:=(ag ws).drop k) (by rw[kqj];exact f)
 have c:=i9 (ws:=ws) (b:=bkAt ws a) o;rw[s] at c;have c:=c.symm;simp only[kqt,kqw] at c;have hst:=aH p;have d:(((ar (wd ws a)).typ.toNat:Nat):Int)=(ar (wd ws a)).typ:=by show ((((wd ws a/512%128:Nat):Int).toNat:Nat):Int)=_;rw[kqj];rfl
 refine⟨u,?_,o,⟨(ar (wd ws a)).typ.toNat,d.symm,g,c.1,rfl⟩,?_⟩
 .rw[r];refine⟨by rw[kzk];omega,?_⟩;rw[kj4];exact e
 have m:=c.2;rw[bq] at m;have h8:(flds ws a).length=(a8 (wd ws (tyA (bkAt ws a))) (wd ws (tyA (bkAt ws a)+1))).length:=rfl;unfold aY at m;omega
theorem yR{m:List (Int × Int)}:∀k,(∀i,i<k->∃o,gx ws m i=some o)->∃o,slFix ws m k=some o/\((∀i,i<k->gx ws m i=some [])->o=[]):=by
 intro k
 induction k with
 | zero=>intro _;exact⟨[],rfl,λ_=>rfl⟩
 | succ k ih =>intro h;obtain⟨o,f,e⟩:=ih (λi d=>h i (by omega));obtain⟨x,c⟩:=h k (by omega);refine⟨o++x,by simp only[slFix,f,c,kzz],λb=>?_⟩;have a:=b k (by omega);rw[c] at a;injection a with a;rw[a,e (λi d=>b i (by omega)),kzs]
theorem AN{m:List (Int × Int)}:∀R:List Int,(∀r∈R,∃o,fI ws m r.toNat=some o)->∃o,di ws m R=some o/\((∀r∈R,fI ws m r.toNat=some [])->o=[]):=by
 intro R
 induction R with
 | nil=>intro _;exact⟨[],rfl,λ_=>rfl⟩
 | cons r R ih =>intro h;obtain⟨o,f,e⟩:=ih (λi b=>h i (by simp[b]));obtain⟨x,d⟩:=h r (by simp);refine⟨x++o,by simp only[di,f,d,kzz],λc=>?_⟩;have a:=c r (by simp);rw[d] at a;injection a with a;rw[a,e (λi b=>c i (by simp[b])),kzs]
theorem A8:∀ {l:List Bk} {s:Int} {b:Bk},b∈l->aV b=true->∃t,gN (az l s) b.at_=some t:=by
 intro l
 induction l with
 | nil=>intro s b h;simp at h
 | cons x l ih =>
  intro s b h a;simp only[az];by_cases c:aV x=true
  .rw[if_pos c];simp only[gN];by_cases e:x.at_=b.at_
   .exact ⟨s,by rw[if_pos e]⟩
   rw[if_neg e];rcases kqx.1 h with rfl|h
   .exact absurd rfl e
   exact ih h a
  rw[if_neg c];rcases kqx.1 h with rfl|h
  .exact absurd a c
  exact ih h a
theorem BP:∀ {l:List Bk} {s:Int} {m:Int × Int},m∈az l s->∃b∈l,aV b=true/\b.at_=m.1:=by
 intro l
 induction l with
 | nil=>intro s m h;simp[az] at h
 | cons x l ih =>
  intro s m h;simp only[az] at h;split at h
  .rename_i hx;rcases kqx.1 h with rfl|h
   .exact ⟨x,by simp,hx,rfl⟩
   obtain⟨b,c,a⟩:=ih h;exact⟨b,by simp[c],a⟩
  obtain⟨b,c,a⟩:=ih h;exact⟨b,by simp[c],a⟩
theorem zQ:∀ {l:List Bk} {s:Int} {e:En},e∈aQ l s->∃b∈l,b.kind=1/\e.a=b.at_+1:=by
 intro l
 induction l with
 | nil=>intro s e h;simp[aQ] at h
 | cons x l ih =>
  intro s e h;simp only[aQ,kz1] at h;rcases h with h|h
  .split at h
   .rename_i hx;rw[kq0] at h;subst h;exact⟨x,by simp,hx.1,rfl⟩
   simp at h
  obtain⟨b,d,c⟩:=ih h;exact⟨b,by simp[d],c⟩
theorem Ic:∀ {l:List Bk} {s:Int} {b:Bk},b∈fwB l s->∃a∈l,b.at_=a.at_/\b.kind=a.kind/\b.mark=a.mark/\b.typ=a.typ:=by
 intro l
 induction l with
 | nil=>intro s b h;simp[fwB] at h
 | cons x l ih =>
  intro s b h;simp only[fwB] at h;rcases kqx.1 h with rfl|h
  .refine ⟨x,by simp,?_⟩;split<;>exact⟨rfl,rfl,rfl,rfl⟩
  obtain⟨a,d,c⟩:=ih h;exact⟨a,by simp[d],c⟩
theorem In:∀ {l:List Bk} {s:Int} {b:Bk},b∈l->∃a∈fwB l s,a.at_=b.at_/\a.kind=b.kind:=by
 intro l
 induction l with
 | nil=>intro s b h;simp at h
 | cons x l ih =>
  intro s b h;simp only[fwB];rcases kqx.1 h with rfl|h
  .refine ⟨_,List.mem_cons_self ..,?_⟩;split<;>exact⟨rfl,rfl⟩
  obtain⟨a,d,c⟩:=ih (s:=eU x s) h;exact⟨a,kjb _ d,c⟩
theorem mX{a:Int}(h:b∈l)(h1:b.at_=a)(h2:b.kind=1):∃b2,jQ l a=some b2:=by
 cases c:jQ l a with
 | some b2=>exact⟨b2,rfl⟩
 | none =>unfold jQ at c;rw[List.find?_eq_none] at c;exact absurd (by simp[h1,h2]) (c b h)
theorem pE(h:l.Pairwise (λa b=>a.at_<b.at_)){a:Bk}(ha:a∈l)(hb:b∈l)(e:a.at_=b.at_):a=b:=by
 obtain⟨i,d,rfl⟩:=kqz ha;obtain⟨j,f,rfl⟩:=kqz hb;rw[kzj] at h;rcases kj6 i j with c|c|c
 .have:=h i j d f c;omega
 .subst c;rfl
 have:=h j i f d c;omega
theorem EC{w:Nat}(h:w<18446744073709551616):nV (dB w)=w:=by
 unfold nV dB;dsimp only;rw[kqj,kqj];by_cases a:w/9223372036854775808=1
 .rw[show (w/9223372036854775808==1)=true by rw[kqw];exact a,if_pos rfl];omega
 rw[show (w/9223372036854775808==1)=false by rw[kqi];exact a,if_neg (by decide)];omega
theorem rl(h:ah ws=0)(ho:fQ ws a)(hi:i<(flds ws a).length)(hb:b∈ag ws):b.at_+1≠((a+2+i:Nat):Int):=by
 obtain⟨o1,o2,q,r,p,u,k,t,e,c⟩:=ho;have d:=i9 (ws:=ws) (b:=bkAt ws a) p;rw[u] at d;have d:=d.symm;simp only[kqt,kqw] at d;have g:=d.2;rw[bq] at g;have h8:(flds ws a).length=(a8 (wd ws (tyA (bkAt ws a))) (wd ws (tyA (bkAt ws a)+1))).length:=rfl;unfold aY at g;obtain⟨j,s,rfl⟩:=kqz hb;rcases kq6 k j with o|o
 .rw[aL q r] at c;cases f:blocks ws (a+szAt ws a) with
  | none=>rw[f] at c;cases c
  | some l' =>
   rw[f] at c;simp only[kzz,Option.some.injEq] at c;have v:l'=(ag ws).drop (k+1):=by
    have:=congrArg (List.drop 1) c;rw[kxm] at this
    simpa using this
   have n:(ag ws)[j]∈l':=by rw[v];refine kvc.2 ⟨j-(k+1),by rw[kzk];omega,?_⟩;rw[kj4];congr 1;omega
   have:=(lg _ _ f).1 _ n;omega
 have m:=(cg h).2;rw[kzj] at m;have ha:(ag ws)[k].at_=(a:Int):=by rw[e,ae]
 rcases kq6 j k with l|l
 .have:=m j k s t l;omega
 have:j=k:=by omega
 subst this;omega
theorem sU(h:aA ws=0)(ho:∀x∈ws,x<18446744073709551616):∃(g d:List Nat) (M:List (Int × Int)),g=am ws (aO ws)/\d=am g (aG g)/\ah g=0/\aW d 128 128=0/\ic d 128 128=M/\ep d=0/\(∀m∈M,dt d m.1=0) /\
 ((∀m∈M,m.1=m.2)->dV d=[]/\∀m∈M,cD d m.1=[]):=by
 obtain⟨L,h2,T⟩:=aF h;have B:=zM h;obtain⟨g1,g2,g3,g4,g5⟩:=B.same h;obtain⟨g,D⟩:∃g,g=am ws (aO ws):=⟨_,rfl⟩;rw[<-D] at B g1 g2 g3 g4 g5;obtain⟨l,k1,k2,k3,k4,k5,k6,k7,-,-⟩:=oE g4;have Jh:aG g=aQ l 128:=by unfold aG;rw[if_pos g4,k2]
 obtain⟨d,A⟩:∃d,d=am g (aQ l 128):=⟨_,rfl⟩;rw[<-A] at k4 k5 k6 k7;have G:l=(ag ws).map (mkB g):=by rw[<-k2,g5]
 have Jc:l.Pairwise (λa b=>a.at_<b.at_):=by rw[G];exact y9 (cg L).2
 have hbd:=gJ ws (ay L).1;have J:g.length=ws.length:=B.len;have hlen2:d.length=ws.length:=by rw[A,ax,J]
 have j:∀p,p<128->wd d p=wd ws p:=by intro p hp;rw[A,aP _ _ _ (λe C=>?_),B.low hp];have:=pZ _ _ k1 128 e C;omega
 have Jm:∀ {a i:Nat},Rch ws a->(flds ws a)[i]? = some 3->wd d (a+2+i)=wd ws (a+2+i):=by intro a i k f;obtain⟨n,-⟩:=iy L (T a k);rw[A,aP _ _ _ (λe C=>?_),B.ref T L k (T a k) f];obtain⟨b,I,-,e2⟩:=zQ C;rw[e2];rw[G] at I;obtain⟨b0,u,rfl⟩:=kzw.1 I;have Js:=rl L n (kza.1 f).1 (b:=b0) u;exact Js
 have S:∀ {a:Nat},Rch ws a->∃t,gN (az l 128) (a:Int)=some t:=by
  intro a k;obtain⟨b,I,e,hk,-⟩:=pS h k;have P:mkB g b∈l:=by rw[G];exact kju I
  have K:(mkB g b).mark=true:=by rw[D,kJ h I,e];have Y:=rZ (T a k);exact (fm Y).2 k
  obtain⟨t,X⟩:=A8 (s:=128) P (by unfold aV;rw[K,show (mkB g b).kind=1 from hk];rfl);refine⟨t,?_⟩;rw[show (mkB g b).at_=(a:Int) by show b.at_=_;rw[e,ae]] at X;exact X
 have H:∀ {a:Nat},Rch ws a->∃t,ge (az l 128) a=some t/\gN (az l 128) (a:Int)=some t:=by intro a k;obtain⟨t,X⟩:=S k;have Y:=rZ (T a k);exact⟨t,by unfold ge;rw[if_neg (by omega)];exact X,X⟩
 have Q:cm d=0:=by unfold cm;rw[if_pos k6,k4]
 have V:eV d=az l 128:=by rw[(dY Q).2.2,k5]
 have Z:∀i,i<16->slAt d i=slAt ws i:=λi f=>by unfold slAt;rw[j _ (by omega)]
 have Jp:slsOk d=true:=by rw[cN];intro i f;rw[Z i f];exact (cN ws).1 h2 i f
 have W:∀i,i<16->∃o,gx d (az l 128) i=some o/\((∀m∈az l 128,m.1=m.2)->o=[]):=by
  intro i f;unfold gx;by_cases hu:(slAt d i).used=true
  .rw[if_pos hu];have z:=hu;rw[Z i f] at z |-;obtain⟨t,t1,t2⟩:=H (Rch.slot i f z);rw[t1];dsimp only;have F:(((slAt ws i).at_.toNat:Nat):Int)=(slAt ws i).at_:=kj7 (gA (wd ws (112+i))).2.2.1;by_cases C:wd d (112+i)=nV ⟨(slAt ws i).gen,true,t⟩
   .rw[if_pos C];exact⟨[],rfl,λ_=>rfl⟩
   rw[if_neg C];refine⟨_,rfl,λc=>absurd ?_ C⟩;have U:=c _ (qo t2);dsimp only at U;have h5:nV (slAt ws i)=wd ws (112+i):=EC (fF ho _);rw[j _ (by omega),<-h5];congr 1;rw[<-U,F];obtain⟨y,hy⟩:=xq (slAt ws i);rw[hy] at z |-;obtain⟨yg,yu,ya⟩:=y;dsimp only at z |-;rw[z]
  rw[if_neg hu];exact⟨[],rfl,λ_=>rfl⟩
 obtain⟨o,Jr,Jo⟩:=yR (ws:=d) (m:=az l 128) 16 (λi f=>by obtain⟨o,O,-⟩:=W i f;exact⟨o,O⟩);have Jf:=GL Q Jp (o:=o) (by rw[V];exact Jr);have n:∀m∈az l 128,dt d m.1=0/\((∀m∈az l 128,m.1=m.2)->cD d m.1=[]):=by
  intro m K;obtain⟨b,I,v,F⟩:=BP K;unfold aV at v;simp only[kqt,kqw] at v;have Jk:aN d 128=fwB l 128:=by rw[(gj k6).2.1,k7]
  obtain⟨b2,P,e1,e2⟩:=In (s:=128) I;obtain⟨N,Eq⟩:=mX (a:=m.1) P (by rw[e1,F]) (by rw[e2,v.1]);obtain⟨f1,f2,f3⟩:=jm Eq;obtain⟨b0,u,r1,r2,r3,r4⟩:=Ic f1;have w:b0=b:=pE Jc u I (by rw[<-r1,f2,F]);subst w;rw[G] at u;obtain⟨bw,Ja,w⟩:=kzw.1 u;obtain⟨a,k,-,-,Jj,-⟩:=(cg L).1 bw Ja;have R:Rch ws a:=by have:=kJ h Ja;rw[<-D,w,v.2,k] at this;exact (fm Jj).1 this.symm
  have Je:N.at_=(a:Int):=by rw[r1,<-w,k];exact ae ws a
  have Jg:N.typ=(ar (wd ws a)).typ:=by rw[r4,<-w,k];rfl
  obtain⟨n,-⟩:=iy L (T a R);have hty8:=nJ n;have Jl:vj d N=flds ws a:=by unfold vj flds tyA;rw[Jg,j _ (by omega),j _ (by omega)]
  have Jb:∀r∈fu d N,∃o,fI d (az l 128) r.toNat=some o/\((∀m∈az l 128,m.1=m.2)->o=[]):=by
   intro r E;unfold fu at E;obtain⟨i,-,f,rfl⟩:=k8.1 E;rw[Jl] at f;have hn:(N.at_+2+(i:Int)).toNat=a+2+i:=by rw[Je];omega
   rw[hn];unfold fI;rw[Jm R f];by_cases hv:wd ws (a+2+i)=0
   .rw[if_pos hv];exact⟨[],rfl,λ_=>rfl⟩
   rw[if_neg hv];have E:=(Ge h R (r:=((a+2+i:Nat):Int)) (qW.2 ⟨i,rfl,f⟩)).2.2;rw[kqj] at E;obtain⟨t,t1,t2⟩:=H (E hv);rw[t1];dsimp only;by_cases C:((wd ws (a+2+i):Nat):Int)=t
   .rw[if_pos C];exact⟨[],rfl,λ_=>rfl⟩
   rw[if_neg C];refine⟨_,rfl,λc=>absurd ?_ C⟩;exact c _ (qo t2)
  obtain⟨q,Jq,Ji⟩:=AN (ws:=d) (m:=az l 128) (fu d N) (λr E=>by obtain⟨o,O,-⟩:=Jb r E;exact⟨o,O⟩);have Jd:=Cl Q (a:=m.1) (b:=N) (by rw[Jk];exact Eq) (by rw[r3];exact v.2) (o:=q) (by rw[V];exact Jq);refine⟨Jd.1,λc=>?_⟩;rw[Jd.2];refine Ji λr E=>?_;obtain⟨o,O,h5⟩:=Jb r E;rw[O,h5 c]
 refine⟨g,d,az l 128,D,by rw[Jh];exact A,g4,k4,k5,Jf.1,λm K=>(n m K).1,λc=>⟨?_,λm K=>(n m K).2 c⟩⟩;rw[Jf.2];refine Jo λi f=>?_;obtain⟨o',O,h5⟩:=W i f;rw[O,h5 c]
structure NxL (ws xs:List Nat):Prop where
 len:xs.length=ws.length
 at_:∀i:Nat,19<=i->wd xs i=wd ws i\/∃b∈ag ws,(i:Int)=b.at_+1
theorem Fy{xs:List Nat}(n:Nat)(l:List Bk):pz n (l.map (nxB xs))=pz n l:=by unfold pz;rw[List.foldl_map];rfl
section
variable {ws xs:List Nat}
theorem NxL.low(h:NxL ws xs)(h0:ah ws=0)(h19:19<=i)(hi:i<128):wd xs i=wd ws i:=by
 rcases h.at_ i h19 with c|⟨b,d,c⟩
 .exact c
 obtain⟨a,rfl,a1,-⟩:=(cg h0).1 b d;rw[ae] at c;omega
theorem NxL.even(h:NxL ws xs)(h0:ah ws=0)(h19:19<=i)(hi:i%2=0):wd xs i=wd ws i:=by
 rcases h.at_ i h19 with c|⟨b,d,c⟩
 .exact c
 obtain⟨a,rfl,-,a1,-⟩:=(cg h0).1 b d;rw[ae] at c;omega
theorem NxL.ev(h:NxL ws xs)(h0:ah ws=0):Ev ws xs:=by
 refine⟨h.len,λi c=>?_⟩;rcases c with⟨a,b⟩|⟨a,b⟩
 .exact h.even h0 (by omega) a
 exact h.low h0 (by omega) b
theorem NxL.tb(h:NxL ws xs)(h0:ah ws=0)(a:Nat):tb xs a=tb ws a:=by unfold Proofs.YtpcajamacpbjcaaGreat.tb;rw[((h.ev h0).heap h0).2,h.len,Fy]
theorem NxL.slAt(h:NxL ws xs)(h0:ah ws=0)(hi:i<16):slAt xs i=slAt ws i:=by unfold Proofs.YtpcajamacpbjcaaGreat.slAt;rw[h.low h0 (by omega) (by omega)]
theorem NxL.slsOk(h:NxL ws xs)(h0:ah ws=0):slsOk xs=slsOk ws:=by
 rw[kzg,cN,cN];unfold nY;constructor
 .intro b i a;rw[<-h.slAt h0 a];exact b i a
 intro b i a;rw[h.slAt h0 a];exact b i a
theorem NxL.flds(h:NxL ws xs)(h0:ah ws=0)(ha:Proofs.YtpcajamacpbjcaaGreat.tb ws a≠0):flds xs a=flds ws a:=by obtain⟨b,-⟩:=iy h0 ha;have:=nJ b;have h19:=b.1;have c:=b.2.1;unfold Proofs.YtpcajamacpbjcaaGreat.flds;rw[h.even h0 (by omega) c,h.low h0 (by omega) (by omega),h.low h0 (by omega) (by omega)]
theorem NxL.ref(h:NxL ws xs)(h0:ah ws=0)(ht:Proofs.YtpcajamacpbjcaaGreat.tb ws a≠0)(hf:(Proofs.YtpcajamacpbjcaaGreat.flds ws a)[i]? = some 3):wd xs (a+2+i)=wd ws (a+2+i):=by
 have c:=(iy h0 ht).1;have h19:=c.1;rcases h.at_ (a+2+i) (by omega) with d|⟨b,e,d⟩
 .exact d
 exact absurd d.symm (rl h0 c (kza.1 hf).1 e)
theorem NxL.rch(h:NxL ws xs)(h0:ah ws=0)(a:Nat):Rch xs a↔Rch ws a:=by
 constructor
 .intro b
  induction b with
  | slot i hi hu=>rw[h.slAt h0 hi] at hu |-;exact Rch.slot i hi hu
  | ref a i b ht hf hv ih =>rw[h.tb h0] at ht;rw[h.flds h0 ht] at hf;rw[h.ref h0 ht hf] at hv |-;exact Rch.ref a i ih ht hf hv
 intro b
 induction b with
 | slot i hi hu=>rw[<-h.slAt h0 hi] at hu |-;exact Rch.slot i hi hu
 | ref a i b ht hf hv ih =>rw[<-h.ref h0 ht hf] at hv |-;exact Rch.ref a i ih (by rw[h.tb h0];exact ht) (by rw[h.flds h0 ht];exact hf) hv
theorem NxL.same(h:NxL ws xs)(h0:ah ws=0):ah xs=0/\aA xs=aA ws/\dX xs=dX ws:=by
 have c:=h.rch h0;have g:=(h.ev h0).heap h0;have j:oB xs↔oB ws:=by
  constructor
  .intro d a f;rw[<-h.tb h0];exact d a ((c a).2 f)
  intro d a f;rw[h.tb h0];exact d a ((c a).1 f)
 have e:aA xs=aA ws:=by unfold aA;rw[if_pos g.1,if_pos h0,h.slsOk h0,propext j]
 refine⟨g.1,e,?_⟩;have i:seenL xs=seenL ws:=by unfold seenL;rw[h.len];refine kz4 λa _=>?_;exact decide_eq_decide.2 (c a)
 by_cases b:aA ws=0
 .rw[dW (by rw[e];exact b),dW b,i,h.len]
 rw[uD (by rw[e];exact b),uD b]
end
theorem qg{E:List En}(hE:∀e∈E,e.a<19\/∃b∈ag x,e.a=b.at_+1):NxL x (am x E):=by
 refine⟨ax _ _,λi h19=>?_⟩;by_cases d:∃b∈ag x,(i:Int)=b.at_+1
 .exact .inr d
 refine .inl (aP _ _ _ λe h g=>?_);rcases hE e h with c|⟨b,f,c⟩
 .omega
 exact d ⟨b,f,by rw[<-c,g]⟩
theorem uF(p2:wd x 16=2)(h:(af x).1=0):ah (am x (af x).2)=0/\aA (am x (af x).2)=aA x/\dX (am x (af x).2)=dX x:=by
 obtain⟨f,e⟩:=yQ p2 h;rw[e];dsimp only;have g:∀e∈aG x,∃b∈ag x,e.a=b.at_+1:=by intro e c;rw[qC f] at c;obtain⟨b,i,-,j⟩:=fV c;exact⟨b,i,j⟩
 refine (qg λe c=>?_).same f;by_cases d:32<=(aG x).length
 .rw[cr d] at c;exact .inr (g e (kxt c))
 rw[iK d] at c;rcases kqx.1 c with rfl|c
 .exact .inl (by dsimp only;omega)
 exact .inr (g e c)
end Go.Proofs.YtpcajamacpbjcaaGreat
