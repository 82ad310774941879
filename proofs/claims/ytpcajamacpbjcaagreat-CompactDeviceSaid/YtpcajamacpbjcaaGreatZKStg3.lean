/- Texts laid together: StgR Frsh Al25P StgN StgM StgT MkJP FxTP StgV. -/
import Derived.Test.YtpcajamacpbjcaaGreatZKStg2
import Derived.Test.YtpcajamacpbjcaaGreatZKMove
import Derived.Test.YtpcajamacpbjcaaGreatZKImage
import Derived.Test.YtpcajamacpbjcaaGreatZKStg1
import Derived.Test.YtpcajamacpbjcaaGreatZKFix
set_option maxHeartbeats 16000000
set_option linter.all false
namespace Go.Proofs.YtpcajamacpbjcaaGreat
open Go.RowKit
variable {b:Bk}{l:List Bk}{ws x:List Nat}{a i:Nat}
def stX (x:List Nat) (outs:List (List En)) (n:Nat):List Nat:=(outs.take n).foldl ak x
theorem v6(x:List Nat)(outs:List (List En)):stX x outs 0=x:=rfl
theorem FV(x:List Nat)(E:List En)(outs:List (List En))(n:Nat):stX x (E::outs) (n+1)=stX (ak x E) outs n:=rfl
def nd:List Nat:=np 256 [] [] []
theorem jU:nd.length=256:=by decide +kernel
theorem hpOut_few(ws:List Nat):(af ws).length<=ws.length:=by
 unfold af;split
 .rename_i h;obtain⟨b,l,a,-⟩:=aA h;have hb:=(aa _).1 b;have:=(bK (by omega) _ _ a (by omega) (by omega) (by omega)).1;rw[a];simp only[kq8];omega
 simp
theorem Jh(p1:wd x 16=1)(h:(ae x).1=0):aC x=0/\ae x=(0,ie (aK x) 2):=by
 have b:az x=0:=by
  by_cases a:az x=0
  .exact a
  unfold ae at h;rw[if_neg a] at h;exact absurd h a
 have c:aC x=0:=by
  by_cases a:aC x=0
  .exact a
  unfold ae at h;rw[if_pos b,if_pos p1,if_neg a] at h;exact absurd h a
 exact⟨c,by unfold ae;rw[if_pos b,if_pos p1,if_pos c]⟩
theorem C5(p2:wd x 16=2)(h:(ae x).1=0):ah x=0/\ae x=(0,ie (ay x) 3):=by
 have b:az x=0:=by
  by_cases a:az x=0
  .exact a
  unfold ae at h;rw[if_neg a] at h;exact absurd h a
 have d:¬ wd x 16=1:=by omega
 have c:ah x=0:=by
  by_cases a:ah x=0
  .exact a
  unfold ae at h;rw[if_pos b,if_neg d,if_pos p2,if_neg a] at h;exact absurd h a
 exact⟨c,by unfold ae;rw[if_pos b,if_neg d,if_pos p2,if_pos c]⟩
theorem GR(p1:wd x 16=1)(h:(ae x).1=0)(h32:32<=(aK x).length):aC (ak x (ae x).2)=0/\eh (ak x (ae x).2)=eh x:=by obtain⟨a,e⟩:=Jh p1 h;rw[e];dsimp only;rw[cm h32];obtain⟨b,c,-⟩:=(gp a (kxt 31 _)).same a;exact⟨b,c⟩
structure RmL (ws xs:List Nat):Prop where
 len:xs.length=ws.length
 at_:∀i,19<=i->wd xs i=wd ws i\/(128<=i/\i%2=0/\aD (wd ws i)=true/\(aq (wd ws i)).kind=1/\∃m,wd xs i=gt (wd ws i) m)
section
variable {ws xs:List Nat}
theorem RmL.low(h:RmL ws xs)(h19:19<=i)(hi:i<128):wd xs i=wd ws i:=by
 rcases h.at_ i h19 with a|a
 .exact a
 omega
theorem RmL.odd(h:RmL ws xs)(h19:19<=i)(hi:i%2=1):wd xs i=wd ws i:=by
 rcases h.at_ i h19 with a|a
 .exact a
 omega
theorem RmL.sp(h:RmL ws xs)(i:Nat)(h19:19<=i):aD (wd xs i)=aD (wd ws i):=by
 rcases h.at_ i h19 with d|⟨-,-,a,c,m,b⟩
 .rw[d]
 rw[b,a,(hU a c m).1]
theorem RmL.raw(h:RmL ws xs)(i:Nat)(h19:19<=i):aq (wd xs i)={ aq (wd ws i) with mark:=oC xs i }:=by
 unfold oC;rcases h.at_ i h19 with d|⟨-,-,b,c,m,a⟩
 .rw[d]
 rw[a,(hU b c m).2.1]
theorem RmL.sz(h:RmL ws xs)(i:Nat)(h19:19<=i):(aq (wd xs i)).size=(aq (wd ws i)).size:=by rw[h.raw i h19]
theorem RmL.szAt(h:RmL ws xs)(i:Nat)(h19:19<=i):szAt xs i=szAt ws i:=by have a:=h.sz i h19;have e:∀w,(aq w).size=((w/65536%65536:Nat):Int):=λ_=>rfl;rw[e,e] at a;unfold Proofs.YtpcajamacpbjcaaGreat.szAt;exact Int.ofNat.inj a
theorem RmL.stands(h:RmL ws xs)(i:Nat)(h19:19<=i):stands xs i=stands ws i:=by unfold Proofs.YtpcajamacpbjcaaGreat.stands;rw[h.sp i h19,h.sz i h19,h.len]
theorem RmL.bkAt(h:RmL ws xs)(h19:19<=i)(hi:i%2=0):bkAt xs i=mkB xs (bkAt ws i):=by
 unfold mkB;have a:(Proofs.YtpcajamacpbjcaaGreat.bkAt ws i).at_.toNat=i:=by rw[ab,kqj]
 rw[a];unfold Proofs.YtpcajamacpbjcaaGreat.bkAt;rw[h.raw i h19,h.odd (i:=i+1) (by omega) (by omega)]
theorem RmL.blocks(h:RmL ws xs):∀i l,blocks ws i=some l->i%2=0->19<=i->blocks xs i=some (l.map (mkB xs)):=by
 refine d7 (λi l=>i%2=0->19<=i->Proofs.YtpcajamacpbjcaaGreat.blocks xs i=some (l.map (mkB xs))) (λi b _ _=>?_) (λi l b d hb c e a=>?_)
 .exact aH (by rw[h.len];exact b)
 have hsz:=aF d;have c:=c (by omega) (by omega);rw[aR (by rw[h.len];exact b) (by rw[h.stands i a];exact d),h.szAt i a,c,h.bkAt a e];rfl
theorem FH(h:RmL ws xs)(hb:b.kind=1->tyA b+1<128):dK xs (mkB xs b)=dK ws b:=by
 by_cases a:b.kind=1
 .have h2:=hb a;unfold dK cZ;show (b.kind != 1||(cr (wd xs (tyA b)) (wd xs (tyA b+1))&&b.size==((bi (wd xs (tyA b)%256):Nat):Int)))=_;rw[h.low (by unfold tyA;omega) (by omega),h.low (by unfold tyA;omega) (by omega)]
 rw[eC a,eC (b:=mkB xs b) a]
theorem RmL.heap(h:RmL ws xs)(h0:ah ws=0):ah xs=0/\af xs=(af ws).map (mkB xs):=by obtain⟨g,l,c,d,f⟩:=aA h0;have e:=h.blocks 128 l c (by omega) (by omega);rw[f];refine fT (by rw[h.len];exact g) e ?_;rw[List.all_map,kzu];rw[kzu] at d;intro b a;show dK xs (mkB xs b)=true;rw[FH h (jy c (by omega) b a)];exact d b a
theorem RmL.tb(h:RmL ws xs)(h0:ah ws=0)(a:Nat):tb xs a=tb ws a:=by unfold Proofs.YtpcajamacpbjcaaGreat.tb;rw[(h.heap h0).2,h.len,Cf]
theorem RmL.slAt(h:RmL ws xs)(hi:i<16):slAt xs i=slAt ws i:=by unfold Proofs.YtpcajamacpbjcaaGreat.slAt;rw[h.low (by omega) (by omega)]
theorem RmL.slsOk(h:RmL ws xs):slsOk xs=slsOk ws:=by
 rw[kzg,cU,cU];unfold ox;constructor
 .intro b i a;rw[<-h.slAt a];exact b i a
 intro b i a;rw[h.slAt a];exact b i a
theorem RmL.flds(h:RmL ws xs)(h0:ah ws=0)(ha:Proofs.YtpcajamacpbjcaaGreat.tb ws a≠0):flds xs a=flds ws a:=by obtain⟨b,-⟩:=iH h0 ha;have:=ot b;have h19:=b.1;unfold Proofs.YtpcajamacpbjcaaGreat.flds;rw[h.raw a (by omega)];dsimp only;rw[h.low (by omega) (by omega),h.low (by omega) (by omega)]
theorem RmL.ref(h:RmL ws xs)(hg:pd ws)(h0:ah ws=0)(ha:Rch ws a)(ht:Proofs.YtpcajamacpbjcaaGreat.tb ws a≠0)(hf:(Proofs.YtpcajamacpbjcaaGreat.flds ws a)[i]? = some 3):wd xs (a+2+i)=wd ws (a+2+i):=by
 have h19:=(iH h0 ht).1.1;rcases h.at_ (a+2+i) (by omega) with d|⟨-,-,c,-⟩
 .exact d
 exfalso;have hb:=nO c;have b:=hg _ (Rch.ref a i ha ht hf (by omega));rw[kvi (by omega)] at b;have:=sG b;have:=(gX ws (aA h0).1).2.1;omega
theorem RmL.rch(h:RmL ws xs)(hg:pd ws)(h0:ah ws=0)(a:Nat):Rch xs a↔Rch ws a:=by
 constructor
 .intro b
  induction b with
  | slot i hi hu=>rw[h.slAt hi] at hu |-;exact Rch.slot i hi hu
  | ref a i b ht hf hv ih =>rw[h.tb h0] at ht;rw[h.flds h0 ht] at hf;rw[h.ref hg h0 ih ht hf] at hv |-;exact Rch.ref a i ih ht hf hv
 intro b
 induction b with
 | slot i hi hu=>rw[<-h.slAt hi] at hu |-;exact Rch.slot i hi hu
 | ref a i b ht hf hv ih =>rw[<-h.ref hg h0 b ht hf] at hv |-;exact Rch.ref a i ih (by rw[h.tb h0];exact ht) (by rw[h.flds h0 ht];exact hf) hv
theorem RmL.same(h:RmL ws xs)(h0:aC ws=0):aC xs=0/\eh xs=eh ws/\seenL xs=seenL ws/\ah xs=0/\af xs=(af ws).map (mkB xs):=by
 obtain⟨b,j,e⟩:=aI h0;have g:=h.rch e b;have f:=h.heap b;have k:pd xs:=λa i=>by rw[h.tb b];exact e a ((g a).1 i)
 have d:aC xs=0:=Bc f.1 (by rw[h.slsOk];exact j) k;have c:seenL xs=seenL ws:=by unfold seenL;rw[h.len];refine kz2 λa _=>?_;exact decide_eq_decide.2 (g a)
 refine⟨d,?_,c,f⟩;rw[ei d,ei h0,c,h.len]
end
theorem lM :∀ {l:List En} {x z:List Nat},z.length=x.length->wd z i=wd x i->wd (ak z l) i=wd (ak x l) i:=by
 intro l
 induction l with
 | nil=>intro x z _ h;exact h
 | cons e l ih =>
  intro x z b h;simp only[ak];rw[b];split
  .refine ih (by rw[kq4,kq4,b]) ?_;rename_i hr;by_cases c:i=e.a.toNat
   .subst c;unfold wd;rw[kz7 (by omega),kz7 (by omega)]
   unfold wd;rw[kjc (by omega),kjc (by omega)];exact h
  exact ih b h
theorem uW(h:aC x=0)(p:Nat):RmL x (ak x (⟨16,p⟩::aK x)):=by
 have a:=AJ h;refine⟨ax _ _,λi h19=>?_⟩;have e:wd (ak x (⟨16,p⟩::aK x)) i=wd (ak x (aK x)) i:=by
  simp only[ak];split
  .refine lM (by rw[kq4]) ?_;unfold wd;rw[kjc (by simp;omega)]
  rfl
 rw[e];exact a.at_ i
theorem IX{l:List En}(p:Nat)(h19:19<=i):wd (ak x (⟨16,p⟩::l)) i=wd (ak x l) i:=by
 simp only[ak];split
 .refine lM (by rw[kq4]) ?_;unfold wd;rw[kjc (by simp;omega)]
 rfl
theorem Jc(h:aC x=0)(p:Nat):aC (ak x (⟨16,p⟩::aK x))=0/\eh (ak x (⟨16,p⟩::aK x))=eh x/\ah (ak x (⟨16,p⟩::aK x))=0/\eG (af (ak x (⟨16,p⟩::aK x)))=eh x:=by obtain⟨c,f,g3,g,e⟩:=(uW h p).same h;refine⟨c,f,g,?_⟩;rw[e,<-EH h];congr 1;refine kz2 λb d=>?_;obtain⟨a,rfl,a1,-⟩:=(ch (aI h).1).1 b d;unfold mkB oC;rw[ab,kqj,IX p (by omega)]
def refsN (ws:List Nat) (a k:Nat):List Int:=((List.range k).filter λi=>(flds ws a)[i]? == some 3).map λi=>((a+2+i:Nat):Int)
def IK (ws:List Nat) (a:Nat):List Int:=refsN ws a (flds ws a).length
theorem sq{x:Int}:x∈IK ws a↔∃i:Nat,x=((a+2+i:Nat):Int)/\(flds ws a)[i]? = some 3:=by
 unfold IK refsN;rw[kzr];constructor
 .rintro ⟨i,b,rfl⟩;rw[kzp] at b;exact⟨i,rfl,by simpa using b.2⟩
 rintro ⟨i,rfl,b⟩;refine⟨i,kzp.2 ⟨kzj.2 (kzb.1 b).1,by simpa using b⟩,rfl⟩
theorem Hq(h:aC ws=0)(ha:Rch ws a){r:Int}(b:r∈IK ws a):(∃j:Nat,r=(j:Int)/\j<ws.length)/\wd ws r.toNat<ws.length/\(wd ws r.toNat≠0->Rch ws (wd ws r.toNat)):=by
 obtain⟨k,h2,d⟩:=aI h;obtain⟨i,rfl,f⟩:=sq.1 b;have hb:=gX ws (aA k).1;obtain⟨m,-⟩:=iH k (d a ha);have c:=tH m (kzb.1 f).1;refine⟨⟨_,rfl,c⟩,?_⟩;rw[kqj];by_cases g:wd ws (a+2+i)=0
 .exact ⟨by omega,λh=>absurd g h⟩
 have b:=Rch.ref a i ha (d a ha) f g;have l:=sG (d _ b);have e:min (wd ws (a+2+i)) 2048=wd ws (a+2+i):=by omega
 rw[e] at b l;exact⟨l,λ_=>b⟩
theorem obj_from(h:aC ws=0)(ha:Rch ws a):cc ws (a:Int)=0/\(∃v:0<(aQ ws (a:Int)).length,(aQ ws (a:Int))[0]=bkAt ws a)/\(bkAt ws a).kind=1/\(∃t:Nat,(bkAt ws a).typ=(t:Int)/\t<8/\cr (wd ws (96+2*t)) (wd ws (96+2*t+1))=true/\flds ws a=bp (wd ws (96+2*t)) (wd ws (96+2*t+1)))/\a+2+(flds ws a).length<=ws.length:=by
 obtain⟨j,v,r⟩:=aI h;obtain⟨m,-⟩:=iH j (r a ha);have i:=ot m;obtain⟨o1,o2,o3,u,n,p,k,hk,e,f⟩:=m;have g:=(aA j).1;obtain⟨s,q⟩:=cO (ws:=ws) (a:=(a:Int)) g (by
  simp only[fe,kzn,kqc,kqr];omega) (l:=(af ws).drop k) (by rw[kqj];exact f)
 have c:=jC (ws:=ws) (b:=bkAt ws a) n;rw[p] at c;have c:=c.symm;simp only[kqt,kqw] at c;have hst:=aF u;have d:(((aq (wd ws a)).typ.toNat:Nat):Int)=(aq (wd ws a)).typ:=by show ((((wd ws a/512%128:Nat):Int).toNat:Nat):Int)=_;rw[kqj];rfl
 refine⟨s,?_,n,⟨(aq (wd ws a)).typ.toNat,d.symm,i,c.1,rfl⟩,?_⟩
 .rw[q];refine⟨by rw[kzv];omega,?_⟩;rw[kkj];exact e
 have o:=c.2;rw[bq] at o;have h8:(flds ws a).length=(bp (wd ws (tyA (bkAt ws a))) (wd ws (tyA (bkAt ws a)+1))).length:=rfl;unfold bi at o;omega
theorem Cc{m:List (Int × Int)}:∀k,(∀i,i<k->∃o,gM ws m i=some o)->∃o,slFix ws m k=some o/\((∀i,i<k->gM ws m i=some [])->o=[]):=by
 intro k
 induction k with
 | zero=>intro _;exact⟨[],rfl,λ_=>rfl⟩
 | succ k ih =>intro h;obtain⟨o,e,f⟩:=ih (λi d=>h i (by omega));obtain⟨x,b⟩:=h k (by omega);refine⟨o++x,by simp only[slFix,e,b,kzy],λc=>?_⟩;have a:=c k (by omega);rw[b] at a;injection a with a;rw[a,f (λi d=>c i (by omega)),kzs]
theorem Cn{m:List (Int × Int)}:∀R:List Int,(∀r∈R,∃o,fR ws m r.toNat=some o)->∃o,dm ws m R=some o/\((∀r∈R,fR ws m r.toNat=some [])->o=[]):=by
 intro R
 induction R with
 | nil=>intro _;exact⟨[],rfl,λ_=>rfl⟩
 | cons r R ih =>intro h;obtain⟨o,e,f⟩:=ih (λi b=>h i (by simp[b]));obtain⟨x,c⟩:=h r (by simp);refine⟨x++o,by simp only[dm,e,c,kzy],λd=>?_⟩;have a:=d r (by simp);rw[c] at a;injection a with a;rw[a,f (λi b=>d i (by simp[b])),kzs]
theorem CG:∀ {l:List Bk} {s:Int} {b:Bk},b∈l->a8 b=true->∃t,ic (aB l s) b.at_=some t:=by
 intro l
 induction l with
 | nil=>intro s b h;simp at h
 | cons x l ih =>
  intro s b h a;simp only[aB];by_cases c:a8 x=true
  .rw[if_pos c];simp only[ic];by_cases e:x.at_=b.at_
   .exact ⟨s,by rw[if_pos e]⟩
   rw[if_neg e];rcases kqx.1 h with rfl|h
   .exact absurd rfl e
   exact ih h a
  rw[if_neg c];rcases kqx.1 h with rfl|h
  .exact absurd a c
  exact ih h a
theorem BP:∀ {l:List Bk} {s:Int} {m:Int × Int},m∈aB l s->∃b∈l,a8 b=true/\b.at_=m.1:=by
 intro l
 induction l with
 | nil=>intro s m h;simp[aB] at h
 | cons x l ih =>
  intro s m h;simp only[aB] at h;split at h
  .rename_i hx;rcases kqx.1 h with rfl|h
   .exact ⟨x,by simp,hx,rfl⟩
   obtain⟨b,c,a⟩:=ih h;exact⟨b,by simp[c],a⟩
  obtain⟨b,c,a⟩:=ih h;exact⟨b,by simp[c],a⟩
theorem BM:∀ {l:List Bk} {s:Int} {e:En},e∈aV l s->∃b∈l,b.kind=1/\e.a=b.at_+1:=by
 intro l
 induction l with
 | nil=>intro s e h;simp[aV] at h
 | cons x l ih =>
  intro s e h;simp only[aV,kz0] at h;rcases h with h|h
  .split at h
   .rename_i hx;rw[kq1] at h;subst h;exact⟨x,by simp,hx.1,rfl⟩
   simp at h
  obtain⟨b,d,c⟩:=ih h;exact⟨b,by simp[d],c⟩
theorem IP:∀ {l:List Bk} {s:Int} {b:Bk},b∈fwB l s->∃a∈l,b.at_=a.at_/\b.kind=a.kind/\b.mark=a.mark/\b.typ=a.typ:=by
 intro l
 induction l with
 | nil=>intro s b h;simp[fwB] at h
 | cons x l ih =>
  intro s b h;simp only[fwB] at h;rcases kqx.1 h with rfl|h
  .refine ⟨x,by simp,?_⟩;split<;>exact⟨rfl,rfl,rfl,rfl⟩
  obtain⟨a,d,c⟩:=ih h;exact⟨a,by simp[d],c⟩
theorem IJ:∀ {l:List Bk} {s:Int} {b:Bk},b∈l->∃a∈fwB l s,a.at_=b.at_/\a.kind=b.kind:=by
 intro l
 induction l with
 | nil=>intro s b h;simp at h
 | cons x l ih =>
  intro s b h;simp only[fwB];rcases kqx.1 h with rfl|h
  .refine ⟨_,List.mem_cons_self ..,?_⟩;split<;>exact⟨rfl,rfl⟩
  obtain⟨a,d,c⟩:=ih (s:=eX x s) h;exact⟨a,kxw _ d,c⟩
theorem nA{a:Int}(h:b∈l)(h1:b.at_=a)(h2:b.kind=1):∃b2,jW l a=some b2:=by
 cases c:jW l a with
 | some b2=>exact⟨b2,rfl⟩
 | none =>unfold jW at c;rw[List.find?_eq_none] at c;exact absurd (by simp[h1,h2]) (c b h)
theorem pW(h:l.Pairwise (λa b=>a.at_<b.at_)){a:Bk}(ha:a∈l)(hb:b∈l)(e:a.at_=b.at_):a=b:=by
 obtain⟨i,d,rfl⟩:=kqz ha;obtain⟨j,f,rfl⟩:=kqz hb;rw[kzd] at h;rcases kj6 i j with c|c|c
 .have:=h i j d f c;omega
 .subst c;rfl
 have:=h j i f d c;omega
theorem Ex{w:Nat}(h:w<18446744073709551616):oA (dJ w)=w:=by
 unfold oA dJ;dsimp only;rw[kqj,kqj];by_cases a:w/9223372036854775808=1
 .rw[show (w/9223372036854775808==1)=true by rw[kqw];exact a,if_pos rfl];omega
 rw[show (w/9223372036854775808==1)=false by rw[kqi];exact a,if_neg (by decide)];omega
theorem rB(h:ah ws=0)(ho:fW ws a)(hi:i<(flds ws a).length)(hb:b∈af ws):b.at_+1≠((a+2+i:Nat):Int):=by
 obtain⟨o1,o2,r,t,u,p,k,q,e,c⟩:=ho;have d:=jC (ws:=ws) (b:=bkAt ws a) u;rw[p] at d;have d:=d.symm;simp only[kqt,kqw] at d;have g:=d.2;rw[bq] at g;have h8:(flds ws a).length=(bp (wd ws (tyA (bkAt ws a))) (wd ws (tyA (bkAt ws a)+1))).length:=rfl;unfold bi at g;obtain⟨j,n,rfl⟩:=kqz hb;rcases kq6 k j with o|o
 .rw[aR r t] at c;cases f:blocks ws (a+szAt ws a) with
  | none=>rw[f] at c;cases c
  | some l' =>
   rw[f] at c;simp only[kzy,Option.some.injEq] at c;have v:l'=(af ws).drop (k+1):=by
    have:=congrArg (List.drop 1) c;rw[kxl] at this
    simpa using this
   have s:(af ws)[j]∈l':=by rw[v];refine kvk.2 ⟨j-(k+1),by rw[kzv];omega,?_⟩;rw[kkj];congr 1;omega
   have:=(lG _ _ f).1 _ s;omega
 have l:=(ch h).2;rw[kzd] at l;have ha:(af ws)[k].at_=(a:Int):=by rw[e,ab]
 rcases kq6 j k with m|m
 .have:=l j k n q m;omega
 have:j=k:=by omega
 subst this;omega
theorem tK(h:aC ws=0)(ho:∀x∈ws,x<18446744073709551616):∃(g d:List Nat) (M:List (Int × Int)),g=ak ws (aK ws)/\d=ak g (ay g)/\ah g=0/\bh d 128 128=0/\iB d 128 128=M/\dZ d=0/\(∀m∈M,dA d m.1=0) /\
 ((∀m∈M,m.1=m.2)->dL d=[]/\∀m∈M,cD d m.1=[]):=by
 obtain⟨K,h2,T⟩:=aI h;have w:=AJ h;obtain⟨g1,g2,g3,g4,g5⟩:=w.same h;obtain⟨g,F⟩:∃g,g=ak ws (aK ws):=⟨_,rfl⟩;rw[<-F] at w g1 g2 g3 g4 g5;obtain⟨l,k1,k2,k3,k4,k5,k6,k7,-,-⟩:=pM g4;have Kq:ay g=aV l 128:=by unfold ay;rw[if_pos g4,k2]
 obtain⟨d,v⟩:∃d,d=ak g (aV l 128):=⟨_,rfl⟩;rw[<-v] at k4 k5 k6 k7;have D:l=(af ws).map (mkB g):=by rw[<-k2,g5]
 have Ka:l.Pairwise (λa b=>a.at_<b.at_):=by rw[D];exact Bu (ch K).2
 have hbd:=gX ws (aA K).1;have P:g.length=ws.length:=w.len;have hlen2:d.length=ws.length:=by rw[v,ax,P]
 have k:∀p,p<128->wd d p=wd ws p:=by intro p hp;rw[v,aU _ _ _ (λe z=>?_),w.low hp];have:=qt _ _ k1 128 e z;omega
 have Kj:∀ {a i:Nat},Rch ws a->(flds ws a)[i]? = some 3->wd d (a+2+i)=wd ws (a+2+i):=by intro a i j f;obtain⟨n,-⟩:=iH K (T a j);rw[v,aU _ _ _ (λe z=>?_),w.ref T K j (T a j) f];obtain⟨b,I,-,e2⟩:=BM z;rw[e2];rw[D] at I;obtain⟨b0,C,rfl⟩:=kzr.1 I;have Ki:=rB K n (kzb.1 f).1 (b:=b0) C;exact Ki
 have Q:∀ {a:Nat},Rch ws a->∃t,ic (aB l 128) (a:Int)=some t:=by
  intro a j;obtain⟨b,I,e,hk,-⟩:=rb h j;have J:mkB g b∈l:=by rw[D];exact kjk I
  have N:(mkB g b).mark=true:=by rw[F,kN h I,e];have X:=sG (T a j);exact (fv X).2 j
  obtain⟨t,Z⟩:=CG (s:=128) J (by unfold a8;rw[N,show (mkB g b).kind=1 from hk];rfl);refine⟨t,?_⟩;rw[show (mkB g b).at_=(a:Int) by show b.at_=_;rw[e,ab]] at Z;exact Z
 have H:∀ {a:Nat},Rch ws a->∃t,gn (aB l 128) a=some t/\ic (aB l 128) (a:Int)=some t:=by intro a j;obtain⟨t,Z⟩:=Q j;have X:=sG (T a j);exact⟨t,by unfold gn;rw[if_neg (by omega)];exact Z,Z⟩
 have S:cu d=0:=by unfold cu;rw[if_pos k6,k4]
 have Kc:eW d=aB l 128:=by rw[(dF S).2.2,k5]
 have Kd:∀i,i<16->slAt d i=slAt ws i:=λi f=>by unfold slAt;rw[k _ (by omega)]
 have Kn:slsOk d=true:=by rw[cU];intro i f;rw[Kd i f];exact (cU ws).1 h2 i f
 have W:∀i,i<16->∃o,gM d (aB l 128) i=some o/\((∀m∈aB l 128,m.1=m.2)->o=[]):=by
  intro i f;unfold gM;by_cases hu:(slAt d i).used=true
  .rw[if_pos hu];have B:=hu;rw[Kd i f] at B |-;obtain⟨t,t1,t2⟩:=H (Rch.slot i f B);rw[t1];dsimp only;have G:(((slAt ws i).at_.toNat:Nat):Int)=(slAt ws i).at_:=kj9 (gF (wd ws (112+i))).2.2.1;by_cases z:wd d (112+i)=oA ⟨(slAt ws i).gen,true,t⟩
   .rw[if_pos z];exact⟨[],rfl,λ_=>rfl⟩
   rw[if_neg z];refine⟨_,rfl,λc=>absurd ?_ z⟩;have Eq:=c _ (pX t2);dsimp only at Eq;have h5:oA (slAt ws i)=wd ws (112+i):=Ex (fM ho _);rw[k _ (by omega),<-h5];congr 1;rw[<-Eq,G];obtain⟨y,hy⟩:=xq (slAt ws i);rw[hy] at B |-;obtain⟨yg,yu,ya⟩:=y;dsimp only at B |-;rw[B]
  rw[if_neg hu];exact⟨[],rfl,λ_=>rfl⟩
 obtain⟨o,Kg,Km⟩:=Cc (ws:=d) (m:=aB l 128) 16 (λi f=>by obtain⟨o,R,-⟩:=W i f;exact⟨o,R⟩);have V:=Js S Kn (o:=o) (by rw[Kc];exact Kg);have n:∀m∈aB l 128,dA d m.1=0/\((∀m∈aB l 128,m.1=m.2)->cD d m.1=[]):=by
  intro m N;obtain⟨b,I,u,G⟩:=BP N;unfold a8 at u;simp only[kqt,kqw] at u;have Kk:aQ d 128=fwB l 128:=by rw[(gj k6).2.1,k7]
  obtain⟨b2,J,e1,e2⟩:=IJ (s:=128) I;obtain⟨L,Kf⟩:=nA (a:=m.1) J (by rw[e1,G]) (by rw[e2,u.1]);obtain⟨f1,f2,f3⟩:=jA Kf;obtain⟨b0,C,r1,r2,r3,r4⟩:=IP f1;have A:b0=b:=pW Ka C I (by rw[<-r1,f2,G]);subst A;rw[D] at C;obtain⟨bw,Y,A⟩:=kzr.1 C;obtain⟨a,j,-,-,Kh,-⟩:=(ch K).1 bw Y;have O:Rch ws a:=by have:=kN h Y;rw[<-F,A,u.2,j] at this;exact (fv Kh).1 this.symm
  have Ke:L.at_=(a:Int):=by rw[r1,<-A,j];exact ab ws a
  have Kp:L.typ=(aq (wd ws a)).typ:=by rw[r4,<-A,j];rfl
  obtain⟨n,-⟩:=iH K (T a O);have hty8:=ot n;have Kr:r8 d L=flds ws a:=by unfold r8 flds tyA;rw[Kp,k _ (by omega),k _ (by omega)]
  have U:∀r∈fj d L,∃o,fR d (aB l 128) r.toNat=some o/\((∀m∈aB l 128,m.1=m.2)->o=[]):=by
   intro r E;unfold fj at E;obtain⟨i,-,f,rfl⟩:=ky.1 E;rw[Kr] at f;have hn:(L.at_+2+(i:Int)).toNat=a+2+i:=by rw[Ke];omega
   rw[hn];unfold fR;rw[Kj O f];by_cases hv:wd ws (a+2+i)=0
   .rw[if_pos hv];exact⟨[],rfl,λ_=>rfl⟩
   rw[if_neg hv];have E:=(Hq h O (r:=((a+2+i:Nat):Int)) (sq.2 ⟨i,rfl,f⟩)).2.2;rw[kqj] at E;obtain⟨t,t1,t2⟩:=H (E hv);rw[t1];dsimp only;by_cases z:((wd ws (a+2+i):Nat):Int)=t
   .rw[if_pos z];exact⟨[],rfl,λ_=>rfl⟩
   rw[if_neg z];refine⟨_,rfl,λc=>absurd ?_ z⟩;exact c _ (pX t2)
  obtain⟨q,Ko,Kl⟩:=Cn (ws:=d) (m:=aB l 128) (fj d L) (λr E=>by obtain⟨o,R,-⟩:=U r E;exact⟨o,R⟩);have Kb:=ym S (a:=m.1) (b:=L) (by rw[Kk];exact Kf) (by rw[r3];exact u.2) (o:=q) (by rw[Kc];exact Ko);refine⟨Kb.1,λc=>?_⟩;rw[Kb.2];refine Kl λr E=>?_;obtain⟨o,R,h5⟩:=U r E;rw[R,h5 c]
 refine⟨g,d,aB l 128,F,by rw[Kq];exact v,g4,k4,k5,V.1,λm N=>(n m N).1,λc=>⟨?_,λm N=>(n m N).2 c⟩⟩;rw[V.2];refine Km λi f=>?_;obtain⟨o',R,h5⟩:=W i f;rw[R,h5 c]
structure NxL (ws xs:List Nat):Prop where
 len:xs.length=ws.length
 at_:∀i:Nat,19<=i->wd xs i=wd ws i\/∃b∈af ws,(i:Int)=b.at_+1
theorem Jz{xs:List Nat}(n:Nat)(l:List Bk):qu n (l.map (nxB xs))=qu n l:=by unfold qu;rw[List.foldl_map];rfl
section
variable {ws xs:List Nat}
theorem NxL.low(h:NxL ws xs)(h0:ah ws=0)(h19:19<=i)(hi:i<128):wd xs i=wd ws i:=by
 rcases h.at_ i h19 with c|⟨b,d,c⟩
 .exact c
 obtain⟨a,rfl,a1,-⟩:=(ch h0).1 b d;rw[ab] at c;omega
theorem NxL.even(h:NxL ws xs)(h0:ah ws=0)(h19:19<=i)(hi:i%2=0):wd xs i=wd ws i:=by
 rcases h.at_ i h19 with c|⟨b,d,c⟩
 .exact c
 obtain⟨a,rfl,-,a1,-⟩:=(ch h0).1 b d;rw[ab] at c;omega
theorem NxL.ev(h:NxL ws xs)(h0:ah ws=0):Ev ws xs:=by
 refine⟨h.len,λi c=>?_⟩;rcases c with⟨b,a⟩|⟨b,a⟩
 .exact h.even h0 (by omega) b
 exact h.low h0 (by omega) a
theorem NxL.tb(h:NxL ws xs)(h0:ah ws=0)(a:Nat):tb xs a=tb ws a:=by unfold Proofs.YtpcajamacpbjcaaGreat.tb;rw[((h.ev h0).heap h0).2,h.len,Jz]
theorem NxL.slAt(h:NxL ws xs)(h0:ah ws=0)(hi:i<16):slAt xs i=slAt ws i:=by unfold Proofs.YtpcajamacpbjcaaGreat.slAt;rw[h.low h0 (by omega) (by omega)]
theorem NxL.slsOk(h:NxL ws xs)(h0:ah ws=0):slsOk xs=slsOk ws:=by
 rw[kzg,cU,cU];unfold ox;constructor
 .intro b i a;rw[<-h.slAt h0 a];exact b i a
 intro b i a;rw[h.slAt h0 a];exact b i a
theorem NxL.flds(h:NxL ws xs)(h0:ah ws=0)(ha:Proofs.YtpcajamacpbjcaaGreat.tb ws a≠0):flds xs a=flds ws a:=by obtain⟨b,-⟩:=iH h0 ha;have:=ot b;have h19:=b.1;have c:=b.2.1;unfold Proofs.YtpcajamacpbjcaaGreat.flds;rw[h.even h0 (by omega) c,h.low h0 (by omega) (by omega),h.low h0 (by omega) (by omega)]
theorem NxL.ref(h:NxL ws xs)(h0:ah ws=0)(ht:Proofs.YtpcajamacpbjcaaGreat.tb ws a≠0)(hf:(Proofs.YtpcajamacpbjcaaGreat.flds ws a)[i]? = some 3):wd xs (a+2+i)=wd ws (a+2+i):=by
 have c:=(iH h0 ht).1;have h19:=c.1;rcases h.at_ (a+2+i) (by omega) with d|⟨b,e,d⟩
 .exact d
 exact absurd d.symm (rB h0 c (kzb.1 hf).1 e)
theorem NxL.rch(h:NxL ws xs)(h0:ah ws=0)(a:Nat):Rch xs a↔Rch ws a:=by
 constructor
 .intro b
  induction b with
  | slot i hi hu=>rw[h.slAt h0 hi] at hu |-;exact Rch.slot i hi hu
  | ref a i b ht hf hv ih =>rw[h.tb h0] at ht;rw[h.flds h0 ht] at hf;rw[h.ref h0 ht hf] at hv |-;exact Rch.ref a i ih ht hf hv
 intro b
 induction b with
 | slot i hi hu=>rw[<-h.slAt h0 hi] at hu |-;exact Rch.slot i hi hu
 | ref a i b ht hf hv ih =>rw[<-h.ref h0 ht hf] at hv |-;exact Rch.ref a i ih (by rw[h.tb h0];exact ht) (by rw[h.flds h0 ht];exact hf) hv
theorem NxL.same(h:NxL ws xs)(h0:ah ws=0):ah xs=0/\aC xs=aC ws/\eh xs=eh ws:=by
 have f:=h.rch h0;have g:=(h.ev h0).heap h0;have j:pd xs↔pd ws:=by
  constructor
  .intro e a c;rw[<-h.tb h0];exact e a ((f a).2 c)
  intro e a c;rw[h.tb h0];exact e a ((f a).1 c)
 have d:aC xs=aC ws:=by unfold aC;rw[if_pos g.1,if_pos h0,h.slsOk h0,propext j]
 refine⟨g.1,d,?_⟩;have i:seenL xs=seenL ws:=by unfold seenL;rw[h.len];refine kz2 λa _=>?_;exact decide_eq_decide.2 (f a)
 by_cases b:aC ws=0
 .rw[ei (by rw[d];exact b),ei b,i,h.len]
 rw[vK (by rw[d];exact b),vK b]
end
theorem pT{E:List En}(hE:∀e∈E,e.a<19\/∃b∈af x,e.a=b.at_+1):NxL x (ak x E):=by
 refine⟨ax _ _,λi h19=>?_⟩;by_cases c:∃b∈af x,(i:Int)=b.at_+1
 .exact .inr c
 refine .inl (aU _ _ _ λe g h=>?_);rcases hE e g with d|⟨b,f,d⟩
 .omega
 exact c ⟨b,f,by rw[<-d,h]⟩
theorem ut(p2:wd x 16=2)(h:(ae x).1=0):ah (ak x (ae x).2)=0/\aC (ak x (ae x).2)=aC x/\eh (ak x (ae x).2)=eh x:=by
 obtain⟨f,e⟩:=C5 p2 h;rw[e];dsimp only;have g:∀e∈ay x,∃b∈af x,e.a=b.at_+1:=by intro e c;rw[oL f] at c;obtain⟨b,i,-,j⟩:=fu c;exact⟨b,i,j⟩
 refine (pT λe c=>?_).same f;by_cases d:32<=(ay x).length
 .rw[cm d] at c;exact .inr (g e (kxv c))
 rw[fC d] at c;rcases kqx.1 c with rfl|c
 .exact .inl (by dsimp only;omega)
 exact .inr (g e c)
end Go.Proofs.YtpcajamacpbjcaaGreat
