/- Texts laid together: StgR Frsh Al25P StgN StgM StgT MkJP FxTP StgV. -/
import Derived.Test.YtpcajamacpbjcaaGreatZKStg2
import Derived.Test.YtpcajamacpbjcaaGreatZKMove
import Derived.Test.YtpcajamacpbjcaaGreatZKImage
import Derived.Test.YtpcajamacpbjcaaGreatZKStg1
import Derived.Test.YtpcajamacpbjcaaGreatZKFix
set_option maxHeartbeats 16000000
set_option linter.all false
namespace Go.Proofs.YtpcajamacpbjcaaGreat
open Go.RowKit
variable {b:Bk}{l:List Bk}{ws x:List Nat}{a i:Nat}
def stX (x:List Nat) (outs:List (List En)) (n:Nat):List Nat:=(outs.take n).foldl aj x
theorem tJ(x:List Nat)(outs:List (List En)):stX x outs 0=x:=rfl
theorem Cl(x:List Nat)(E:List En)(outs:List (List En))(n:Nat):stX x (E::outs) (n+1)=stX (aj x E) outs n:=rfl
theorem hpOut_few(ws:List Nat):(aa ws).length<=ws.length:=by
 unfold aa;split
 .rename_i h;obtain⟨b,l,a,-⟩:=al h;have hb:=(af _).1 b;have:=(a9 (by omega) _ _ a (by omega) (by omega) (by omega)).1;rw[a];simp only[kq4];omega
 simp
theorem Ej(p1:wd x 16=1)(h:(ac x).1=0):aF x=0/\ac x=(0,gE (aN x) 2):=by
 have c:aw x=0:=by
  by_cases a:aw x=0
  .exact a
  unfold ac at h;rw[if_neg a] at h;exact absurd h a
 have b:aF x=0:=by
  by_cases a:aF x=0
  .exact a
  unfold ac at h;rw[if_pos c,if_pos p1,if_neg a] at h;exact absurd h a
 exact⟨b,by unfold ac;rw[if_pos c,if_pos p1,if_pos b]⟩
theorem xT(p2:wd x 16=2)(h:(ac x).1=0):ag x=0/\ac x=(0,gE (aG x) 3):=by
 have c:aw x=0:=by
  by_cases a:aw x=0
  .exact a
  unfold ac at h;rw[if_neg a] at h;exact absurd h a
 have d:¬ wd x 16=1:=by omega
 have b:ag x=0:=by
  by_cases a:ag x=0
  .exact a
  unfold ac at h;rw[if_pos c,if_neg d,if_pos p2,if_neg a] at h;exact absurd h a
 exact⟨b,by unfold ac;rw[if_pos c,if_neg d,if_pos p2,if_pos b]⟩
theorem D9(p1:wd x 16=1)(h:(ac x).1=0)(h32:32<=(aN x).length):aF (aj x (ac x).2)=0/\dY (aj x (ac x).2)=dY x:=by obtain⟨a,e⟩:=Ej p1 h;rw[e];dsimp only;rw[ce h32];obtain⟨c,b,-⟩:=(ip a (kjo 31 _)).same a;exact⟨c,b⟩
structure RmL (ws xs:List Nat):Prop where
 len:xs.length=ws.length
 at_:∀i,19<=i->wd xs i=wd ws i\/(128<=i/\i%2=0/\ay (wd ws i)=true/\(ah (wd ws i)).kind=1/\∃m,wd xs i=fR (wd ws i) m)
section
variable {ws xs:List Nat}
theorem RmL.low(h:RmL ws xs)(h19:19<=i)(hi:i<128):wd xs i=wd ws i:=by
 rcases h.at_ i h19 with a|a
 .exact a
 omega
theorem RmL.odd(h:RmL ws xs)(h19:19<=i)(hi:i%2=1):wd xs i=wd ws i:=by
 rcases h.at_ i h19 with a|a
 .exact a
 omega
theorem RmL.sp(h:RmL ws xs)(i:Nat)(h19:19<=i):ay (wd xs i)=ay (wd ws i):=by
 rcases h.at_ i h19 with d|⟨-,-,a,b,m,c⟩
 .rw[d]
 rw[c,a,(ij a b m).1]
theorem RmL.raw(h:RmL ws xs)(i:Nat)(h19:19<=i):ah (wd xs i)={ ah (wd ws i) with mark:=qL xs i }:=by
 unfold qL;rcases h.at_ i h19 with d|⟨-,-,c,a,m,b⟩
 .rw[d]
 rw[b,(ij c a m).2.1]
theorem RmL.sz(h:RmL ws xs)(i:Nat)(h19:19<=i):(ah (wd xs i)).size=(ah (wd ws i)).size:=by rw[h.raw i h19]
theorem RmL.szAt(h:RmL ws xs)(i:Nat)(h19:19<=i):szAt xs i=szAt ws i:=by have a:=h.sz i h19;have e:∀w,(ah w).size=((w/65536%65536:Nat):Int):=λ_=>rfl;rw[e,e] at a;unfold Proofs.YtpcajamacpbjcaaGreat.szAt;exact Int.ofNat.inj a
theorem RmL.stands(h:RmL ws xs)(i:Nat)(h19:19<=i):stands xs i=stands ws i:=by unfold Proofs.YtpcajamacpbjcaaGreat.stands;rw[h.sp i h19,h.sz i h19,h.len]
theorem RmL.bkAt(h:RmL ws xs)(h19:19<=i)(hi:i%2=0):bkAt xs i=mkB xs (bkAt ws i):=by
 unfold mkB;have a:(Proofs.YtpcajamacpbjcaaGreat.bkAt ws i).at_.toNat=i:=by rw[ab,kqj]
 rw[a];unfold Proofs.YtpcajamacpbjcaaGreat.bkAt;rw[h.raw i h19,h.odd (i:=i+1) (by omega) (by omega)]
theorem RmL.blocks(h:RmL ws xs):∀i l,blocks ws i=some l->i%2=0->19<=i->blocks xs i=some (l.map (mkB xs)):=by
 refine dr (λi l=>i%2=0->19<=i->Proofs.YtpcajamacpbjcaaGreat.blocks xs i=some (l.map (mkB xs))) (λi b _ _=>?_) (λi l b d hb c e a=>?_)
 .exact aC (by rw[h.len];exact b)
 have hsz:=ax d;have c:=c (by omega) (by omega);rw[aO (by rw[h.len];exact b) (by rw[h.stands i a];exact d),h.szAt i a,c,h.bkAt a e];rfl
theorem Cx(h:RmL ws xs)(hb:b.kind=1->tyA b+1<128):dA xs (mkB xs b)=dA ws b:=by
 by_cases a:b.kind=1
 .have h2:=hb a;unfold dA db;show (b.kind != 1||(bE (wd xs (tyA b)) (wd xs (tyA b+1))&&b.size==((aX (wd xs (tyA b)%256):Nat):Int)))=_;rw[h.low (by unfold tyA;omega) (by omega),h.low (by unfold tyA;omega) (by omega)]
 rw[d6 a,d6 (b:=mkB xs b) a]
theorem RmL.heap(h:RmL ws xs)(h0:ag ws=0):ag xs=0/\aa xs=(aa ws).map (mkB xs):=by obtain⟨g,l,d,c,f⟩:=al h0;have e:=h.blocks 128 l d (by omega) (by omega);rw[f];refine fT (by rw[h.len];exact g) e ?_;rw[List.all_map,kzq];rw[kzq] at c;intro b a;show dA xs (mkB xs b)=true;rw[Cx h (iO d (by omega) b a)];exact c b a
theorem RmL.tb(h:RmL ws xs)(h0:ag ws=0)(a:Nat):tb xs a=tb ws a:=by unfold Proofs.YtpcajamacpbjcaaGreat.tb;rw[(h.heap h0).2,h.len,xP]
theorem RmL.slAt(h:RmL ws xs)(hi:i<16):slAt xs i=slAt ws i:=by unfold Proofs.YtpcajamacpbjcaaGreat.slAt;rw[h.low (by omega) (by omega)]
theorem RmL.slsOk(h:RmL ws xs):slsOk xs=slsOk ws:=by
 rw[kzk,cw,cw];unfold nC;constructor
 .intro b i a;rw[<-h.slAt a];exact b i a
 intro b i a;rw[h.slAt a];exact b i a
theorem RmL.flds(h:RmL ws xs)(h0:ag ws=0)(ha:Proofs.YtpcajamacpbjcaaGreat.tb ws a≠0):flds xs a=flds ws a:=by obtain⟨b,-⟩:=gO h0 ha;have:=mS b;have h19:=b.1;unfold Proofs.YtpcajamacpbjcaaGreat.flds;rw[h.raw a (by omega)];dsimp only;rw[h.low (by omega) (by omega),h.low (by omega) (by omega)]
theorem RmL.ref(h:RmL ws xs)(hg:rz ws)(h0:ag ws=0)(ha:Rch ws a)(ht:Proofs.YtpcajamacpbjcaaGreat.tb ws a≠0)(hf:(Proofs.YtpcajamacpbjcaaGreat.flds ws a)[i]? = some 3):wd xs (a+2+i)=wd ws (a+2+i):=by
 have h19:=(gO h0 ht).1.1;rcases h.at_ (a+2+i) (by omega) with d|⟨-,-,c,-⟩
 .exact d
 exfalso;have hb:=mD c;have b:=hg _ (Rch.ref a i ha ht hf (by omega));rw[kk3 (by omega)] at b;have:=qO b;have:=(de ws (al h0).1).2.1;omega
theorem RmL.rch(h:RmL ws xs)(hg:rz ws)(h0:ag ws=0)(a:Nat):Rch xs a↔Rch ws a:=by
 constructor
 .intro b
  induction b with
  | slot i hi hu=>rw[h.slAt hi] at hu |-;exact Rch.slot i hi hu
  | ref a i b ht hf hv ih =>rw[h.tb h0] at ht;rw[h.flds h0 ht] at hf;rw[h.ref hg h0 ih ht hf] at hv |-;exact Rch.ref a i ih ht hf hv
 intro b
 induction b with
 | slot i hi hu=>rw[<-h.slAt hi] at hu |-;exact Rch.slot i hi hu
 | ref a i b ht hf hv ih =>rw[<-h.ref hg h0 b ht hf] at hv |-;exact Rch.ref a i ih (by rw[h.tb h0];exact ht) (by rw[h.flds h0 ht];exact hf) hv
theorem RmL.same(h:RmL ws xs)(h0:aF ws=0):aF xs=0/\dY xs=dY ws/\seenL xs=seenL ws/\ag xs=0/\aa xs=(aa ws).map (mkB xs):=by
 obtain⟨b,j,g⟩:=av h0;have e:=h.rch g b;have f:=h.heap b;have i:rz xs:=λa k=>by rw[h.tb b];exact g a ((e a).1 k)
 have d:aF xs=0:=BA f.1 (by rw[h.slsOk];exact j) i;have c:seenL xs=seenL ws:=by unfold seenL;rw[h.len];refine kz8 λa _=>?_;exact decide_eq_decide.2 (e a)
 refine⟨d,?_,c,f⟩;rw[eE d,eE h0,c,h.len]
end
theorem la :∀ {l:List En} {x z:List Nat},z.length=x.length->wd z i=wd x i->wd (aj z l) i=wd (aj x l) i:=by
 intro l
 induction l with
 | nil=>intro x z _ h;exact h
 | cons e l ih =>
  intro x z b h;simp only[aj];rw[b];split
  .refine ih (by rw[kza,kza,b]) ?_;rename_i hr;by_cases c:i=e.a.toNat
   .subst c;unfold wd;rw[kz3 (by omega),kz3 (by omega)]
   unfold wd;rw[kxr (by omega),kxr (by omega)];exact h
  exact ih b h
theorem sT(h:aF x=0)(p:Nat):RmL x (aj x (⟨16,p⟩::aN x)):=by
 have a:=zX h;refine⟨aE _ _,λi h19=>?_⟩;have e:wd (aj x (⟨16,p⟩::aN x)) i=wd (aj x (aN x)) i:=by
  simp only[aj];split
  .refine la (by rw[kza]) ?_;unfold wd;rw[kxr (by simp;omega)]
  rfl
 rw[e];exact a.at_ i
theorem Dy{l:List En}(p:Nat)(h19:19<=i):wd (aj x (⟨16,p⟩::l)) i=wd (aj x l) i:=by
 simp only[aj];split
 .refine la (by rw[kza]) ?_;unfold wd;rw[kxr (by simp;omega)]
 rfl
theorem Dg(h:aF x=0)(p:Nat):aF (aj x (⟨16,p⟩::aN x))=0/\dY (aj x (⟨16,p⟩::aN x))=dY x/\ag (aj x (⟨16,p⟩::aN x))=0/\ed (aa (aj x (⟨16,p⟩::aN x)))=dY x:=by obtain⟨f,g,g3,e,d⟩:=(sT h p).same h;refine⟨f,g,e,?_⟩;rw[d,<-BT h];congr 1;refine kz8 λb c=>?_;obtain⟨a,rfl,a1,-⟩:=(cb (av h).1).1 b c;unfold mkB qL;rw[ab,kqj,Dy p (by omega)]
def refsN (ws:List Nat) (a k:Nat):List Int:=((List.range k).filter λi=>(flds ws a)[i]? == some 3).map λi=>((a+2+i:Nat):Int)
def DI (ws:List Nat) (a:Nat):List Int:=refsN ws a (flds ws a).length
theorem qQ{x:Int}:x∈DI ws a↔∃i:Nat,x=((a+2+i:Nat):Int)/\(flds ws a)[i]? = some 3:=by
 unfold DI refsN;rw[kzy];constructor
 .rintro ⟨i,b,rfl⟩;rw[kzu] at b;exact⟨i,rfl,by simpa using b.2⟩
 rintro ⟨i,rfl,b⟩;refine⟨i,kzu.2 ⟨kzh.2 (kzc.1 b).1,by simpa using b⟩,rfl⟩
theorem Fa(h:aF ws=0)(ha:Rch ws a){r:Int}(b:r∈DI ws a):(∃j:Nat,r=(j:Int)/\j<ws.length)/\wd ws r.toNat<ws.length/\(wd ws r.toNat≠0->Rch ws (wd ws r.toNat)):=by
 obtain⟨l,h2,d⟩:=av h;obtain⟨i,rfl,f⟩:=qQ.1 b;have hb:=de ws (al l).1;obtain⟨m,-⟩:=gO l (d a ha);have c:=nh m (kzc.1 f).1;refine⟨⟨_,rfl,c⟩,?_⟩;rw[kqj];by_cases g:wd ws (a+2+i)=0
 .exact ⟨by omega,λh=>absurd g h⟩
 have b:=Rch.ref a i ha (d a ha) f g;have k:=qO (d _ b);have e:min (wd ws (a+2+i)) 2048=wd ws (a+2+i):=by omega
 rw[e] at b k;exact⟨k,λ_=>b⟩
theorem obj_from(h:aF ws=0)(ha:Rch ws a):co ws (a:Int)=0/\(∃r:0<(aU ws (a:Int)).length,(aU ws (a:Int))[0]=bkAt ws a)/\(bkAt ws a).kind=1/\(∃t:Nat,(bkAt ws a).typ=(t:Int)/\t<8/\bE (wd ws (96+2*t)) (wd ws (96+2*t+1))=true/\flds ws a=bc (wd ws (96+2*t)) (wd ws (96+2*t+1)))/\a+2+(flds ws a).length<=ws.length:=by
 obtain⟨o,r,u⟩:=av h;obtain⟨m,-⟩:=gO o (u a ha);have i:=mS m;obtain⟨o1,o2,o3,s,n,q,k,hk,e,f⟩:=m;have g:=(al o).1;obtain⟨v,p⟩:=ci (ws:=ws) (a:=(a:Int)) g (by
  simp only[eB,kzo,kqc,kqp];omega) (l:=(aa ws).drop k) (by rw[kqj];exact f)
 have c:=gI (ws:=ws) (b:=bkAt ws a) n;rw[q] at c;have c:=c.symm;simp only[kqw,kqu] at c;have hst:=ax s;have d:(((ah (wd ws a)).typ.toNat:Nat):Int)=(ah (wd ws a)).typ:=by show ((((wd ws a/512%128:Nat):Int).toNat:Nat):Int)=_;rw[kqj];rfl
 refine⟨v,?_,n,⟨(ah (wd ws a)).typ.toNat,d.symm,i,c.1,rfl⟩,?_⟩
 .rw[p];refine⟨by rw[kxf];omega,?_⟩;rw[kjn];exact e
 have j:=c.2;rw[aP] at j;have h8:(flds ws a).length=(bc (wd ws (tyA (bkAt ws a))) (wd ws (tyA (bkAt ws a)+1))).length:=rfl;unfold aX at j;omega
theorem ye{m:List (Int × Int)}:∀k,(∀i,i<k->∃o,ie ws m i=some o)->∃o,dE ws m k=some o/\((∀i,i<k->ie ws m i=some [])->o=[]):=by
 intro k
 induction k with
 | zero=>intro _;exact⟨[],rfl,λ_=>rfl⟩
 | succ k ih =>intro h;obtain⟨o,e,f⟩:=ih (λi d=>h i (by omega));obtain⟨x,b⟩:=h k (by omega);refine⟨o++x,by simp only[dE,e,b,kzp],λc=>?_⟩;have a:=c k (by omega);rw[b] at a;injection a with a;rw[a,f (λi d=>c i (by omega)),kzm]
theorem xu{m:List (Int × Int)}:∀R:List Int,(∀r∈R,∃o,fu ws m r.toNat=some o)->∃o,cD ws m R=some o/\((∀r∈R,fu ws m r.toNat=some [])->o=[]):=by
 intro R
 induction R with
 | nil=>intro _;exact⟨[],rfl,λ_=>rfl⟩
 | cons r R ih =>intro h;obtain⟨o,e,f⟩:=ih (λi b=>h i (by simp[b]));obtain⟨x,c⟩:=h r (by simp);refine⟨x++o,by simp only[cD,e,c,kzp],λd=>?_⟩;have a:=d r (by simp);rw[c] at a;injection a with a;rw[a,f (λi b=>d i (by simp[b])),kzm]
theorem zZ:∀ {l:List Bk} {s:Int} {b:Bk},b∈l->aA b=true->∃t,fO (aq l s) b.at_=some t:=by
 intro l
 induction l with
 | nil=>intro s b h;simp at h
 | cons x l ih =>
  intro s b h a;simp only[aq];by_cases c:aA x=true
  .rw[if_pos c];simp only[fO];by_cases e:x.at_=b.at_
   .exact ⟨s,by rw[if_pos e]⟩
   rw[if_neg e];rcases kq0.1 h with rfl|h
   .exact absurd rfl e
   exact ih h a
  rw[if_neg c];rcases kq0.1 h with rfl|h
  .exact absurd a c
  exact ih h a
theorem Ad:∀ {l:List Bk} {s:Int} {m:Int × Int},m∈aq l s->∃b∈l,aA b=true/\b.at_=m.1:=by
 intro l
 induction l with
 | nil=>intro s m h;simp[aq] at h
 | cons x l ih =>
  intro s m h;simp only[aq] at h;split at h
  .rename_i hx;rcases kq0.1 h with rfl|h
   .exact ⟨x,by simp,hx,rfl⟩
   obtain⟨b,c,a⟩:=ih h;exact⟨b,by simp[c],a⟩
  obtain⟨b,c,a⟩:=ih h;exact⟨b,by simp[c],a⟩
theorem xj:∀ {l:List Bk} {s:Int} {e:En},e∈aT l s->∃b∈l,b.kind=1/\e.a=b.at_+1:=by
 intro l
 induction l with
 | nil=>intro s e h;simp[aT] at h
 | cons x l ih =>
  intro s e h;simp only[aT,kzt] at h;rcases h with h|h
  .split at h
   .rename_i hx;rw[kq7] at h;subst h;exact⟨x,by simp,hx.1,rfl⟩
   simp at h
  obtain⟨b,d,c⟩:=ih h;exact⟨b,by simp[d],c⟩
theorem Dj:∀ {l:List Bk} {s:Int} {b:Bk},b∈fwB l s->∃a∈l,b.at_=a.at_/\b.kind=a.kind/\b.mark=a.mark/\b.typ=a.typ:=by
 intro l
 induction l with
 | nil=>intro s b h;simp[fwB] at h
 | cons x l ih =>
  intro s b h;simp only[fwB] at h;rcases kq0.1 h with rfl|h
  .refine ⟨x,by simp,?_⟩;split<;>exact⟨rfl,rfl,rfl,rfl⟩
  obtain⟨a,d,c⟩:=ih h;exact⟨a,by simp[d],c⟩
theorem Eb:∀ {l:List Bk} {s:Int} {b:Bk},b∈l->∃a∈fwB l s,a.at_=b.at_/\a.kind=b.kind:=by
 intro l
 induction l with
 | nil=>intro s b h;simp at h
 | cons x l ih =>
  intro s b h;simp only[fwB];rcases kq0.1 h with rfl|h
  .refine ⟨_,List.mem_cons_self ..,?_⟩;split<;>exact⟨rfl,rfl⟩
  obtain⟨a,d,c⟩:=ih (s:=eP x s) h;exact⟨a,kx3 _ d,c⟩
theorem jS{a:Int}(h:b∈l)(h1:b.at_=a)(h2:b.kind=1):∃b2,jJ l a=some b2:=by
 cases c:jJ l a with
 | some b2=>exact⟨b2,rfl⟩
 | none =>unfold jJ at c;rw[List.find?_eq_none] at c;exact absurd (by simp[h1,h2]) (c b h)
theorem mf(h:l.Pairwise (λa b=>a.at_<b.at_)){a:Bk}(ha:a∈l)(hb:b∈l)(e:a.at_=b.at_):a=b:=by
 obtain⟨i,f,rfl⟩:=kqv ha;obtain⟨j,d,rfl⟩:=kqv hb;rw[kzf] at h;rcases kjp i j with c|c|c
 .have:=h i j f d c;omega
 .subst c;rfl
 have:=h j i d f c;omega
theorem CI{w:Nat}(h:w<18446744073709551616):mF (dD w)=w:=by
 unfold mF dD;dsimp only;rw[kqj,kqj];by_cases a:w/9223372036854775808=1
 .rw[show (w/9223372036854775808==1)=true by rw[kqu];exact a,if_pos rfl];omega
 rw[show (w/9223372036854775808==1)=false by rw[kqi];exact a,if_neg (by decide)];omega
theorem qU(h:ag ws=0)(ho:eg ws a)(hi:i<(flds ws a).length)(hb:b∈aa ws):b.at_+1≠((a+2+i:Nat):Int):=by
 obtain⟨o1,o2,t,q,p,n,k,r,e,c⟩:=ho;have d:=gI (ws:=ws) (b:=bkAt ws a) p;rw[n] at d;have d:=d.symm;simp only[kqw,kqu] at d;have l:=d.2;rw[aP] at l;have h8:(flds ws a).length=(bc (wd ws (tyA (bkAt ws a))) (wd ws (tyA (bkAt ws a)+1))).length:=rfl;unfold aX at l;obtain⟨j,o,rfl⟩:=kqv hb;rcases kq6 k j with u|u
 .rw[aO t q] at c;cases f:blocks ws (a+szAt ws a) with
  | none=>rw[f] at c;cases c
  | some l' =>
   rw[f] at c;simp only[kzp,Option.some.injEq] at c;have s:l'=(aa ws).drop (k+1):=by
    have:=congrArg (List.drop 1) c;rw[kxv] at this
    simpa using this
   have v:(aa ws)[j]∈l':=by rw[s];refine kk5.2 ⟨j-(k+1),by rw[kxf];omega,?_⟩;rw[kjn];congr 1;omega
   have:=(ld _ _ f).1 _ v;omega
 have g:=(cb h).2;rw[kzf] at g;have ha:(aa ws)[k].at_=(a:Int):=by rw[e,ab]
 rcases kq6 j k with m|m
 .have:=g j k o r m;omega
 have:j=k:=by omega
 subst this;omega
theorem sf(h:aF ws=0)(ho:∀x∈ws,x<18446744073709551616):∃(g d:List Nat) (M:List (Int × Int)),g=aj ws (aN ws)/\d=aj g (aG g)/\ag g=0/\bi d 128 128=0/\gj d 128 128=M/\dm d=0/\(∀m∈M,cG d m.1=0) /\
 ((∀m∈M,m.1=m.2)->dd d=[]/\∀m∈M,cr d m.1=[]):=by
 obtain⟨Q,h2,T⟩:=av h;have v:=zX h;obtain⟨g1,g2,g3,g4,g5⟩:=v.same h;obtain⟨g,G⟩:∃g,g=aj ws (aN ws):=⟨_,rfl⟩;rw[<-G] at v g1 g2 g3 g4 g5;obtain⟨l,k1,k2,k3,k4,k5,k6,k7,-,-⟩:=nK g4;have Gf:aG g=aT l 128:=by unfold aG;rw[if_pos g4,k2]
 obtain⟨d,w⟩:∃d,d=aj g (aT l 128):=⟨_,rfl⟩;rw[<-w] at k4 k5 k6 k7;have E:l=(aa ws).map (mkB g):=by rw[<-k2,g5]
 have U:l.Pairwise (λa b=>a.at_<b.at_):=by rw[E];exact yd (cb Q).2
 have hbd:=de ws (al Q).1;have O:g.length=ws.length:=v.len;have hlen2:d.length=ws.length:=by rw[w,aE,O]
 have k:∀p,p<128->wd d p=wd ws p:=by intro p hp;rw[w,bg _ _ _ (λe A=>?_),v.low hp];have:=oT _ _ k1 128 e A;omega
 have Fv:∀ {a i:Nat},Rch ws a->(flds ws a)[i]? = some 3->wd d (a+2+i)=wd ws (a+2+i):=by intro a i j f;obtain⟨n,-⟩:=gO Q (T a j);rw[w,bg _ _ _ (λe A=>?_),v.ref T Q j (T a j) f];obtain⟨b,I,-,e2⟩:=xj A;rw[e2];rw[E] at I;obtain⟨b0,u,rfl⟩:=kzy.1 I;have Fx:=qU Q n (kzc.1 f).1 (b:=b0) u;exact Fx
 have S:∀ {a:Nat},Rch ws a->∃t,fO (aq l 128) (a:Int)=some t:=by
  intro a j;obtain⟨b,I,e,hk,-⟩:=pd h j;have N:mkB g b∈l:=by rw[E];exact kjb I
  have R:(mkB g b).mark=true:=by rw[G,kS h I,e];have Fp:=qO (T a j);exact (cY Fp).2 j
  obtain⟨t,ht⟩:=zZ (s:=128) N (by unfold aA;rw[R,show (mkB g b).kind=1 from hk];rfl);refine⟨t,?_⟩;rw[show (mkB g b).at_=(a:Int) by show b.at_=_;rw[e,ab]] at ht;exact ht
 have H:∀ {a:Nat},Rch ws a->∃t,fG (aq l 128) a=some t/\fO (aq l 128) (a:Int)=some t:=by intro a j;obtain⟨t,ht⟩:=S j;have Fp:=qO (T a j);exact⟨t,by unfold fG;rw[if_neg (by omega)];exact ht,ht⟩
 have K:cu d=0:=by unfold cu;rw[if_pos k6,k4]
 have Y:cX d=aq l 128:=by rw[(cj K).2.2,k5]
 have V:∀i,i<16->slAt d i=slAt ws i:=λi f=>by unfold slAt;rw[k _ (by omega)]
 have Gb:slsOk d=true:=by rw[cw];intro i f;rw[V i f];exact (cw ws).1 h2 i f
 have Fs:∀i,i<16->∃o,ie d (aq l 128) i=some o/\((∀m∈aq l 128,m.1=m.2)->o=[]):=by
  intro i f;unfold ie;by_cases hu:(slAt d i).used=true
  .rw[if_pos hu];have z:=hu;rw[V i f] at z |-;obtain⟨t,t1,t2⟩:=H (Rch.slot i f z);rw[t1];dsimp only;have F:(((slAt ws i).at_.toNat:Nat):Int)=(slAt ws i).at_:=kja (gw (wd ws (112+i))).2.2.1;by_cases A:wd d (112+i)=mF ⟨(slAt ws i).gen,true,t⟩
   .rw[if_pos A];exact⟨[],rfl,λ_=>rfl⟩
   rw[if_neg A];refine⟨_,rfl,λc=>absurd ?_ A⟩;have Eq:=c _ (pv t2);dsimp only at Eq;have X:mF (slAt ws i)=wd ws (112+i):=CI (eX ho _);rw[k _ (by omega),<-X];congr 1;rw[<-Eq,F];obtain⟨y,hy⟩:=xq (slAt ws i);rw[hy] at z |-;obtain⟨yg,yu,ya⟩:=y;dsimp only at z |-;rw[z]
  rw[if_neg hu];exact⟨[],rfl,λ_=>rfl⟩
 obtain⟨o,Fu,Fw⟩:=ye (ws:=d) (m:=aq l 128) 16 (λi f=>by obtain⟨o,P,-⟩:=Fs i f;exact⟨o,P⟩);have Z:=Ea K Gb (o:=o) (by rw[Y];exact Fu);have n:∀m∈aq l 128,cG d m.1=0/\((∀m∈aq l 128,m.1=m.2)->cr d m.1=[]):=by
  intro m R;obtain⟨b,I,C,F⟩:=Ad R;unfold aA at C;simp only[kqw,kqu] at C;have Fz:aU d 128=fwB l 128:=by rw[(fa k6).2.1,k7]
  obtain⟨b2,N,e1,e2⟩:=Eb (s:=128) I;obtain⟨L,Fr⟩:=jS (a:=m.1) N (by rw[e1,F]) (by rw[e2,C.1]);obtain⟨f1,f2,f3⟩:=ib Fr;obtain⟨b0,u,r1,r2,r3,r4⟩:=Dj f1;have B:b0=b:=mf U u I (by rw[<-r1,f2,F]);subst B;rw[E] at u;obtain⟨bw,Ft,B⟩:=kzy.1 u;obtain⟨a,j,-,-,Ga,-⟩:=(cb Q).1 bw Ft;have J:Rch ws a:=by have:=kS h Ft;rw[<-G,B,C.2,j] at this;exact (cY Ga).1 this.symm
  have Fo:L.at_=(a:Int):=by rw[r1,<-B,j];exact ab ws a
  have Gc:L.typ=(ah (wd ws a)).typ:=by rw[r4,<-B,j];rfl
  obtain⟨n,-⟩:=gO Q (T a J);have hty8:=mS n;have Gd:rx d L=flds ws a:=by unfold rx flds tyA;rw[Gc,k _ (by omega),k _ (by omega)]
  have W:∀r∈cU d L,∃o,fu d (aq l 128) r.toNat=some o/\((∀m∈aq l 128,m.1=m.2)->o=[]):=by
   intro r D;unfold cU at D;obtain⟨i,-,f,rfl⟩:=kD.1 D;rw[Gd] at f;have hn:(L.at_+2+(i:Int)).toNat=a+2+i:=by rw[Fo];omega
   rw[hn];unfold fu;rw[Fv J f];by_cases hv:wd ws (a+2+i)=0
   .rw[if_pos hv];exact⟨[],rfl,λ_=>rfl⟩
   rw[if_neg hv];have D:=(Fa h J (r:=((a+2+i:Nat):Int)) (qQ.2 ⟨i,rfl,f⟩)).2.2;rw[kqj] at D;obtain⟨t,t1,t2⟩:=H (D hv);rw[t1];dsimp only;by_cases A:((wd ws (a+2+i):Nat):Int)=t
   .rw[if_pos A];exact⟨[],rfl,λ_=>rfl⟩
   rw[if_neg A];refine⟨_,rfl,λc=>absurd ?_ A⟩;exact c _ (pv t2)
  obtain⟨q,Ge,Fy⟩:=xu (ws:=d) (m:=aq l 128) (cU d L) (λr D=>by obtain⟨o,P,-⟩:=W r D;exact⟨o,P⟩);have Fq:=v7 K (a:=m.1) (b:=L) (by rw[Fz];exact Fr) (by rw[r3];exact C.2) (o:=q) (by rw[Y];exact Ge);refine⟨Fq.1,λc=>?_⟩;rw[Fq.2];refine Fy λr D=>?_;obtain⟨o,P,X⟩:=W r D;rw[P,X c]
 refine⟨g,d,aq l 128,G,by rw[Gf];exact w,g4,k4,k5,Z.1,λm R=>(n m R).1,λc=>⟨?_,λm R=>(n m R).2 c⟩⟩;rw[Z.2];refine Fw λi f=>?_;obtain⟨o',P,X⟩:=Fs i f;rw[P,X c]
structure NxL (ws xs:List Nat):Prop where
 len:xs.length=ws.length
 at_:∀i:Nat,19<=i->wd xs i=wd ws i\/∃b∈aa ws,(i:Int)=b.at_+1
theorem EX{xs:List Nat}(n:Nat)(l:List Bk):pV n (l.map (nxB xs))=pV n l:=by unfold pV;rw[List.foldl_map];rfl
section
variable {ws xs:List Nat}
theorem NxL.low(h:NxL ws xs)(h0:ag ws=0)(h19:19<=i)(hi:i<128):wd xs i=wd ws i:=by
 rcases h.at_ i h19 with c|⟨b,d,c⟩
 .exact c
 obtain⟨a,rfl,a1,-⟩:=(cb h0).1 b d;rw[ab] at c;omega
theorem NxL.even(h:NxL ws xs)(h0:ag ws=0)(h19:19<=i)(hi:i%2=0):wd xs i=wd ws i:=by
 rcases h.at_ i h19 with c|⟨b,d,c⟩
 .exact c
 obtain⟨a,rfl,-,a1,-⟩:=(cb h0).1 b d;rw[ab] at c;omega
theorem NxL.ev(h:NxL ws xs)(h0:ag ws=0):Ev ws xs:=by
 refine⟨h.len,λi c=>?_⟩;rcases c with⟨b,a⟩|⟨b,a⟩
 .exact h.even h0 (by omega) b
 exact h.low h0 (by omega) a
theorem NxL.tb(h:NxL ws xs)(h0:ag ws=0)(a:Nat):tb xs a=tb ws a:=by unfold Proofs.YtpcajamacpbjcaaGreat.tb;rw[((h.ev h0).heap h0).2,h.len,EX]
theorem NxL.slAt(h:NxL ws xs)(h0:ag ws=0)(hi:i<16):slAt xs i=slAt ws i:=by unfold Proofs.YtpcajamacpbjcaaGreat.slAt;rw[h.low h0 (by omega) (by omega)]
theorem NxL.slsOk(h:NxL ws xs)(h0:ag ws=0):slsOk xs=slsOk ws:=by
 rw[kzk,cw,cw];unfold nC;constructor
 .intro b i a;rw[<-h.slAt h0 a];exact b i a
 intro b i a;rw[h.slAt h0 a];exact b i a
theorem NxL.flds(h:NxL ws xs)(h0:ag ws=0)(ha:Proofs.YtpcajamacpbjcaaGreat.tb ws a≠0):flds xs a=flds ws a:=by obtain⟨b,-⟩:=gO h0 ha;have:=mS b;have h19:=b.1;have c:=b.2.1;unfold Proofs.YtpcajamacpbjcaaGreat.flds;rw[h.even h0 (by omega) c,h.low h0 (by omega) (by omega),h.low h0 (by omega) (by omega)]
theorem NxL.ref(h:NxL ws xs)(h0:ag ws=0)(ht:Proofs.YtpcajamacpbjcaaGreat.tb ws a≠0)(hf:(Proofs.YtpcajamacpbjcaaGreat.flds ws a)[i]? = some 3):wd xs (a+2+i)=wd ws (a+2+i):=by
 have c:=(gO h0 ht).1;have h19:=c.1;rcases h.at_ (a+2+i) (by omega) with d|⟨b,e,d⟩
 .exact d
 exact absurd d.symm (qU h0 c (kzc.1 hf).1 e)
theorem NxL.rch(h:NxL ws xs)(h0:ag ws=0)(a:Nat):Rch xs a↔Rch ws a:=by
 constructor
 .intro b
  induction b with
  | slot i hi hu=>rw[h.slAt h0 hi] at hu |-;exact Rch.slot i hi hu
  | ref a i b ht hf hv ih =>rw[h.tb h0] at ht;rw[h.flds h0 ht] at hf;rw[h.ref h0 ht hf] at hv |-;exact Rch.ref a i ih ht hf hv
 intro b
 induction b with
 | slot i hi hu=>rw[<-h.slAt h0 hi] at hu |-;exact Rch.slot i hi hu
 | ref a i b ht hf hv ih =>rw[<-h.ref h0 ht hf] at hv |-;exact Rch.ref a i ih (by rw[h.tb h0];exact ht) (by rw[h.flds h0 ht];exact hf) hv
theorem NxL.same(h:NxL ws xs)(h0:ag ws=0):ag xs=0/\aF xs=aF ws/\dY xs=dY ws:=by
 have d:=h.rch h0;have g:=(h.ev h0).heap h0;have j:rz xs↔rz ws:=by
  constructor
  .intro e a f;rw[<-h.tb h0];exact e a ((d a).2 f)
  intro e a f;rw[h.tb h0];exact e a ((d a).1 f)
 have c:aF xs=aF ws:=by unfold aF;rw[if_pos g.1,if_pos h0,h.slsOk h0,propext j]
 refine⟨g.1,c,?_⟩;have i:seenL xs=seenL ws:=by unfold seenL;rw[h.len];refine kz8 λa _=>?_;exact decide_eq_decide.2 (d a)
 by_cases b:aF ws=0
 .rw[eE (by rw[c];exact b),eE b,i,h.len]
 rw[ta (by rw[c];exact b),ta b]
end
theorem oU{E:List En}(hE:∀e∈E,e.a<19\/∃b∈aa x,e.a=b.at_+1):NxL x (aj x E):=by
 refine⟨aE _ _,λi h19=>?_⟩;by_cases c:∃b∈aa x,(i:Int)=b.at_+1
 .exact .inr c
 refine .inl (bg _ _ _ λe h g=>?_);rcases hE e h with d|⟨b,f,d⟩
 .omega
 exact c ⟨b,f,by rw[<-d,g]⟩
theorem tf(p2:wd x 16=2)(h:(ac x).1=0):ag (aj x (ac x).2)=0/\aF (aj x (ac x).2)=aF x/\dY (aj x (ac x).2)=dY x:=by
 obtain⟨d,e⟩:=xT p2 h;rw[e];dsimp only;have g:∀e∈aG x,∃b∈aa x,e.a=b.at_+1:=by intro e c;rw[qv d] at c;obtain⟨b,i,-,j⟩:=fY c;exact⟨b,i,j⟩
 refine (oU λe c=>?_).same d;by_cases f:32<=(aG x).length
 .rw[ce f] at c;exact .inr (g e (kxq c))
 rw[gq f] at c;rcases kq0.1 c with rfl|c
 .exact .inl (by dsimp only;omega)
 exact .inr (g e c)
end Go.Proofs.YtpcajamacpbjcaaGreat
