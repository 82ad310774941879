/- Texts laid together: StgR Frsh Al25P StgN StgM StgT MkJP FxTP StgV. -/
import Derived.Test.YtpcajamacpbjcaaGreatZKStg2
import Derived.Test.YtpcajamacpbjcaaGreatZKMove
import Derived.Test.YtpcajamacpbjcaaGreatZKImage
import Derived.Test.YtpcajamacpbjcaaGreatZKStg1
import Derived.Test.YtpcajamacpbjcaaGreatZKFix
set_option maxHeartbeats 16000000
set_option linter.all false
namespace Go.Proofs.YtpcajamacpbjcaaGreat
open Go.RowKit
variable {b:Bk}{l:List Bk}{ws x:List Nat}{a i:Nat}
def stX (x:List Nat) (outs:List (List En)) (n:Nat):List Nat:=(outs.take n).foldl ak x
theorem vb(x:List Nat)(outs:List (List En)):stX x outs 0=x:=rfl
theorem Eh(x:List Nat)(E:List En)(outs:List (List En))(n:Nat):stX x (E::outs) (n+1)=stX (ak x E) outs n:=rfl
def nr:List Nat:=nf 256 [] [] []
theorem jk:nr.length=256:=by decide +kernel
theorem hpOut_few(ws:List Nat):(aa ws).length<=ws.length:=by
 unfold aa;split
 .rename_i h;obtain⟨b,l,a,-⟩:=ao h;have hb:=(ac _).1 b;have:=(bq (by omega) _ _ a (by omega) (by omega) (by omega)).1;rw[a];simp only[kq2];omega
 simp
theorem Fp(p1:wd x 16=1)(h:(ae x).1=0):ax x=0/\ae x=(0,gN (aM x) 2):=by
 have b:av x=0:=by
  by_cases a:av x=0
  .exact a
  unfold ae at h;rw[if_neg a] at h;exact absurd h a
 have c:ax x=0:=by
  by_cases a:ax x=0
  .exact a
  unfold ae at h;rw[if_pos b,if_pos p1,if_neg a] at h;exact absurd h a
 exact⟨c,by unfold ae;rw[if_pos b,if_pos p1,if_pos c]⟩
theorem AD(p2:wd x 16=2)(h:(ae x).1=0):af x=0/\ae x=(0,gN (aH x) 3):=by
 have b:av x=0:=by
  by_cases a:av x=0
  .exact a
  unfold ae at h;rw[if_neg a] at h;exact absurd h a
 have d:¬ wd x 16=1:=by omega
 have c:af x=0:=by
  by_cases a:af x=0
  .exact a
  unfold ae at h;rw[if_pos b,if_neg d,if_pos p2,if_neg a] at h;exact absurd h a
 exact⟨c,by unfold ae;rw[if_pos b,if_neg d,if_pos p2,if_pos c]⟩
theorem FT(p1:wd x 16=1)(h:(ae x).1=0)(h32:32<=(aM x).length):ax (ak x (ae x).2)=0/\aR (ak x (ae x).2)=aR x:=by obtain⟨a,e⟩:=Fp p1 h;rw[e];dsimp only;rw[b9 h32];obtain⟨b,c,-⟩:=(iw a (kjs 31 _)).same a;exact⟨b,c⟩
structure RmL (ws xs:List Nat):Prop where
 len:xs.length=ws.length
 at_:∀i,19<=i->wd xs i=wd ws i\/(128<=i/\i%2=0/\az (wd ws i)=true/\(ah (wd ws i)).kind=1/\∃m,wd xs i=fJ (wd ws i) m)
section
variable {ws xs:List Nat}
theorem RmL.low(h:RmL ws xs)(h19:19<=i)(hi:i<128):wd xs i=wd ws i:=by
 rcases h.at_ i h19 with a|a
 .exact a
 omega
theorem RmL.odd(h:RmL ws xs)(h19:19<=i)(hi:i%2=1):wd xs i=wd ws i:=by
 rcases h.at_ i h19 with a|a
 .exact a
 omega
theorem RmL.sp(h:RmL ws xs)(i:Nat)(h19:19<=i):az (wd xs i)=az (wd ws i):=by
 rcases h.at_ i h19 with b|⟨-,-,a,c,m,d⟩
 .rw[b]
 rw[d,a,(iy a c m).1]
theorem RmL.raw(h:RmL ws xs)(i:Nat)(h19:19<=i):ah (wd xs i)={ ah (wd ws i) with mark:=qJ xs i }:=by
 unfold qJ;rcases h.at_ i h19 with a|⟨-,-,d,b,m,c⟩
 .rw[a]
 rw[c,(iy d b m).2.1]
theorem RmL.sz(h:RmL ws xs)(i:Nat)(h19:19<=i):(ah (wd xs i)).size=(ah (wd ws i)).size:=by rw[h.raw i h19]
theorem RmL.szAt(h:RmL ws xs)(i:Nat)(h19:19<=i):szAt xs i=szAt ws i:=by have a:=h.sz i h19;have e:∀w,(ah w).size=((w/65536%65536:Nat):Int):=λ_=>rfl;rw[e,e] at a;unfold Proofs.YtpcajamacpbjcaaGreat.szAt;exact Int.ofNat.inj a
theorem RmL.stands(h:RmL ws xs)(i:Nat)(h19:19<=i):stands xs i=stands ws i:=by unfold Proofs.YtpcajamacpbjcaaGreat.stands;rw[h.sp i h19,h.sz i h19,h.len]
theorem RmL.bkAt(h:RmL ws xs)(h19:19<=i)(hi:i%2=0):bkAt xs i=mkB xs (bkAt ws i):=by
 unfold mkB;have a:(Proofs.YtpcajamacpbjcaaGreat.bkAt ws i).at_.toNat=i:=by rw[ab,kqk]
 rw[a];unfold Proofs.YtpcajamacpbjcaaGreat.bkAt;rw[h.raw i h19,h.odd (i:=i+1) (by omega) (by omega)]
theorem RmL.blocks(h:RmL ws xs):∀i l,blocks ws i=some l->i%2=0->19<=i->blocks xs i=some (l.map (mkB xs)):=by
 refine cV (λi l=>i%2=0->19<=i->Proofs.YtpcajamacpbjcaaGreat.blocks xs i=some (l.map (mkB xs))) (λi b _ _=>?_) (λi l b d hb c e a=>?_)
 .exact ay (by rw[h.len];exact b)
 have hsz:=aC d;have c:=c (by omega) (by omega);rw[aG (by rw[h.len];exact b) (by rw[h.stands i a];exact d),h.szAt i a,c,h.bkAt a e];rfl
theorem CF(h:RmL ws xs)(hb:b.kind=1->tyA b+1<128):dm xs (mkB xs b)=dm ws b:=by
 by_cases a:b.kind=1
 .have h2:=hb a;unfold dm cD;show (b.kind != 1||(bN (wd xs (tyA b)) (wd xs (tyA b+1))&&b.size==((aP (wd xs (tyA b)%256):Nat):Int)))=_;rw[h.low (by unfold tyA;omega) (by omega),h.low (by unfold tyA;omega) (by omega)]
 rw[dC a,dC (b:=mkB xs b) a]
theorem RmL.heap(h:RmL ws xs)(h0:af ws=0):af xs=0/\aa xs=(aa ws).map (mkB xs):=by obtain⟨e,l,c,d,f⟩:=ao h0;have g:=h.blocks 128 l c (by omega) (by omega);rw[f];refine eV (by rw[h.len];exact e) g ?_;rw[List.all_map,kzq];rw[kzq] at d;intro b a;show dm xs (mkB xs b)=true;rw[CF h (gA c (by omega) b a)];exact d b a
theorem RmL.tb(h:RmL ws xs)(h0:af ws=0)(a:Nat):tb xs a=tb ws a:=by unfold Proofs.YtpcajamacpbjcaaGreat.tb;rw[(h.heap h0).2,h.len,Bo]
theorem RmL.slAt(h:RmL ws xs)(hi:i<16):slAt xs i=slAt ws i:=by unfold Proofs.YtpcajamacpbjcaaGreat.slAt;rw[h.low (by omega) (by omega)]
theorem RmL.slsOk(h:RmL ws xs):slsOk xs=slsOk ws:=by
 rw[kzr,bQ,bQ];unfold nK;constructor
 .intro b i a;rw[<-h.slAt a];exact b i a
 intro b i a;rw[h.slAt a];exact b i a
theorem RmL.flds(h:RmL ws xs)(h0:af ws=0)(ha:Proofs.YtpcajamacpbjcaaGreat.tb ws a≠0):flds xs a=flds ws a:=by obtain⟨b,-⟩:=iA h0 ha;have:=lc b;have h19:=b.1;unfold Proofs.YtpcajamacpbjcaaGreat.flds;rw[h.raw a (by omega)];dsimp only;rw[h.low (by omega) (by omega),h.low (by omega) (by omega)]
theorem RmL.ref(h:RmL ws xs)(hg:rS ws)(h0:af ws=0)(ha:Rch ws a)(ht:Proofs.YtpcajamacpbjcaaGreat.tb ws a≠0)(hf:(Proofs.YtpcajamacpbjcaaGreat.flds ws a)[i]? = some 3):wd xs (a+2+i)=wd ws (a+2+i):=by
 have h19:=(iA h0 ht).1.1;rcases h.at_ (a+2+i) (by omega) with c|⟨-,-,d,-⟩
 .exact c
 exfalso;have hb:=nn d;have b:=hg _ (Rch.ref a i ha ht hf (by omega));rw[kvd (by omega)] at b;have:=nL b;have:=(fP ws (ao h0).1).2.1;omega
theorem RmL.rch(h:RmL ws xs)(hg:rS ws)(h0:af ws=0)(a:Nat):Rch xs a↔Rch ws a:=by
 constructor
 .intro b
  induction b with
  | slot i hi hu=>rw[h.slAt hi] at hu |-;exact Rch.slot i hi hu
  | ref a i b ht hf hv ih =>rw[h.tb h0] at ht;rw[h.flds h0 ht] at hf;rw[h.ref hg h0 ih ht hf] at hv |-;exact Rch.ref a i ih ht hf hv
 intro b
 induction b with
 | slot i hi hu=>rw[<-h.slAt hi] at hu |-;exact Rch.slot i hi hu
 | ref a i b ht hf hv ih =>rw[<-h.ref hg h0 b ht hf] at hv |-;exact Rch.ref a i ih (by rw[h.tb h0];exact ht) (by rw[h.flds h0 ht];exact hf) hv
theorem RmL.same(h:RmL ws xs)(h0:ax ws=0):ax xs=0/\aR xs=aR ws/\seenL xs=seenL ws/\af xs=0/\aa xs=(aa ws).map (mkB xs):=by
 obtain⟨b,i,f⟩:=aA h0;have d:=h.rch f b;have e:=h.heap b;have k:rS xs:=λa j=>by rw[h.tb b];exact f a ((d a).1 j)
 have g:ax xs=0:=BV e.1 (by rw[h.slsOk];exact i) k;have c:seenL xs=seenL ws:=by unfold seenL;rw[h.len];refine kzm λa _=>?_;exact decide_eq_decide.2 (d a)
 refine⟨g,?_,c,e⟩;rw[cU g,cU h0,c,h.len]
end
theorem lg :∀ {l:List En} {x z:List Nat},z.length=x.length->wd z i=wd x i->wd (ak z l) i=wd (ak x l) i:=by
 intro l
 induction l with
 | nil=>intro x z _ h;exact h
 | cons e l ih =>
  intro x z b h;simp only[ak];rw[b];split
  .refine ih (by rw[kze,kze,b]) ?_;rename_i hr;by_cases c:i=e.a.toNat
   .subst c;unfold wd;rw[kxh (by omega),kxh (by omega)]
   unfold wd;rw[kjo (by omega),kjo (by omega)];exact h
  exact ih b h
theorem uW(h:ax x=0)(p:Nat):RmL x (ak x (⟨16,p⟩::aM x)):=by
 have a:=zB h;refine⟨aD _ _,λi h19=>?_⟩;have e:wd (ak x (⟨16,p⟩::aM x)) i=wd (ak x (aM x)) i:=by
  simp only[ak];split
  .refine lg (by rw[kze]) ?_;unfold wd;rw[kjo (by simp;omega)]
  rfl
 rw[e];exact a.at_ i
theorem FK{l:List En}(p:Nat)(h19:19<=i):wd (ak x (⟨16,p⟩::l)) i=wd (ak x l) i:=by
 simp only[ak];split
 .refine lg (by rw[kze]) ?_;unfold wd;rw[kjo (by simp;omega)]
 rfl
theorem F5(h:ax x=0)(p:Nat):ax (ak x (⟨16,p⟩::aM x))=0/\aR (ak x (⟨16,p⟩::aM x))=aR x/\af (ak x (⟨16,p⟩::aM x))=0/\dG (aa (ak x (⟨16,p⟩::aM x)))=aR x:=by obtain⟨f,g,g3,c,e⟩:=(uW h p).same h;refine⟨f,g,c,?_⟩;rw[e,<-DT h];congr 1;refine kzm λb d=>?_;obtain⟨a,rfl,a1,-⟩:=(bG (aA h).1).1 b d;unfold mkB qJ;rw[ab,kqk,FK p (by omega)]
def refsN (ws:List Nat) (a k:Nat):List Int:=((List.range k).filter λi=>(flds ws a)[i]? == some 3).map λi=>((a+2+i:Nat):Int)
def Gq (ws:List Nat) (a:Nat):List Int:=refsN ws a (flds ws a).length
theorem rJ{x:Int}:x∈Gq ws a↔∃i:Nat,x=((a+2+i:Nat):Int)/\(flds ws a)[i]? = some 3:=by
 unfold Gq refsN;rw[kzi];constructor
 .rintro ⟨i,b,rfl⟩;rw[kzv] at b;exact⟨i,rfl,by simpa using b.2⟩
 rintro ⟨i,rfl,b⟩;refine⟨i,kzv.2 ⟨kq8.2 (kq7.1 b).1,by simpa using b⟩,rfl⟩
theorem Ij(h:ax ws=0)(ha:Rch ws a){r:Int}(b:r∈Gq ws a):(∃j:Nat,r=(j:Int)/\j<ws.length)/\wd ws r.toNat<ws.length/\(wd ws r.toNat≠0->Rch ws (wd ws r.toNat)):=by
 obtain⟨f,h2,c⟩:=aA h;obtain⟨i,rfl,k⟩:=rJ.1 b;have hb:=fP ws (ao f).1;obtain⟨m,-⟩:=iA f (c a ha);have d:=tH m (kq7.1 k).1;refine⟨⟨_,rfl,d⟩,?_⟩;rw[kqk];by_cases l:wd ws (a+2+i)=0
 .exact ⟨by omega,λh=>absurd l h⟩
 have b:=Rch.ref a i ha (c a ha) k l;have g:=nL (c _ b);have e:min (wd ws (a+2+i)) 2048=wd ws (a+2+i):=by omega
 rw[e] at b g;exact⟨g,λ_=>b⟩
theorem obj_from(h:ax ws=0)(ha:Rch ws a):bU ws (a:Int)=0/\(∃q:0<(aO ws (a:Int)).length,(aO ws (a:Int))[0]=bkAt ws a)/\(bkAt ws a).kind=1/\(∃t:Nat,(bkAt ws a).typ=(t:Int)/\t<8/\bN (wd ws (96+2*t)) (wd ws (96+2*t+1))=true/\flds ws a=aX (wd ws (96+2*t)) (wd ws (96+2*t+1)))/\a+2+(flds ws a).length<=ws.length:=by
 obtain⟨m,q,s⟩:=aA h;obtain⟨n,-⟩:=iA m (s a ha);have g:=lc n;obtain⟨o1,o2,o3,v,o,p,k,hk,e,f⟩:=n;have i:=(ao m).1;obtain⟨u,r⟩:=cj (ws:=ws) (a:=(a:Int)) i (by
  simp only[eP,kzw,kqh,kqq];omega) (l:=(aa ws).drop k) (by rw[kqk];exact f)
 have c:=iK (ws:=ws) (b:=bkAt ws a) o;rw[p] at c;have c:=c.symm;simp only[kqz,kqx] at c;have hst:=aC v;have d:(((ah (wd ws a)).typ.toNat:Nat):Int)=(ah (wd ws a)).typ:=by show ((((wd ws a/512%128:Nat):Int).toNat:Nat):Int)=_;rw[kqk];rfl
 refine⟨u,?_,o,⟨(ah (wd ws a)).typ.toNat,d.symm,g,c.1,rfl⟩,?_⟩
 .rw[r];refine⟨by rw[kxc];omega,?_⟩;rw[kj6];exact e
 have j:=c.2;rw[aV] at j;have h8:(flds ws a).length=(aX (wd ws (tyA (bkAt ws a))) (wd ws (tyA (bkAt ws a)+1))).length:=rfl;unfold aP at j;omega
theorem Cn{m:List (Int × Int)}:∀k,(∀i,i<k->∃o,ja ws m i=some o)->∃o,d6 ws m k=some o/\((∀i,i<k->ja ws m i=some [])->o=[]):=by
 intro k
 induction k with
 | zero=>intro _;exact⟨[],rfl,λ_=>rfl⟩
 | succ k ih =>intro h;obtain⟨o,e,d⟩:=ih (λi f=>h i (by omega));obtain⟨x,c⟩:=h k (by omega);refine⟨o++x,by simp only[d6,e,c,kzk],λb=>?_⟩;have a:=b k (by omega);rw[c] at a;injection a with a;rw[a,d (λi f=>b i (by omega)),kz1]
theorem yo{m:List (Int × Int)}:∀R:List Int,(∀r∈R,∃o,fm ws m r.toNat=some o)->∃o,da ws m R=some o/\((∀r∈R,fm ws m r.toNat=some [])->o=[]):=by
 intro R
 induction R with
 | nil=>intro _;exact⟨[],rfl,λ_=>rfl⟩
 | cons r R ih =>intro h;obtain⟨o,f,e⟩:=ih (λi b=>h i (by simp[b]));obtain⟨x,d⟩:=h r (by simp);refine⟨x++o,by simp only[da,f,d,kzk],λc=>?_⟩;have a:=c r (by simp);rw[d] at a;injection a with a;rw[a,e (λi b=>c i (by simp[b])),kz1]
theorem zi:∀ {l:List Bk} {s:Int} {b:Bk},b∈l->aK b=true->∃t,ed (aq l s) b.at_=some t:=by
 intro l
 induction l with
 | nil=>intro s b h;simp at h
 | cons x l ih =>
  intro s b h a;simp only[aq];by_cases c:aK x=true
  .rw[if_pos c];simp only[ed];by_cases e:x.at_=b.at_
   .exact ⟨s,by rw[if_pos e]⟩
   rw[if_neg e];rcases kq0.1 h with rfl|h
   .exact absurd rfl e
   exact ih h a
  rw[if_neg c];rcases kq0.1 h with rfl|h
  .exact absurd a c
  exact ih h a
theorem Am:∀ {l:List Bk} {s:Int} {m:Int × Int},m∈aq l s->∃b∈l,aK b=true/\b.at_=m.1:=by
 intro l
 induction l with
 | nil=>intro s m h;simp[aq] at h
 | cons x l ih =>
  intro s m h;simp only[aq] at h;split at h
  .rename_i hx;rcases kq0.1 h with rfl|h
   .exact ⟨x,by simp,hx,rfl⟩
   obtain⟨b,a,c⟩:=ih h;exact⟨b,by simp[a],c⟩
  obtain⟨b,a,c⟩:=ih h;exact⟨b,by simp[a],c⟩
theorem zb:∀ {l:List Bk} {s:Int} {e:En},e∈aN l s->∃b∈l,b.kind=1/\e.a=b.at_+1:=by
 intro l
 induction l with
 | nil=>intro s e h;simp[aN] at h
 | cons x l ih =>
  intro s e h;simp only[aN,kzo] at h;rcases h with h|h
  .split at h
   .rename_i hx;rw[kq1] at h;subst h;exact⟨x,by simp,hx.1,rfl⟩
   simp at h
  obtain⟨b,c,d⟩:=ih h;exact⟨b,by simp[c],d⟩
theorem Ha:∀ {l:List Bk} {s:Int} {b:Bk},b∈fwB l s->∃a∈l,b.at_=a.at_/\b.kind=a.kind/\b.mark=a.mark/\b.typ=a.typ:=by
 intro l
 induction l with
 | nil=>intro s b h;simp[fwB] at h
 | cons x l ih =>
  intro s b h;simp only[fwB] at h;rcases kq0.1 h with rfl|h
  .refine ⟨x,by simp,?_⟩;split<;>exact⟨rfl,rfl,rfl,rfl⟩
  obtain⟨a,c,d⟩:=ih h;exact⟨a,by simp[c],d⟩
theorem Hz:∀ {l:List Bk} {s:Int} {b:Bk},b∈l->∃a∈fwB l s,a.at_=b.at_/\a.kind=b.kind:=by
 intro l
 induction l with
 | nil=>intro s b h;simp at h
 | cons x l ih =>
  intro s b h;simp only[fwB];rcases kq0.1 h with rfl|h
  .refine ⟨_,List.mem_cons_self ..,?_⟩;split<;>exact⟨rfl,rfl⟩
  obtain⟨a,c,d⟩:=ih (s:=d7 x s) h;exact⟨a,kzj _ c,d⟩
theorem mN{a:Int}(h:b∈l)(h1:b.at_=a)(h2:b.kind=1):∃b2,kN l a=some b2:=by
 cases c:kN l a with
 | some b2=>exact⟨b2,rfl⟩
 | none =>unfold kN at c;rw[List.find?_eq_none] at c;exact absurd (by simp[h1,h2]) (c b h)
theorem pE(h:l.Pairwise (λa b=>a.at_<b.at_)){a:Bk}(ha:a∈l)(hb:b∈l)(e:a.at_=b.at_):a=b:=by
 obtain⟨i,d,rfl⟩:=kqu ha;obtain⟨j,f,rfl⟩:=kqu hb;rw[kzf] at h;rcases kjt i j with c|c|c
 .have:=h i j d f c;omega
 .subst c;rfl
 have:=h j i f d c;omega
theorem Db{w:Nat}(h:w<18446744073709551616):nH (dc w)=w:=by
 unfold nH dc;dsimp only;rw[kqk,kqk];by_cases a:w/9223372036854775808=1
 .rw[show (w/9223372036854775808==1)=true by rw[kqx];exact a,if_pos rfl];omega
 rw[show (w/9223372036854775808==1)=false by rw[kqi];exact a,if_neg (by decide)];omega
theorem qI(h:af ws=0)(ho:cb ws a)(hi:i<(flds ws a).length)(hb:b∈aa ws):b.at_+1≠((a+2+i:Nat):Int):=by
 obtain⟨o1,o2,s,r,t,o,k,v,e,c⟩:=ho;have d:=iK (ws:=ws) (b:=bkAt ws a) t;rw[o] at d;have d:=d.symm;simp only[kqz,kqx] at d;have g:=d.2;rw[aV] at g;have h8:(flds ws a).length=(aX (wd ws (tyA (bkAt ws a))) (wd ws (tyA (bkAt ws a)+1))).length:=rfl;unfold aP at g;obtain⟨j,u,rfl⟩:=kqu hb;rcases kq9 k j with p|p
 .rw[aG s r] at c;cases f:blocks ws (a+szAt ws a) with
  | none=>rw[f] at c;cases c
  | some l' =>
   rw[f] at c;simp only[kzk,Option.some.injEq] at c;have q:l'=(aa ws).drop (k+1):=by
    have:=congrArg (List.drop 1) c;rw[kxz] at this
    simpa using this
   have n:(aa ws)[j]∈l':=by rw[q];refine kve.2 ⟨j-(k+1),by rw[kxc];omega,?_⟩;rw[kj6];congr 1;omega
   have:=(lu _ _ f).1 _ n;omega
 have m:=(bG h).2;rw[kzf] at m;have ha:(aa ws)[k].at_=(a:Int):=by rw[e,ab]
 rcases kq9 j k with l|l
 .have:=m j k u v l;omega
 have:j=k:=by omega
 subst this;omega
theorem tq(h:ax ws=0)(ho:∀x∈ws,x<18446744073709551616):∃(g d:List Nat) (M:List (Int × Int)),g=ak ws (aM ws)/\d=ak g (aH g)/\af g=0/\a9 d 128 128=0/\iE d 128 128=M/\eE d=0/\(∀m∈M,dw d m.1=0) /\
 ((∀m∈M,m.1=m.2)->dK d=[]/\∀m∈M,cw d m.1=[]):=by
 obtain⟨J,h2,T⟩:=aA h;have z:=zB h;obtain⟨g1,g2,g3,g4,g5⟩:=z.same h;obtain⟨g,E⟩:∃g,g=ak ws (aM ws):=⟨_,rfl⟩;rw[<-E] at z g1 g2 g3 g4 g5;obtain⟨l,k1,k2,k3,k4,k5,k6,k7,-,-⟩:=oh g4;have Jp:aH g=aN l 128:=by unfold aH;rw[if_pos g4,k2]
 obtain⟨d,w⟩:∃d,d=ak g (aN l 128):=⟨_,rfl⟩;rw[<-w] at k4 k5 k6 k7;have G:l=(aa ws).map (mkB g):=by rw[<-k2,g5]
 have Ja:l.Pairwise (λa b=>a.at_<b.at_):=by rw[G];exact Bj (bG J).2
 have hbd:=fP ws (ao J).1;have Q:g.length=ws.length:=z.len;have hlen2:d.length=ws.length:=by rw[w,aD,Q]
 have j:∀p,p<128->wd d p=wd ws p:=by intro p hp;rw[w,aT _ _ _ (λe A=>?_),z.low hp];have:=pv _ _ k1 128 e A;omega
 have Ji:∀ {a i:Nat},Rch ws a->(flds ws a)[i]? = some 3->wd d (a+2+i)=wd ws (a+2+i):=by intro a i k f;obtain⟨n,-⟩:=iA J (T a k);rw[w,aT _ _ _ (λe A=>?_),z.ref T J k (T a k) f];obtain⟨b,I,-,e2⟩:=zb A;rw[e2];rw[G] at I;obtain⟨b0,C,rfl⟩:=kzi.1 I;have Jl:=qI J n (kq7.1 f).1 (b:=b0) C;exact Jl
 have N:∀ {a:Nat},Rch ws a->∃t,ed (aq l 128) (a:Int)=some t:=by
  intro a k;obtain⟨b,I,e,hk,-⟩:=pm h k;have P:mkB g b∈l:=by rw[G];exact kz9 I
  have K:(mkB g b).mark=true:=by rw[E,kk h I,e];have Jd:=nL (T a k);exact (eN Jd).2 k
  obtain⟨t,ht⟩:=zi (s:=128) P (by unfold aK;rw[K,show (mkB g b).kind=1 from hk];rfl);refine⟨t,?_⟩;rw[show (mkB g b).at_=(a:Int) by show b.at_=_;rw[e,ab]] at ht;exact ht
 have H:∀ {a:Nat},Rch ws a->∃t,fH (aq l 128) a=some t/\ed (aq l 128) (a:Int)=some t:=by intro a k;obtain⟨t,ht⟩:=N k;have Jd:=nL (T a k);exact⟨t,by unfold fH;rw[if_neg (by omega)];exact ht,ht⟩
 have R:cE d=0:=by unfold cE;rw[if_pos k6,k4]
 have Je:eC d=aq l 128:=by rw[(dA R).2.2,k5]
 have V:∀i,i<16->slAt d i=slAt ws i:=λi f=>by unfold slAt;rw[j _ (by omega)]
 have Jf:slsOk d=true:=by rw[bQ];intro i f;rw[V i f];exact (bQ ws).1 h2 i f
 have Jc:∀i,i<16->∃o,ja d (aq l 128) i=some o/\((∀m∈aq l 128,m.1=m.2)->o=[]):=by
  intro i f;unfold ja;by_cases hu:(slAt d i).used=true
  .rw[if_pos hu];have B:=hu;rw[V i f] at B |-;obtain⟨t,t1,t2⟩:=H (Rch.slot i f B);rw[t1];dsimp only;have D:(((slAt ws i).at_.toNat:Nat):Int)=(slAt ws i).at_:=kx2 (dt (wd ws (112+i))).2.2.1;by_cases A:wd d (112+i)=nH ⟨(slAt ws i).gen,true,t⟩
   .rw[if_pos A];exact⟨[],rfl,λ_=>rfl⟩
   rw[if_neg A];refine⟨_,rfl,λc=>absurd ?_ A⟩;have Z:=c _ (pW t2);dsimp only at Z;have h5:nH (slAt ws i)=wd ws (112+i):=Db (fd ho _);rw[j _ (by omega),<-h5];congr 1;rw[<-Z,D];obtain⟨y,hy⟩:=xq (slAt ws i);rw[hy] at B |-;obtain⟨yg,yu,ya⟩:=y;dsimp only at B |-;rw[B]
  rw[if_neg hu];exact⟨[],rfl,λ_=>rfl⟩
 obtain⟨o,Jo,Jj⟩:=Cn (ws:=d) (m:=aq l 128) 16 (λi f=>by obtain⟨o,O,-⟩:=Jc i f;exact⟨o,O⟩);have Jb:=Fo R Jf (o:=o) (by rw[Je];exact Jo);have n:∀m∈aq l 128,dw d m.1=0/\((∀m∈aq l 128,m.1=m.2)->cw d m.1=[]):=by
  intro m K;obtain⟨b,I,u,D⟩:=Am K;unfold aK at u;simp only[kqz,kqx] at u;have Jk:aO d 128=fwB l 128:=by rw[(eY k6).2.1,k7]
  obtain⟨b2,P,e1,e2⟩:=Hz (s:=128) I;obtain⟨S,Y⟩:=mN (a:=m.1) P (by rw[e1,D]) (by rw[e2,u.1]);obtain⟨f1,f2,f3⟩:=jb Y;obtain⟨b0,C,r1,r2,r3,r4⟩:=Ha f1;have v:b0=b:=pE Ja C I (by rw[<-r1,f2,D]);subst v;rw[G] at C;obtain⟨bw,U,v⟩:=kzi.1 C;obtain⟨a,k,-,-,Jh,-⟩:=(bG J).1 bw U;have L:Rch ws a:=by have:=kk h U;rw[<-E,v,u.2,k] at this;exact (eN Jh).1 this.symm
  have Eq:S.at_=(a:Int):=by rw[r1,<-v,k];exact ab ws a
  have Jn:S.typ=(ah (wd ws a)).typ:=by rw[r4,<-v,k];rfl
  obtain⟨n,-⟩:=iA J (T a L);have hty8:=lc n;have Jm:xP d S=flds ws a:=by unfold xP flds tyA;rw[Jn,j _ (by omega),j _ (by omega)]
  have W:∀r∈fA d S,∃o,fm d (aq l 128) r.toNat=some o/\((∀m∈aq l 128,m.1=m.2)->o=[]):=by
   intro r F;unfold fA at F;obtain⟨i,-,f,rfl⟩:=kc.1 F;rw[Jm] at f;have hn:(S.at_+2+(i:Int)).toNat=a+2+i:=by rw[Eq];omega
   rw[hn];unfold fm;rw[Ji L f];by_cases hv:wd ws (a+2+i)=0
   .rw[if_pos hv];exact⟨[],rfl,λ_=>rfl⟩
   rw[if_neg hv];have F:=(Ij h L (r:=((a+2+i:Nat):Int)) (rJ.2 ⟨i,rfl,f⟩)).2.2;rw[kqk] at F;obtain⟨t,t1,t2⟩:=H (F hv);rw[t1];dsimp only;by_cases A:((wd ws (a+2+i):Nat):Int)=t
   .rw[if_pos A];exact⟨[],rfl,λ_=>rfl⟩
   rw[if_neg A];refine⟨_,rfl,λc=>absurd ?_ A⟩;exact c _ (pW t2)
  obtain⟨q,Jq,Jg⟩:=yo (ws:=d) (m:=aq l 128) (fA d S) (λr F=>by obtain⟨o,O,-⟩:=W r F;exact⟨o,O⟩);have X:=As R (a:=m.1) (b:=S) (by rw[Jk];exact Y) (by rw[r3];exact u.2) (o:=q) (by rw[Je];exact Jq);refine⟨X.1,λc=>?_⟩;rw[X.2];refine Jg λr F=>?_;obtain⟨o,O,h5⟩:=W r F;rw[O,h5 c]
 refine⟨g,d,aq l 128,E,by rw[Jp];exact w,g4,k4,k5,Jb.1,λm K=>(n m K).1,λc=>⟨?_,λm K=>(n m K).2 c⟩⟩;rw[Jb.2];refine Jj λi f=>?_;obtain⟨o',O,h5⟩:=Jc i f;rw[O,h5 c]
structure NxL (ws xs:List Nat):Prop where
 len:xs.length=ws.length
 at_:∀i:Nat,19<=i->wd xs i=wd ws i\/∃b∈aa ws,(i:Int)=b.at_+1
theorem FN{xs:List Nat}(n:Nat)(l:List Bk):qj n (l.map (nxB xs))=qj n l:=by unfold qj;rw[List.foldl_map];rfl
section
variable {ws xs:List Nat}
theorem NxL.low(h:NxL ws xs)(h0:af ws=0)(h19:19<=i)(hi:i<128):wd xs i=wd ws i:=by
 rcases h.at_ i h19 with c|⟨b,d,c⟩
 .exact c
 obtain⟨a,rfl,a1,-⟩:=(bG h0).1 b d;rw[ab] at c;omega
theorem NxL.even(h:NxL ws xs)(h0:af ws=0)(h19:19<=i)(hi:i%2=0):wd xs i=wd ws i:=by
 rcases h.at_ i h19 with c|⟨b,d,c⟩
 .exact c
 obtain⟨a,rfl,-,a1,-⟩:=(bG h0).1 b d;rw[ab] at c;omega
theorem NxL.ev(h:NxL ws xs)(h0:af ws=0):Ev ws xs:=by
 refine⟨h.len,λi c=>?_⟩;rcases c with⟨a,b⟩|⟨a,b⟩
 .exact h.even h0 (by omega) a
 exact h.low h0 (by omega) b
theorem NxL.tb(h:NxL ws xs)(h0:af ws=0)(a:Nat):tb xs a=tb ws a:=by unfold Proofs.YtpcajamacpbjcaaGreat.tb;rw[((h.ev h0).heap h0).2,h.len,FN]
theorem NxL.slAt(h:NxL ws xs)(h0:af ws=0)(hi:i<16):slAt xs i=slAt ws i:=by unfold Proofs.YtpcajamacpbjcaaGreat.slAt;rw[h.low h0 (by omega) (by omega)]
theorem NxL.slsOk(h:NxL ws xs)(h0:af ws=0):slsOk xs=slsOk ws:=by
 rw[kzr,bQ,bQ];unfold nK;constructor
 .intro b i a;rw[<-h.slAt h0 a];exact b i a
 intro b i a;rw[h.slAt h0 a];exact b i a
theorem NxL.flds(h:NxL ws xs)(h0:af ws=0)(ha:Proofs.YtpcajamacpbjcaaGreat.tb ws a≠0):flds xs a=flds ws a:=by obtain⟨b,-⟩:=iA h0 ha;have:=lc b;have h19:=b.1;have c:=b.2.1;unfold Proofs.YtpcajamacpbjcaaGreat.flds;rw[h.even h0 (by omega) c,h.low h0 (by omega) (by omega),h.low h0 (by omega) (by omega)]
theorem NxL.ref(h:NxL ws xs)(h0:af ws=0)(ht:Proofs.YtpcajamacpbjcaaGreat.tb ws a≠0)(hf:(Proofs.YtpcajamacpbjcaaGreat.flds ws a)[i]? = some 3):wd xs (a+2+i)=wd ws (a+2+i):=by
 have c:=(iA h0 ht).1;have h19:=c.1;rcases h.at_ (a+2+i) (by omega) with d|⟨b,e,d⟩
 .exact d
 exact absurd d.symm (qI h0 c (kq7.1 hf).1 e)
theorem NxL.rch(h:NxL ws xs)(h0:af ws=0)(a:Nat):Rch xs a↔Rch ws a:=by
 constructor
 .intro b
  induction b with
  | slot i hi hu=>rw[h.slAt h0 hi] at hu |-;exact Rch.slot i hi hu
  | ref a i b ht hf hv ih =>rw[h.tb h0] at ht;rw[h.flds h0 ht] at hf;rw[h.ref h0 ht hf] at hv |-;exact Rch.ref a i ih ht hf hv
 intro b
 induction b with
 | slot i hi hu=>rw[<-h.slAt h0 hi] at hu |-;exact Rch.slot i hi hu
 | ref a i b ht hf hv ih =>rw[<-h.ref h0 ht hf] at hv |-;exact Rch.ref a i ih (by rw[h.tb h0];exact ht) (by rw[h.flds h0 ht];exact hf) hv
theorem NxL.same(h:NxL ws xs)(h0:af ws=0):af xs=0/\ax xs=ax ws/\aR xs=aR ws:=by
 have e:=h.rch h0;have g:=(h.ev h0).heap h0;have j:rS xs↔rS ws:=by
  constructor
  .intro c a d;rw[<-h.tb h0];exact c a ((e a).2 d)
  intro c a d;rw[h.tb h0];exact c a ((e a).1 d)
 have f:ax xs=ax ws:=by unfold ax;rw[if_pos g.1,if_pos h0,h.slsOk h0,propext j]
 refine⟨g.1,f,?_⟩;have i:seenL xs=seenL ws:=by unfold seenL;rw[h.len];refine kzm λa _=>?_;exact decide_eq_decide.2 (e a)
 by_cases b:ax ws=0
 .rw[cU (by rw[f];exact b),cU b,i,h.len]
 rw[qd (by rw[f];exact b),qd b]
end
theorem pJ{E:List En}(hE:∀e∈E,e.a<19\/∃b∈aa x,e.a=b.at_+1):NxL x (ak x E):=by
 refine⟨aD _ _,λi h19=>?_⟩;by_cases d:∃b∈aa x,(i:Int)=b.at_+1
 .exact .inr d
 refine .inl (aT _ _ _ λe h f=>?_);rcases hE e h with c|⟨b,g,c⟩
 .omega
 exact d ⟨b,g,by rw[<-c,f]⟩
theorem uj(p2:wd x 16=2)(h:(ae x).1=0):af (ak x (ae x).2)=0/\ax (ak x (ae x).2)=ax x/\aR (ak x (ae x).2)=aR x:=by
 obtain⟨d,e⟩:=AD p2 h;rw[e];dsimp only;have g:∀e∈aH x,∃b∈aa x,e.a=b.at_+1:=by intro e c;rw[qW d] at c;obtain⟨b,j,-,i⟩:=fu c;exact⟨b,j,i⟩
 refine (pJ λe c=>?_).same d;by_cases f:32<=(aH x).length
 .rw[b9 f] at c;exact .inr (g e (kxu c))
 rw[ip f] at c;rcases kq0.1 c with rfl|c
 .exact .inl (by dsimp only;omega)
 exact .inr (g e c)
end Go.Proofs.YtpcajamacpbjcaaGreat
