import Derived.Test.YtpcajamacpbjcaaGreatZKStg1
set_option maxHeartbeats 16000000
set_option maxRecDepth 100000
set_option linter.all false
namespace Go.Proofs.YtpcajamacpbjcaaGreat
open Go.RowKit
variable {b:Bk}{r:Int}{l:List Bk}{E:List En}{G x xs y:List Nat}{a i k p:Nat}
open Go.Proofs.Tryz
def stX (x:List Nat) (outs:List (List En)) (n:Nat):List Nat:=(outs.take n).foldl au x
theorem uV(x:List Nat)(a:List (List En)):stX x a 0=x:=rfl
theorem FK(x:List Nat)(E:List En)(a:List (List En))(n:Nat):stX x (E::a) (n+1)=stX (au x E) a n:=rfl
theorem hpOut_few(G:List Nat):(aa G).length<=G.length:=by
 unfold aa;split
 .rename_i h;obtain⟨b,l,a,-⟩:=ax h;have hb:=(ae _).1 b;have:=(bv (by omega) _ _ a (by omega) (by omega) (by omega)).1;rw[a];simp only[kq9];omega
 simp
theorem Jj(d:wd x 16=1)(h:(ah x).1=0):aK x=0/\ah x=(0,iA (aO x) 2):=by
 have b:aB x=0:=by
  by_cases a:aB x=0
  .exact a
  unfold ah at h;rw[if_neg a] at h;exact absurd h a
 have c:aK x=0:=by
  by_cases a:aK x=0
  .exact a
  unfold ah at h;rw[if_pos b,if_pos d,if_neg a] at h;exact absurd h a
 exact⟨c,by unfold ah;rw[if_pos b,if_pos d,if_pos c]⟩
theorem Dc(e:wd x 16=2)(h:(ah x).1=0):ao x=0/\ah x=(0,iA (aI x) 3):=by
 have b:aB x=0:=by
  by_cases a:aB x=0
  .exact a
  unfold ah at h;rw[if_neg a] at h;exact absurd h a
 have d:¬ wd x 16=1:=(by omega);have c:ao x=0:=by
  by_cases a:ao x=0
  .exact a
  unfold ah at h;rw[if_pos b,if_neg d,if_pos e,if_neg a] at h;exact absurd h a
 exact⟨c,by unfold ah;rw[if_pos b,if_neg d,if_pos e,if_pos c]⟩
theorem Ja(f:wd x 16=1)(h:(ah x).1=0)(b:32<=(aO x).length):aK (au x (ah x).2)=0/\fB (au x (ah x).2)=fB x:=by obtain⟨a,e⟩:=Jj f h;rw[e];dsimp only;rw[cD b];obtain⟨c,d,-⟩:=(iW a (kjy 31 _)).same a;exact⟨c,d⟩
structure RmL (G xs:List Nat):Prop where
 len:xs.length=G.length
 at_:∀i,19<=i->wd xs i=wd G i\/(128<=i/\i%2=0/\aD (wd G i)=true/\(aq (wd G i)).kind=1/\∃m,wd xs i=gz (wd G i) m)
section
variable {G xs:List Nat}
theorem RmL.low(h:RmL G xs)(a:19<=i)(hi:i<128):wd xs i=wd G i:=by
 rcases h.at_ i a with b|b
 .exact b
 omega
theorem RmL.odd(h:RmL G xs)(a:19<=i)(hi:i%2=1):wd xs i=wd G i:=by
 rcases h.at_ i a with b|b
 .exact b
 omega
theorem RmL.sp(h:RmL G xs)(i:Nat)(a:19<=i):aD (wd xs i)=aD (wd G i):=by
 rcases h.at_ i a with c|⟨-,-,b,d,m,e⟩
 .rw[c]
 rw[e,b,(jd b d m).1]
theorem RmL.raw(h:RmL G xs)(i:Nat)(a:19<=i):aq (wd xs i)={ aq (wd G i) with mark:=sw xs i }:=by
 unfold sw;rcases h.at_ i a with b|⟨-,-,c,d,m,e⟩
 .rw[b]
 rw[e,(jd c d m).2.1]
theorem RmL.sz(h:RmL G xs)(i:Nat)(a:19<=i):(aq (wd xs i)).size=(aq (wd G i)).size:=by rw[h.raw i a]
theorem RmL.szAt(h:RmL G xs)(i:Nat)(a:19<=i):szAt xs i=szAt G i:=by have b:=h.sz i a;have e:∀w,(aq w).size=((w/65536%65536:Nat):Int):=λ_=>rfl;rw[e,e] at b;unfold Proofs.YtpcajamacpbjcaaGreat.szAt;exact Int.ofNat.inj b
theorem RmL.stands(h:RmL G xs)(i:Nat)(a:19<=i):stands xs i=stands G i:=by unfold Proofs.YtpcajamacpbjcaaGreat.stands;rw[h.sp i a,h.sz i a,h.len]
theorem RmL.bkAt(h:RmL G xs)(a:19<=i)(hi:i%2=0):bkAt xs i=mkB xs (bkAt G i):=by
 unfold mkB;have b:(Proofs.YtpcajamacpbjcaaGreat.bkAt G i).at_.toNat=i:=by rw[af,kqf]
 rw[b];unfold Proofs.YtpcajamacpbjcaaGreat.bkAt;rw[h.raw i a,h.odd (i:=i+1) (by omega) (by omega)]
theorem RmL.blocks(h:RmL G xs):∀i l,blocks G i=some l->i%2=0->19<=i->blocks xs i=some (l.map (mkB xs)):=by
 refine dX (λi l=>i%2=0->19<=i->Proofs.YtpcajamacpbjcaaGreat.blocks xs i=some (l.map (mkB xs))) (λi b _ _=>?_) (λi l b d hb c e a=>?_)
 .exact aH (by rw[h.len];exact b)
 have hsz:=aC d;have c:=c (by omega) (by omega);rw[aT (by rw[h.len];exact b) (by rw[h.stands i a];exact d),h.szAt i a,c,h.bkAt a e];rfl
theorem Ew(h:RmL G xs)(c:b.kind=1->tyA b+1<128):dQ xs (mkB xs b)=dQ G b:=by
 by_cases a:b.kind=1
 .have h2:=c a;unfold dQ dm;show (b.kind != 1||(b8 (wd xs (tyA b)) (wd xs (tyA b+1))&&b.size==((bp (wd xs (tyA b)%256):Nat):Int)))=_;rw[h.low (by unfold tyA;omega) (by omega),h.low (by unfold tyA;omega) (by omega)]
 rw[eY a,eY (b:=mkB xs b) a]
theorem RmL.heap(h:RmL G xs)(e:ao G=0):ao xs=0/\aa xs=(aa G).map (mkB xs):=by obtain⟨f,l,c,d,g⟩:=ax e;have i:=h.blocks 128 l c (by omega) (by omega);rw[g];refine gI (by rw[h.len];exact f) i ?_;rw[List.all_map,kzt];rw[kzt] at d;intro b a;show dQ xs (mkB xs b)=true;rw[Ew h (jN c (by omega) b a)];exact d b a
theorem RmL.tb(h:RmL G xs)(b:ao G=0)(a:Nat):tb xs a=tb G a:=by unfold Proofs.YtpcajamacpbjcaaGreat.tb;rw[(h.heap b).2,h.len,As]
theorem RmL.slAt(h:RmL G xs)(hi:i<16):slAt xs i=slAt G i:=by unfold Proofs.YtpcajamacpbjcaaGreat.slAt;rw[h.low (by omega) (by omega)]
theorem RmL.slsOk(h:RmL G xs):slsOk xs=slsOk G:=by
 rw[kzk,cO,cO];unfold oI;constructor
 .intro b i a;rw[<-h.slAt a];exact b i a
 intro b i a;rw[h.slAt a];exact b i a
theorem RmL.flds(h:RmL G xs)(c:ao G=0)(d:Proofs.YtpcajamacpbjcaaGreat.tb G a≠0):flds xs a=flds G a:=by obtain⟨b,-⟩:=iy c d;have:=ou b;have h19:=b.1;unfold Proofs.YtpcajamacpbjcaaGreat.flds;rw[h.raw a (by omega)];dsimp only;rw[h.low (by omega) (by omega),h.low (by omega) (by omega)]
theorem RmL.ref(h:RmL G xs)(k:qT G)(b:ao G=0)(g:Rch G a)(d:Proofs.YtpcajamacpbjcaaGreat.tb G a≠0)(j:(Proofs.YtpcajamacpbjcaaGreat.flds G a)[i]? = some 3):wd xs (a+2+i)=wd G (a+2+i):=by
 have h19:=(iy b d).1.1;rcases h.at_ (a+2+i) (by omega) with e|⟨-,-,f,-⟩
 .exact e
 exfalso;have hb:=n9 f;have c:=k _ (Rch.ref a i g d j (by omega));rw[kvj (by omega)] at c;have:=tT c;have:=(dA G (ax b).1).2.1;omega
theorem RmL.rch(h:RmL G xs)(l:qT G)(c:ao G=0)(a:Nat):Rch xs a↔Rch G a:=by
 constructor
 .intro d
  induction d with
  | slot i f g=>rw[h.slAt f] at g |-;exact Rch.slot i f g
  | ref a i d b e j k =>rw[h.tb c] at b;rw[h.flds c b] at e;rw[h.ref l c k b e] at j |-;exact Rch.ref a i k b e j
 intro d
 induction d with
 | slot i f g=>rw[<-h.slAt f] at g |-;exact Rch.slot i f g
 | ref a i d b e j k =>rw[<-h.ref l c d b e] at j |-;exact Rch.ref a i k (by rw[h.tb c];exact b) (by rw[h.flds c b];exact e) j
theorem RmL.same(h:RmL G xs)(c:aK G=0):aK xs=0/\fB xs=fB G/\seenL xs=seenL G/\ao xs=0/\aa xs=(aa G).map (mkB xs):=by
 obtain⟨b,j,d⟩:=aL c;have g:=h.rch d b;have f:=h.heap b;have k:qT xs:=λa e=>by rw[h.tb b];exact d a ((g a).1 e)
 have e:aK xs=0:=FJ f.1 (by rw[h.slsOk];exact j) k;have i:seenL xs=seenL G:=by unfold seenL;rw[h.len];refine kxi λa _=>?_;exact decide_eq_decide.2 (g a)
 refine⟨e,?_,i,f⟩;rw[fk e,fk c,i,h.len]
end
theorem lU :∀ {l:List En} {x z:List Nat},z.length=x.length->wd z i=wd x i->wd (au z l) i=wd (au x l) i:=by
 intro l
 induction l with
 | nil=>intro x z _ h;exact h
 | cons e l c =>
  intro x z b h;simp only[au];rw[b];split
  .refine c (by rw[kq5,kq5,b]) ?_;rename_i hr;by_cases d:i=e.a.toNat
   .subst d;unfold wd;rw[kz0 (by omega),kz0 (by omega)]
   unfold wd;rw[kxs (by omega),kxs (by omega)];exact h
  exact c b h
theorem uS(h:aK x=0)(p:Nat):RmL x (au x (⟨16,p⟩::aO x)):=by
 have a:=Ah h;refine⟨aG _ _,λi h19=>?_⟩;have e:wd (au x (⟨16,p⟩::aO x)) i=wd (au x (aO x)) i:=by
  simp only[au];split
  .refine lU (by rw[kq5]) ?_;unfold wd;rw[kxs (by simp;omega)]
  rfl
 rw[e];exact a.at_ i
theorem Il{l:List En}(p:Nat)(h19:19<=i):wd (au x (⟨16,p⟩::l)) i=wd (au x l) i:=by
 simp only[au];split
 .refine lU (by rw[kq5]) ?_;unfold wd;rw[kxs (by simp;omega)]
 rfl
theorem Hv(h:aK x=0)(p:Nat):aK (au x (⟨16,p⟩::aO x))=0/\fB (au x (⟨16,p⟩::aO x))=fB x/\ao (au x (⟨16,p⟩::aO x))=0/\fC (aa (au x (⟨16,p⟩::aO x)))=fB x:=by obtain⟨c,d,g3,e,f⟩:=(uS h p).same h;refine⟨c,d,e,?_⟩;rw[f,<-Eb h];congr 1;refine kxi λb g=>?_;obtain⟨a,rfl,a1,-⟩:=(cH (aL h).1).1 b g;unfold mkB sw;rw[af,kqf,Il p (by omega)]
def refsN (G:List Nat) (a k:Nat):List Int:=((List.range k).filter λi=>(flds G a)[i]? == some 3).map λi=>((a+2+i:Nat):Int)
def GF (G:List Nat) (a:Nat):List Int:=refsN G a (flds G a).length
theorem sf{x:Int}:x∈GF G a↔∃i:Nat,x=((a+2+i:Nat):Int)/\(flds G a)[i]? = some 3:=by
 unfold GF refsN;rw[kz9];constructor
 .rintro ⟨i,b,rfl⟩;rw[kzy] at b;exact⟨i,rfl,by simpa using b.2⟩
 rintro ⟨i,rfl,b⟩;refine⟨i,kzy.2 ⟨kzn.2 (kzd.1 b).1,by simpa using b⟩,rfl⟩
theorem JD(h:aK G=0)(d:Rch G a)(b:r∈GF G a):(∃j:Nat,r=(j:Int)/\j<G.length)/\wd G r.toNat<G.length/\(wd G r.toNat≠0->Rch G (wd G r.toNat)):=by
 obtain⟨g,h2,c⟩:=aL h;obtain⟨i,rfl,k⟩:=sf.1 b;have hb:=dA G (ax g).1;obtain⟨m,-⟩:=iy g (c a d);have f:=nk m (kzd.1 k).1;refine⟨⟨_,rfl,f⟩,?_⟩;rw[kqf];by_cases l:wd G (a+2+i)=0
 .exact ⟨by omega,λh=>absurd l h⟩
 have b:=Rch.ref a i d (c a d) k l;have h:=tT (c _ b);have e:min (wd G (a+2+i)) 2048=wd G (a+2+i):=(by omega);rw[e] at b h;exact⟨h,λ_=>b⟩
theorem obj_from(h:aK G=0)(u:Rch G a):cp G (a:Int)=0/\(∃r:0<(aS G (a:Int)).length,(aS G (a:Int))[0]=bkAt G a)/\(bkAt G a).kind=1/\(∃t:Nat,(bkAt G a).typ=(t:Int)/\t<8/\b8 (wd G (96+2*t)) (wd G (96+2*t+1))=true/\flds G a=bB (wd G (96+2*t)) (wd G (96+2*t+1)))/\a+2+(flds G a).length<=G.length:=by
 obtain⟨j,r,s⟩:=aL h;obtain⟨n,-⟩:=iy j (s a u);have i:=ou n;obtain⟨o1,o2,o3,v,o,w,k,hk,e,f⟩:=n;have g:=(ax j).1;obtain⟨p,q⟩:=cC (G:=G) (a:=(a:Int)) g (by
  simp only[eU,kzo,kqb,kqt];omega) (l:=(aa G).drop k) (by rw[kqf];exact f)
 have c:=iC (G:=G) (b:=bkAt G a) o;rw[w] at c;have c:=c.symm;simp only[kqs,kqw] at c;have hst:=aC v;have d:(((aq (wd G a)).typ.toNat:Nat):Int)=(aq (wd G a)).typ:=by show ((((wd G a/512%128:Nat):Int).toNat:Nat):Int)=_;rw[kqf];rfl
 refine⟨p,?_,o,⟨(aq (wd G a)).typ.toNat,d.symm,i,c.1,rfl⟩,?_⟩
 .rw[q];refine⟨by rw[kz2];omega,?_⟩;rw[kjw];exact e
 have m:=c.2;rw[aU] at m;have h8:(flds G a).length=(bB (wd G (tyA (bkAt G a))) (wd G (tyA (bkAt G a)+1))).length:=rfl;unfold bp at m;omega
theorem z7{m:List (Int × Int)}:∀k,(∀i,i<k->∃o,gp G m i=some o)->∃o,slFix G m k=some o/\((∀i,i<k->gp G m i=some [])->o=[]):=by
 intro k
 induction k with
 | zero=>intro _;exact⟨[],rfl,λ_=>rfl⟩
 | succ k g =>intro h;obtain⟨o,f,e⟩:=g (λi d=>h i (by omega));obtain⟨x,c⟩:=h k (by omega);refine⟨o++x,by simp only[slFix,f,c,kzs],λb=>?_⟩;have a:=b k (by omega);rw[c] at a;injection a with a;rw[a,e (λi d=>b i (by omega)),kzf]
theorem Bz{m:List (Int × Int)}:∀R:List Int,(∀r∈R,∃o,fV G m r.toNat=some o)->∃o,cI G m R=some o/\((∀r∈R,fV G m r.toNat=some [])->o=[]):=by
 intro R
 induction R with
 | nil=>intro _;exact⟨[],rfl,λ_=>rfl⟩
 | cons r R g =>intro h;obtain⟨o,f,e⟩:=g (λi b=>h i (by simp[b]));obtain⟨x,d⟩:=h r (by simp);refine⟨x++o,by simp only[cI,f,d,kzs],λc=>?_⟩;have a:=c r (by simp);rw[d] at a;injection a with a;rw[a,e (λi b=>c i (by simp[b])),kzf]
theorem AT:∀ {l:List Bk} {s:Int} {b:Bk},b∈l->aE b=true->∃t,gq (aA l s) b.at_=some t:=by
 intro l
 induction l with
 | nil=>intro s b h;simp at h
 | cons x l d =>
  intro s b h a;simp only[aA];by_cases c:aE x=true
  .rw[if_pos c];simp only[gq];by_cases e:x.at_=b.at_
   .exact ⟨s,by rw[if_pos e]⟩
   rw[if_neg e];rcases kq0.1 h with rfl|h
   .exact absurd rfl e
   exact d h a
  rw[if_neg c];rcases kq0.1 h with rfl|h
  .exact absurd a c
  exact d h a
theorem Au:∀ {l:List Bk} {s:Int} {m:Int × Int},m∈aA l s->∃b∈l,aE b=true/\b.at_=m.1:=by
 intro l
 induction l with
 | nil=>intro s m h;simp[aA] at h
 | cons x l d =>
  intro s m h;simp only[aA] at h;split at h
  .rename_i hx;rcases kq0.1 h with rfl|h
   .exact ⟨x,by simp,hx,rfl⟩
   obtain⟨b,a,c⟩:=d h;exact⟨b,by simp[a],c⟩
  obtain⟨b,a,c⟩:=d h;exact⟨b,by simp[a],c⟩
theorem BU:∀ {l:List Bk} {s:Int} {e:En},e∈aZ l s->∃b∈l,b.kind=1/\e.a=b.at_+1:=by
 intro l
 induction l with
 | nil=>intro s e h;simp[aZ] at h
 | cons x l f =>
  intro s e h;simp only[aZ,kz1] at h;rcases h with h|h
  .split at h
   .rename_i hx;rw[kq2] at h;subst h;exact⟨x,by simp,hx.1,rfl⟩
   simp at h
  obtain⟨b,c,d⟩:=f h;exact⟨b,by simp[c],d⟩
theorem Hg:∀ {l:List Bk} {s:Int} {b:Bk},b∈fwB l s->∃a∈l,b.at_=a.at_/\b.kind=a.kind/\b.mark=a.mark/\b.typ=a.typ:=by
 intro l
 induction l with
 | nil=>intro s b h;simp[fwB] at h
 | cons x l e =>
  intro s b h;simp only[fwB] at h;rcases kq0.1 h with rfl|h
  .refine ⟨x,by simp,?_⟩;split<;>exact⟨rfl,rfl,rfl,rfl⟩
  obtain⟨a,c,d⟩:=e h;exact⟨a,by simp[c],d⟩
theorem I7:∀ {l:List Bk} {s:Int} {b:Bk},b∈l->∃a∈fwB l s,a.at_=b.at_/\a.kind=b.kind:=by
 intro l
 induction l with
 | nil=>intro s b h;simp at h
 | cons x l e =>
  intro s b h;simp only[fwB];rcases kq0.1 h with rfl|h
  .refine ⟨_,List.mem_cons_self ..,?_⟩;split<;>exact⟨rfl,rfl⟩
  obtain⟨a,c,d⟩:=e (s:=fD x s) h;exact⟨a,kji _ c,d⟩
theorem nE{a:Int}(h:b∈l)(e:b.at_=a)(f:b.kind=1):∃c,js l a=some c:=by
 cases d:js l a with
 | some c=>exact⟨c,rfl⟩
 | none =>unfold js at d;rw[List.find?_eq_none] at d;exact absurd (by simp[e,f]) (d b h)
theorem pX(h:l.Pairwise (λa b=>a.at_<b.at_)){a:Bk}(d:a∈l)(f:b∈l)(e:a.at_=b.at_):a=b:=by
 obtain⟨i,b,rfl⟩:=kqy d;obtain⟨j,c,rfl⟩:=kqy f;rw[kzg] at h;rcases kkh i j with a|a|a
 .have:=h i j b c a;omega
 .subst a;rfl
 have:=h j i c b a;omega
theorem Er{w:Nat}(h:w<18446744073709551616):nP (eh w)=w:=by
 unfold nP eh;dsimp only;rw[kqf,kqf];by_cases a:w/9223372036854775808=1
 .rw[show (w/9223372036854775808==1)=true by rw[kqw];exact a,if_pos rfl];omega
 rw[show (w/9223372036854775808==1)=false by rw[kqc];exact a,if_neg (by decide)];omega
theorem rj(h:ao G=0)(s:fG G a)(hi:i<(flds G a).length)(n:b∈aa G):b.at_+1≠((a+2+i:Nat):Int):=by
 obtain⟨o1,o2,t,u,v,w,k,q,e,c⟩:=s;have d:=iC (G:=G) (b:=bkAt G a) v;rw[w] at d;have d:=d.symm;simp only[kqs,kqw] at d;have g:=d.2;rw[aU] at g;have h8:(flds G a).length=(bB (wd G (tyA (bkAt G a))) (wd G (tyA (bkAt G a)+1))).length:=rfl;unfold bp at g;obtain⟨j,p,rfl⟩:=kqy n;rcases kq8 k j with m|m
 .rw[aT t u] at c;cases f:blocks G (a+szAt G a) with
  | none=>rw[f] at c;cases c
  | some l =>
   rw[f] at c;simp only[kzs,Option.some.injEq] at c;have o:l=(aa G).drop (k+1):=by
    have:=congrArg (List.drop 1) c;rw[kxr] at this
    simpa using this
   have r:(aa G)[j]∈l:=by rw[o];refine kvl.2 ⟨j-(k+1),by rw[kz2];omega,?_⟩;rw[kjw];congr 1;omega
   have:=(lT _ _ f).1 _ r;omega
 have l:=(cH h).2;rw[kzg] at l;have ha:(aa G)[k].at_=(a:Int):=by rw[e,af]
 rcases kq8 j k with f|f
 .have:=l j k p q f;omega
 have:j=k:=(by omega);subst this;omega
theorem te(h:aK G=0)(ho:∀x∈G,x<2^64):∃(g d:List Nat) (M:List (Int × Int)),g=au G (aO G)/\d=au g (aI g)/\ao g=0/\bh d 128 128=0/\gQ d 128 128=M/\dh d=0/\(∀m∈M,cM d m.1=0) /\
 ((∀m∈M,m.1=m.2)->dg d=[]/\∀m∈M,cB d m.1=[]):=by
 obtain⟨H,h2,Q⟩:=aL h;have z:=Ah h;obtain⟨g1,g2,g3,g4,g5⟩:=z.same h;obtain⟨g,C⟩:∃g,g=au G (aO G):=⟨_,rfl⟩;rw[<-C] at z g1 g2 g3 g4 g5;obtain⟨l,k1,k2,k3,k4,k5,k6,k7,-,-⟩:=pA g4;have Kl:aI g=aZ l 128:=by unfold aI;rw[if_pos g4,k2]
 obtain⟨d,A⟩:∃d,d=au g (aZ l 128):=⟨_,rfl⟩;rw[<-A] at k4 k5 k6 k7;have B:l=(aa G).map (mkB g):=by rw[<-k2,g5]
 have W:l.Pairwise (λa b=>a.at_<b.at_):=by rw[B];exact zU (cH H).2
 have hbd:=dA G (ax H).1;have L:g.length=G.length:=z.len;have hlen2:d.length=G.length:=by rw[A,aG,L]
 have k:∀p,p<128->wd d p=wd G p:=by intro p c;rw[A,bj _ _ _ (λe v=>?_),z.low c];have:=qJ _ _ k1 128 e v;omega
 have Kd:∀ {a i:Nat},Rch G a->(flds G a)[i]? = some 3->wd d (a+2+i)=wd G (a+2+i):=by intro a i j f;obtain⟨n,-⟩:=iy H (Q a j);rw[A,bj _ _ _ (λe v=>?_),z.ref Q H j (Q a j) f];obtain⟨b,D,-,e2⟩:=BU v;rw[e2];rw[B] at D;obtain⟨b0,u,rfl⟩:=kz9.1 D;have c:=rj H n (kzd.1 f).1 (b:=b0) u;exact c
 have N:∀ {a:Nat},Rch G a->∃t,gq (aA l 128) (a:Int)=some t:=by
  intro a j;obtain⟨b,D,e,q,-⟩:=tN h j;have J:mkB g b∈l:=by rw[B];exact kkx D
  have O:(mkB g b).mark=true:=by rw[C,kR h D,e];have c:=tT (Q a j);exact (dV c).2 j
  obtain⟨t,o⟩:=AT (s:=128) J (by unfold aE;rw[O,show (mkB g b).kind=1 from q];rfl);refine⟨t,?_⟩;rw[show (mkB g b).at_=(a:Int) by show b.at_=_;rw[e,af]] at o;exact o
 have E:∀ {a:Nat},Rch G a->∃t,ge (aA l 128) a=some t/\gq (aA l 128) (a:Int)=some t:=by intro a j;obtain⟨t,o⟩:=N j;have c:=tT (Q a j);exact⟨t,by unfold ge;rw[if_neg (by omega)];exact o,o⟩
 have K:cn d=0:=by unfold cn;rw[if_pos k6,k4]
 have X:di d=aA l 128:=by rw[(cE K).2.2,k5]
 have Eq:∀i,i<16->slAt d i=slAt G i:=λi f=>by unfold slAt;rw[k _ (by omega)]
 have Kj:slsOk d=true:=by rw[cO];intro i f;rw[Eq i f];exact (cO G).1 h2 i f
 have Ka:∀i,i<16->∃o,gp d (aA l 128) i=some o/\((∀m∈aA l 128,m.1=m.2)->o=[]):=by
  intro i f;unfold gp;by_cases w:(slAt d i).used=true
  .rw[if_pos w];have e:=w;rw[Eq i f] at e |-;obtain⟨t,Y,t2⟩:=E (Rch.slot i f e);rw[Y];dsimp only;have q:(((slAt G i).at_.toNat:Nat):Int)=(slAt G i).at_:=kx8 (io (wd G (112+i))).2.2.1;by_cases v:wd d (112+i)=nP ⟨(slAt G i).gen,true,t⟩
   .rw[if_pos v];exact⟨[],rfl,λ_=>rfl⟩
   rw[if_neg v];refine⟨_,rfl,λc=>absurd ?_ v⟩;have r:=c _ (qQ t2);dsimp only at r;have R:nP (slAt G i)=wd G (112+i):=Er (fH ho _);rw[k _ (by omega),<-R];congr 1;rw[<-r,q];obtain⟨y,F⟩:=xq (slAt G i);rw[F] at e |-;obtain⟨yg,yu,ya⟩:=y;dsimp only at e |-;rw[e]
  rw[if_neg w];exact⟨[],rfl,λ_=>rfl⟩
 obtain⟨o,Kf,Kg⟩:=z7 (G:=d) (m:=aA l 128) 16 (λi f=>by obtain⟨o,I,-⟩:=Ka i f;exact⟨o,I⟩);have V:=Ie K Kj (o:=o) (by rw[X];exact Kf);have n:∀m∈aA l 128,cM d m.1=0/\((∀m∈aA l 128,m.1=m.2)->cB d m.1=[]):=by
  intro m O;obtain⟨b,D,w,q⟩:=Au O;unfold aE at w;simp only[kqs,kqw] at w;have Ke:aS d 128=fwB l 128:=by rw[(gw k6).2.1,k7]
  obtain⟨b2,J,e1,e2⟩:=I7 (s:=128) D;obtain⟨F,T⟩:=nE (a:=m.1) J (by rw[e1,q]) (by rw[e2,w.1]);obtain⟨f1,f2,f3⟩:=jY T;obtain⟨b0,u,r1,r2,r3,r4⟩:=Hg f1;have e:b0=b:=pX W u D (by rw[<-r1,f2,q]);subst e;rw[B] at u;obtain⟨bw,U,e⟩:=kz9.1 u;obtain⟨a,j,-,-,Kb,-⟩:=(cH H).1 bw U;have P:Rch G a:=by have:=kR h U;rw[<-C,e,w.2,j] at this;exact (dV Kb).1 this.symm
  have S:F.at_=(a:Int):=by rw[r1,<-e,j];exact af G a
  have Kk:F.typ=(aq (wd G a)).typ:=by rw[r4,<-e,j];rfl
  obtain⟨n,-⟩:=iy H (Q a P);have hty8:=ou n;have Kc:s9 d F=flds G a:=by unfold s9 flds tyA;rw[Kk,k _ (by omega),k _ (by omega)]
  have Z:∀r∈da d F,∃o,fV d (aA l 128) r.toNat=some o/\((∀m∈aA l 128,m.1=m.2)->o=[]):=by
   intro r y;unfold da at y;obtain⟨i,-,f,rfl⟩:=mT.1 y;rw[Kc] at f;have hn:(F.at_+2+(i:Int)).toNat=a+2+i:=(by rw[S];omega);rw[hn];unfold fV;rw[Kd P f];by_cases q:wd G (a+2+i)=0
   .rw[if_pos q];exact⟨[],rfl,λ_=>rfl⟩
   rw[if_neg q];have y:=(JD h P (r:=((a+2+i:Nat):Int)) (sf.2 ⟨i,rfl,f⟩)).2.2;rw[kqf] at y;obtain⟨t,Y,t2⟩:=E (y q);rw[Y];dsimp only;by_cases v:((wd G (a+2+i):Nat):Int)=t
   .rw[if_pos v];exact⟨[],rfl,λ_=>rfl⟩
   rw[if_neg v];refine⟨_,rfl,λc=>absurd ?_ v⟩;exact c _ (qQ t2)
  obtain⟨q,Kh,Ki⟩:=Bz (G:=d) (m:=aA l 128) (da d F) (λr y=>by obtain⟨o,I,-⟩:=Z r y;exact⟨o,I⟩);have Y:=ym K (a:=m.1) (b:=F) (by rw[Ke];exact T) (by rw[r3];exact w.2) (o:=q) (by rw[X];exact Kh);refine⟨Y.1,λc=>?_⟩;rw[Y.2];refine Ki λr y=>?_;obtain⟨o,I,R⟩:=Z r y;rw[I,R c]
 refine⟨g,d,aA l 128,C,by rw[Kl];exact A,g4,k4,k5,V.1,λm O=>(n m O).1,λc=>⟨?_,λm O=>(n m O).2 c⟩⟩;rw[V.2];refine Kg λi f=>?_;obtain⟨o',I,R⟩:=Ka i f;rw[I,R c]
structure NxL (G xs:List Nat):Prop where
 len:xs.length=G.length
 at_:∀i:Nat,19<=i->wd xs i=wd G i\/∃b∈aa G,(i:Int)=b.at_+1
theorem Hq(n:Nat)(l:List Bk):p9 n (l.map (nxB xs))=p9 n l:=by unfold p9;rw[List.foldl_map];rfl
section
variable {G xs:List Nat}
theorem NxL.low(h:NxL G xs)(e:ao G=0)(d:19<=i)(hi:i<128):wd xs i=wd G i:=by
 rcases h.at_ i d with c|⟨b,f,c⟩
 .exact c
 obtain⟨a,rfl,a1,-⟩:=(cH e).1 b f;rw[af] at c;omega
theorem NxL.even(h:NxL G xs)(e:ao G=0)(d:19<=i)(hi:i%2=0):wd xs i=wd G i:=by
 rcases h.at_ i d with c|⟨b,f,c⟩
 .exact c
 obtain⟨a,rfl,-,a1,-⟩:=(cH e).1 b f;rw[af] at c;omega
theorem NxL.ev(h:NxL G xs)(a:ao G=0):Ev G xs:=by
 refine⟨h.len,λi b=>?_⟩;rcases b with⟨b,c⟩|⟨b,c⟩
 .exact h.even a (by omega) b
 exact h.low a (by omega) c
theorem NxL.tb(h:NxL G xs)(b:ao G=0)(a:Nat):tb xs a=tb G a:=by unfold Proofs.YtpcajamacpbjcaaGreat.tb;rw[((h.ev b).heap b).2,h.len,Hq]
theorem NxL.slAt(h:NxL G xs)(a:ao G=0)(hi:i<16):slAt xs i=slAt G i:=by unfold Proofs.YtpcajamacpbjcaaGreat.slAt;rw[h.low a (by omega) (by omega)]
theorem NxL.slsOk(h:NxL G xs)(c:ao G=0):slsOk xs=slsOk G:=by
 rw[kzk,cO,cO];unfold oI;constructor
 .intro b i a;rw[<-h.slAt c a];exact b i a
 intro b i a;rw[h.slAt c a];exact b i a
theorem NxL.flds(h:NxL G xs)(b:ao G=0)(e:Proofs.YtpcajamacpbjcaaGreat.tb G a≠0):flds xs a=flds G a:=by obtain⟨c,-⟩:=iy b e;have:=ou c;have h19:=c.1;have d:=c.2.1;unfold Proofs.YtpcajamacpbjcaaGreat.flds;rw[h.even b (by omega) d,h.low b (by omega) (by omega),h.low b (by omega) (by omega)]
theorem NxL.ref(h:NxL G xs)(e:ao G=0)(j:Proofs.YtpcajamacpbjcaaGreat.tb G a≠0)(g:(Proofs.YtpcajamacpbjcaaGreat.flds G a)[i]? = some 3):wd xs (a+2+i)=wd G (a+2+i):=by
 have c:=(iy e j).1;have h19:=c.1;rcases h.at_ (a+2+i) (by omega) with d|⟨b,f,d⟩
 .exact d
 exact absurd d.symm (rj e c (kzd.1 g).1 f)
theorem NxL.rch(h:NxL G xs)(b:ao G=0)(a:Nat):Rch xs a↔Rch G a:=by
 constructor
 .intro e
  induction e with
  | slot i f g=>rw[h.slAt b f] at g |-;exact Rch.slot i f g
  | ref a i e c d j k =>rw[h.tb b] at c;rw[h.flds b c] at d;rw[h.ref b c d] at j |-;exact Rch.ref a i k c d j
 intro e
 induction e with
 | slot i f g=>rw[<-h.slAt b f] at g |-;exact Rch.slot i f g
 | ref a i e c d j k =>rw[<-h.ref b c d] at j |-;exact Rch.ref a i k (by rw[h.tb b];exact c) (by rw[h.flds b c];exact d) j
theorem NxL.same(h:NxL G xs)(b:ao G=0):ao xs=0/\aK xs=aK G/\fB xs=fB G:=by
 have e:=h.rch b;have f:=(h.ev b).heap b;have g:qT xs↔qT G:=by
  constructor
  .intro c a d;rw[<-h.tb b];exact c a ((e a).2 d)
  intro c a d;rw[h.tb b];exact c a ((e a).1 d)
 have c:aK xs=aK G:=by unfold aK;rw[if_pos f.1,if_pos b,h.slsOk b,propext g]
 refine⟨f.1,c,?_⟩;have d:seenL xs=seenL G:=by unfold seenL;rw[h.len];refine kxi λa _=>?_;exact decide_eq_decide.2 (e a)
 by_cases a:aK G=0
 .rw[fk (by rw[c];exact a),fk a,d,h.len]
 rw[uE (by rw[c];exact a),uE a]
end
theorem pY(g:∀e∈E,e.a<19\/∃b∈aa x,e.a=b.at_+1):NxL x (au x E):=by
 refine⟨aG _ _,λi h19=>?_⟩;by_cases d:∃b∈aa x,(i:Int)=b.at_+1
 .exact .inr d
 refine .inl (bj _ _ _ λe c f=>?_);rcases g e c with c|⟨b,e,c⟩
 .omega
 exact d ⟨b,e,by rw[<-c,f]⟩
theorem vT(j:wd x 16=2)(h:(ah x).1=0):ao (au x (ah x).2)=0/\aK (au x (ah x).2)=aK x/\fB (au x (ah x).2)=fB x:=by
 obtain⟨f,e⟩:=Dc j h;rw[e];dsimp only;have g:∀e∈aI x,∃b∈aa x,e.a=b.at_+1:=by intro e c;rw[sb f] at c;obtain⟨b,i,-,d⟩:=gJ c;exact⟨b,i,d⟩
 refine (pY λe c=>?_).same f;by_cases d:32<=(aI x).length
 .rw[cD d] at c;exact .inr (g e (kx3 c))
 rw[ii d] at c;rcases kq0.1 c with rfl|c
 .exact .inl (by dsimp only;omega)
 exact .inr (g e c)
def dJ (G:List Nat):Int:=if aB G=0 then (if wd G 16=4/\lfN G=0 then 0 else 6) else aB G
def fK (G:List Nat):Nat:=if dJ G=0 then wd G 18 else 0
theorem Fj(h:aB G=r)(a:r≠0):dJ G=r:=by subst h;simp[dJ,a]
theorem EO(h:aB G=0)(a:¬ (wd G 16=4/\lfN G=0)):dJ G=6:=by unfold dJ;rw[if_pos h,if_neg a]
theorem EM(h:aB G=0)(a:wd G 16=4)(b:lfN G=0):dJ G=0/\fK G=wd G 18:=by simp[fK,dJ,h,a,b]
theorem kb(h:dJ G=0):aB G=0/\wd G 16=4/\lfN G=0:=by
 unfold dJ at h;split at h
 .split at h
  .rename_i h1 h2;exact⟨h1,h2⟩
  simp at h
 rename_i h1;exact absurd h h1
theorem gA(h:dJ G=0):am (G.length:Int)=true/\cJ G=0/\jq G=true/\wd G 16=4/\lG (wd G 18)=true/\wd G 18<=G.length/\mvd G 128 (wd G 18)=true/\fK G=wd G 18:=by
 obtain⟨a,c,h3⟩:=kb h;have b:=jH a;obtain⟨e,-⟩:=dN b;obtain⟨g,d,f⟩:=cR e;obtain⟨⟨l0,l1,j⟩,-⟩:=(bo G).1 d;rcases (cy _ _ _).1 f with⟨-,i1,i,i3⟩|⟨p3,-⟩|⟨p0,-⟩
 .refine ⟨g,b,d,c,i,j,?_,by simp[fK,h]⟩;unfold aB at a;rw[if_pos b,if_pos c] at a;split at a
  .assumption
  simp at a
 .omega
 omega
def du (G:List Nat):List En:=if dJ G=0 then phE 0 0 0++(if fK G=G.length then [] else [⟨(fK G:Int),cQ (eQ (G.length-fK G))⟩,⟨((fK G+1:Nat):Int),0⟩]) else []
theorem Ji{n:Nat}(h2:2<=n)(he:n%2=0)(h:n<=1920):jk (eQ n)=true:=by rw[bC];exact⟨⟨by show (2:Int)<=(n:Int);omega,by show (n:Int)%2=0;omega⟩,.inr ⟨rfl,rfl,rfl,by show (n:Int)<=1920;omega⟩⟩
theorem tY(h:dJ G=0)(a:fK G≠G.length):jk (eQ (G.length-fK G))=true:=by obtain⟨d,-,-,-,b,h6,-,c⟩:=gA h;have hb:=(ae _).1 d;have hi:=(a9 _).1 b;rw[c] at a |-;exact Ji (by omega) (by omega) (by omega)
def uY:List Bk->Int->Int
 | [],s=>s
 | b::l,s=>uY l (s+b.size)
theorem FF{t:Nat}:∀n i,t-i<=n->mvd G i t=true->∃k:List Bk,(∀b∈k,b.kind=1/\b.mark=false/\dm G b=true/\2<=b.size/\b.size<=10/\0<=b.typ/\b.typ<8)/\uY k i=(t:Int)/\k.length<=t-i /\
 ∀c l,(∀j,i<=j->j<t->wd c j=wd G j)->t<=c.length->blocks c t=some l->blocks c i=some (k++l):=by
 intro n
 induction n with
 | zero =>intro i h d;rw[jL (by omega),kqw] at d;subst d;exact⟨[],(λb g=>by cases g),rfl,kqv _,λc l _ _ m=>m⟩
 | succ n z =>
  intro i h d;by_cases x:t<=i
  .rw[jL x,kqw] at d;subst d;exact⟨[],(λb g=>by cases g),rfl,kqv _,λc l _ _ m=>m⟩
  cases a:mdOk G i with
  | false=>rw[qX (by omega) a] at d;cases d
  | true =>
   rw[kk (by omega) a] at d;have hsz:=kA a;have hle:i+szAt G i<=t:=by
    rcases kq8 t (i+szAt G i) with p|p
    .rw[jL (by omega),kqw] at d;omega
    exact p
   obtain⟨k,A,B,o3,C⟩:=z (i+szAt G i) (by omega) d;unfold mdOk at a;simp only[kqs,kqw,kxq] at a;obtain⟨f,y,q,o⟩:=a;have hhd:=(bC _).1 (show jk (aq (wd G i))=true by unfold aD at f;simp only[kqs] at f;exact f.1);refine⟨bkAt G i::k,λb g=>?_,?_,by rw[kq4];omega,λc l s u m=>?_⟩
   .rcases kq0.1 g with rfl|g
    .have e:(bkAt G i).size=((szAt G i:Nat):Int):=rfl;have v:(bkAt G i).typ=(aq (wd G i)).typ:=rfl;refine⟨y,q,?_,by omega,by omega,by omega,by omega⟩;unfold dm at o |-;exact o
    exact A b g
   .show uY k (i+(szAt G i:Nat))=_;rw[<-B];congr 1
   have b:wd c i=wd G i:=s i (kqa _) (by omega);have e:wd c (i+1)=wd G (i+1):=s (i+1) (by omega) (by omega);have w:szAt c i=szAt G i:=by unfold szAt;rw[b]
   have v:bkAt c i=bkAt G i:=by unfold bkAt;rw[b,e]
   have r:stands c i=true:=by unfold stands;rw[b,f,kzx,kze];have:(aq (wd G i)).size=((szAt G i:Nat):Int):=rfl;omega
   rw[aT (by omega) r,w,v,C c l (λj p c=>s j (by omega) c) u m];rfl
theorem GA(h:dJ G=0):∀j,wd (au G (du G)) j=if j=16\/j=17\/j=18 then 0 else if fK G<G.length/\j=fK G then cQ (eQ (G.length-fK G)) else if fK G<G.length/\j=fK G+1 then 0 else wd G j:=by
 obtain⟨n,-,-,-,i,k,-,l⟩:=gA h;have hb:=(ae _).1 n;have m:=(a9 _).1 i;rw[<-l] at m k;intro j;have d:∀j,wd (au G (phE 0 0 0)) j=if j=16\/j=17\/j=18 then 0 else wd G j:=by
  intro j;unfold phE;rw[show (16:Int)=((16:Nat):Int) from rfl,show (17:Int)=((17:Nat):Int) from rfl,show (18:Int)=((18:Nat):Int) from rfl];rw[gh 16 _ _ (by omega),gh 17 _ _ (by rw[kq5];omega),gh 18 _ _ (by rw[kq5,kq5];omega)];show wd (((G.set 16 0).set 17 0).set 18 0) j=_;rw[mj,mj,mj];simp only[kq5];by_cases c:j=18
  .subst c;rw[if_pos ⟨rfl,by omega⟩,if_pos (by omega)]
  rw[if_neg (by omega)];by_cases b:j=17
  .subst b;rw[if_pos ⟨rfl,by omega⟩,if_pos (by omega)]
  rw[if_neg (by omega)];by_cases a:j=16
  .subst a;rw[if_pos ⟨rfl,by omega⟩,if_pos (by omega)]
  rw[if_neg (by omega),if_neg (by omega)]
 have e:du G=phE 0 0 0++(if fK G=G.length then [] else [⟨(fK G:Int),cQ (eQ (G.length-fK G))⟩,⟨((fK G+1:Nat):Int),0⟩]):=by simp[du,h]
 rw[e,fh];have b:(au G (phE 0 0 0)).length=G.length:=aG _ _;by_cases c:fK G=G.length
 .rw[if_pos c];show wd (au G (phE 0 0 0)) j=_;rw[d];by_cases a:j=16\/j=17\/j=18
  .rw[if_pos a,if_pos a]
  rw[if_neg a,if_neg a,if_neg (λh=>absurd h.1 (by omega)),if_neg (λh=>absurd h.1 (by omega))]
 rw[if_neg c,gh _ _ _ (by rw[b];omega),gh _ _ _ (by rw[kq5,b];omega)];show wd (((au G (phE 0 0 0)).set _ _).set _ _) j=_;rw[mj,mj,d,kq5,b];by_cases f:j=fK G+1
 .subst f;rw[if_pos ⟨rfl,by omega⟩,if_neg (by omega),if_neg (by omega),if_pos ⟨by omega,rfl⟩]
 rw[if_neg (by omega)];by_cases g:j=fK G
 .subst g;rw[if_pos ⟨rfl,by omega⟩,if_neg (by omega),if_pos ⟨by omega,rfl⟩]
 rw[if_neg (by omega)];by_cases a:j=16\/j=17\/j=18
 .rw[if_pos a,if_pos a]
 rw[if_neg a,if_neg a,if_neg (λh=>g h.2),if_neg (λh=>f h.2)]
def FL (G:List Nat):List Bk:=if fK G=G.length then [] else [{ eQ (G.length-fK G) with at_:=(fK G:Int) }]
theorem CK(h:dJ G=0):∃f:List Bk,(∀b∈f,b.kind=1/\b.mark=false/\2<=b.size/\b.size<=10)/\uY f 128=(fK G:Int)/\f.length<=2048/\ao (au G (du G))=0 /\
 aa (au G (du G))=f++FL G/\blocks (au G (du G)) 128=some (f++FL G)/\cJ (au G (du G))=0/\lnV (au G (du G))=phV 0 0 0/\fC (f++FL G)=[]/\(au G (du G)).length=G.length:=by
 obtain⟨v,-,s,-,P,Q,n,R⟩:=gA h;have hb:=(ae _).1 v;have S:=(a9 _).1 P;have c:=GA h;have e:(au G (du G)).length=G.length:=aG _ _;have r:=tY h;rw[<-R] at Q S n;obtain⟨f,w,T,o3,U⟩:=FF _ 128 (kqa _) n;generalize au G (du G)=x at c e |-;have q:blocks x (fK G)=some (FL G):=by
  unfold FL;by_cases d:fK G=G.length
  .rw[if_pos d,aH (by omega)]
  rw[if_neg d];have g:=r d;have i:wd x (fK G)=cQ (eQ (G.length-fK G)):=by rw[c,if_neg (by omega),if_pos ⟨by omega,rfl⟩]
  have m:wd x (fK G+1)=0:=by rw[c,if_neg (by omega),if_neg (λh=>absurd h.2 (by omega)),if_pos ⟨by omega,rfl⟩]
  have a:=kK g;have l:szAt x (fK G)=G.length-fK G:=by have j:(aq (wd x (fK G))).size=((szAt x (fK G):Nat):Int):=rfl;rw[i,a] at j;have e3:(eQ (G.length-fK G)).size=((G.length-fK G:Nat):Int):=rfl;dsimp only at j;omega
  have k:stands x (fK G)=true:=by unfold stands;rw[i,pP g,kzx,kze,a];show ((G.length-fK G:Nat):Int)<=_;omega
  rw[aT (by omega) k,l,aH (by omega)];have j:bkAt x (fK G)={ eQ (G.length-fK G) with at_:=(fK G:Int) }:=by unfold bkAt;rw[i,a,m];rfl
  rw[j];rfl
 have d:=U x (FL G) (λj h1 h2=>by rw[c,if_neg (by omega),if_neg (λh=>absurd h.2 (by omega)),if_neg (λh=>absurd h.2 (by omega))]) (by omega) q;have l:(f++FL G).all (dQ x)=true:=by
  rw[kzt];intro b a;rcases kz1.1 a with a|a
  .obtain ⟨J,K,p,L,M,N,O⟩:=w b a;unfold dQ dm;unfold dm at p;have hty:tyA b+1<128:=by unfold tyA;omega
   rw[c (tyA b),c (tyA b+1)];have hty2:96<=tyA b:=by unfold tyA;omega
   rw[if_neg (by omega),if_neg (λh=>absurd h.2 (by omega)),if_neg (λh=>absurd h.2 (by omega)),if_neg (by omega),if_neg (λh=>absurd h.2 (by omega)),if_neg (λh=>absurd h.2 (by omega)),p,kvv]
  unfold FL at a;split at a
  .cases a
  rw[kq2] at a;subst a;rfl
 obtain⟨V,W⟩:=gI (by rw[e];exact v) d l;obtain⟨-,y,z,A,B,C⟩:=(bo G).1 s;have o:∀j,j<24->(j=16\/j=17\/j=18)/\wd x j=0\/wd x j=wd G j:=by
  intro j hj;rw[c];by_cases g:j=16\/j=17\/j=18
  .left;exact⟨g,by rw[if_pos g]⟩
  right;rw[if_neg g,if_neg (λh=>absurd h.2 (by omega)),if_neg (λh=>absurd h.2 (by omega))]
 have g:wd x 16=0:=by rw[c,if_pos (by omega)]
 have i:wd x 17=0:=by rw[c,if_pos (by omega)]
 have k:wd x 18=0:=by rw[c,if_pos (by omega)]
 have D:wd x 19=0:=by rcases o 19 (by omega) with h|h;exact h.2;rw[h];exact y
 have E:wd x 20=0:=by rcases o 20 (by omega) with h|h;exact h.2;rw[h];exact z
 have F:wd x 21=0:=by rcases o 21 (by omega) with h|h;exact h.2;rw[h];exact A
 have H:wd x 22=0:=by rcases o 22 (by omega) with h|h;exact h.2;rw[h];exact B
 have I:wd x 23=0:=by rcases o 23 (by omega) with h|h;exact h.2;rw[h];exact C
 have t:jq x=true:=by rw[bo,g,i,k];exact⟨⟨by omega,by omega,by omega⟩,D,E,F,H,I⟩
 have u:=(mP (G:=x) (by rw[e];exact v) (by rw[t,g,i,k];rfl)).1;have m:cJ x=0:=by unfold cJ;rw[if_pos u,if_neg (by rw[g];omega)]
 refine⟨f,λb a=>?_,T,by omega,V,W,d,m,by simp[lnV,m,g,i,k],?_,e⟩
 .obtain ⟨J,K,p,L,M,N,O⟩:=w b a;exact⟨J,K,L,M⟩
 unfold fC;rw[List.map_eq_nil_iff,kj1];intro b a;rcases kz1.1 a with a|a
 .rw[(w b a).2.1];simp
 unfold FL at a;split at a
 .cases a
 rw[kq2] at a;subst a;simp[eQ]
noncomputable def dy (x:List Nat):Int × Bool × List En:=if (ah x).1=6 then (if wd x 16=0 then (0,true,[]) else (dJ x,false,du x)) else ((ah x).1,false,(ah x).2)
theorem sd(G:List Nat)(f s:Int):bh G f s≠6:=by
 unfold bh l7;split
 .split
  .decide
  split
  .decide
  split<;>decide
 decide
theorem zO(x:List Nat):aB x≠6:=by
 unfold aB;split
 .split
  .split
   .exact sd _ _ _
   decide
  split
  .exact sd _ _ _
  rcases AO x with h|h|h<;>rw[h]<;>decide
 rcases z4 x with h|h|h<;>rw[h]<;>decide
theorem CT(h:(ah x).1=6):aB x=0:=by
 by_cases a:aB x=0
 .exact a
 unfold ah at h;rw[if_neg a] at h;exact absurd h (zO x)
theorem rs_ck(h:(dy x).1=0):aB x=0:=by
 by_cases b:(ah x).1=6
 .exact CT b
 unfold dy at h;rw[if_neg b] at h;by_cases a:aB x=0
 .exact a
 unfold ah at h;rw[if_neg a] at h;exact absurd h a
theorem zp(x:List Nat)(h:ao x=0):2*(aa x).length+128<=x.length:=by obtain⟨a,l,b,-,c⟩:=ax h;have hb:=(ae _).1 a;rw[c];exact (bv (by omega) _ _ b (by omega) (by omega) (by omega)).1
theorem xI{α:Type}{p q:α->Bool}:∀ {l:List α},(∀b∈l,q b=true->p b=true)->∀ {d a:α},d∈l->a∈l->d≠a->p d=true->q d=false->p a=true->q a=false->(l.filter q).length+2<=(l.filter p).length:=by
 intro l
 induction l with
 | nil=>intro _ d a h;exact absurd h (by simp)
 | cons c l t =>
  intro h d a u r f k n m o;have g:=λx e=>h x (kji _ e);rw[kxf,kxf];rcases kq0.1 u with rfl|s
  .rw[k,n];have i:a∈l:=by
    rcases kq0.1 r with e|j
    .exact absurd e.symm f
    exact j
   have:=(nQ g).2 ⟨a,i,m,o⟩;simp only[if_true,if_false,kzp,kq4];omega
  rcases kq0.1 r with rfl|j
  .rw[m,o];have:=(nQ g).2 ⟨d,s,k,n⟩;simp only[if_true,if_false,kzp,kq4];omega
  have:=t g s j f k n m o;have e:=h c (by simp);cases i:q c with
  | true=>rw[e i];simp only[if_true,kq4];omega
  | false=>cases hp:p c<;>simp only[if_true,if_false,kzp,kq4]<;>omega
theorem Df(h:l.Pairwise (λa b=>a.at_<b.at_)){a:Bk}(d:a∈l)(f:b∈l)(e:a.at_=b.at_):a=b:=by
 obtain⟨i,b,rfl⟩:=kqy d;obtain⟨j,c,rfl⟩:=kqy f;rw[kzg] at h;rcases kkh i j with a|a|a
 .have:=h i j b c a;omega
 .subst a;rfl
 have:=h j i c b a;omega
theorem B9(h:aK G=0)(h32:32<=(aO G).length):(aO (au G ((aO G).take 31))).length+2<=(aO G).length:=by
 have c:((aO G).take 31).Sublist (aO G):=kjy _ _;have r:((aO G).take 31).Pairwise (λa b=>a.a<b.a):=(eG h).sublist c;obtain⟨E,g2,F,g4,H⟩:=(iW h c).same h;rw[eM E,F,H,kzw,eM h,kzw];rw[<-eM h];obtain⟨x,y⟩:=xq (au G ((aO G).take 31));rw[y];unfold lD;rw[List.filter_map,kzw];have j:=cH (aL h).1;have w:∀b∈aa G,(∀e∈(aO G).take 31,e.a≠b.at_)->(mkB x b).mark=b.mark:=by intro b t d;obtain⟨a,rfl,a1,a2,a3,a4⟩:=j.1 b t;show sw x (bkAt G a).at_.toNat=_;rw[af,kqf];unfold sw;rw[<-y,bj _ _ _ (λe l=>by have:=d e l;rwa [af] at this)];rfl
 have g:∀i,i<31->∃b∈aa G,b.at_=((aO G)[i]?.map En.a).getD 0/\(!dK (seenL G) b)=true/\(!(dK (seenL G) (mkB x b)))=false:=by
  intro i hi;have o:i<((aO G).take 31).length:=(by rw[kq6];omega);have l:=kqp o;have u:(aO G)[i]? = some ((aO G).take 31)[i]:=by rw[kjx,kqg (by omega)]
  obtain⟨a,s,z,A,B,m,n,k,f⟩:=ep h (c.subset l);refine⟨bkAt G a,s,by rw[u,k,af];rfl,by rw[f];rfl,?_⟩;have d:=eJ _ G r _ l (by rw[k];dsimp only;omega) (by rw[k];dsimp only;omega);rw[k] at d;dsimp only at d;rw[kqf,y] at d;unfold dK;show (!((mkB x (bkAt G a)).mark==((seenL G)[(bkAt G a).at_.toNat]?.getD false)))=false;have v:(mkB x (bkAt G a)).mark=dH G (bkAt G a):=by show sw x (bkAt G a).at_.toNat=_;rw[af,kqf];unfold sw;rw[d,(jd m n _).2.1]
  rw[v];unfold dH;simp
 obtain⟨C,I,v,K,M⟩:=g 0 (by omega);obtain⟨D,J,k,L,N⟩:=g 1 (by omega);have u:C≠D:=by rintro rfl;have o:=eG h;rw[kzg] at o;have:=o 0 1 (by omega) (by omega) (by omega);rw[kqg (by omega)] at v k;simp only[kzs,kq9] at v k;omega
 refine xI (p:=λb=>!dK (seenL G) b) (q:=(λb=>!dK (seenL G) b) ∘ mkB x) (λb t d=>?_) I J u K M L N;dsimp only[Function.comp_apply] at d |-;cases k:dK (seenL G) b with
 | false=>rfl
 | true =>
  exfalso;have s:=w b t (λe l o=>by
   obtain⟨a,s,z,A,B,m,n,rfl,f⟩:=ep h (c.subset l);dsimp only at o;have:bkAt G a=b:=Df j.2 s t (by rw[af];exact o);rw[this,k] at f;cases f)
  unfold dK at k d;rw[s] at d
  change (!(b.mark==((seenL G)[b.at_.toNat]?.getD false)))=true at d
  rw[k] at d;exact absurd d (by decide)
theorem Do :∀ {l:List Bk} {s:Int},l.Pairwise (λa b=>a.at_<b.at_)->(∀b∈l,0<=b.at_)->(∀b∈l,b.kind=1->wd xs (b.at_.toNat+1)=b.next\/∃e∈aZ l s,e.a=b.at_+1/\wd xs (b.at_.toNat+1)=e.v) ->
 (aZ (l.map (nxB xs)) s).length+((aZ l s).filter (λe=>wd xs e.a.toNat==e.v)).length<=(aZ l s).length:=by
 intro l
 induction l with
 | nil=>intro s _ _ _;exact kqa _
 | cons b l w =>
  intro s j q r;rw[kj9] at j;have i:∀c∈l,c.kind=1->wd xs (c.at_.toNat+1)=c.next\/∃e∈aZ l (fD b s),e.a=c.at_+1/\wd xs (c.at_.toNat+1)=e.v:=by
   intro c h d;rcases r c (by simp[h]) d with f|⟨e,a,k,m⟩
   .exact .inl f
   simp only[aZ,kz1] at a;rcases a with a|a
   .split at a
    .rw[kq2] at a;subst a;dsimp only at k;have:=j.1 c h;omega
    simp at a
   exact .inr ⟨e,a,k,m⟩
  have i1:=w (s:=fD b s) j.2 (λc h=>q c (by simp[h])) i;have hb0:=q b (by simp);rw[kj4];simp only[aZ];have t:fD (nxB xs b) s=fD b s:=rfl;have u:bK (nxB xs b) s=bK b s:=rfl;rw[t,u,kxa,kqu,kqu,kqu];have p:(nxB xs b).next=wd xs (b.at_.toNat+1):=rfl;have o:(nxB xs b).kind=b.kind:=rfl;have n:(nxB xs b).at_=b.at_:=rfl;have g:b.kind=1->wd xs (b.at_.toNat+1)=b.next\/wd xs (b.at_.toNat+1)=bK b s:=by
   intro d;rcases r b (by simp) d with f|⟨e,a,k,m⟩
   .exact .inl f
   simp only[aZ,kz1] at a;rcases a with a|a
   .split at a
    .rw[kq2] at a;subst a;exact .inr m
    simp at a
   obtain⟨c,h,-,h4⟩:=gJ a;have:=j.1 c h;omega
  have m:(b.at_+1).toNat=b.at_.toNat+1:=(by omega);have hle:(if (nxB xs b).kind=1/\(nxB xs b).next≠bK b s then [(⟨(nxB xs b).at_+1,bK b s⟩:En)] else []).length+((if b.kind=1/\b.next≠bK b s then [(⟨b.at_+1,bK b s⟩:En)] else []).filter (λe=>wd xs e.a.toNat==e.v)).length<=(if b.kind=1/\b.next≠bK b s then [(⟨b.at_+1,bK b s⟩:En)] else []).length:=by
   rw[p,o,n];by_cases d:b.kind=1
   .by_cases k:b.next=bK b s
    .have a:wd xs (b.at_.toNat+1)=bK b s:=by
      rcases g d with f|f
      .rw[f];exact k
      exact f
     rw[if_neg (show ¬ (b.kind=1/\b.next≠bK b s) from λh=>h.2 k),if_neg (show ¬ (b.kind=1/\wd xs (b.at_.toNat+1)≠bK b s) from λh=>h.2 a)];exact kqa _
    rw[if_pos (show b.kind=1/\b.next≠bK b s from ⟨d,k⟩)];by_cases a:wd xs (b.at_.toNat+1)=bK b s
    .rw[if_neg (λh=>h.2 a)];simp[m,a]
    rw[if_pos ⟨d,a⟩];have:(wd xs (b.at_+1).toNat==bK b s)=false:=by rw[m,kqc];exact a
    simp[this]
   rw[if_neg (λh=>d h.1),if_neg (λh=>d h.1)];exact kqa _
  omega
theorem DQ(h:ao G=0)(h32:32<=(aI G).length):(aI (au G ((aI G).take 31))).length+2<=(aI G).length:=by
 obtain⟨A,B,i3⟩:=pD h;have r:aI G=aZ (aa G) 128:=sb h;have f:=cH h;have c:((aI G).take 31).Sublist (aI G):=kjy _ _;have j:((aI G).take 31).Pairwise (λa b=>a.a<b.a):=A.sublist c;have k:∀e∈aI G,∃a:Nat,e.a=((a+1:Nat):Int)/\a%2=0/\128<=a:=by intro e d;rw[r] at d;obtain⟨b,g,-,i⟩:=gJ d;obtain⟨a,rfl,n,o,-⟩:=f.1 b g;exact⟨a,by rw[i,af];rfl,o,n⟩
 have q:Ev G (au G ((aI G).take 31)):=by refine⟨aG _ _,λi hi=>bj _ _ _ λe d m=>?_⟩;obtain⟨a,p,n,o⟩:=k e (c.subset d);omega
 obtain⟨y,z⟩:=q.heap h;have t:aI (au G ((aI G).take 31))=aZ ((aa G).map (nxB (au G ((aI G).take 31)))) 128:=by rw[sb y,z]
 rw[t];have i:∀e∈(aI G).take 31,wd (au G ((aI G).take 31)) e.a.toNat=e.v:=λe d=>by
  have hin:=B _ (c.subset d);exact eJ _ G j _ d (by omega) (by omega)
 have u:=Do (xs:=au G ((aI G).take 31)) (l:=aa G) (s:=128) f.2 (λb g=>by obtain⟨a,rfl,-⟩:=f.1 b g;rw[af];omega) (λb g hk=>by
  obtain⟨a,rfl,n,o,a3,x⟩:=f.1 b g;have hsz:=aC x;rw[af,kqf];by_cases w:∃e∈(aI G).take 31,e.a=((a+1:Nat):Int)
  .obtain ⟨e,d,p⟩:=w;refine .inr ⟨e,by rw[<-r];exact c.subset d,by rw[p];omega,?_⟩;have:=i e d;rw[p,kqf] at this;exact this
  exact .inl (by rw[bj _ _ _ (λe d m=>w ⟨e,d,m⟩)];rfl))
 rw[<-r] at u;have hfl:31<=((aI G).filter (λe=>wd (au G ((aI G).take 31)) e.a.toNat==e.v)).length:=by
  have g:(aI G).take 31=((aI G).take 31).filter (λe=>wd (au G ((aI G).take 31)) e.a.toNat==e.v):=by symm;rw[kvr];intro e d;rw[kqw];exact i e d
  have m:=(c.filter (λe=>wd (au G ((aI G).take 31)) e.a.toNat==e.v)).length_le;rw[<-g,kq6] at m;omega
 omega
theorem GH(a:aB x=0)(k:wd x 16=3)(h:(sgFix x).1=0):
 (wd (au x (sgFix x).2) 16=3/\wd (au x (sgFix x).2) 17<=x.length/\(wd x 17=0->wd (au x (sgFix x).2) 17=128)/\(wd x 17≠0->wd x 17+2<=wd (au x (sgFix x).2) 17))\/(wd (au x (sgFix x).2) 16=4/\wd (au x (sgFix x).2) 17=128/\wd x 17≠0):=by
 obtain⟨-,v,u,hph⟩:=cP a;have hb:=(ae _).1 v;obtain⟨⟨l1,w,l3⟩,-⟩:=(bo x).1 u;by_cases z:wd x 17=0
 .have j:dh x=0:=by
   by_cases b:dh x=0
   .exact b
   unfold sgFix at h;rw[if_pos z,if_neg b] at h;exact absurd h b
  have d:sgFix x=(0,⟨17,128⟩::dg x):=by unfold sgFix;rw[if_pos z,if_pos j]
  obtain⟨-,-,-,-,-,-,-,m,r,q3,-⟩:=kj j;obtain⟨n,o,p,g,b,q⟩:=jw (f:=128) (l:=dg x) a k (by decide) (by omega) (by omega) (by omega) r (λe c=>by have:=(m e c).1;omega) (λe c=>(m e c).2);rw[d];exact .inl ⟨g,by rw[b];omega,λ_=>b,λi=>absurd z i⟩
 have d:sgFix x=jp x (wd x 17):=by unfold sgFix;rw[if_neg z]
 have t:(jp x (wd x 17)).1=0:=by rw[<-d];exact h
 rcases pF x.length (wd x 17) (by omega) w t with i|⟨m,m1,m2,m3,m4,m5,j,r,y⟩
 .rw[d,i];obtain⟨n,o,p,g,b,q⟩:=ie a k;exact .inr ⟨g,b,z⟩
 obtain⟨f,-,-,-,-,q5,-,-,-,A⟩:=ij r;have s:=EZ r;obtain⟨n,o,p,g,b,q⟩:=jw (f:=m+szAt x m) (l:=cB x (m:Int)) a k ((a9 _).2 (by omega)) j (by omega) (by omega) A (λe c=>by have:=s e c;omega) (λe c=>by have:=s e c;omega);rw[d,y];exact .inl ⟨g,by rw[b];exact j,λi=>absurd i z,λ_=>by rw[b];omega⟩
theorem Dn(C:∀v∈x,v<2^64)(d:aB x=0)(E:wd x 16=4)(h:(sgSld x).1=0):
 wd (au x (sgSld x).2) 16=4/\wd (au x (sgSld x).2) 17<=x.length/\wd x 17+2<=wd (au x (sgSld x).2) 17:=by
 obtain⟨-,D,B,p⟩:=cP d;have hb:=(ae _).1 D;obtain⟨⟨l1,l2,l3⟩,-⟩:=(bo x).1 B;have c:bu x ((wd x 17:Nat):Int)=0:=by
  by_cases a:bu x ((wd x 17:Nat):Int)=0
  .exact a
  unfold sgSld at h;rw[if_neg a] at h;exact absurd h (by decide)
 obtain⟨-,a1,a2,m,r,m1,m2,m3,m4,m5,m6,m7,m8,-⟩:=fA c;have b:ei x (m:Int) ((wd x 18:Nat):Int)=0:=by
  by_cases a:ei x (m:Int) ((wd x 18:Nat):Int)=0
  .exact a
  unfold sgSld at h;rw[if_pos c,r,af,if_neg a] at h;exact absurd h a
 have y:sgSld x=(0,⟨17,m+szAt x m⟩::⟨18,wd x 18+szAt x m⟩::jj x m (wd x 18)):=by unfold sgSld;rw[if_pos c,r,af,if_pos b,aU,show ((m:Int)+((szAt x m:Nat):Int)).toNat=m+szAt x m by omega,show (((wd x 18:Nat):Int)+((szAt x m:Nat):Int)).toNat=wd x 18+szAt x m by omega];unfold i9;rw[if_pos b,kqf,kqf]
 obtain⟨a,u,n,e,s,g,n2,n10,hu,hua,han,hst,hlv,-,-,q⟩:=fO b;have e:a=m:=(by omega);have s:u=wd x 18:=(by omega);subst e s;subst g;have o:=(cy _ _ _).1 p;have g:lG (wd x 17)=true/\lG (wd x 18)=true/\wd x 18<=wd x 17:=by
  rcases o with e|e|e
  .exact e.2
  .omega
  omega
 have i1:=(a9 _).1 g.1;have i2:=(a9 _).1 g.2.1;rw[y];obtain⟨g1,g2,g3,z,w,g6⟩:=nv (f:=a+szAt x a) (t:=wd x 18+szAt x a) (l:=jj x a (wd x 18)) d E ((a9 _).2 (by omega)) ((a9 _).2 (by omega)) (by omega) (by omega) (by omega) (by omega) (by rw[ic];omega) (by
  rw[kzg];intro i j hi hj hij;rw[hU,hU];omega) (λe e=>by
  obtain⟨k,A,rfl⟩:=kqy e;rw[hU];rw[ic] at A;omega) (tA C q)
 exact⟨z,by rw[w];omega,by rw[w];omega⟩
noncomputable def rzM (x:List Nat):Nat:=
 if wd x 16=1 then (aO x).length/2+1+((x.length-128)/2/2+1)+((x.length-128)/2+2)+((x.length-128)/2+1)
 else if wd x 16=2 then (aI x).length/2+1+((x.length-128)/2+2)+((x.length-128)/2+1)
 else if wd x 16=3 then (if wd x 17=0 then (x.length-128)/2+2 else (x.length-wd x 17)/2+1)+((x.length-128)/2+1)
 else if wd x 16=4 then (x.length-wd x 17)/2+1 else 0
theorem B5(x:List Nat)(hs:128<=x.length):(aI x).length<=(x.length-128)/2:=by
 by_cases h:ao x=0
 .rw[sb h];have h1:=kW (aa x) 128;have h2:=zp x h;omega
 unfold aI;rw[if_neg h];simp
theorem JK(x:List Nat)(hs:128<=x.length):(aO x).length<=(x.length-128)/2:=by
 by_cases h:aK x=0
 .rw[eM h,kzw];have h1:=mR (seenL x) (aa x);have h2:=zp x (aL h).1;omega
 unfold aO;rw[if_neg h];simp
theorem EJ(q:∀v∈x,v<2^64)(h:(ah x).1=0):rzM (au x (ah x).2)<rzM x:=by
 obtain⟨a,-,-,-,-,k6,-,-⟩:=mz q h;obtain⟨-,B,A,o⟩:=cP a;have hb:=(ae _).1 B;obtain⟨⟨l1,l2,l3⟩,-⟩:=(bo x).1 A;have n:=(cy _ _ _).1 o;have j:(au x (ah x).2).length=x.length:=aG _ _;have g:=B5 (au x (ah x).2) (by omega);rw[j] at g;unfold rzM;rw[j];by_cases c:wd x 16=1
 .have f:aK x=0:=by
   by_cases l:aK x=0
   .exact l
   unfold ah at h;rw[if_pos a,if_pos c,if_neg l] at h;exact absurd h l
  have e:ah x=(0,iA (aO x) 2):=by unfold ah;rw[if_pos a,if_pos c,if_pos f]
  obtain⟨p,r⟩:=rf f;obtain⟨s,t,u,d,k,m⟩:=fU a c (.inl rfl) (eG f) (λy w=>by
   obtain⟨i,b⟩:=kj8.1 w;exact p i y b) (qH f)
  simp only[Nat.reduceAdd] at d;rw[e] at g |-;dsimp only at g |-;rw[if_pos c,d];by_cases b:32<=(aO x).length
  .have w:=B9 f b;rw[if_pos b,if_pos rfl,cD b];omega
  rw[if_neg b,if_neg (by decide),if_pos rfl];omega
 by_cases f:wd x 16=2
 .have i:ao x=0:=by
   by_cases l:ao x=0
   .exact l
   unfold ah at h;rw[if_pos a,if_neg c,if_pos f,if_neg l] at h;exact absurd h l
  have e:ah x=(0,iA (aI x) 3):=by unfold ah;rw[if_pos a,if_neg c,if_pos f,if_pos i]
  obtain⟨p,r,l⟩:=pD i;obtain⟨s,t,u,d,k,m⟩:=fU a f (.inr rfl) p r l;simp only[Nat.reduceAdd] at d k;rw[e] at g |-;dsimp only at g |-;rw[if_neg c,if_pos f,d,k];by_cases b:32<=(aI x).length
  .have w:=DQ i b;rw[if_pos b,if_neg (by decide),if_pos rfl,cD b];omega
  rw[if_neg b,if_neg (by decide),if_neg (by decide),if_pos rfl,if_pos rfl];omega
 by_cases i:wd x 16=3
 .have e:ah x=sgFix x:=by unfold ah;rw[if_pos a,if_neg c,if_neg f,if_pos i]
  rw[e] at h |-;have hF:wd x 17=0\/128<=wd x 17:=by
   rcases n with b|⟨-,-,b⟩|b
   .omega
   .rcases b with b|b
    .exact .inl b
    exact .inr ((a9 _).1 b).1
   omega
  rcases GH a i h with⟨d,k,m,b⟩|⟨d,k,m⟩
  .rw[d,if_neg (by decide),if_neg (by decide),if_pos rfl,if_neg c,if_neg f,if_pos i];by_cases z:wd x 17=0
   .rw[if_pos z,m z,if_neg (by decide)];omega
   have:=b z;rw[if_neg z,if_neg (by omega)];omega
  rw[d,k,if_neg (by decide),if_neg (by decide),if_neg (by decide),if_pos rfl,if_neg c,if_neg f,if_pos i,if_neg m];omega
 have b:wd x 16=4:=(by omega);have e:ah x=sgSld x:=by unfold ah;rw[if_pos a,if_neg c,if_neg f,if_neg i,if_pos b]
 rw[e] at h |-;obtain⟨d,k,m⟩:=Dn q a b h;rw[d,if_neg (by decide),if_neg (by decide),if_neg (by decide),if_pos rfl,if_neg c,if_neg f,if_neg i,if_pos b];omega
theorem rzM_le(d:am (x.length:Int)=true):rzM x<=(x.length-128)/2*3+5:=by
 have hb:=(ae _).1 d;have h1:=JK x (by omega);have h2:=B5 x (by omega);unfold rzM;by_cases a:wd x 16=1
 .rw[if_pos a];omega
 rw[if_neg a];by_cases b:wd x 16=2
 .rw[if_pos b];omega
 rw[if_neg b];by_cases c:wd x 16=3
 .rw[if_pos c];split
  .omega
  have:(x.length-wd x 17)/2<=x.length/2:=(by omega);omega
 rw[if_neg c];split<;>omega
theorem wi(h:dJ x=0):Small x.length (du x)/\wd (au x (du x)) 16=0:=by
 obtain⟨j,-,-,-,g,d,-,i⟩:=gA h;have hb:=(ae _).1 j;have f:=(a9 _).1 g;rw[<-i] at f d;refine⟨?_,by rw[GA h,if_pos (.inl rfl)]⟩;unfold du;rw[if_pos h];have b:=λb=>qM (tY h b);generalize fK x=t at f d b;have c:phE 0 0 0=[⟨16,0⟩,⟨17,0⟩,⟨18,0⟩]:=rfl;rw[c];by_cases a:t=x.length
 .rw[if_pos a];refine⟨by decide,by decide,by simp,λe a=>?_,λe a=>?_⟩ <;>
  .simp only[kzf,kq0,kzm,or_false] at a;rcases a with rfl|rfl|rfl<;>(dsimp only;omega)
 have hv:=b a;rw[if_neg a];refine⟨by simp,by simp,?_,λe a=>?_,λe a=>?_⟩
 .simp only[kzq,kz5,kj9,kq0,kzm,or_false,forall_eq_or_imp,forall_eq,List.Pairwise.nil,and_true,false_implies,implies_true];omega
 .simp only[kzq,kz5,kq0,kzm,or_false] at a;rcases a with rfl|rfl|rfl|rfl|rfl<;>(dsimp only;omega)
 simp only[kzq,kz5,kq0,kzm,or_false] at a;rcases a with rfl|rfl|rfl|rfl|rfl<;>(dsimp only;omega)
theorem CY(a:∀v∈x,v<2^64)(h:(dy x).1=0)(c:(dy x).2.1=false):Small x.length (dy x).2.2/\(∀v∈au x (dy x).2.2,v<18446744073709551616)/\rzM (au x (dy x).2.2)<rzM x:=by
 by_cases b:(ah x).1=6
 .by_cases f:wd x 16=0
  .unfold dy at c;rw[if_pos b,if_pos f] at c;cases c
  have e:dy x=(dJ x,false,du x):=by unfold dy;rw[if_pos b,if_neg f]
  rw[e] at h |-;dsimp only at h |-;obtain⟨d,g⟩:=wi h;refine⟨d,ue _ _ a d.val,?_⟩;have i:wd x 16=4:=(gA h).2.2.2.1;unfold rzM;rw[g,if_neg (by decide),if_neg (by decide),if_neg (by decide),if_neg (by decide),i,if_neg (by decide),if_neg (by decide),if_neg (by decide),if_pos rfl];omega
 have e:dy x=((ah x).1,false,(ah x).2):=by unfold dy;rw[if_neg b]
 rw[e] at h |-;dsimp only at h |-;exact⟨(mz a h).2.1,dY a h,EJ a h⟩
noncomputable def rsG:Nat->List Nat->Int × List (List En) × List Nat
 | 0,x=>(0,[],x)
 | f+1,x=>if (dy x).1=0 then (if (dy x).2.1=true then (0,[],x)
  else if (rsG f (au x (dy x).2.2)).1=0 then (0,(dy x).2.2::(rsG f (au x (dy x).2.2)).2.1,(rsG f (au x (dy x).2.2)).2.2) else ((rsG f (au x (dy x).2.2)).1,[],[]))
  else ((dy x).1,[],[])
theorem ER:∀ {f g:Nat} {x:List Nat},(∀v∈x,v<2^64)->rzM x<f->rzM x<g->rsG f x=rsG g x:=by
 intro f
 induction f with
 | zero=>intro g x _ h;omega
 | succ f e =>
  intro g x d hf hg;cases g with
  | zero=>omega
  | succ g =>
   simp only[rsG];by_cases a:(dy x).1=0
   .cases c:(dy x).2.1 with
    | true=>simp only[if_true]
    | false =>obtain⟨-,b,h3⟩:=CY d a c;rw[e (g:=g) b (by omega) (by omega)]
   simp only[a,if_false]
noncomputable def rsE (x:List Nat):Int × List (List En) × List Nat:=rsG (rzM x+1) x
theorem qL(h:(dy x).1≠0):rsE x=((dy x).1,[],[]):=by unfold rsE;simp only[rsG];rw[if_neg h]
theorem mO(h:(dy x).1=0)(a:(dy x).2.1=true):rsE x=(0,[],x):=by unfold rsE;simp only[rsG];rw[if_pos h,if_pos a]
theorem kZ(d:∀v∈x,v<2^64)(h:(dy x).1=0)(a:(dy x).2.1=false):rsE x=(if (rsE (au x (dy x).2.2)).1=0 then (0,(dy x).2.2::(rsE (au x (dy x).2.2)).2.1,(rsE (au x (dy x).2.2)).2.2) else ((rsE (au x (dy x).2.2)).1,[],[])):=by
 obtain⟨-,b,c⟩:=CY d h a;have e:rsG (rzM x) (au x (dy x).2.2)=rsE (au x (dy x).2.2):=ER b c (kjq _)
 conv=>lhs;unfold rsE
 simp only[rsG];rw[if_pos h,if_neg (by rw[a];decide),e]
theorem Im(d:∀v∈x,v<2^64)(h:(rsE x).1≠0):rsE x=((rsE x).1,[],[]):=by
 by_cases a:(dy x).1=0
 .cases c:(dy x).2.1 with
  | true=>rw[mO a c] at h;exact absurd rfl h
  | false =>
   rw[kZ d a c] at h |-;by_cases b:(rsE (au x (dy x).2.2)).1=0
   .rw[if_pos b] at h;exact absurd rfl h
   rw[if_neg b]
 rw[qL a]
noncomputable def tU (G:List Nat):Int × List (List En) × List Nat:=if aB G=0 then rsE G else (aB G,[],[])
def zw (G:List Nat) (outs:List (List En)) (x:List Nat):Prop:=rsE G=if (rsE x).1=0 then (0,outs++(rsE x).2.1,(rsE x).2.2) else ((rsE x).1,[],[])
theorem ks(a:∀v∈G,v<2^64):zw G [] G:=by
 unfold zw;by_cases h:(rsE G).1=0
 .rw[if_pos h,kz5,<-h]
 rw[if_neg h];exact Im a h
theorem tR{outs:List (List En)}(g:∀v∈x,v<2^64)(h:rsE x=(0,E::outs,y)):dy x=(0,false,E)/\rsE (au x E)=(0,outs,y):=by
 by_cases a:(dy x).1=0
 .cases c:(dy x).2.1 with
  | true=>rw[mO a c] at h;simp at h
  | false =>
   rw[kZ g a c] at h;by_cases b:(rsE (au x (dy x).2.2)).1=0
   .rw[if_pos b] at h;simp only[Prod.mk.injEq,List.cons.injEq,true_and] at h;obtain⟨⟨d,e⟩,f⟩:=h;refine⟨by rw[<-a,<-c,<-d],?_⟩;rw[<-d,<-e,<-f,<-b]
   rw[if_neg b] at h;simp at h
 rw[qL a] at h;simp at h
theorem Ha:∀ {a:List (List En)} {x y:List Nat},(∀v∈x,v<2^64)->rsE x=(0,a,y)->∀n,n<=a.length->(∀v∈stX x a n,v<18446744073709551616)/\(stX x a n).length=x.length/\rsE (stX x a n)=(0,a.drop n,y)/\(dy (stX x a n)).1=0/\∀h:n<a.length,dy (stX x a n)=(0,false,a[n])/\Small x.length a[n]:=by
 intro a
 induction a with
 | nil =>
  intro x y d h n e;have:n=0:=by simpa using e
  subst this;refine⟨d,rfl,h,?_,λh=>absurd h (by simp)⟩;rw[uV];by_cases b:(dy x).1=0
  .exact b
  rw[qL b] at h;simp only[Prod.mk.injEq] at h;exact h.1
 | cons E a q =>
  intro x y d h n e;obtain⟨c,o⟩:=tR d h;have b:=CY d (by rw[c]) (by rw[c]);rw[c] at b;cases n with
  | zero=>exact⟨d,rfl,h,by rw[uV,c],λ_=>⟨c,b.1⟩⟩
  | succ n =>rw[FK];obtain⟨g,i,j,k,l⟩:=q b.2.1 o n (by simpa using e);refine⟨g,by rw[i,aG],j,k,λp=>?_⟩;obtain⟨m,f⟩:=l (by simpa using p);rw[aG] at f;exact⟨m,f⟩
theorem BV{outs:List (List En)}(e:∀v∈x,v<2^64)(h:rsE x=(0,outs,y)):stX x outs outs.length=y/\(dy y).1=0/\(dy y).2.1=true:=by
 obtain⟨d,g2,a,b,-⟩:=Ha e h outs.length (kqa _);rw[kj2] at a;cases c:(dy (stX x outs outs.length)).2.1 with
 | true =>rw[mO b c] at a;simp only[Prod.mk.injEq,true_and] at a;rw[a] at b c;exact⟨a,b,c⟩
 | false =>
  rw[kZ d b c] at a;split at a
  .simp at a
  rename_i h1;simp only[Prod.mk.injEq] at a;exact absurd a.1 h1
theorem rs_len:∀ {a:List (List En)} {x y:List Nat},(∀v∈x,v<2^64)->rsE x=(0,a,y)->a.length<=rzM x:=by
 intro a
 induction a with
 | nil=>intro x y _ _;exact kqv _
 | cons E a f =>intro x y d h;obtain⟨c,e⟩:=tR d h;have b:=CY d (by rw[c]) (by rw[c]);rw[c] at b;have:=f b.2.1 e;rw[kq4];have:=b.2.2;dsimp only at this;omega
theorem DW{outs:List (List En)}(d:∀v∈G,v<2^64)(h:tU G=(0,outs,y)):aB G=0/\rsE G=(0,outs,y)/\outs.length<=(G.length-128)/2*3+5/\stX G outs outs.length=y/\(∀n,n<=outs.length->(∀v∈stX G outs n,v<18446744073709551616)/\(stX G outs n).length=G.length/\tU (stX G outs n)=(0,outs.drop n,y))/\∀n (h:n<outs.length),Small G.length outs[n]:=by
 have a:aB G=0:=by
  by_cases b:aB G=0
  .exact b
  unfold tU at h;rw[if_neg b] at h;simp only[Prod.mk.injEq] at h;exact absurd h.1 b
 have b:rsE G=(0,outs,y):=by unfold tU at h;rw[if_pos a] at h;exact h
 obtain⟨-,j,-⟩:=cP a;refine⟨a,b,kzu (rs_len d b) (rzM_le j),(BV d b).1,λn c=>?_,λn c=>((Ha d b n (kjn c)).2.2.2.2 c).2⟩;obtain⟨e,f,g,i,-⟩:=Ha d b n c;refine⟨e,f,?_⟩;unfold tU;rw[if_pos (rs_ck i)];exact g
theorem zv :∀n x,(∀v∈x,v<2^64)->mzS p x<=n->((dF p x).1≠0->rsE x=((dF p x).1,[],[]))/\((dF p x).1=0->zw x (dF p x).2.1 (dF p x).2.2):=by
 intro n
 induction n with
 | zero =>
  intro x c h;have b:wd x 16≠p:=λb=>by unfold mzS at h;rw[if_pos b] at h;omega
  rw[cU b];exact⟨λh=>absurd rfl h,λ_=>ks c⟩
 | succ n m =>
  intro x c h;by_cases b:wd x 16=p
  .by_cases i:(ah x).1=6
   .rw[ld b i];exact⟨λh=>absurd rfl h,λ_=>ks c⟩
   have a:dy x=((ah x).1,false,(ah x).2):=by unfold dy;rw[if_neg i]
   by_cases d:(ah x).1=0
   .have hd:=gj c b d;obtain⟨k,l⟩:=m (au x (ah x).2) (dY c d) (by omega);have g:=kZ c (by rw[a];exact d) (by rw[a]);rw[a] at g;dsimp only at g;rw[eE c b d];by_cases e:(dF p (au x (ah x).2)).1=0
    .rw[if_pos e];refine⟨λh=>absurd rfl h,λ_=>?_⟩;have j:=l e;unfold zw at j |-;rw[g,j];dsimp only;by_cases f:(rsE (dF p (au x (ah x).2)).2.2).1=0
     .rw[if_pos f,if_pos rfl,if_pos f];rfl
     rw[if_neg f,if_neg (by exact f),if_neg f]
    rw[if_neg e];refine⟨λ_=>?_,λh=>absurd h e⟩;rw[g,k e,if_neg (by exact e)]
   rw[qe b i d];refine⟨λ_=>?_,λh=>absurd h d⟩;rw[qL (by rw[a];exact d),a]
  rw[cU b];exact⟨λh=>absurd rfl h,λ_=>ks c⟩
theorem ll :∀n x,(∀v∈x,v<2^64)->mzS p x<=n->(dF p x).1=0->(∀v∈(dF p x).2.2,v<18446744073709551616)/\(dF p x).2.2.length=x.length:=by
 intro n
 induction n with
 | zero =>
  intro x b h _;have a:wd x 16≠p:=λa=>by unfold mzS at h;rw[if_pos a] at h;omega
  rw[cU a];exact⟨b,rfl⟩
 | succ n j =>
  intro x b h d;by_cases a:wd x 16=p
  .by_cases f:(ah x).1=6
   .rw[ld a f];exact⟨b,rfl⟩
   by_cases c:(ah x).1=0
   .have hd:=gj b a c;rw[eE b a c] at d |-;by_cases e:(dF p (au x (ah x).2)).1=0
    .rw[if_pos e];obtain⟨g,i⟩:=j (au x (ah x).2) (dY b c) (by omega) e;exact⟨g,i.trans (aG _ _)⟩
    rw[if_neg e] at d;exact absurd d e
   rw[qe a f c] at d;exact absurd d c
  rw[cU a];exact⟨b,rfl⟩
theorem fEnd_c(A:Option Addr)(G:List Nat)(c n:Nat)(w:World)(b:G.length=n)(J:n<=9223372036854775807)(I:n<=c)(E:RdW w w.heap.size A G)(a:∀x∈G,x<2^64):
 Calls prog 104 #[.slice A n c] w λe d=>e=.returned (.tuple #[.int .i64 (fK G:Nat),.int .i64 (dJ G)])/\Below w.heap.size w d:=by
 subst b;obtain⟨t,k,i,l⟩:=yq2 E (λW (h:RdW W W.heap.size A G)=>r8 A G c G.length W rfl J I h a) (λW (h:RdW W W.heap.size A G)=>vH A G c G.length W rfl J I h a) (λW (h:RdW W W.heap.size A G)=>Jz A G c G.length W rfl J I h a);clear E a;by_cases p:aB G=0
 .have a:=jH p;have b:lnV G=phV (wd G 16) (wd G 17) (wd G 18):=by simp[lnV,a]
  obtain⟨m,r⟩:=yq0 (λd f=>EM p d f) (λd=>EO p d);have D:Hid (dJ G=6->fK G=0):=y5 λh=>by simp[fK,h]
  rw[p] at k l;rw[a,b] at i;unfold phV at i;obtain⟨x,f⟩:=xq (wd G 16);obtain⟨y,j⟩:=xq (wd G 17);obtain⟨z,g⟩:=xq (wd G 18);obtain⟨N,d⟩:=xq (lfN G);rw[f,j,g] at i;rw[f,d] at m r;rw[g] at m;rw[d] at l;have C:(x=4/\N=0)\/(x=4/\N≠0)\/x≠4:=(by omega);clear p a b f j g d;rcases C with⟨F,H⟩|⟨F,H⟩|F
  .have q:=y5 (m.out F H);subst F H;simp only[kq1] at i l;clear m r;go_enter func104,ntmps104;go_wp2_with fail;refine (k.out _ t.out).mono ?_;rintro e P ⟨rfl,a⟩;have d:=y5 a;have u:=yq9 t a;clear a;go_wp2_with fail;refine (i.out _ u.out).mono ?_;rintro e O ⟨rfl,f⟩;have b:=y5 ((d.out.trans (f.mono d.out.size)).alloc (by have:=f.size;have:=d.out.size;omega) (.cells #[.int .i64 4,.int .i64 (y:Int),.int .i64 (z:Int)] 107));obtain⟨v,j⟩:=yq0 (yq8 t b) (Bx.new O 107 #[.int .i64 4,.int .i64 (y:Int),.int .i64 (z:Int)]);clear f;go_wp2_with fail;refine (l.out _ v.out).mono ?_;rintro e T ⟨rfl,g⟩;have o:=j.out.up g j.out.lt;obtain⟨Q,R,S,-⟩:=o.c3;have s:=yq7 b g;clear g o;go_wp2;go_ret2;exact⟨by rw[q.out.1,q.out.2];rfl,s.out⟩
  all_goals
   have q:=y5 (r.out (by omega));have B:=y5 (D.out q.out);have M:(x=4/\((x:Int) != 4)=false/\(x != 4)=false/\decide ((0:Int)<(N:Int))=true/\decide (0<N)=true)\/((x:Int) != 4)=true/\(x != 4)=true:=by
    by_cases h:x=4
    .left;exact⟨h,by rw[kqt];omega,by rw[kqt];exact h,by rw[kqh];omega,by rw[kqh];omega⟩
    right;exact⟨by rw[kqx];omega,by rw[kqx];exact h⟩
   clear m r D;(try clear H);clear F;rcases M with⟨-,K,L,hx3,hx4⟩|⟨K,L⟩
   all_goals
    go_enter func104,ntmps104;go_wp2_with fail;refine (k.out _ t.out).mono ?_;rintro e P ⟨rfl,a⟩;have d:=y5 a;have u:=yq9 t a;clear a;go_wp2_with fail;refine (i.out _ u.out).mono ?_;rintro e O ⟨rfl,f⟩;have b:=y5 ((d.out.trans (f.mono d.out.size)).alloc (by have:=f.size;have:=d.out.size;omega) (.cells #[.int .i64 (x:Int),.int .i64 (y:Int),.int .i64 (z:Int)] 107));obtain⟨v,j⟩:=yq0 (yq8 t b) (Bx.new O 107 #[.int .i64 (x:Int),.int .i64 (y:Int),.int .i64 (z:Int)]);clear f;go_wp2_with fail;refine (l.out _ v.out).mono ?_;rintro e T ⟨rfl,g⟩;have o:=j.out.up g j.out.lt;obtain⟨Q,R,S,-⟩:=o.c3;have s:=yq7 b g;clear g o;go_wp2;go_ret2;exact⟨by rw[q.out,B.out];rfl,s.out⟩
 have q:=y5 (Fj (G:=G) rfl p);have B:Hid (fK G=0):=y5 (by simp[fK,q.out,p]);obtain⟨r,E⟩:=xq (aB G);rw[E] at k p q;have hrn:(r != 0)=true:=by rw[kqx];exact p
 clear p E;go_enter func104,ntmps104;go_wp2_with fail;refine (k.out _ t.out).mono ?_;rintro e P ⟨rfl,a⟩;go_wp2;go_ret2;exact⟨by rw[q.out,B.out];rfl,a⟩
theorem Ch.atE{w:World}{B:Nat}{A:Option Addr}{l:List Ch}(h:Rd w B A (l.flatMap Ch.cells))(a:k<l.length):∃b off,A=some ⟨b,off,none⟩/\b<B/\w.cell? ⟨b,off+k,none⟩=some (.slice l[k].A l[k].l.length l[k].c):=RdC.at_ h a
def qE (l:List Ch):List En:=l.flatMap Ch.l
theorem E7(A:Option Addr)(l:List Ch)(c n H:Nat)(w:World)(i:l.length=n)(a:∀k,(qE (l.take k)).length<=1000)(d:∀x∈l,x.l.length<=1000)(hm:n<=1000)(g:Rd w H A (l.flatMap Ch.cells))(f:∀x∈l,RdE w H x.A x.l/\(x.A=none->x.c=0))(b:H<=w.heap.size):
 Calls prog 106 #[.slice A n c] w λe h=>(∃v,e=.returned v/\h.ownsRow w.heap.size 89 2 v (qE l).length ((qE l).flatMap En.cells))/\Below w.heap.size w h:=by
 subst i;have G:=y5 (g.more b);have p:Hid (∀k (h:k<l.length),RdE w w.heap.size l[k].A l[k].l/\(l[k].A=none->l[k].c=0)):=y5 λk h=>⟨(f _ (kqp h)).1.more b,(f _ (kqp h)).2⟩;have r:Hid (∀k (h:k<l.length),l[k].l.length<=1000):=y5 λk h=>d _ (kqp h);have q:=y5 a;have s:Hid (∀k (h:k<l.length),qE (l.take (k+1))=qE (l.take k)++l[k].l):=y5 λk h=>by unfold qE;rw[kqi h,kzv];simp
 clear g f b a d;obtain⟨I,f,a,b,e⟩:=kzh bE;obtain⟨F,u,y,z⟩:=yq2 f a b e;clear f a b e;go_enter func106,ntmps106;go_wp2_with fail;go_loopw [3,8] (λv i wr=>∃k:Nat,k<=l.length/\i=.int .i64 k/\wr.ownsRow w.heap.size 89 2 v (qE (l.take k)).length ((qE (l.take k)).flatMap En.cells)/\Below w.heap.size w wr) (λ_ i _=>l.length-(intOf i).toNat)
 case atStart=>exact⟨0,kqv _,rfl,kq3 _ _ _ _,kqe _ _⟩
 obtain⟨k,hk,rfl,a,i⟩:=hrel;have D:=i.size;by_cases g:k<l.length
 .obtain ⟨b,off,rfl,hb,E⟩:=Ch.atE (Rd.below G.out i) g;obtain⟨f,h⟩:=p.out k g;have d:=r.out k g;have v:=q.out k;have e:=y5 (s.out k g);obtain⟨x,C⟩:=xq (l[k]);rw[C] at E f h d e;obtain⟨J,xc,B⟩:=x;dsimp only at E f h d e;obtain⟨m,j⟩:=xq (qE (l.take k));rw[j] at a e v;have hk1:(k:Int)<(l.length:Int):=(by omega);have hk0:(0:Int)<=(k:Int):=(by omega);obtain⟨o,t⟩:=yq0 (Rd.below f i) (bU En.cells 2 En.len B);clear C j f h;go_wp2_with (at_builtin;refine aW _ (by rfl) _ _ 26 rfl w.heap.size 89 I _ 2 16 underlying26 F.out u.out y.out z.out rfl (by decide) _ _ _ (by rfl) a w.heap.size J B.length _ (B.flatMap En.cells) (by rfl) t.out o.out (db En.one _) (by unfold maxLen;omega) (by omega) D ?_;intro v1 wa f j;have h:=bi i D a j);go_roundw;exact⟨k+1,by omega,by go_num,by rw[e.out,kqu,kzv];exact f,h⟩;simp[intOf];omega
 rw[kza (by omega)] at a;go_wp2;go_ret;exact⟨⟨_,rfl,a⟩,i⟩
def lnE (k:Nat):List En:=(List.range 3).map λi=>(⟨if i<k then ((16+i:Nat):Int) else 0,0⟩:En)
theorem I6(k:Nat):(lnE k).length=3:=by simp[lnE]
theorem DI(a:k<3):lnE (k+1)=(lnE k).set k ⟨16+(k:Int),0⟩:=by
 match k,a with
 | 0,_=>rfl
 | 1,_=>rfl
 | 2,_=>rfl
theorem IQ(a:k<3):(lnE k)[k]? = some ⟨0,0⟩:=by
 match k,a with
 | 0,_=>rfl
 | 1,_=>rfl
 | 2,_=>rfl
theorem GY(l:List En)(k:Nat)(x:En)(a:Int)(c:l[k]? = some x):(l.set k ⟨a,x.v⟩).flatMap En.cells=(l.flatMap En.cells).set (k*2) (.int .i64 a):=
 eN En.cells 2 En.len l k 0 (by omega) ⟨a,x.v⟩ (.int .i64 a) (λy b=>by rw[c] at b;cases b;rfl)
theorem Fx:(madeCells #[Value.int .i64 0,.int .u64 0] (3*2)).toList=(lnE 0).flatMap En.cells:=by kernel_rfl
theorem yB(A:Option Addr)(G:List Nat)(c n:Nat)(w:World)(b:G.length=n)(U:n<=9223372036854775807)(T:n<=c)(y:RdW w w.heap.size A G)(D:∀x∈G,x<2^64):
 Calls prog 57 #[.slice A n c] w λe a=>ey w.heap.size (dJ G) (du G) e a/\Below w.heap.size w a:=by
 subst b;have u:=y5 (fEnd_c A G c G.length w rfl U T y D);clear y D;by_cases j:dJ G=0
 .obtain ⟨o,-,-,-,k,O,-,m⟩:=gA j;have q:=(ae _).1 o;have i:=(a9 _).1 k;rw[<-m] at i O;obtain⟨r,H⟩:=yq0 (λh=>tY j h) j;have d:Hid (du G=phE 0 0 0++(if fK G=G.length then [] else [⟨(fK G:Int),cQ (eQ (G.length-fK G))⟩,⟨((fK G+1:Nat):Int),0⟩])):=y5 (by simp[du,j]);rw[j] at u;obtain⟨t,E⟩:=xq (fK G);rw[E] at u r d i O;have hlen:G.length<=2048:=(by omega);have ht1:t<=2048:=i.2.1;obtain⟨V,a,b,f,g⟩:=kzh bE;have l:=y5 (And.intro a (And.intro b (And.intro f g)));clear E j m k o q i a b f g;go_enter func57,ntmps57;go_wp2_with fail;refine u.out.mono ?_;rintro e b ⟨rfl,m⟩;obtain⟨R,o,a,i⟩:=run_make_full (P:=prog) b b.heap.size 26 89 V (.agg #[.int .i64 0,.int .u64 0]) 2 underlying26 l.out.1 l.out.2.1 l.out.2.2.1 .i64 .i64 3 (by rw[l.out.2.2.2];omega) (by unfold maxLen;omega) (kqa _);have f:R.ownsRow b.heap.size 89 2 (.slice (some ⟨b.heap.size,0,none⟩) 3 3) 3 ((lnE 0).flatMap En.cells):=by rw[<-Fx];exact a
  obtain⟨M,g,J⟩:=yq1 f m ((kqe b.heap.size b).grown i (kqa _) (λk Q=>by cases Q));simp only[kq1] at o;clear a i f m;go_wp2_with fail;clear o;go_loopw [19] (λi wr=>∃k:Nat,k<=3/\i=.int .i64 k/\wr.ownsRow b.heap.size 89 2 (.slice (some ⟨b.heap.size,0,none⟩) 3 3) 3 ((lnE k).flatMap En.cells)/\Below b.heap.size b wr) (λi _=>3-(intOf i).toNat)
  case atStart=>exact⟨0,kqv _,rfl,M.out,J.out⟩
  obtain⟨k,Q,rfl,a,I⟩:=hrel;have hz:=I.size;by_cases C:k<3
  .have q:=y5 (show (lnE (k+1)).flatMap En.cells=((lnE k).flatMap En.cells).set (k*2) (.int .i64 (16+(k:Int))) by
    rw[DI C];exact GY _ _ ⟨0,0⟩ _ (IQ C))
   obtain⟨o,i⟩:∃o,((lnE k).flatMap En.cells)[k*2]? = some o:=⟨_,kqg (by rw[bU En.cells 2 En.len,I6];omega)⟩;have d0:=(a.cellAt (k*2) (by omega)).trans i;have e0:=a.frozenAt (k*2);have f:=y5 a;have hk1:(k:Int)<3:=(by omega);have hk0:(0:Int)<=(k:Int):=(by omega);clear i a;go_wp2;go_roundw;exact⟨k+1,by omega,by go_num,by rw[q.out];exact (f.out.stored (k*2) _).1,I.setCell (p:=⟨b.heap.size,k*2,none⟩) (kqa _) _⟩;simp[intOf];omega
  obtain rfl:k=3:=(by omega);rw[show lnE 3=phE 0 0 0 from rfl] at a;have f:=y5 a;clear a;by_cases a:t=G.length
  .have o:((t:Int)==(G.length:Int))=true:=(by rw[kqw];omega);have i:(t==G.length)=true:=by rw[kqw];exact a
   have q:=y5 (show du G=phE 0 0 0 by rw[d.out,if_pos a,kzf]);clear a d;go_wp2;go_ret2;exact⟨⟨some ⟨b.heap.size,0,none⟩,3,by rw[q.out,H.out];rfl,by rw[q.out];exact ab f.out g.out.size⟩,g.out.trans (I.mono g.out.size)⟩
  have o:((t:Int)==(G.length:Int))=false:=(by rw[kqc];omega);have i:(t==G.length)=false:=by rw[kqc];exact a
  have q:=y5 (show du G=phE 0 0 0++[⟨(t:Int),cQ (eQ (G.length-t))⟩,⟨((t+1:Nat):Int),0⟩] by rw[d.out,if_neg a]);have s:=r.out a;have i:=y5 (λW=>qv (eQ (G.length-t)) W);rw[show jr (eQ (G.length-t))=cQ (eQ (G.length-t)) by simp[jr,s],jh s] at i;rw[show (eQ (G.length-t)).val=.agg #[.int .i64 0,.int .i64 ((G.length-t:Nat):Int),.int .i64 2,.int .i64 0,.bool false,.int .u64 0] from rfl] at i;have hws:IntKind.i64.wrap ((G.length:Int)-(t:Int))=((G.length-t:Nat):Int):=by rw[kqo _ (by omega)];omega
  have hwt:IntKind.i64.wrap ((t:Int)+1)=(t:Int)+1:=kqo _ (by omega);obtain⟨o,v⟩:=xq (cQ (eQ (G.length-t)));rw[v] at i q;have z:=yq7 g I;clear a d r s v;go_wp2_with fail;refine (i.out _).mono ?_;rintro e d ⟨rfl,a⟩;have r:=yq7 z a;have L:=y5 (ag f.out a (kqa _));clear a;go_wp2_with fail;have v:=Bx.new d 89 #[.int .i64 (t:Int),.int .u64 (o:Int),.int .i64 ((t:Int)+1),.int .u64 0];have F:=Bx.new (d.alloc (.cells #[.int .i64 (t:Int),.int .u64 (o:Int),.int .i64 ((t:Int)+1),.int .u64 0] 89)) 26 #[.slice (some ⟨b.heap.size,0,none⟩) 3 3,.slice (some ⟨d.heap.size,0,none⟩) 2 2];simp only[kqm] at F;have a:=(r.out.alloc r.out.size (.cells #[.int .i64 (t:Int),.int .u64 (o:Int),.int .i64 ((t:Int)+1),.int .u64 0] 89)).alloc (cr r.out.size) (.cells #[.slice (some ⟨b.heap.size,0,none⟩) 3 3,.slice (some ⟨d.heap.size,0,none⟩) 2 2] 26);have s:=(L.out.alloc (.cells #[.int .i64 (t:Int),.int .u64 (o:Int),.int .i64 ((t:Int)+1),.int .u64 0] 89)).alloc (.cells #[.slice (some ⟨b.heap.size,0,none⟩) 3 3,.slice (some ⟨d.heap.size,0,none⟩) 2 2] 26);replace v:=v.alloc (.cells #[.slice (some ⟨b.heap.size,0,none⟩) 3 3,.slice (some ⟨d.heap.size,0,none⟩) 2 2] 26)
  obtain⟨Z,f⟩:∃Z,(d.alloc (.cells #[.int .i64 (t:Int),.int .u64 (o:Int),.int .i64 ((t:Int)+1),.int .u64 0] 89)).alloc (.cells #[.slice (some ⟨b.heap.size,0,none⟩) 3 3,.slice (some ⟨d.heap.size,0,none⟩) 2 2] 26)=Z:=⟨_,rfl⟩;rw[f] at v F a s |-;clear f;have B:=kjo t 1;have N:=E7 (some ⟨d.heap.size+1,0,none⟩) [⟨some ⟨b.heap.size,0,none⟩,3,phE 0 0 0⟩,⟨some ⟨d.heap.size,0,none⟩,2,[⟨(t:Int),o⟩,⟨((t+1:Nat):Int),0⟩]⟩] 2 2 Z.heap.size Z rfl (λk=>by
   match k with
   | 0=>show (0:Nat)<=1000;omega
   | 1=>show (3:Nat)<=1000;omega
   | k+2=>rw[kza (by simp)];show (5:Nat)<=1000;omega) (λx f=>by
   simp only[kq0,kzm,or_false] at f;rcases f with rfl|rfl
   .show (3:Nat)<=1000;omega
   .show (2:Nat)<=1000;omega) (by omega) (show Rd Z _ _ _ from Rd.of_box F F.lt) (λx f=>by
   simp only[kq0,kzm,or_false] at f;rcases f with rfl|rfl
   .exact ⟨Rd.of_own s,λh=>by cases h⟩
   refine⟨?_,λh=>by cases h⟩;have:=Rd.of_box v v.lt;show Rd Z _ _ [.int .i64 (t:Int),.int .u64 (o:Int),.int .i64 ((t+1:Nat):Int),.int .u64 ((0:Nat):Int)];rw[B];exact this) (kqa _)
  obtain⟨K,f⟩:=yq0 N a;clear N v F a s B;refine K.out.mono ?_;rintro e w5 ⟨⟨v,rfl,a⟩,h⟩;obtain⟨N,S,rfl,s,x⟩:=kI a;have F:=y5 (ab a f.out.size);have B:=yq7 f h;clear a x s h;go_wp2;go_ret2;exact⟨⟨N,S,by rw[q.out,H.out];rfl,by rw[q.out];exact F.out⟩,B.out⟩
 have D:du G=[]:=by simp[du,j]
 have q:=y5 D;obtain⟨r,y⟩:=xq (dJ G);have H:=y5 y;rw[y] at u j;have hrn:(r != 0)=true:=by rw[kqx];exact j
 obtain⟨t,E⟩:=xq (fK G);rw[E] at u;clear j y E D;go_enter func57,ntmps57;go_wp2_with fail;refine u.out.mono ?_;rintro e b ⟨rfl,m⟩;go_wp2;go_ret2;exact⟨bZ H.out q.out,m⟩
def uo (H:Nat) (r:Int) (d:Bool) (E:List En) (e:Ending) (w':World):Prop:=∃A c,e=.returned (.tuple #[.slice A E.length c,.bool d,.int .i64 r])/\w'.ownsRow H 89 2 (.slice A E.length c) E.length (E.flatMap En.cells)
theorem Iw(A:Option Addr)(G:List Nat)(c n:Nat)(w:World)(b:G.length=n)(H:n<=9223372036854775807)(C:n<=c)(u:RdW w w.heap.size A G)(q:∀x∈G,x<2^64):
 Calls prog 54 #[.slice A n c] w λe a=>uo w.heap.size (dy G).1 (dy G).2.1 (dy G).2.2 e a/\Below w.heap.size w a:=by
 subst b;obtain⟨y,d,b,l⟩:=yq2 u (Jv A G c G.length w rfl H C u q) (λW (h:RdW W W.heap.size A G)=>vH A G c G.length W rfl H C h q) (λW (h:RdW W W.heap.size A G)=>yB A G c G.length W rfl H C h q);unfold ey at d l;by_cases i:(ah G).1=6
 .have h:=CT i;obtain⟨t,I,D,-⟩:=cP h;have M:=(ae _).1 I;obtain⟨⟨J,K,L⟩,-⟩:=(bo G).1 D;have k:=jH h;have p:lnV G=phV (wd G 16) (wd G 17) (wd G 18):=by simp[lnV,k]
  rw[p,k] at b;unfold phV at b;rw[i] at d;obtain⟨E,z⟩:=xq ((ah G).2);rw[z] at d;by_cases o:wd G 16=0
  .have f:=y5 (show dy G=(0,true,[]) by unfold dy;rw[if_pos i,if_pos o]);rw[o] at b;generalize wd G 17=F at b;generalize wd G 18=T at b;clear u q i o h t I D k p z M J K L;go_enter func54,ntmps54;go_wp2_with fail;refine d.out.mono ?_;rintro e N ⟨⟨v,B,rfl,-⟩,a⟩;have g:=y5 a;have m:=yq9 y a;clear a;go_wp2_with fail;refine (b.out _ m.out).mono ?_;rintro e R ⟨rfl,j⟩;have s:=yq7 g j;clear j;go_wp2;go_ret3;exact⟨⟨none,0,by rw[f.out];rfl,by rw[f.out];exact kq3 _ _ _ _⟩,s.out.alloc s.out.size _⟩
  have f:=y5 (show dy G=(dJ G,false,du G) by unfold dy;rw[if_pos i,if_neg o]);generalize wd G 17=F at b K;generalize wd G 18=T at b L;generalize dJ G=r at l f;generalize du G=Z at l f;generalize wd G 16=P at b o J;have O:((P:Int)==0)=false:=(by rw[kqc];omega);have Q:(P==0)=false:=by rw[kqc];exact o
  have p3:decide (P=0)=false:=by rw[kqb];exact o
  clear u q i h t I D k p z M J K L;go_enter func54,ntmps54;go_wp2_with fail;refine d.out.mono ?_;rintro e N ⟨⟨v,B,rfl,-⟩,a⟩;have g:=y5 a;have m:=yq9 y a;clear a;go_wp2_with fail;refine (b.out _ m.out).mono ?_;rintro e R ⟨rfl,j⟩;have k:=g.out.trans (j.mono g.out.size);have h:=y5 (k.alloc k.size (.cells #[.int .i64 (P:Int),.int .i64 (F:Int),.int .i64 (T:Int)] 107));have z:=y5 (yq8 y h);clear j k;go_wp2_with fail;refine (l.out _ z.out).mono ?_;rintro e w3 ⟨⟨D,I,rfl,k⟩,p⟩;have s:=yq7 h p;have t:=y5 (ab k h.out.size);clear p k;go_wp2;go_ret3;exact⟨⟨D,I,by rw[f.out];rfl,by rw[f.out];exact t.out⟩,s.out⟩
 have f:=y5 (show dy G=((ah G).1,false,(ah G).2) by unfold dy;rw[if_neg i]);generalize (ah G).2=E at d f;generalize (ah G).1=r at d f i;have O:((r:Int)==6)=false:=by rw[kqc];exact i
 have Q:((r:Int) != 6)=true:=by rw[kqx];exact i
 clear u q i;go_enter func54,ntmps54;go_wp2_with fail;refine d.out.mono ?_;rintro e N ⟨⟨v,B,rfl,g⟩,a⟩;have h:=y5 g;clear g;go_wp2;go_ret3;exact⟨⟨v,B,by rw[f.out];rfl,by rw[f.out];exact h.out⟩,a⟩
end Go.Proofs.YtpcajamacpbjcaaGreat
