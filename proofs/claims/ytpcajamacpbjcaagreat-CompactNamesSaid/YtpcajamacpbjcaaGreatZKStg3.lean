/- Texts laid together: StgR Frsh Al25P StgN StgM StgT MkJP FxTP StgV. -/
import Derived.Test.YtpcajamacpbjcaaGreatZKStg2
import Derived.Test.YtpcajamacpbjcaaGreatZKMove
import Derived.Test.YtpcajamacpbjcaaGreatZKImage
import Derived.Test.YtpcajamacpbjcaaGreatZKStg1
import Derived.Test.YtpcajamacpbjcaaGreatZKFix
set_option maxHeartbeats 16000000
set_option linter.all false
namespace Go.Proofs.YtpcajamacpbjcaaGreat
open Go.RowKit
variable {b:Bk}{l:List Bk}{ws x:List Nat}{a i:Nat}
def stX (x:List Nat) (outs:List (List En)) (n:Nat):List Nat:=(outs.take n).foldl aj x
theorem uM(x:List Nat)(outs:List (List En)):stX x outs 0=x:=rfl
theorem Ct(x:List Nat)(E:List En)(outs:List (List En))(n:Nat):stX x (E::outs) (n+1)=stX (aj x E) outs n:=rfl
def ni:List Nat:=mL 256 [] [] []
theorem jD:ni.length=256:=by decide +kernel
theorem hpOut_few(ws:List Nat):(af ws).length<=ws.length:=by
 unfold af;split
 .rename_i h;obtain⟨b,l,a,-⟩:=ay h;have hb:=(ae _).1 b;have:=(cd (by omega) _ _ a (by omega) (by omega) (by omega)).1;rw[a];simp only[kq8];omega
 simp
theorem EX(p1:wd x 16=1)(h:(ag x).1=0):aA x=0/\ag x=(0,ir (aL x) 2):=by
 have b:aw x=0:=by
  by_cases a:aw x=0
  .exact a
  unfold ag at h;rw[if_neg a] at h;exact absurd h a
 have c:aA x=0:=by
  by_cases a:aA x=0
  .exact a
  unfold ag at h;rw[if_pos b,if_pos p1,if_neg a] at h;exact absurd h a
 exact⟨c,by unfold ag;rw[if_pos b,if_pos p1,if_pos c]⟩
theorem yH(p2:wd x 16=2)(h:(ag x).1=0):ah x=0/\ag x=(0,ir (aD x) 3):=by
 have b:aw x=0:=by
  by_cases a:aw x=0
  .exact a
  unfold ag at h;rw[if_neg a] at h;exact absurd h a
 have d:¬ wd x 16=1:=by omega
 have c:ah x=0:=by
  by_cases a:ah x=0
  .exact a
  unfold ag at h;rw[if_pos b,if_neg d,if_pos p2,if_neg a] at h;exact absurd h a
 exact⟨c,by unfold ag;rw[if_pos b,if_neg d,if_pos p2,if_pos c]⟩
theorem F9(p1:wd x 16=1)(h:(ag x).1=0)(h32:32<=(aL x).length):aA (aj x (ag x).2)=0/\dU (aj x (ag x).2)=dU x:=by obtain⟨a,e⟩:=EX p1 h;rw[e];dsimp only;rw[cm h32];obtain⟨b,c,-⟩:=(iH a (kjj 31 _)).same a;exact⟨b,c⟩
structure RmL (ws xs:List Nat):Prop where
 len:xs.length=ws.length
 at_:∀i,19<=i->wd xs i=wd ws i\/(128<=i/\i%2=0/\aM (wd ws i)=true/\(ar (wd ws i)).kind=1/\∃m,wd xs i=gb (wd ws i) m)
section
variable {ws xs:List Nat}
theorem RmL.low(h:RmL ws xs)(h19:19<=i)(hi:i<128):wd xs i=wd ws i:=by
 rcases h.at_ i h19 with a|a
 .exact a
 omega
theorem RmL.odd(h:RmL ws xs)(h19:19<=i)(hi:i%2=1):wd xs i=wd ws i:=by
 rcases h.at_ i h19 with a|a
 .exact a
 omega
theorem RmL.sp(h:RmL ws xs)(i:Nat)(h19:19<=i):aM (wd xs i)=aM (wd ws i):=by
 rcases h.at_ i h19 with b|⟨-,-,a,d,m,c⟩
 .rw[b]
 rw[c,a,(iC a d m).1]
theorem RmL.raw(h:RmL ws xs)(i:Nat)(h19:19<=i):ar (wd xs i)={ ar (wd ws i) with mark:=qm xs i }:=by
 unfold qm;rcases h.at_ i h19 with a|⟨-,-,b,d,m,c⟩
 .rw[a]
 rw[c,(iC b d m).2.1]
theorem RmL.sz(h:RmL ws xs)(i:Nat)(h19:19<=i):(ar (wd xs i)).size=(ar (wd ws i)).size:=by rw[h.raw i h19]
theorem RmL.szAt(h:RmL ws xs)(i:Nat)(h19:19<=i):szAt xs i=szAt ws i:=by have a:=h.sz i h19;have e:∀w,(ar w).size=((w/65536%65536:Nat):Int):=λ_=>rfl;rw[e,e] at a;unfold Proofs.YtpcajamacpbjcaaGreat.szAt;exact Int.ofNat.inj a
theorem RmL.stands(h:RmL ws xs)(i:Nat)(h19:19<=i):stands xs i=stands ws i:=by unfold Proofs.YtpcajamacpbjcaaGreat.stands;rw[h.sp i h19,h.sz i h19,h.len]
theorem RmL.bkAt(h:RmL ws xs)(h19:19<=i)(hi:i%2=0):bkAt xs i=mkB xs (bkAt ws i):=by
 unfold mkB;have a:(Proofs.YtpcajamacpbjcaaGreat.bkAt ws i).at_.toNat=i:=by rw[ab,kqi]
 rw[a];unfold Proofs.YtpcajamacpbjcaaGreat.bkAt;rw[h.raw i h19,h.odd (i:=i+1) (by omega) (by omega)]
theorem RmL.blocks(h:RmL ws xs):∀i l,blocks ws i=some l->i%2=0->19<=i->blocks xs i=some (l.map (mkB xs)):=by
 refine dJ (λi l=>i%2=0->19<=i->Proofs.YtpcajamacpbjcaaGreat.blocks xs i=some (l.map (mkB xs))) (λi b _ _=>?_) (λi l b d hb c e a=>?_)
 .exact aE (by rw[h.len];exact b)
 have hsz:=aG d;have c:=c (by omega) (by omega);rw[aP (by rw[h.len];exact b) (by rw[h.stands i a];exact d),h.szAt i a,c,h.bkAt a e];rfl
theorem B5(h:RmL ws xs)(hb:b.kind=1->tyA b+1<128):du xs (mkB xs b)=du ws b:=by
 by_cases a:b.kind=1
 .have h2:=hb a;unfold du cK;show (b.kind != 1||(cw (wd xs (tyA b)) (wd xs (tyA b+1))&&b.size==((bZ (wd xs (tyA b)%256):Nat):Int)))=_;rw[h.low (by unfold tyA;omega) (by omega),h.low (by unfold tyA;omega) (by omega)]
 rw[eD a,eD (b:=mkB xs b) a]
theorem RmL.heap(h:RmL ws xs)(h0:ah ws=0):ah xs=0/\af xs=(af ws).map (mkB xs):=by obtain⟨e,l,c,d,g⟩:=ay h0;have f:=h.blocks 128 l c (by omega) (by omega);rw[g];refine fM (by rw[h.len];exact e) f ?_;rw[List.all_map,kzo];rw[kzo] at d;intro b a;show du xs (mkB xs b)=true;rw[B5 h (jy c (by omega) b a)];exact d b a
theorem RmL.tb(h:RmL ws xs)(h0:ah ws=0)(a:Nat):tb xs a=tb ws a:=by unfold Proofs.YtpcajamacpbjcaaGreat.tb;rw[(h.heap h0).2,h.len,xy]
theorem RmL.slAt(h:RmL ws xs)(hi:i<16):slAt xs i=slAt ws i:=by unfold Proofs.YtpcajamacpbjcaaGreat.slAt;rw[h.low (by omega) (by omega)]
theorem RmL.slsOk(h:RmL ws xs):slsOk xs=slsOk ws:=by
 rw[kzq,cO,cO];unfold pT;constructor
 .intro b i a;rw[<-h.slAt a];exact b i a
 intro b i a;rw[h.slAt a];exact b i a
theorem RmL.flds(h:RmL ws xs)(h0:ah ws=0)(ha:Proofs.YtpcajamacpbjcaaGreat.tb ws a≠0):flds xs a=flds ws a:=by obtain⟨b,-⟩:=ik h0 ha;have:=mS b;have h19:=b.1;unfold Proofs.YtpcajamacpbjcaaGreat.flds;rw[h.raw a (by omega)];dsimp only;rw[h.low (by omega) (by omega),h.low (by omega) (by omega)]
theorem RmL.ref(h:RmL ws xs)(hg:oa ws)(h0:ah ws=0)(ha:Rch ws a)(ht:Proofs.YtpcajamacpbjcaaGreat.tb ws a≠0)(hf:(Proofs.YtpcajamacpbjcaaGreat.flds ws a)[i]? = some 3):wd xs (a+2+i)=wd ws (a+2+i):=by
 have h19:=(ik h0 ht).1.1;rcases h.at_ (a+2+i) (by omega) with c|⟨-,-,d,-⟩
 .exact c
 exfalso;have hb:=nd d;have b:=hg _ (Rch.ref a i ha ht hf (by omega));rw[kk6 (by omega)] at b;have:=rg b;have:=(gJ ws (ay h0).1).2.1;omega
theorem RmL.rch(h:RmL ws xs)(hg:oa ws)(h0:ah ws=0)(a:Nat):Rch xs a↔Rch ws a:=by
 constructor
 .intro b
  induction b with
  | slot i hi hu=>rw[h.slAt hi] at hu |-;exact Rch.slot i hi hu
  | ref a i b ht hf hv ih =>rw[h.tb h0] at ht;rw[h.flds h0 ht] at hf;rw[h.ref hg h0 ih ht hf] at hv |-;exact Rch.ref a i ih ht hf hv
 intro b
 induction b with
 | slot i hi hu=>rw[<-h.slAt hi] at hu |-;exact Rch.slot i hi hu
 | ref a i b ht hf hv ih =>rw[<-h.ref hg h0 b ht hf] at hv |-;exact Rch.ref a i ih (by rw[h.tb h0];exact ht) (by rw[h.flds h0 ht];exact hf) hv
theorem RmL.same(h:RmL ws xs)(h0:aA ws=0):aA xs=0/\dU xs=dU ws/\seenL xs=seenL ws/\ah xs=0/\af xs=(af ws).map (mkB xs):=by
 obtain⟨b,j,f⟩:=aC h0;have g:=h.rch f b;have c:=h.heap b;have k:oa xs:=λa i=>by rw[h.tb b];exact f a ((g a).1 i)
 have d:aA xs=0:=xH c.1 (by rw[h.slsOk];exact j) k;have e:seenL xs=seenL ws:=by unfold seenL;rw[h.len];refine kzy λa _=>?_;exact decide_eq_decide.2 (g a)
 refine⟨d,?_,e,c⟩;rw[dV d,dV h0,e,h.len]
end
theorem ly :∀ {l:List En} {x z:List Nat},z.length=x.length->wd z i=wd x i->wd (aj z l) i=wd (aj x l) i:=by
 intro l
 induction l with
 | nil=>intro x z _ h;exact h
 | cons e l ih =>
  intro x z b h;simp only[aj];rw[b];split
  .refine ih (by rw[kq4,kq4,b]) ?_;rename_i hr;by_cases c:i=e.a.toNat
   .subst c;unfold wd;rw[kz5 (by omega),kz5 (by omega)]
   unfold wd;rw[kx3 (by omega),kx3 (by omega)];exact h
  exact ih b h
theorem tu(h:aA x=0)(p:Nat):RmL x (aj x (⟨16,p⟩::aL x)):=by
 have a:=xY h;refine⟨av _ _,λi h19=>?_⟩;have e:wd (aj x (⟨16,p⟩::aL x)) i=wd (aj x (aL x)) i:=by
  simp only[aj];split
  .refine ly (by rw[kq4]) ?_;unfold wd;rw[kx3 (by simp;omega)]
  rfl
 rw[e];exact a.at_ i
theorem Hp{l:List En}(p:Nat)(h19:19<=i):wd (aj x (⟨16,p⟩::l)) i=wd (aj x l) i:=by
 simp only[aj];split
 .refine ly (by rw[kq4]) ?_;unfold wd;rw[kx3 (by simp;omega)]
 rfl
theorem Ha(h:aA x=0)(p:Nat):aA (aj x (⟨16,p⟩::aL x))=0/\dU (aj x (⟨16,p⟩::aL x))=dU x/\ah (aj x (⟨16,p⟩::aL x))=0/\eG (af (aj x (⟨16,p⟩::aL x)))=dU x:=by obtain⟨g,d,g3,f,e⟩:=(tu h p).same h;refine⟨g,d,f,?_⟩;rw[e,<-Cs h];congr 1;refine kzy λb c=>?_;obtain⟨a,rfl,a1,-⟩:=(b8 (aC h).1).1 b c;unfold mkB qm;rw[ab,kqi,Hp p (by omega)]
def refsN (ws:List Nat) (a k:Nat):List Int:=((List.range k).filter λi=>(flds ws a)[i]? == some 3).map λi=>((a+2+i:Nat):Int)
def Ho (ws:List Nat) (a:Nat):List Int:=refsN ws a (flds ws a).length
theorem qj{x:Int}:x∈Ho ws a↔∃i:Nat,x=((a+2+i:Nat):Int)/\(flds ws a)[i]? = some 3:=by
 unfold Ho refsN;rw[kzz];constructor
 .rintro ⟨i,b,rfl⟩;rw[kzm] at b;exact⟨i,rfl,by simpa using b.2⟩
 rintro ⟨i,rfl,b⟩;refine⟨i,kzm.2 ⟨kzn.2 (kq7.1 b).1,by simpa using b⟩,rfl⟩
theorem FW(h:aA ws=0)(ha:Rch ws a){r:Int}(b:r∈Ho ws a):(∃j:Nat,r=(j:Int)/\j<ws.length)/\wd ws r.toNat<ws.length/\(wd ws r.toNat≠0->Rch ws (wd ws r.toNat)):=by
 obtain⟨k,h2,c⟩:=aC h;obtain⟨i,rfl,l⟩:=qj.1 b;have hb:=gJ ws (ay k).1;obtain⟨m,-⟩:=ik k (c a ha);have d:=r8 m (kq7.1 l).1;refine⟨⟨_,rfl,d⟩,?_⟩;rw[kqi];by_cases g:wd ws (a+2+i)=0
 .exact ⟨by omega,λh=>absurd g h⟩
 have b:=Rch.ref a i ha (c a ha) l g;have f:=rg (c _ b);have e:min (wd ws (a+2+i)) 2048=wd ws (a+2+i):=by omega
 rw[e] at b f;exact⟨f,λ_=>b⟩
theorem obj_from(h:aA ws=0)(ha:Rch ws a):bJ ws (a:Int)=0/\(∃q:0<(aJ ws (a:Int)).length,(aJ ws (a:Int))[0]=bkAt ws a)/\(bkAt ws a).kind=1/\(∃t:Nat,(bkAt ws a).typ=(t:Int)/\t<8/\cw (wd ws (96+2*t)) (wd ws (96+2*t+1))=true/\flds ws a=bB (wd ws (96+2*t)) (wd ws (96+2*t+1)))/\a+2+(flds ws a).length<=ws.length:=by
 obtain⟨m,q,r⟩:=aC h;obtain⟨n,-⟩:=ik m (r a ha);have g:=mS n;obtain⟨o1,o2,o3,v,o,u,k,hk,e,i⟩:=n;have f:=(ay m).1;obtain⟨p,s⟩:=cy (ws:=ws) (a:=(a:Int)) f (by
  simp only[eY,kzl,kqh,kqq];omega) (l:=(af ws).drop k) (by rw[kqi];exact i)
 have c:=js (ws:=ws) (b:=bkAt ws a) o;rw[u] at c;have c:=c.symm;simp only[kqo,kqw] at c;have hst:=aG v;have d:(((ar (wd ws a)).typ.toNat:Nat):Int)=(ar (wd ws a)).typ:=by show ((((wd ws a/512%128:Nat):Int).toNat:Nat):Int)=_;rw[kqi];rfl
 refine⟨p,?_,o,⟨(ar (wd ws a)).typ.toNat,d.symm,g,c.1,rfl⟩,?_⟩
 .rw[s];refine⟨by rw[kzj];omega,?_⟩;rw[kjx];exact e
 have j:=c.2;rw[bC] at j;have h8:(flds ws a).length=(bB (wd ws (tyA (bkAt ws a))) (wd ws (tyA (bkAt ws a)+1))).length:=rfl;unfold bZ at j;omega
theorem AX{m:List (Int × Int)}:∀k,(∀i,i<k->∃o,gy ws m i=some o)->∃o,slFix ws m k=some o/\((∀i,i<k->gy ws m i=some [])->o=[]):=by
 intro k
 induction k with
 | zero=>intro _;exact⟨[],rfl,λ_=>rfl⟩
 | succ k ih =>intro h;obtain⟨o,e,d⟩:=ih (λi f=>h i (by omega));obtain⟨x,c⟩:=h k (by omega);refine⟨o++x,by simp only[slFix,e,c,kzt],λb=>?_⟩;have a:=b k (by omega);rw[c] at a;injection a with a;rw[a,d (λi f=>b i (by omega)),kzr]
theorem Bn{m:List (Int × Int)}:∀R:List Int,(∀r∈R,∃o,fI ws m r.toNat=some o)->∃o,cX ws m R=some o/\((∀r∈R,fI ws m r.toNat=some [])->o=[]):=by
 intro R
 induction R with
 | nil=>intro _;exact⟨[],rfl,λ_=>rfl⟩
 | cons r R ih =>intro h;obtain⟨o,f,e⟩:=ih (λi b=>h i (by simp[b]));obtain⟨x,d⟩:=h r (by simp);refine⟨x++o,by simp only[cX,f,d,kzt],λc=>?_⟩;have a:=c r (by simp);rw[d] at a;injection a with a;rw[a,e (λi b=>c i (by simp[b])),kzr]
theorem yq:∀ {l:List Bk} {s:Int} {b:Bk},b∈l->aV b=true->∃t,gM (az l s) b.at_=some t:=by
 intro l
 induction l with
 | nil=>intro s b h;simp at h
 | cons x l ih =>
  intro s b h c;simp only[az];by_cases a:aV x=true
  .rw[if_pos a];simp only[gM];by_cases e:x.at_=b.at_
   .exact ⟨s,by rw[if_pos e]⟩
   rw[if_neg e];rcases kqt.1 h with rfl|h
   .exact absurd rfl e
   exact ih h c
  rw[if_neg a];rcases kqt.1 h with rfl|h
  .exact absurd c a
  exact ih h c
theorem zv:∀ {l:List Bk} {s:Int} {m:Int × Int},m∈az l s->∃b∈l,aV b=true/\b.at_=m.1:=by
 intro l
 induction l with
 | nil=>intro s m h;simp[az] at h
 | cons x l ih =>
  intro s m h;simp only[az] at h;split at h
  .rename_i hx;rcases kqt.1 h with rfl|h
   .exact ⟨x,by simp,hx,rfl⟩
   obtain⟨b,c,a⟩:=ih h;exact⟨b,by simp[c],a⟩
  obtain⟨b,c,a⟩:=ih h;exact⟨b,by simp[c],a⟩
theorem AP:∀ {l:List Bk} {s:Int} {e:En},e∈aN l s->∃b∈l,b.kind=1/\e.a=b.at_+1:=by
 intro l
 induction l with
 | nil=>intro s e h;simp[aN] at h
 | cons x l ih =>
  intro s e h;simp only[aN,kzu] at h;rcases h with h|h
  .split at h
   .rename_i hx;rw[kqx] at h;subst h;exact⟨x,by simp,hx.1,rfl⟩
   simp at h
  obtain⟨b,d,c⟩:=ih h;exact⟨b,by simp[d],c⟩
theorem GZ:∀ {l:List Bk} {s:Int} {b:Bk},b∈fwB l s->∃a∈l,b.at_=a.at_/\b.kind=a.kind/\b.mark=a.mark/\b.typ=a.typ:=by
 intro l
 induction l with
 | nil=>intro s b h;simp[fwB] at h
 | cons x l ih =>
  intro s b h;simp only[fwB] at h;rcases kqt.1 h with rfl|h
  .refine ⟨x,by simp,?_⟩;split<;>exact⟨rfl,rfl,rfl,rfl⟩
  obtain⟨a,d,c⟩:=ih h;exact⟨a,by simp[d],c⟩
theorem E7:∀ {l:List Bk} {s:Int} {b:Bk},b∈l->∃a∈fwB l s,a.at_=b.at_/\a.kind=b.kind:=by
 intro l
 induction l with
 | nil=>intro s b h;simp at h
 | cons x l ih =>
  intro s b h;simp only[fwB];rcases kqt.1 h with rfl|h
  .refine ⟨_,List.mem_cons_self ..,?_⟩;split<;>exact⟨rfl,rfl⟩
  obtain⟨a,d,c⟩:=ih (s:=eU x s) h;exact⟨a,kx2 _ d,c⟩
theorem mA{a:Int}(h:b∈l)(h1:b.at_=a)(h2:b.kind=1):∃b2,jS l a=some b2:=by
 cases c:jS l a with
 | some b2=>exact⟨b2,rfl⟩
 | none =>unfold jS at c;rw[List.find?_eq_none] at c;exact absurd (by simp[h1,h2]) (c b h)
theorem px(h:l.Pairwise (λa b=>a.at_<b.at_)){a:Bk}(ha:a∈l)(hb:b∈l)(e:a.at_=b.at_):a=b:=by
 obtain⟨i,d,rfl⟩:=kq2 ha;obtain⟨j,f,rfl⟩:=kq2 hb;rw[kze] at h;rcases kjz i j with c|c|c
 .have:=h i j d f c;omega
 .subst c;rfl
 have:=h j i f d c;omega
theorem B8{w:Nat}(h:w<18446744073709551616):nH (fk w)=w:=by
 unfold nH fk;dsimp only;rw[kqi,kqi];by_cases a:w/9223372036854775808=1
 .rw[show (w/9223372036854775808==1)=true by rw[kqw];exact a,if_pos rfl];omega
 rw[show (w/9223372036854775808==1)=false by rw[kqj];exact a,if_neg (by decide)];omega
theorem rf(h:ah ws=0)(ho:fT ws a)(hi:i<(flds ws a).length)(hb:b∈af ws):b.at_+1≠((a+2+i:Nat):Int):=by
 obtain⟨o1,o2,t,u,v,s,k,n,e,c⟩:=ho;have d:=js (ws:=ws) (b:=bkAt ws a) v;rw[s] at d;have d:=d.symm;simp only[kqo,kqw] at d;have g:=d.2;rw[bC] at g;have h8:(flds ws a).length=(bB (wd ws (tyA (bkAt ws a))) (wd ws (tyA (bkAt ws a)+1))).length:=rfl;unfold bZ at g;obtain⟨j,q,rfl⟩:=kq2 hb;rcases kq6 k j with r|r
 .rw[aP t u] at c;cases f:blocks ws (a+szAt ws a) with
  | none=>rw[f] at c;cases c
  | some l' =>
   rw[f] at c;simp only[kzt,Option.some.injEq] at c;have p:l'=(af ws).drop (k+1):=by
    have:=congrArg (List.drop 1) c;rw[kxg] at this
    simpa using this
   have o:(af ws)[j]∈l':=by rw[p];refine kk8.2 ⟨j-(k+1),by rw[kzj];omega,?_⟩;rw[kjx];congr 1;omega
   have:=(lO _ _ f).1 _ o;omega
 have m:=(b8 h).2;rw[kze] at m;have ha:(af ws)[k].at_=(a:Int):=by rw[e,ab]
 rcases kq6 j k with l|l
 .have:=m j k q n l;omega
 have:j=k:=by omega
 subst this;omega
theorem r9(h:aA ws=0)(ho:∀x∈ws,x<18446744073709551616):∃(g d:List Nat) (M:List (Int × Int)),g=aj ws (aL ws)/\d=aj g (aD g)/\ah g=0/\aW d 128 128=0/\ia d 128 128=M/\ei d=0/\(∀m∈M,dp d m.1=0) /\
 ((∀m∈M,m.1=m.2)->dK d=[]/\∀m∈M,cr d m.1=[]):=by
 obtain⟨Q,h2,T⟩:=aC h;have z:=xY h;obtain⟨g1,g2,g3,g4,g5⟩:=z.same h;obtain⟨g,G⟩:∃g,g=aj ws (aL ws):=⟨_,rfl⟩;rw[<-G] at z g1 g2 g3 g4 g5;obtain⟨l,k1,k2,k3,k4,k5,k6,k7,-,-⟩:=ow g4;have Jj:aD g=aN l 128:=by unfold aD;rw[if_pos g4,k2]
 obtain⟨d,w⟩:∃d,d=aj g (aN l 128):=⟨_,rfl⟩;rw[<-w] at k4 k5 k6 k7;have D:l=(af ws).map (mkB g):=by rw[<-k2,g5]
 have Ja:l.Pairwise (λa b=>a.at_<b.at_):=by rw[D];exact An (b8 Q).2
 have hbd:=gJ ws (ay Q).1;have J:g.length=ws.length:=z.len;have hlen2:d.length=ws.length:=by rw[w,av,J]
 have j:∀p,p<128->wd d p=wd ws p:=by intro p hp;rw[w,aQ _ _ _ (λe B=>?_),z.low hp];have:=pK _ _ k1 128 e B;omega
 have Jl:∀ {a i:Nat},Rch ws a->(flds ws a)[i]? = some 3->wd d (a+2+i)=wd ws (a+2+i):=by intro a i k f;obtain⟨n,-⟩:=ik Q (T a k);rw[w,aQ _ _ _ (λe B=>?_),z.ref T Q k (T a k) f];obtain⟨b,H,-,e2⟩:=AP B;rw[e2];rw[D] at H;obtain⟨b0,v,rfl⟩:=kzz.1 H;have Jr:=rf Q n (kq7.1 f).1 (b:=b0) v;exact Jr
 have O:∀ {a:Nat},Rch ws a->∃t,gM (az l 128) (a:Int)=some t:=by
  intro a k;obtain⟨b,H,e,hk,-⟩:=pw h k;have S:mkB g b∈l:=by rw[D];exact kj4 H
  have K:(mkB g b).mark=true:=by rw[G,kE h H,e];have Z:=rg (T a k);exact (fe Z).2 k
  obtain⟨t,ht⟩:=yq (s:=128) S (by unfold aV;rw[K,show (mkB g b).kind=1 from hk];rfl);refine⟨t,?_⟩;rw[show (mkB g b).at_=(a:Int) by show b.at_=_;rw[e,ab]] at ht;exact ht
 have I:∀ {a:Nat},Rch ws a->∃t,gn (az l 128) a=some t/\gM (az l 128) (a:Int)=some t:=by intro a k;obtain⟨t,ht⟩:=O k;have Z:=rg (T a k);exact⟨t,by unfold gn;rw[if_neg (by omega)];exact ht,ht⟩
 have L:cg d=0:=by unfold cg;rw[if_pos k6,k4]
 have U:eT d=az l 128:=by rw[(dQ L).2.2,k5]
 have Jd:∀i,i<16->slAt d i=slAt ws i:=λi f=>by unfold slAt;rw[j _ (by omega)]
 have Jm:slsOk d=true:=by rw[cO];intro i f;rw[Jd i f];exact (cO ws).1 h2 i f
 have X:∀i,i<16->∃o,gy d (az l 128) i=some o/\((∀m∈az l 128,m.1=m.2)->o=[]):=by
  intro i f;unfold gy;by_cases hu:(slAt d i).used=true
  .rw[if_pos hu];have C:=hu;rw[Jd i f] at C |-;obtain⟨t,t1,t2⟩:=I (Rch.slot i f C);rw[t1];dsimp only;have F:(((slAt ws i).at_.toNat:Nat):Int)=(slAt ws i).at_:=kkg (lg (wd ws (112+i))).2.2.1;by_cases B:wd d (112+i)=nH ⟨(slAt ws i).gen,true,t⟩
   .rw[if_pos B];exact⟨[],rfl,λ_=>rfl⟩
   rw[if_neg B];refine⟨_,rfl,λc=>absurd ?_ B⟩;have Y:=c _ (pN t2);dsimp only at Y;have W:nH (slAt ws i)=wd ws (112+i):=B8 (gu ho _);rw[j _ (by omega),<-W];congr 1;rw[<-Y,F];obtain⟨y,hy⟩:=xq (slAt ws i);rw[hy] at C |-;obtain⟨yg,yu,ya⟩:=y;dsimp only at C |-;rw[C]
  rw[if_neg hu];exact⟨[],rfl,λ_=>rfl⟩
 obtain⟨o,Jk,Ji⟩:=AX (ws:=d) (m:=az l 128) 16 (λi f=>by obtain⟨o,N,-⟩:=X i f;exact⟨o,N⟩);have Je:=Hi L Jm (o:=o) (by rw[U];exact Jk);have n:∀m∈az l 128,dp d m.1=0/\((∀m∈az l 128,m.1=m.2)->cr d m.1=[]):=by
  intro m K;obtain⟨b,H,A,F⟩:=zv K;unfold aV at A;simp only[kqo,kqw] at A;have Jo:aJ d 128=fwB l 128:=by rw[(ga k6).2.1,k7]
  obtain⟨b2,S,e1,e2⟩:=E7 (s:=128) H;obtain⟨P,Jb⟩:=mA (a:=m.1) S (by rw[e1,F]) (by rw[e2,A.1]);obtain⟨f1,f2,f3⟩:=jk Jb;obtain⟨b0,v,r1,r2,r3,r4⟩:=GZ f1;have u:b0=b:=px Ja v H (by rw[<-r1,f2,F]);subst u;rw[D] at v;obtain⟨bw,Jf,u⟩:=kzz.1 v;obtain⟨a,k,-,-,Jq,-⟩:=(b8 Q).1 bw Jf;have R:Rch ws a:=by have:=kE h Jf;rw[<-G,u,A.2,k] at this;exact (fe Jq).1 this.symm
  have Jc:P.at_=(a:Int):=by rw[r1,<-u,k];exact ab ws a
  have Js:P.typ=(ar (wd ws a)).typ:=by rw[r4,<-u,k];rfl
  obtain⟨n,-⟩:=ik Q (T a R);have hty8:=mS n;have Jp:t4 d P=flds ws a:=by unfold t4 flds tyA;rw[Js,j _ (by omega),j _ (by omega)]
  have V:∀r∈fv d P,∃o,fI d (az l 128) r.toNat=some o/\((∀m∈az l 128,m.1=m.2)->o=[]):=by
   intro r E;unfold fv at E;obtain⟨i,-,f,rfl⟩:=kt.1 E;rw[Jp] at f;have hn:(P.at_+2+(i:Int)).toNat=a+2+i:=by rw[Jc];omega
   rw[hn];unfold fI;rw[Jl R f];by_cases hv:wd ws (a+2+i)=0
   .rw[if_pos hv];exact⟨[],rfl,λ_=>rfl⟩
   rw[if_neg hv];have E:=(FW h R (r:=((a+2+i:Nat):Int)) (qj.2 ⟨i,rfl,f⟩)).2.2;rw[kqi] at E;obtain⟨t,t1,t2⟩:=I (E hv);rw[t1];dsimp only;by_cases B:((wd ws (a+2+i):Nat):Int)=t
   .rw[if_pos B];exact⟨[],rfl,λ_=>rfl⟩
   rw[if_neg B];refine⟨_,rfl,λc=>absurd ?_ B⟩;exact c _ (pN t2)
  obtain⟨q,Jg,Jh⟩:=Bn (ws:=d) (m:=az l 128) (fv d P) (λr E=>by obtain⟨o,N,-⟩:=V r E;exact⟨o,N⟩);have Eq:=AK L (a:=m.1) (b:=P) (by rw[Jo];exact Jb) (by rw[r3];exact A.2) (o:=q) (by rw[U];exact Jg);refine⟨Eq.1,λc=>?_⟩;rw[Eq.2];refine Jh λr E=>?_;obtain⟨o,N,W⟩:=V r E;rw[N,W c]
 refine⟨g,d,az l 128,G,by rw[Jj];exact w,g4,k4,k5,Je.1,λm K=>(n m K).1,λc=>⟨?_,λm K=>(n m K).2 c⟩⟩;rw[Je.2];refine Ji λi f=>?_;obtain⟨o',N,W⟩:=X i f;rw[N,W c]
structure NxL (ws xs:List Nat):Prop where
 len:xs.length=ws.length
 at_:∀i:Nat,19<=i->wd xs i=wd ws i\/∃b∈af ws,(i:Int)=b.at_+1
theorem GF{xs:List Nat}(n:Nat)(l:List Bk):py n (l.map (nxB xs))=py n l:=by unfold py;rw[List.foldl_map];rfl
section
variable {ws xs:List Nat}
theorem NxL.low(h:NxL ws xs)(h0:ah ws=0)(h19:19<=i)(hi:i<128):wd xs i=wd ws i:=by
 rcases h.at_ i h19 with c|⟨b,d,c⟩
 .exact c
 obtain⟨a,rfl,a1,-⟩:=(b8 h0).1 b d;rw[ab] at c;omega
theorem NxL.even(h:NxL ws xs)(h0:ah ws=0)(h19:19<=i)(hi:i%2=0):wd xs i=wd ws i:=by
 rcases h.at_ i h19 with c|⟨b,d,c⟩
 .exact c
 obtain⟨a,rfl,-,a1,-⟩:=(b8 h0).1 b d;rw[ab] at c;omega
theorem NxL.ev(h:NxL ws xs)(h0:ah ws=0):Ev ws xs:=by
 refine⟨h.len,λi c=>?_⟩;rcases c with⟨a,b⟩|⟨a,b⟩
 .exact h.even h0 (by omega) a
 exact h.low h0 (by omega) b
theorem NxL.tb(h:NxL ws xs)(h0:ah ws=0)(a:Nat):tb xs a=tb ws a:=by unfold Proofs.YtpcajamacpbjcaaGreat.tb;rw[((h.ev h0).heap h0).2,h.len,GF]
theorem NxL.slAt(h:NxL ws xs)(h0:ah ws=0)(hi:i<16):slAt xs i=slAt ws i:=by unfold Proofs.YtpcajamacpbjcaaGreat.slAt;rw[h.low h0 (by omega) (by omega)]
theorem NxL.slsOk(h:NxL ws xs)(h0:ah ws=0):slsOk xs=slsOk ws:=by
 rw[kzq,cO,cO];unfold pT;constructor
 .intro b i a;rw[<-h.slAt h0 a];exact b i a
 intro b i a;rw[h.slAt h0 a];exact b i a
theorem NxL.flds(h:NxL ws xs)(h0:ah ws=0)(ha:Proofs.YtpcajamacpbjcaaGreat.tb ws a≠0):flds xs a=flds ws a:=by obtain⟨b,-⟩:=ik h0 ha;have:=mS b;have h19:=b.1;have c:=b.2.1;unfold Proofs.YtpcajamacpbjcaaGreat.flds;rw[h.even h0 (by omega) c,h.low h0 (by omega) (by omega),h.low h0 (by omega) (by omega)]
theorem NxL.ref(h:NxL ws xs)(h0:ah ws=0)(ht:Proofs.YtpcajamacpbjcaaGreat.tb ws a≠0)(hf:(Proofs.YtpcajamacpbjcaaGreat.flds ws a)[i]? = some 3):wd xs (a+2+i)=wd ws (a+2+i):=by
 have c:=(ik h0 ht).1;have h19:=c.1;rcases h.at_ (a+2+i) (by omega) with d|⟨b,e,d⟩
 .exact d
 exact absurd d.symm (rf h0 c (kq7.1 hf).1 e)
theorem NxL.rch(h:NxL ws xs)(h0:ah ws=0)(a:Nat):Rch xs a↔Rch ws a:=by
 constructor
 .intro b
  induction b with
  | slot i hi hu=>rw[h.slAt h0 hi] at hu |-;exact Rch.slot i hi hu
  | ref a i b ht hf hv ih =>rw[h.tb h0] at ht;rw[h.flds h0 ht] at hf;rw[h.ref h0 ht hf] at hv |-;exact Rch.ref a i ih ht hf hv
 intro b
 induction b with
 | slot i hi hu=>rw[<-h.slAt h0 hi] at hu |-;exact Rch.slot i hi hu
 | ref a i b ht hf hv ih =>rw[<-h.ref h0 ht hf] at hv |-;exact Rch.ref a i ih (by rw[h.tb h0];exact ht) (by rw[h.flds h0 ht];exact hf) hv
theorem NxL.same(h:NxL ws xs)(h0:ah ws=0):ah xs=0/\aA xs=aA ws/\dU xs=dU ws:=by
 have f:=h.rch h0;have g:=(h.ev h0).heap h0;have i:oa xs↔oa ws:=by
  constructor
  .intro e a c;rw[<-h.tb h0];exact e a ((f a).2 c)
  intro e a c;rw[h.tb h0];exact e a ((f a).1 c)
 have d:aA xs=aA ws:=by unfold aA;rw[if_pos g.1,if_pos h0,h.slsOk h0,propext i]
 refine⟨g.1,d,?_⟩;have j:seenL xs=seenL ws:=by unfold seenL;rw[h.len];refine kzy λa _=>?_;exact decide_eq_decide.2 (f a)
 by_cases b:aA ws=0
 .rw[dV (by rw[d];exact b),dV b,j,h.len]
 rw[ua (by rw[d];exact b),ua b]
end
theorem pO{E:List En}(hE:∀e∈E,e.a<19\/∃b∈af x,e.a=b.at_+1):NxL x (aj x E):=by
 refine⟨av _ _,λi h19=>?_⟩;by_cases c:∃b∈af x,(i:Int)=b.at_+1
 .exact .inr c
 refine .inl (aQ _ _ _ λe g f=>?_);rcases hE e g with d|⟨b,h,d⟩
 .omega
 exact c ⟨b,h,by rw[<-d,f]⟩
theorem uD(p2:wd x 16=2)(h:(ag x).1=0):ah (aj x (ag x).2)=0/\aA (aj x (ag x).2)=aA x/\dU (aj x (ag x).2)=dU x:=by
 obtain⟨d,e⟩:=yH p2 h;rw[e];dsimp only;have g:∀e∈aD x,∃b∈af x,e.a=b.at_+1:=by intro e c;rw[rt d] at c;obtain⟨b,i,-,j⟩:=fU c;exact⟨b,i,j⟩
 refine (pO λe c=>?_).same d;by_cases f:32<=(aD x).length
 .rw[cm f] at c;exact .inr (g e (kx0 c))
 rw[iE f] at c;rcases kqt.1 c with rfl|c
 .exact .inl (by dsimp only;omega)
 exact .inr (g e c)
end Go.Proofs.YtpcajamacpbjcaaGreat
