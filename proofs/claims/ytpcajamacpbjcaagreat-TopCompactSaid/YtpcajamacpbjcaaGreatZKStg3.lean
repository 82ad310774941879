/- Texts laid together: StgR Frsh Al25P StgN StgM StgT MkJP FxTP StgV. -/
import Derived.Test.YtpcajamacpbjcaaGreatZKStg2
import Derived.Test.YtpcajamacpbjcaaGreatZKMove
import Derived.Test.YtpcajamacpbjcaaGreatZKImage
import Derived.Test.YtpcajamacpbjcaaGreatZKStg1
import Derived.Test.YtpcajamacpbjcaaGreatZKFix
set_option maxHeartbeats 16000000
set_option maxRecDepth 100000
set_option linter.all false
namespace Go.Proofs.YtpcajamacpbjcaaGreat
open Lib (hid)
open Go.RowKit
variable {b:Bk}{l:List Bk}{ws x:List Nat}{a i:Nat}
open Go.Proofs.Tryz
def stX (x:List Nat) (outs:List (List En)) (n:Nat):List Nat:=(outs.take n).foldl ai x
theorem wR(x:List Nat)(outs:List (List En)):stX x outs 0=x:=rfl
theorem E7(x:List Nat)(E:List En)(outs:List (List En))(n:Nat):stX x (E::outs) (n+1)=stX (ai x E) outs n:=rfl
theorem Eb(A B:Option Addr)(a b:List Ch)(c d n m:Nat)(w:World)(hn:a.length=n)(hm:b.length=m)(h:a.map Ch.l=b.map Ch.l)(hl:n<=100000)(ha:RdC w w.heap.size A a)(hb:RdC w w.heap.size B b)(hae:∀x∈a,RdE w w.heap.size x.A x.l/\x.l.length<=100000)(hbe:∀x∈b,RdE w w.heap.size x.A x.l):
 Calls prog 58 #[.slice A n c,.slice B m d] w λe w'=>e=.returned (.bool true)/\Below w.heap.size w w':=by
 have K:m=n:=by have:=congrArg List.length h;simp at this;omega
 subst hn K;have HA:=hid ha;have HB:=hid (show RdC w w.heap.size B b from hb);have G:Hid (b.length=a.length):=hid hm;have HE:Hid (∀k (z:k<a.length) (I:k<b.length),a[k].l=b[k].l/\RdE w w.heap.size a[k].A a[k].l/\RdE w w.heap.size b[k].A b[k].l/\a[k].l.length<=100000):=hid λk z I=>by
  refine⟨?_,(hae _ (kqn z)).1,hbe _ (kqn I),(hae _ (kqn z)).2⟩;have Z:=congrArg (λl=>l[k]?) h
  simpa [z,I] using Z
 clear ha hb hae hbe h hm;go_enter func58,ntmps58;go_wp2_with fail;go_loopw [5] (λi wr=>∃k:Nat,k<=a.length/\i=.int .i64 k/\Below w.heap.size w wr) (λi _=>a.length-(intOf i).toNat)
 case atStart=>exact⟨0,kqz _,rfl,kqk _ _⟩
 obtain⟨k,hk,rfl,t⟩:=hrel;have Y:=t.size;by_cases o:k<a.length
 .have j:k<b.length:=by rw[G.out];exact o
  obtain⟨E,P,rfl,hb1,s⟩:=RdC.at_ (Rd.below HA.out t) o;obtain⟨F,U,rfl,hb2,J⟩:=RdC.at_ (Rd.below HB.out t) j;obtain⟨V,q,D,C⟩:=HE.out k o j;rw[V] at q C s;obtain⟨x,M⟩:=xq (a[k]);obtain⟨y,T⟩:=xq (b[k]);rw[M] at s q;rw[T] at s J q D C;obtain⟨S,Q,xl⟩:=x;obtain⟨N,R,g⟩:=y;dsimp only at s J q D C;have O:=hid (λW (L:Below w.heap.size w W)=>qJ S N g g g.length g.length Q R w.heap.size W rfl rfl (by omega) (q.below L) (D.below L) L.size);rw[show decide (g=g)=true by simp] at O;have hki:(k:Int)<(a.length:Int):=by omega
  have hk0:(0:Int)<=(k:Int):=by omega
  have u:=hid t;have r:E<wr.heap.size:=by omega
  have v:F<wr.heap.size:=by omega
  clear M T V q D C;go_wp2_with fail
  go_region_held3 (λX:World=>X.cell? ⟨E,P+k,none⟩=some (.slice S g.length Q)/\X.cell? ⟨F,U+k,none⟩=some (.slice N g.length R)) (go_keep)
   (first | (go_at_call 31;refine (O.out _ (bp u.out _)).mono ?_;rintro e w5 ⟨rfl,f⟩;have m0:=(f.cell (p:=⟨E,P+k,none⟩) r).trans s;have m1:=(f.cell (p:=⟨F,U+k,none⟩) v).trans J))
  have H:=hid (u.out.trans (((kqk wr.heap.size wr).drew.trans f).mono Y));clear f m0 m1;go_wp2;go_roundw
  case rel=>exact⟨k+1,by omega,by go_num,H.out⟩
  case measure=>simp[intOf];omega
 obtain rfl:k=a.length:=by omega
 go_wp2;go_ret;exact⟨rfl,t⟩
theorem Ku{w:World}{H n c:Nat}{e:TypeId}{sz:Nat}{A:Option Addr}{xs:List Value}(h:w.ownsRow H e sz (.slice A n c) n xs):n<=c:=by obtain⟨A',c',b,a,-⟩:=kr h;cases b;exact a
def nK:List Nat:=sh 256 [] [] []
theorem qi:nK.length=256:=by decide +kernel
theorem hpOut_few(ws:List Nat):(ah ws).length<=ws.length:=by
 unfold ah;split
 .rename_i h;obtain⟨b,l,a,-⟩:=aA h;have hb:=(ab _).1 b;have:=(bK (by omega) _ _ a (by omega) (by omega) (by omega)).1;rw[a];simp only[kq5];omega
 simp
theorem Jk(p1:wd x 16=1)(h:(ag x).1=0):aC x=0/\ag x=(0,iZ (aW x) 2):=by
 have c:ax x=0:=by
  by_cases a:ax x=0
  .exact a
  unfold ag at h;rw[if_neg a] at h;exact absurd h a
 have b:aC x=0:=by
  by_cases a:aC x=0
  .exact a
  unfold ag at h;rw[if_pos c,if_pos p1,if_neg a] at h;exact absurd h a
 exact⟨b,by unfold ag;rw[if_pos c,if_pos p1,if_pos b]⟩
theorem zV(p2:wd x 16=2)(h:(ag x).1=0):aj x=0/\ag x=(0,iZ (aK x) 3):=by
 have c:ax x=0:=by
  by_cases a:ax x=0
  .exact a
  unfold ag at h;rw[if_neg a] at h;exact absurd h a
 have d:¬ wd x 16=1:=by omega
 have b:aj x=0:=by
  by_cases a:aj x=0
  .exact a
  unfold ag at h;rw[if_pos c,if_neg d,if_pos p2,if_neg a] at h;exact absurd h a
 exact⟨b,by unfold ag;rw[if_pos c,if_neg d,if_pos p2,if_pos b]⟩
theorem Id(p1:wd x 16=1)(h:(ag x).1=0)(h32:32<=(aW x).length):aC (ai x (ag x).2)=0/\dm (ai x (ag x).2)=dm x:=by obtain⟨a,e⟩:=Jk p1 h;rw[e];dsimp only;rw[cN h32];obtain⟨c,b,-⟩:=(jq a (kjz 31 _)).same a;exact⟨c,b⟩
structure RmL (ws xs:List Nat):Prop where
 len:xs.length=ws.length
 at_:∀i,19<=i->wd xs i=wd ws i\/(128<=i/\i%2=0/\aG (wd ws i)=true/\(ap (wd ws i)).kind=1/\∃m,wd xs i=gN (wd ws i) m)
section
variable {ws xs:List Nat}
theorem RmL.low(h:RmL ws xs)(h19:19<=i)(hi:i<128):wd xs i=wd ws i:=by
 rcases h.at_ i h19 with a|a
 .exact a
 omega
theorem RmL.odd(h:RmL ws xs)(h19:19<=i)(hi:i%2=1):wd xs i=wd ws i:=by
 rcases h.at_ i h19 with a|a
 .exact a
 omega
theorem RmL.sp(h:RmL ws xs)(i:Nat)(h19:19<=i):aG (wd xs i)=aG (wd ws i):=by
 rcases h.at_ i h19 with d|⟨-,-,a,c,m,b⟩
 .rw[d]
 rw[b,a,(jn a c m).1]
theorem RmL.raw(h:RmL ws xs)(i:Nat)(h19:19<=i):ap (wd xs i)={ ap (wd ws i) with mark:=tG xs i }:=by
 unfold tG;rcases h.at_ i h19 with d|⟨-,-,a,c,m,b⟩
 .rw[d]
 rw[b,(jn a c m).2.1]
theorem RmL.sz(h:RmL ws xs)(i:Nat)(h19:19<=i):(ap (wd xs i)).size=(ap (wd ws i)).size:=by rw[h.raw i h19]
theorem RmL.szAt(h:RmL ws xs)(i:Nat)(h19:19<=i):szAt xs i=szAt ws i:=by have a:=h.sz i h19;have e:∀w,(ap w).size=((w/65536%65536:Nat):Int):=λ_=>rfl;rw[e,e] at a;unfold Proofs.YtpcajamacpbjcaaGreat.szAt;exact Int.ofNat.inj a
theorem RmL.stands(h:RmL ws xs)(i:Nat)(h19:19<=i):stands xs i=stands ws i:=by unfold Proofs.YtpcajamacpbjcaaGreat.stands;rw[h.sp i h19,h.sz i h19,h.len]
theorem RmL.bkAt(h:RmL ws xs)(h19:19<=i)(hi:i%2=0):bkAt xs i=mkB xs (bkAt ws i):=by
 unfold mkB;have a:(Proofs.YtpcajamacpbjcaaGreat.bkAt ws i).at_.toNat=i:=by rw[af,kqj]
 rw[a];unfold Proofs.YtpcajamacpbjcaaGreat.bkAt;rw[h.raw i h19,h.odd (i:=i+1) (by omega) (by omega)]
theorem RmL.blocks(h:RmL ws xs):∀i l,blocks ws i=some l->i%2=0->19<=i->blocks xs i=some (l.map (mkB xs)):=by
 refine dP (λi l=>i%2=0->19<=i->Proofs.YtpcajamacpbjcaaGreat.blocks xs i=some (l.map (mkB xs))) (λi c _ _=>?_) (λi l c d hb b e a=>?_)
 .exact aD (by rw[h.len];exact c)
 have hsz:=aJ d;have b:=b (by omega) (by omega);rw[aL (by rw[h.len];exact c) (by rw[h.stands i a];exact d),h.szAt i a,b,h.bkAt a e];rfl
theorem F1(h:RmL ws xs)(hb:b.kind=1->tyA b+1<128):dW xs (mkB xs b)=dW ws b:=by
 by_cases a:b.kind=1
 .have h2:=hb a;unfold dW dj;show (b.kind != 1||(cD (wd xs (tyA b)) (wd xs (tyA b+1))&&b.size==((bg (wd xs (tyA b)%256):Nat):Int)))=_;rw[h.low (by unfold tyA;omega) (by omega),h.low (by unfold tyA;omega) (by omega)]
 rw[eK a,eK (b:=mkB xs b) a]
theorem RmL.heap(h:RmL ws xs)(h0:aj ws=0):aj xs=0/\ah xs=(ah ws).map (mkB xs):=by obtain⟨g,l,d,c,f⟩:=aA h0;have e:=h.blocks 128 l d (by omega) (by omega);rw[f];refine fM (by rw[h.len];exact g) e ?_;rw[List.all_map,kzv];rw[kzv] at c;intro b a;show dW xs (mkB xs b)=true;rw[F1 h (iN d (by omega) b a)];exact c b a
theorem RmL.tb(h:RmL ws xs)(h0:aj ws=0)(a:Nat):tb xs a=tb ws a:=by unfold Proofs.YtpcajamacpbjcaaGreat.tb;rw[(h.heap h0).2,h.len,zX]
theorem RmL.slAt(h:RmL ws xs)(hi:i<16):slAt xs i=slAt ws i:=by unfold Proofs.YtpcajamacpbjcaaGreat.slAt;rw[h.low (by omega) (by omega)]
theorem RmL.slsOk(h:RmL ws xs):slsOk xs=slsOk ws:=by
 rw[kzl,cG,cG];unfold pt;constructor
 .intro b i a;rw[<-h.slAt a];exact b i a
 intro b i a;rw[h.slAt a];exact b i a
theorem RmL.flds(h:RmL ws xs)(h0:aj ws=0)(ha:Proofs.YtpcajamacpbjcaaGreat.tb ws a≠0):flds xs a=flds ws a:=by obtain⟨b,-⟩:=iU h0 ha;have:=mh b;have h19:=b.1;unfold Proofs.YtpcajamacpbjcaaGreat.flds;rw[h.raw a (by omega)];dsimp only;rw[h.low (by omega) (by omega),h.low (by omega) (by omega)]
theorem RmL.ref(h:RmL ws xs)(hg:qh ws)(h0:aj ws=0)(ha:Rch ws a)(ht:Proofs.YtpcajamacpbjcaaGreat.tb ws a≠0)(hf:(Proofs.YtpcajamacpbjcaaGreat.flds ws a)[i]? = some 3):wd xs (a+2+i)=wd ws (a+2+i):=by
 have h19:=(iU h0 ht).1.1;rcases h.at_ (a+2+i) (by omega) with d|⟨-,-,c,-⟩
 .exact d
 exfalso;have hb:=nH c;have b:=hg _ (Rch.ref a i ha ht hf (by omega));rw[kvg (by omega)] at b;have:=ro b;have:=(ir ws (aA h0).1).2.1;omega
theorem RmL.rch(h:RmL ws xs)(hg:qh ws)(h0:aj ws=0)(a:Nat):Rch xs a↔Rch ws a:=by
 constructor
 .intro b
  induction b with
  | slot i hi hu=>rw[h.slAt hi] at hu |-;exact Rch.slot i hi hu
  | ref a i b ht hf hv ih =>rw[h.tb h0] at ht;rw[h.flds h0 ht] at hf;rw[h.ref hg h0 ih ht hf] at hv |-;exact Rch.ref a i ih ht hf hv
 intro b
 induction b with
 | slot i hi hu=>rw[<-h.slAt hi] at hu |-;exact Rch.slot i hi hu
 | ref a i b ht hf hv ih =>rw[<-h.ref hg h0 b ht hf] at hv |-;exact Rch.ref a i ih (by rw[h.tb h0];exact ht) (by rw[h.flds h0 ht];exact hf) hv
theorem RmL.same(h:RmL ws xs)(h0:aC ws=0):aC xs=0/\dm xs=dm ws/\seenL xs=seenL ws/\aj xs=0/\ah xs=(ah ws).map (mkB xs):=by
 obtain⟨b,i,c⟩:=aH h0;have d:=h.rch c b;have g:=h.heap b;have j:qh xs:=λa k=>by rw[h.tb b];exact c a ((d a).1 k)
 have f:aC xs=0:=DQ g.1 (by rw[h.slsOk];exact i) j;have e:seenL xs=seenL ws:=by unfold seenL;rw[h.len];refine kz5 λa _=>?_;exact decide_eq_decide.2 (d a)
 refine⟨f,?_,e,g⟩;rw[eF f,eF h0,e,h.len]
end
theorem mA :∀ {l:List En} {x z:List Nat},z.length=x.length->wd z i=wd x i->wd (ai z l) i=wd (ai x l) i:=by
 intro l
 induction l with
 | nil=>intro x z _ h;exact h
 | cons e l ih =>
  intro x z b h;simp only[ai];rw[b];split
  .refine ih (by rw[kq3,kq3,b]) ?_;rename_i hr;by_cases c:i=e.a.toNat
   .subst c;unfold wd;rw[kz4 (by omega),kz4 (by omega)]
   unfold wd;rw[kx0 (by omega),kx0 (by omega)];exact h
  exact ih b h
theorem wD(h:aC x=0)(p:Nat):RmL x (ai x (⟨16,p⟩::aW x)):=by
 have a:=Dn h;refine⟨au _ _,λi h19=>?_⟩;have e:wd (ai x (⟨16,p⟩::aW x)) i=wd (ai x (aW x)) i:=by
  simp only[ai];split
  .refine mA (by rw[kq3]) ?_;unfold wd;rw[kx0 (by simp;omega)]
  rfl
 rw[e];exact a.at_ i
theorem Jd{l:List En}(p:Nat)(h19:19<=i):wd (ai x (⟨16,p⟩::l)) i=wd (ai x l) i:=by
 simp only[ai];split
 .refine mA (by rw[kq3]) ?_;unfold wd;rw[kx0 (by simp;omega)]
 rfl
theorem Ix(h:aC x=0)(p:Nat):aC (ai x (⟨16,p⟩::aW x))=0/\dm (ai x (⟨16,p⟩::aW x))=dm x/\aj (ai x (⟨16,p⟩::aW x))=0/\eQ (ah (ai x (⟨16,p⟩::aW x)))=dm x:=by obtain⟨g,c,g3,f,e⟩:=(wD h p).same h;refine⟨g,c,f,?_⟩;rw[e,<-F8 h];congr 1;refine kz5 λb d=>?_;obtain⟨a,rfl,a1,-⟩:=(cr (aH h).1).1 b d;unfold mkB tG;rw[af,kqj,Jd p (by omega)]
def refsN (ws:List Nat) (a k:Nat):List Int:=((List.range k).filter λi=>(flds ws a)[i]? == some 3).map λi=>((a+2+i:Nat):Int)
def IM (ws:List Nat) (a:Nat):List Int:=refsN ws a (flds ws a).length
theorem sE{x:Int}:x∈IM ws a↔∃i:Nat,x=((a+2+i:Nat):Int)/\(flds ws a)[i]? = some 3:=by
 unfold IM refsN;rw[kzx];constructor
 .rintro ⟨i,b,rfl⟩;rw[kzu] at b;exact⟨i,rfl,by simpa using b.2⟩
 rintro ⟨i,rfl,b⟩;refine⟨i,kzu.2 ⟨kzi.2 (kza.1 b).1,by simpa using b⟩,rfl⟩
theorem I6(h:aC ws=0)(ha:Rch ws a){r:Int}(b:r∈IM ws a):(∃j:Nat,r=(j:Int)/\j<ws.length)/\wd ws r.toNat<ws.length/\(wd ws r.toNat≠0->Rch ws (wd ws r.toNat)):=by
 obtain⟨g,h2,c⟩:=aH h;obtain⟨i,rfl,k⟩:=sE.1 b;have hb:=ir ws (aA g).1;obtain⟨m,-⟩:=iU g (c a ha);have d:=um m (kza.1 k).1;refine⟨⟨_,rfl,d⟩,?_⟩;rw[kqj];by_cases f:wd ws (a+2+i)=0
 .exact ⟨by omega,λh=>absurd f h⟩
 have b:=Rch.ref a i ha (c a ha) k f;have l:=ro (c _ b);have e:min (wd ws (a+2+i)) 2048=wd ws (a+2+i):=by omega
 rw[e] at b l;exact⟨l,λ_=>b⟩
theorem obj_from(h:aC ws=0)(ha:Rch ws a):cj ws (a:Int)=0/\(∃r:0<(aT ws (a:Int)).length,(aT ws (a:Int))[0]=bkAt ws a)/\(bkAt ws a).kind=1/\(∃t:Nat,(bkAt ws a).typ=(t:Int)/\t<8/\cD (wd ws (96+2*t)) (wd ws (96+2*t+1))=true/\flds ws a=bq (wd ws (96+2*t)) (wd ws (96+2*t+1)))/\a+2+(flds ws a).length<=ws.length:=by
 obtain⟨o,r,p⟩:=aH h;obtain⟨m,-⟩:=iU o (p a ha);have i:=mh m;obtain⟨o1,o2,o3,s,n,v,k,hk,e,f⟩:=m;have g:=(aA o).1;obtain⟨u,q⟩:=cV (ws:=ws) (a:=(a:Int)) g (by
  simp only[fm,kzs,kqh,kqr];omega) (l:=(ah ws).drop k) (by rw[kqj];exact f)
 have c:=jY (ws:=ws) (b:=bkAt ws a) n;rw[v] at c;have c:=c.symm;simp only[kqu,kqx] at c;have hst:=aJ s;have d:(((ap (wd ws a)).typ.toNat:Nat):Int)=(ap (wd ws a)).typ:=by show ((((wd ws a/512%128:Nat):Int).toNat:Nat):Int)=_;rw[kqj];rfl
 refine⟨u,?_,n,⟨(ap (wd ws a)).typ.toNat,d.symm,i,c.1,rfl⟩,?_⟩
 .rw[q];refine⟨by rw[kzp];omega,?_⟩;rw[kkb];exact e
 have j:=c.2;rw[bo] at j;have h8:(flds ws a).length=(bq (wd ws (tyA (bkAt ws a))) (wd ws (tyA (bkAt ws a)+1))).length:=rfl;unfold bg at j;omega
theorem Cx{m:List (Int × Int)}:∀k,(∀i,i<k->∃o,il ws m i=some o)->∃o,slFix ws m k=some o/\((∀i,i<k->il ws m i=some [])->o=[]):=by
 intro k
 induction k with
 | zero=>intro _;exact⟨[],rfl,λ_=>rfl⟩
 | succ k ih =>intro h;obtain⟨o,d,e⟩:=ih (λi f=>h i (by omega));obtain⟨x,b⟩:=h k (by omega);refine⟨o++x,by simp only[slFix,d,b,kzz],λc=>?_⟩;have a:=c k (by omega);rw[b] at a;injection a with a;rw[a,e (λi f=>c i (by omega)),kzt]
theorem B9{m:List (Int × Int)}:∀R:List Int,(∀r∈R,∃o,gb ws m r.toNat=some o)->∃o,dH ws m R=some o/\((∀r∈R,gb ws m r.toNat=some [])->o=[]):=by
 intro R
 induction R with
 | nil=>intro _;exact⟨[],rfl,λ_=>rfl⟩
 | cons r R ih =>intro h;obtain⟨o,e,f⟩:=ih (λi b=>h i (by simp[b]));obtain⟨x,c⟩:=h r (by simp);refine⟨x++o,by simp only[dH,e,c,kzz],λd=>?_⟩;have a:=d r (by simp);rw[c] at a;injection a with a;rw[a,f (λi b=>d i (by simp[b])),kzt]
theorem Cm:∀ {l:List Bk} {s:Int} {b:Bk},b∈l->aR b=true->∃t,fY (az l s) b.at_=some t:=by
 intro l
 induction l with
 | nil=>intro s b h;simp at h
 | cons x l ih =>
  intro s b h a;simp only[az];by_cases c:aR x=true
  .rw[if_pos c];simp only[fY];by_cases e:x.at_=b.at_
   .exact ⟨s,by rw[if_pos e]⟩
   rw[if_neg e];rcases kqw.1 h with rfl|h
   .exact absurd rfl e
   exact ih h a
  rw[if_neg c];rcases kqw.1 h with rfl|h
  .exact absurd a c
  exact ih h a
theorem BL:∀ {l:List Bk} {s:Int} {m:Int × Int},m∈az l s->∃b∈l,aR b=true/\b.at_=m.1:=by
 intro l
 induction l with
 | nil=>intro s m h;simp[az] at h
 | cons x l ih =>
  intro s m h;simp only[az] at h;split at h
  .rename_i hx;rcases kqw.1 h with rfl|h
   .exact ⟨x,by simp,hx,rfl⟩
   obtain⟨b,c,a⟩:=ih h;exact⟨b,by simp[c],a⟩
  obtain⟨b,c,a⟩:=ih h;exact⟨b,by simp[c],a⟩
theorem Be:∀ {l:List Bk} {s:Int} {e:En},e∈aY l s->∃b∈l,b.kind=1/\e.a=b.at_+1:=by
 intro l
 induction l with
 | nil=>intro s e h;simp[aY] at h
 | cons x l ih =>
  intro s e h;simp only[aY,kzo] at h;rcases h with h|h
  .split at h
   .rename_i hx;rw[kqy] at h;subst h;exact⟨x,by simp,hx.1,rfl⟩
   simp at h
  obtain⟨b,d,c⟩:=ih h;exact⟨b,by simp[d],c⟩
theorem JL:∀ {l:List Bk} {s:Int} {b:Bk},b∈fwB l s->∃a∈l,b.at_=a.at_/\b.kind=a.kind/\b.mark=a.mark/\b.typ=a.typ:=by
 intro l
 induction l with
 | nil=>intro s b h;simp[fwB] at h
 | cons x l ih =>
  intro s b h;simp only[fwB] at h;rcases kqw.1 h with rfl|h
  .refine ⟨x,by simp,?_⟩;split<;>exact⟨rfl,rfl,rfl,rfl⟩
  obtain⟨a,d,c⟩:=ih h;exact⟨a,by simp[d],c⟩
theorem Kj:∀ {l:List Bk} {s:Int} {b:Bk},b∈l->∃a∈fwB l s,a.at_=b.at_/\a.kind=b.kind:=by
 intro l
 induction l with
 | nil=>intro s b h;simp at h
 | cons x l ih =>
  intro s b h;simp only[fwB];rcases kqw.1 h with rfl|h
  .refine ⟨_,List.mem_cons_self ..,?_⟩;split<;>exact⟨rfl,rfl⟩
  obtain⟨a,d,c⟩:=ih (s:=fg x s) h;exact⟨a,kz1 _ d,c⟩
theorem nO{a:Int}(h:b∈l)(h1:b.at_=a)(h2:b.kind=1):∃b2,kz l a=some b2:=by
 cases c:kz l a with
 | some b2=>exact⟨b2,rfl⟩
 | none =>unfold kz at c;rw[List.find?_eq_none] at c;exact absurd (by simp[h1,h2]) (c b h)
theorem rh(h:l.Pairwise (λa b=>a.at_<b.at_)){a:Bk}(ha:a∈l)(hb:b∈l)(e:a.at_=b.at_):a=b:=by
 obtain⟨i,f,rfl⟩:=kq0 ha;obtain⟨j,d,rfl⟩:=kq0 hb;rw[kzj] at h;rcases kkc i j with c|c|c
 .have:=h i j f d c;omega
 .subst c;rfl
 have:=h j i d f c;omega
theorem FC{w:Nat}(h:w<18446744073709551616):pg (dX w)=w:=by
 unfold pg dX;dsimp only;rw[kqj,kqj];by_cases a:w/9223372036854775808=1
 .rw[show (w/9223372036854775808==1)=true by rw[kqx];exact a,if_pos rfl];omega
 rw[show (w/9223372036854775808==1)=false by rw[kqi];exact a,if_neg (by decide)];omega
theorem tO(h:aj ws=0)(ho:fi ws a)(hi:i<(flds ws a).length)(hb:b∈ah ws):b.at_+1≠((a+2+i:Nat):Int):=by
 obtain⟨o1,o2,o,s,n,v,k,t,e,c⟩:=ho;have d:=jY (ws:=ws) (b:=bkAt ws a) n;rw[v] at d;have d:=d.symm;simp only[kqu,kqx] at d;have g:=d.2;rw[bo] at g;have h8:(flds ws a).length=(bq (wd ws (tyA (bkAt ws a))) (wd ws (tyA (bkAt ws a)+1))).length:=rfl;unfold bg at g;obtain⟨j,r,rfl⟩:=kq0 hb;rcases kq7 k j with p|p
 .rw[aL o s] at c;cases f:blocks ws (a+szAt ws a) with
  | none=>rw[f] at c;cases c
  | some l' =>
   rw[f] at c;simp only[kzz,Option.some.injEq] at c;have q:l'=(ah ws).drop (k+1):=by
    have:=congrArg (List.drop 1) c;rw[kxx] at this
    simpa using this
   have u:(ah ws)[j]∈l':=by rw[q];refine kvi.2 ⟨j-(k+1),by rw[kzp];omega,?_⟩;rw[kkb];congr 1;omega
   have:=(ml _ _ f).1 _ u;omega
 have l:=(cr h).2;rw[kzj] at l;have ha:(ah ws)[k].at_=(a:Int):=by rw[e,af]
 rcases kq7 j k with m|m
 .have:=l j k r t m;omega
 have:j=k:=by omega
 subst this;omega
theorem uJ(h:aC ws=0)(ho:∀x∈ws,x<18446744073709551616):∃(g d:List Nat) (M:List (Int × Int)),g=ai ws (aW ws)/\d=ai g (aK g)/\aj g=0/\bj d 128 128=0/\iH d 128 128=M/\eI d=0/\(∀m∈M,dR d m.1=0) /\
 ((∀m∈M,m.1=m.2)->eC d=[]/\∀m∈M,cR d m.1=[]):=by
 obtain⟨R,h2,T⟩:=aH h;have C:=Dn h;obtain⟨g1,g2,g3,g4,g5⟩:=C.same h;obtain⟨g,F⟩:∃g,g=ai ws (aW ws):=⟨_,rfl⟩;rw[<-F] at C g1 g2 g3 g4 g5;obtain⟨l,k1,k2,k3,k4,k5,k6,k7,-,-⟩:=pT g4;have Lb:aK g=aY l 128:=by unfold aK;rw[if_pos g4,k2]
 obtain⟨d,A⟩:∃d,d=ai g (aY l 128):=⟨_,rfl⟩;rw[<-A] at k4 k5 k6 k7;have G:l=(ah ws).map (mkB g):=by rw[<-k2,g5]
 have X:l.Pairwise (λa b=>a.at_<b.at_):=by rw[G];exact BI (cr R).2
 have hbd:=ir ws (aA R).1;have J:g.length=ws.length:=C.len;have hlen2:d.length=ws.length:=by rw[A,au,J]
 have j:∀p,p<128->wd d p=wd ws p:=by intro p hp;rw[A,aP _ _ _ (λe B=>?_),C.low hp];have:=qq _ _ k1 128 e B;omega
 have Lk:∀ {a i:Nat},Rch ws a->(flds ws a)[i]? = some 3->wd d (a+2+i)=wd ws (a+2+i):=by intro a i k f;obtain⟨n,-⟩:=iU R (T a k);rw[A,aP _ _ _ (λe B=>?_),C.ref T R k (T a k) f];obtain⟨b,H,-,e2⟩:=Be B;rw[e2];rw[G] at H;obtain⟨b0,v,rfl⟩:=kzx.1 H;have Ld:=tO R n (kza.1 f).1 (b:=b0) v;exact Ld
 have O:∀ {a:Nat},Rch ws a->∃t,fY (az l 128) (a:Int)=some t:=by
  intro a k;obtain⟨b,H,e,hk,-⟩:=rj h k;have S:mkB g b∈l:=by rw[G];exact kx6 H
  have P:(mkB g b).mark=true:=by rw[F,lU h H,e];have Y:=ro (T a k);exact (fH Y).2 k
  obtain⟨t,ht⟩:=Cm (s:=128) S (by unfold aR;rw[P,show (mkB g b).kind=1 from hk];rfl);refine⟨t,?_⟩;rw[show (mkB g b).at_=(a:Int) by show b.at_=_;rw[e,af]] at ht;exact ht
 have I:∀ {a:Nat},Rch ws a->∃t,gH (az l 128) a=some t/\fY (az l 128) (a:Int)=some t:=by intro a k;obtain⟨t,ht⟩:=O k;have Y:=ro (T a k);exact⟨t,by unfold gH;rw[if_neg (by omega)];exact ht,ht⟩
 have Q:cH d=0:=by unfold cH;rw[if_pos k6,k4]
 have V:fh d=az l 128:=by rw[(eH Q).2.2,k5]
 have U:∀i,i<16->slAt d i=slAt ws i:=λi f=>by unfold slAt;rw[j _ (by omega)]
 have Le:slsOk d=true:=by rw[cG];intro i f;rw[U i f];exact (cG ws).1 h2 i f
 have Z:∀i,i<16->∃o,il d (az l 128) i=some o/\((∀m∈az l 128,m.1=m.2)->o=[]):=by
  intro i f;unfold il;by_cases hu:(slAt d i).used=true
  .rw[if_pos hu];have w:=hu;rw[U i f] at w |-;obtain⟨t,t1,t2⟩:=I (Rch.slot i f w);rw[t1];dsimp only;have E:(((slAt ws i).at_.toNat:Nat):Int)=(slAt ws i).at_:=kj0 (gj (wd ws (112+i))).2.2.1;by_cases B:wd d (112+i)=pg ⟨(slAt ws i).gen,true,t⟩
   .rw[if_pos B];exact⟨[],rfl,λ_=>rfl⟩
   rw[if_neg B];refine⟨_,rfl,λc=>absurd ?_ B⟩;have Kw:=c _ (rE t2);dsimp only at Kw;have h5:pg (slAt ws i)=wd ws (112+i):=FC (fT ho _);rw[j _ (by omega),<-h5];congr 1;rw[<-Kw,E];obtain⟨y,hy⟩:=xq (slAt ws i);rw[hy] at w |-;obtain⟨yg,yu,ya⟩:=y;dsimp only at w |-;rw[w]
  rw[if_neg hu];exact⟨[],rfl,λ_=>rfl⟩
 obtain⟨o,Lh,Lj⟩:=Cx (ws:=d) (m:=az l 128) 16 (λi f=>by obtain⟨o,L,-⟩:=Z i f;exact⟨o,L⟩);have La:=J5 Q Le (o:=o) (by rw[V];exact Lh);have n:∀m∈az l 128,dR d m.1=0/\((∀m∈az l 128,m.1=m.2)->cR d m.1=[]):=by
  intro m P;obtain⟨b,H,z,E⟩:=BL P;unfold aR at z;simp only[kqu,kqx] at z;have Lc:aT d 128=fwB l 128:=by rw[(ga k6).2.1,k7]
  obtain⟨b2,S,e1,e2⟩:=Kj (s:=128) H;obtain⟨K,Kx⟩:=nO (a:=m.1) S (by rw[e1,E]) (by rw[e2,z.1]);obtain⟨f1,f2,f3⟩:=jN Kx;obtain⟨b0,v,r1,r2,r3,r4⟩:=JL f1;have u:b0=b:=rh X v H (by rw[<-r1,f2,E]);subst u;rw[G] at v;obtain⟨bw,Kz,u⟩:=kzx.1 v;obtain⟨a,k,-,-,Ll,-⟩:=(cr R).1 bw Kz;have N:Rch ws a:=by have:=lU h Kz;rw[<-F,u,z.2,k] at this;exact (fH Ll).1 this.symm
  have W:K.at_=(a:Int):=by rw[r1,<-u,k];exact af ws a
  have Lg:K.typ=(ap (wd ws a)).typ:=by rw[r4,<-u,k];rfl
  obtain⟨n,-⟩:=iU R (T a N);have hty8:=mh n;have Li:wL d K=flds ws a:=by unfold wL flds tyA;rw[Lg,j _ (by omega),j _ (by omega)]
  have Eq:∀r∈fU d K,∃o,gb d (az l 128) r.toNat=some o/\((∀m∈az l 128,m.1=m.2)->o=[]):=by
   intro r D;unfold fU at D;obtain⟨i,-,f,rfl⟩:=kX.1 D;rw[Li] at f;have hn:(K.at_+2+(i:Int)).toNat=a+2+i:=by rw[W];omega
   rw[hn];unfold gb;rw[Lk N f];by_cases hv:wd ws (a+2+i)=0
   .rw[if_pos hv];exact⟨[],rfl,λ_=>rfl⟩
   rw[if_neg hv];have D:=(I6 h N (r:=((a+2+i:Nat):Int)) (sE.2 ⟨i,rfl,f⟩)).2.2;rw[kqj] at D;obtain⟨t,t1,t2⟩:=I (D hv);rw[t1];dsimp only;by_cases B:((wd ws (a+2+i):Nat):Int)=t
   .rw[if_pos B];exact⟨[],rfl,λ_=>rfl⟩
   rw[if_neg B];refine⟨_,rfl,λc=>absurd ?_ B⟩;exact c _ (rE t2)
  obtain⟨q,Lf,Lm⟩:=B9 (ws:=d) (m:=az l 128) (fU d K) (λr D=>by obtain⟨o,L,-⟩:=Eq r D;exact⟨o,L⟩);have Ky:=Bp Q (a:=m.1) (b:=K) (by rw[Lc];exact Kx) (by rw[r3];exact z.2) (o:=q) (by rw[V];exact Lf);refine⟨Ky.1,λc=>?_⟩;rw[Ky.2];refine Lm λr D=>?_;obtain⟨o,L,h5⟩:=Eq r D;rw[L,h5 c]
 refine⟨g,d,az l 128,F,by rw[Lb];exact A,g4,k4,k5,La.1,λm P=>(n m P).1,λc=>⟨?_,λm P=>(n m P).2 c⟩⟩;rw[La.2];refine Lj λi f=>?_;obtain⟨o',L,h5⟩:=Z i f;rw[L,h5 c]
structure NxL (ws xs:List Nat):Prop where
 len:xs.length=ws.length
 at_:∀i:Nat,19<=i->wd xs i=wd ws i\/∃b∈ah ws,(i:Int)=b.at_+1
theorem IU{xs:List Nat}(n:Nat)(l:List Bk):qR n (l.map (nxB xs))=qR n l:=by unfold qR;rw[List.foldl_map];rfl
section
variable {ws xs:List Nat}
theorem NxL.low(h:NxL ws xs)(h0:aj ws=0)(h19:19<=i)(hi:i<128):wd xs i=wd ws i:=by
 rcases h.at_ i h19 with c|⟨b,d,c⟩
 .exact c
 obtain⟨a,rfl,a1,-⟩:=(cr h0).1 b d;rw[af] at c;omega
theorem NxL.even(h:NxL ws xs)(h0:aj ws=0)(h19:19<=i)(hi:i%2=0):wd xs i=wd ws i:=by
 rcases h.at_ i h19 with c|⟨b,d,c⟩
 .exact c
 obtain⟨a,rfl,-,a1,-⟩:=(cr h0).1 b d;rw[af] at c;omega
theorem NxL.ev(h:NxL ws xs)(h0:aj ws=0):Ev ws xs:=by
 refine⟨h.len,λi c=>?_⟩;rcases c with⟨a,b⟩|⟨a,b⟩
 .exact h.even h0 (by omega) a
 exact h.low h0 (by omega) b
theorem NxL.tb(h:NxL ws xs)(h0:aj ws=0)(a:Nat):tb xs a=tb ws a:=by unfold Proofs.YtpcajamacpbjcaaGreat.tb;rw[((h.ev h0).heap h0).2,h.len,IU]
theorem NxL.slAt(h:NxL ws xs)(h0:aj ws=0)(hi:i<16):slAt xs i=slAt ws i:=by unfold Proofs.YtpcajamacpbjcaaGreat.slAt;rw[h.low h0 (by omega) (by omega)]
theorem NxL.slsOk(h:NxL ws xs)(h0:aj ws=0):slsOk xs=slsOk ws:=by
 rw[kzl,cG,cG];unfold pt;constructor
 .intro b i a;rw[<-h.slAt h0 a];exact b i a
 intro b i a;rw[h.slAt h0 a];exact b i a
theorem NxL.flds(h:NxL ws xs)(h0:aj ws=0)(ha:Proofs.YtpcajamacpbjcaaGreat.tb ws a≠0):flds xs a=flds ws a:=by obtain⟨b,-⟩:=iU h0 ha;have:=mh b;have h19:=b.1;have c:=b.2.1;unfold Proofs.YtpcajamacpbjcaaGreat.flds;rw[h.even h0 (by omega) c,h.low h0 (by omega) (by omega),h.low h0 (by omega) (by omega)]
theorem NxL.ref(h:NxL ws xs)(h0:aj ws=0)(ht:Proofs.YtpcajamacpbjcaaGreat.tb ws a≠0)(hf:(Proofs.YtpcajamacpbjcaaGreat.flds ws a)[i]? = some 3):wd xs (a+2+i)=wd ws (a+2+i):=by
 have c:=(iU h0 ht).1;have h19:=c.1;rcases h.at_ (a+2+i) (by omega) with d|⟨b,e,d⟩
 .exact d
 exact absurd d.symm (tO h0 c (kza.1 hf).1 e)
theorem NxL.rch(h:NxL ws xs)(h0:aj ws=0)(a:Nat):Rch xs a↔Rch ws a:=by
 constructor
 .intro b
  induction b with
  | slot i hi hu=>rw[h.slAt h0 hi] at hu |-;exact Rch.slot i hi hu
  | ref a i b ht hf hv ih =>rw[h.tb h0] at ht;rw[h.flds h0 ht] at hf;rw[h.ref h0 ht hf] at hv |-;exact Rch.ref a i ih ht hf hv
 intro b
 induction b with
 | slot i hi hu=>rw[<-h.slAt h0 hi] at hu |-;exact Rch.slot i hi hu
 | ref a i b ht hf hv ih =>rw[<-h.ref h0 ht hf] at hv |-;exact Rch.ref a i ih (by rw[h.tb h0];exact ht) (by rw[h.flds h0 ht];exact hf) hv
theorem NxL.same(h:NxL ws xs)(h0:aj ws=0):aj xs=0/\aC xs=aC ws/\dm xs=dm ws:=by
 have d:=h.rch h0;have g:=(h.ev h0).heap h0;have i:qh xs↔qh ws:=by
  constructor
  .intro e a c;rw[<-h.tb h0];exact e a ((d a).2 c)
  intro e a c;rw[h.tb h0];exact e a ((d a).1 c)
 have f:aC xs=aC ws:=by unfold aC;rw[if_pos g.1,if_pos h0,h.slsOk h0,propext i]
 refine⟨g.1,f,?_⟩;have j:seenL xs=seenL ws:=by unfold seenL;rw[h.len];refine kz5 λa _=>?_;exact decide_eq_decide.2 (d a)
 by_cases b:aC ws=0
 .rw[eF (by rw[f];exact b),eF b,j,h.len]
 rw[vT (by rw[f];exact b),vT b]
end
theorem qT{E:List En}(hE:∀e∈E,e.a<19\/∃b∈ah x,e.a=b.at_+1):NxL x (ai x E):=by
 refine⟨au _ _,λi h19=>?_⟩;by_cases c:∃b∈ah x,(i:Int)=b.at_+1
 .exact .inr c
 refine .inl (aP _ _ _ λe h g=>?_);rcases hE e h with d|⟨b,f,d⟩
 .omega
 exact c ⟨b,f,by rw[<-d,g]⟩
theorem wl(p2:wd x 16=2)(h:(ag x).1=0):aj (ai x (ag x).2)=0/\aC (ai x (ag x).2)=aC x/\dm (ai x (ag x).2)=dm x:=by
 obtain⟨f,e⟩:=zV p2 h;rw[e];dsimp only;have g:∀e∈aK x,∃b∈ah x,e.a=b.at_+1:=by intro e c;rw[tA f] at c;obtain⟨b,i,-,j⟩:=gA c;exact⟨b,i,j⟩
 refine (qT λe c=>?_).same f;by_cases d:32<=(aK x).length
 .rw[cN d] at c;exact .inr (g e (kxp c))
 rw[jb d] at c;rcases kqw.1 c with rfl|c
 .exact .inl (by dsimp only;omega)
 exact .inr (g e c)
end Go.Proofs.YtpcajamacpbjcaaGreat
