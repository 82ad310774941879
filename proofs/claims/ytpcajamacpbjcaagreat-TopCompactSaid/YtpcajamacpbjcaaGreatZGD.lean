/- Devices: what operations and changes do to all words. Plain. -/
import Derived.Test.YtpcajamacpbjcaaGreatZGA
import Derived.Test.YtpcajamacpbjcaaGreatZKStg1
import Derived.Test.YtpcajamacpbjcaaGreatZKCp1
import Derived.Test.YtpcajamacpbjcaaGreatZKRs
import Derived.Test.YtpcajamacpbjcaaGreatZKCo
set_option maxHeartbeats 16000000
set_option linter.all false
namespace Go.Proofs.YtpcajamacpbjcaaGreat
open Go.RowKit
variable {d:Dv}{a f s:Int}{l:List En}{ad:List Int}{b x:List Nat}{i j n:Nat}
theorem qA:∀(l:List Dw) (x:List Nat) (i v:Nat),(∀e∈l,e.a.toNat≠i)->kV (x.set i v) l=(kV x l).set i v:=by
 intro l
 induction l with
 | nil=>intro x i v _;rfl
 | cons e l ih =>intro x i v h;show kV ((x.set i v).set e.a.toNat e.v) l=(kV (x.set e.a.toNat e.v) l).set i v;rw[List.set_comm _ _ (Ne.symm (h e (by simp))),ih _ _ _ λy b=>h y (by simp[b])]
theorem Iw{v:Nat}:∀ {l:List Dw} {b:Int} (x:List Nat),iM n l b=true -> -1<=b->b<a->kV x (stQ l a v)=(kV x l).set a.toNat v:=by
 intro l
 induction l with
 | nil=>intro b x _ _ _;rfl
 | cons e l ih =>
  intro b x h hb hba;have hm:=gw h;simp only[iM,kqu,kzd] at h;have g:=gw h.2.2;unfold stQ;by_cases f:e.a<a
  .rw[if_pos f];exact ih (x.set e.a.toNat e.v) h.2.2 (by omega) f
  rw[if_neg f];by_cases d:e.a=a
  .rw[if_pos d];show kV (x.set a.toNat v) l=(kV (x.set e.a.toNat e.v) l).set a.toNat v;rw[<-qA l _ _ _ λy c=>by have:=g y c;omega,d,List.set_set]
  rw[if_neg d];show kV (x.set a.toNat v) (e::l)=(kV x (e::l)).set a.toNat v;exact qA _ _ _ _ λy c=>by
   rcases kqw.1 c with rfl|c
   .omega
   have:=g y c;omega
theorem tD(a:Int)(e:Dw):(flB a e).a=e.a/\(flB a e).v=e.v:=by unfold flB;split<;>exact⟨rfl,rfl⟩
theorem IG(a:Int):∀(l:List Dw) (x:List Nat),kV x (flQ a l)=kV x l:=by
 intro l
 induction l with
 | nil=>intro x;rfl
 | cons e l ih =>intro x;show kV (x.set (flB a e).a.toNat (flB a e).v) (flQ a l)=_;rw[(tD a e).1,(tD a e).2,ih];rfl
theorem Ji :∀ {l:List Dw} {b:Int} (x:List Nat),iM n l b=true -> -1<=b->kV (fnI x l) (fnQ l)=kV x l:=by
 intro l
 induction l with
 | nil=>intro b x _ _;rfl
 | cons e l ih =>
  intro b x h hb;simp only[iM,kqu,kzd] at h;have g:=gw h.2.2;have d:=ih (x.set e.a.toNat e.v) h.2.2 (by omega);unfold fnI fnQ at d |-;cases c:e.f with
  | true =>rw[kk6 c,List.filter_cons_of_neg (by simp[c])];exact d
  | false =>rw[List.filter_cons_of_neg (by simp[c]),kk6 (by simp[c])];show kV ((kV x (l.filter (·.f))).set e.a.toNat e.v) _=kV (x.set e.a.toNat e.v) l;rw[<-d,qA (l.filter (·.f)) _ _ _ λy i=>by have:=g y (kzu.1 i).1;omega]
theorem dvS_v{v:Nat}(h:ff d=true)(h0:0<=a)(hd:(dvS d a v).down=false):d.down=false/\dvV (dvS d a v)=(dvV d).set a.toNat v:=by
 unfold dvS at hd |-;by_cases b:d.left=0
 .rw[if_pos b] at hd;cases hd
 rw[if_neg b] at hd |-;exact⟨hd,Iw d.im ((bP d).1 h).2.2.2.2 (by omega) (by omega)⟩
theorem dvF_v(hd:(dvF d a).down=false):d.down=false/\dvV (dvF d a)=dvV d:=by
 unfold dvF at hd |-;by_cases b:d.left=0
 .rw[if_pos b] at hd;cases hd
 rw[if_neg b] at hd |-;exact⟨hd,IG a _ _⟩
theorem dvN_v(h:ff d=true)(hd:(dvN d).down=false):d.down=false/\dvV (dvN d)=dvV d:=by
 unfold dvN at hd |-;by_cases a:d.left=0
 .rw[if_pos a] at hd;cases hd
 rw[if_neg a] at hd |-;exact⟨hd,Ji _ ((bP d).1 h).2.2.2.2 (by omega)⟩
theorem kH(d:Dv):(dvV d).length=d.im.length:=nr _ _
def mU (n:Nat) (l:List En):Prop:=∀e∈l,0<=e.a/\e.a<(n:Int)
theorem dvSs_v:∀(l:List En) {d:Dv},ff d=true->mU d.im.length l->(o8 d l).down=false->d.down=false/\dvV (o8 d l)=ai (dvV d) l:=by
 intro l
 induction l with
 | nil=>intro d _ _ c;exact⟨c,rfl⟩
 | cons e l ih =>intro d h f c;have b:=f e (by simp);obtain⟨i,g⟩:=ih (d:=dvS d e.a e.v) (vF h b.1 b.2) (λx k=>by rw[sb];exact f x (by simp[k])) c;obtain⟨m,j⟩:=dvS_v h b.1 i;refine⟨m,?_⟩;show dvV (o8 (dvS d e.a e.v) l)=_;rw[g,j];simp only[ai];rw[if_pos (by rw[kH];exact b)]
theorem dvFs_v :∀k,(lK ad d k).down=false->d.down=false/\dvV (lK ad d k)=dvV d:=by
 intro k
 induction k with
 | zero=>intro a;exact⟨a,rfl⟩
 | succ k ih =>
  unfold lK;split
  .intro a;obtain⟨f,c⟩:=dvF_v a;obtain⟨b,e⟩:=ih f;exact⟨b,c.trans e⟩
  exact ih
theorem rpP_v(h:ff d=true)(hi:mU d.im.length l)(hd:(rpP d l).down=false):d.down=false/\dvV (rpP d l)=ai (dvV d) l:=by unfold rpP at hd |-;obtain⟨g,b⟩:=dvN_v (kG (mf l h hi) _) hd;obtain⟨a,e⟩:=dvFs_v _ g;obtain⟨c,f⟩:=dvSs_v l h hi a;exact⟨c,by rw[b,e,f]⟩
theorem oh:∀(l:List Nat) (a:Nat) {n:Nat},a+l.length<=n->∀e∈lsE (a:Int) l,(a:Int)<=e.a/\e.a<((a+l.length:Nat):Int)/\e.a<(n:Int):=by
 intro l
 induction l with
 | nil=>intro a n _ e b;exact absurd b (by simp[lsE])
 | cons v l ih =>
  intro a n h e b;rw[kq2] at h;simp only[lsE,kqw] at b;rcases b with rfl|b
  .dsimp only;rw[kq2];omega
  have:=ih (a+1) (n:=n) (by omega) e (by exact_mod_cast b);rw[kq2];omega
def atL (l:List En):List (List En):=[lsE 32 (bM l),[⟨24,cmW l⟩],l,[⟨24,0⟩]]
theorem pV(h:l≠[]):atM d l=(atL l).foldl rpP d:=by unfold atM atL;rw[if_neg h];simp only[kxv,kvv]
theorem wU(hn:256<=n)(h32:l.length<=32)(hi:mU n l):∀E∈atL l,mU n E:=by
 intro E b;have hw:=fS l;simp only[atL,kqw,kzk,or_false] at b;rcases b with rfl|rfl|rfl|rfl
 .intro e a;have:=oh (bM l) 32 (n:=n) (by omega) e a;omega
 .intro e a;rw[kqy] at a;subst a;dsimp only;omega
 .exact hi
 intro e a;rw[kqy] at a;subst a;dsimp only;omega
theorem IY:∀(L:List (List En)) (d:Dv),(L.foldl rpP d).im.length=d.im.length:=by
 intro L
 induction L with
 | nil=>intro d;rfl
 | cons l L ih=>intro d;rw[kxv,ih,mz]
theorem rps_ok:∀(L:List (List En)) {d:Dv},ff d=true->(∀E∈L,mU d.im.length E)->ff (L.foldl rpP d)=true:=by
 intro L
 induction L with
 | nil=>intro d h _;exact h
 | cons l L ih =>intro d h a;rw[kxv];exact ih (qc h (a l (by simp))) λE b=>by rw[mz];exact a E (by simp[b])
theorem rps_v:∀(L:List (List En)) {d:Dv},ff d=true->(∀E∈L,mU d.im.length E)->(L.foldl rpP d).down=false->d.down=false/\dvV (L.foldl rpP d)=L.foldl ai (dvV d):=by
 intro L
 induction L with
 | nil=>intro d _ _ a;exact⟨a,rfl⟩
 | cons l L ih =>intro d h b a;rw[kxv] at a |-;obtain⟨i,e⟩:=ih (qc h (b l (by simp))) (λE g=>by rw[mz];exact b E (by simp[g])) a;obtain⟨c,f⟩:=rpP_v h (b l (by simp)) i;exact⟨c,by rw[e,f];rfl⟩
theorem Kb(d:Dv)(l:List En):(atM d l).im.length=d.im.length:=by
 by_cases h:l=[]
 .unfold atM;rw[if_pos h]
 rw[pV h,IY]
theorem ie(h:ff d=true):256<=d.im.length:=by have:=(ab _).1 ((bP d).1 h).1;omega
theorem atM_ok(h:ff d=true)(h32:l.length<=32)(hi:mU d.im.length l):ff (atM d l)=true:=by
 by_cases a:l=[]
 .unfold atM;rw[if_pos a];exact h
 rw[pV a];exact rps_ok _ h (wU (ie h) h32 hi)
def Jn (ws xs:List Nat):Prop:=xs.length=ws.length/\∀j,j≠24->(j<32\/96<=j)->wd xs j=wd ws j
theorem Jn.refl(ws:List Nat):Jn ws ws:=⟨rfl,λ_ _ _=>rfl⟩
theorem Jn.trans{a c:List Nat}(h:Jn a b)(g:Jn b c):Jn a c:=⟨g.1.trans h.1,λj e d=>(g.2 j e d).trans (h.2 j e d)⟩
theorem Jn.symm{a:List Nat}(h:Jn a b):Jn b a:=⟨h.1.symm,λj d c=>(h.2 j d c).symm⟩
theorem sZ{E:List En}(h:∀e∈E,e.a=24\/32<=e.a/\e.a<96):Jn x (ai x E):=⟨au _ _,λj h1 hj=>aP _ _ _ λe b=>by have:=h e b;omega⟩
theorem nh{c:Prop}[Decidable c]{v:Nat}:wd (if c then x.set i v else x) j=if c/\i=j/\j<x.length then v else wd x j:=by
 by_cases h:c
 .rw[if_pos h];by_cases e:i=j
  .subst e;by_cases a:i<x.length
   .rw[if_pos ⟨h,rfl,a⟩];unfold wd;rw[kz4 a];rfl
   rw[if_neg (λh=>a h.2.2)];unfold wd;rw[List.getElem?_set_self'];simp[a]
  rw[if_neg (λh=>e h.2.1)];unfold wd;rw[kx0 e]
 rw[if_neg h,if_neg (λg=>h g.1)]
theorem Jn.puts:∀(E:List En) {ws xs:List Nat},Jn ws xs->Jn (ai ws E) (ai xs E):=by
 intro E
 induction E with
 | nil=>intro ws xs h;exact h
 | cons e E ih =>intro ws xs h;simp only[ai];refine ih ⟨by have:=h.1;split<;>split<;>simp[this],λj b a=>?_⟩;rw[nh,nh,h.1,h.2 j b a]
theorem jn_atL(hn:256<=x.length)(h32:l.length<=32):Jn (ai x l) ((atL l).foldl ai x)/\wd ((atL l).foldl ai x) 24=0:=by
 have hw:=fS l;have d:Jn x (ai x (lsE 32 (bM l))):=sZ λe a=>by
  have:=oh (bM l) 32 (n:=256) (by omega) e a;omega
 have c:∀(y:List Nat) (v:Nat),Jn y (ai y [⟨24,v⟩]):=λy v=>sZ λe a=>by rw[kqy] at a;subst a;exact .inl rfl
 refine⟨((d.trans (c _ _)).puts l).trans (c _ _),?_⟩;show wd (ai (ai (ai (ai x (lsE 32 (bM l))) [⟨24,cmW l⟩]) l) [⟨24,0⟩]) 24=0;obtain⟨y,b⟩:∃y,ai (ai (ai x (lsE 32 (bM l))) [⟨24,cmW l⟩]) l=y:=⟨_,rfl⟩;have hl:y.length=x.length:=by rw[<-b,au,au,au]
 rw[b];simp only[ai];rw[if_pos (show (0:Int)<=24/\(24:Int)<(y.length:Int) by omega)];unfold wd;rw[show (24:Int).toNat=24 from rfl,kz4 (by omega)];rfl
theorem Kn(h:ff d=true)(h0:l≠[])(h32:l.length<=32)(hi:mU d.im.length l)(hd:(atM d l).down=false):d.down=false/\Jn (ai (dvV d) l) (dvV (atM d l))/\wd (dvV (atM d l)) 24=0:=by rw[pV h0] at hd |-;obtain⟨a,b⟩:=rps_v _ h (wU (ie h) h32 hi) hd;rw[b];exact⟨a,jn_atL (by rw[kH];exact ie h) h32⟩
section
variable {ws xs:List Nat}
theorem Jn.hi(h:Jn ws xs)(j:Nat)(hj:96<=j):wd xs j=wd ws j:=h.2 j (by omega) (.inr hj)
theorem Jn.lo(h:Jn ws xs)(j:Nat)(hj:j<24):wd xs j=wd ws j:=h.2 j (by omega) (.inl (by omega))
theorem Jn.bl(h:Jn ws xs)(hi:96<=i):blocks xs i=blocks ws i:=ep h.1 i λj hj=>h.hi j (by omega)
theorem Jn.fit(h:Jn ws xs):dW xs=dW ws:=funext λb=>tJ h.hi b
theorem Jn.hp(h:Jn ws xs):aj xs=aj ws:=by unfold aj;rw[h.1,h.bl (by decide),h.fit]
theorem Jn.hpo(h:Jn ws xs):ah xs=ah ws:=by unfold ah;rw[h.hp,h.bl (by decide)]
theorem Jn.fr(h:Jn ws xs)(a:Int):cj xs a=cj ws a/\aT xs a=aT ws a:=by
 have e:cj xs a=cj ws a:=by
  unfold cj;rw[h.1];cases c:fm ws.length a
  .rw[h.bl (by have:=kn c;omega)]
  rfl
 refine⟨e,?_⟩;unfold aT;rw[e];by_cases b:cj ws a=0
 .rw[if_pos b,if_pos b,h.bl];unfold cj at b;split at b
  .cases c:fm ws.length a
   .have:=kn c;omega
   rw[c] at b;cases b
  cases b
 rw[if_neg b,if_neg b]
theorem Jn.nx(h:Jn ws xs)(a:Int):bt xs a=bt ws a/\iO xs a=iO ws a:=by unfold bt iO;rw[(h.fr a).1,(h.fr a).2];exact⟨rfl,rfl⟩
theorem IS(h:bj ws f s=0):128<=f.toNat:=by obtain⟨-,a,-⟩:=co h;simp only[gq,kzs,kqh] at a;omega
theorem Gw(h2:gq n f s=false):128<=f.toNat:=by simp only[gq,kzs,kqh] at h2;omega
theorem Jn.rd(h:Jn ws xs)(f s:Int):bj xs f s=bj ws f s/\iH xs f s=iH ws f s:=by
 have e:bj xs f s=bj ws f s:=by
  by_cases c:96<=f.toNat
  .exact wW h.1 h.hi c
  unfold bj;rw[h.1];cases b:gq ws.length f s
  .have:=Gw b;omega
  rfl
 refine⟨e,?_⟩;unfold iH;rw[e];by_cases a:bj ws f s=0
 .rw[if_pos a,if_pos a,h.bl (by have:=IS a;omega)]
 rw[if_neg a,if_neg a]
theorem Jn.pr(h:Jn ws xs):cP xs=cP ws:=by unfold cP ji;rw[h.1,h.lo 16 (by decide),h.lo 17 (by decide),h.lo 18 (by decide),h.lo 19 (by decide),h.lo 20 (by decide),h.lo 21 (by decide),h.lo 22 (by decide),h.lo 23 (by decide)]
theorem Jn.ln(h:Jn ws xs):cU xs=cU ws:=by unfold cU pu;rw[h.pr,h.lo 16 (by decide),h.lo 17 (by decide),h.bl (by decide),h.1]
theorem Jn.mdOk(h:Jn ws xs)(hi:96<=i):Proofs.YtpcajamacpbjcaaGreat.mdOk xs i=Proofs.YtpcajamacpbjcaaGreat.mdOk ws i:=by unfold Proofs.YtpcajamacpbjcaaGreat.mdOk dj;rw[h.hi i hi,h.hi (tyA (ap (wd ws i))) (by unfold tyA;omega),h.hi (tyA (ap (wd ws i))+1) (by unfold tyA;omega)]
theorem Jn.mvd(h:Jn ws xs)(t:Nat)(hi:96<=i):Proofs.YtpcajamacpbjcaaGreat.mvd xs i t=Proofs.YtpcajamacpbjcaaGreat.mvd ws i t:=by
 have a:∀f i,96<=i->vW xs f i t=vW ws f i t:=by
  intro f
  induction f with
  | zero=>intro i _;rfl
  | succ f ih =>intro i hi;unfold vW;rw[h.mdOk hi,show szAt xs i=szAt ws i by unfold szAt;rw[h.hi i hi],ih _ (by omega)]
 exact a _ _ hi
theorem Jn.ck(h:Jn ws xs):ax xs=ax ws:=by unfold ax;rw[h.ln,h.lo 16 (by decide),h.lo 17 (by decide),h.lo 18 (by decide),h.mvd _ (by decide),(h.rd _ _).1,(h.rd 128 128).1,h.hp]
theorem Jn.sl(h:Jn ws xs)(i:Nat):slAt xs i=slAt ws i:=by unfold slAt;rw[h.hi _ (by omega)]
theorem Jn.sls(h:Jn ws xs):slsOk xs=slsOk ws:=by unfold slsOk;rw[show (λi=>mX (slAt xs i))=λi=>mX (slAt ws i) from funext λi=>by rw[h.sl]]
theorem Jn.tb(h:Jn ws xs)(a:Nat):Proofs.YtpcajamacpbjcaaGreat.tb xs a=Proofs.YtpcajamacpbjcaaGreat.tb ws a:=by unfold Proofs.YtpcajamacpbjcaaGreat.tb;rw[h.1,h.hpo]
theorem Jn.flds(h:Jn ws xs){a:Nat}(ha:96<=a):Proofs.YtpcajamacpbjcaaGreat.flds xs a=Proofs.YtpcajamacpbjcaaGreat.flds ws a:=by unfold Proofs.YtpcajamacpbjcaaGreat.flds;rw[h.hi a ha,h.hi _ (by omega),h.hi _ (by omega)]
theorem tb_hp{a:Nat}(ht:Proofs.YtpcajamacpbjcaaGreat.tb ws a≠0):aj ws=0:=by
 by_cases h:aj ws=0
 .exact h
 exfalso;apply ht;unfold Proofs.YtpcajamacpbjcaaGreat.tb ah qR;rw[if_neg h,kvv,kke];split<;>rfl
theorem Jn.rch(h:Jn ws xs){a:Nat}(hr:Rch ws a):Rch xs a:=by
 induction hr with
 | slot i hi hu =>rw[<-h.sl];exact .slot i hi (by rw[h.sl];exact hu)
 | ref a i ha ht hi hv ih =>have b:=(iU (tb_hp ht) ht).1;have h128:=b.1;rw[<-h.hi (a+2+i) (by omega)] at hv |-;exact .ref a i ih (by rw[h.tb];exact ht) (by rw[h.flds (by omega)];exact hi) hv
theorem Jn.rchI(h:Jn ws xs)(a:Nat):Rch xs a↔Rch ws a:=⟨h.symm.rch,h.rch⟩
theorem Jn.good(h:Jn ws xs):qh xs↔qh ws:=by
 unfold qh;constructor
 .intro g a b;rw[<-h.tb];exact g a (h.rch b)
 intro g a b;rw[h.tb];exact g a ((h.rchI a).1 b)
theorem Jn.rc(h:Jn ws xs):aC xs=aC ws:=by
 unfold aC;rw[h.hp,h.sls];by_cases g:qh ws
 .rw[if_pos g,if_pos (h.good.2 g)]
 rw[if_neg g,if_neg λa=>g (h.good.1 a)]
theorem Jn.seen(h:Jn ws xs):seenL xs=seenL ws:=by unfold seenL;rw[h.1];refine kz5 λa _=>?_;exact decide_eq_decide.2 (h.rchI a)
theorem hp_ge{b:Bk}(hb:b∈ah ws):128<=b.at_.toNat:=by
 have c:aj ws=0:=by
  by_cases h:aj ws=0
  .exact h
  unfold ah at hb;rw[if_neg h] at hb;exact absurd hb (by simp)
 obtain⟨a,e,ha,-⟩:=(cr c).1 b hb;rw[e,af];omega
theorem Jn.wt(h:Jn ws xs):aW xs=aW ws:=by
 unfold aW;rw[h.rc,h.seen,h.hpo];split
 .refine kz5 λb a=>?_;unfold zD;rw[h.hi _ (by have:=hp_ge (qK a);omega)]
 rfl
theorem Jn.wn(h:Jn ws xs):aK xs=aK ws:=by unfold aK;rw[h.hp,h.hpo]
theorem Jn.fx(h:Jn ws xs):cH xs=cH ws/\fh xs=fh ws:=by
 have e:cH xs=cH ws:=by unfold cH;rw[h.hp,(h.rd 128 128).1]
 refine⟨e,?_⟩;unfold fh;rw[e,(h.rd 128 128).2]
theorem Jn.slFix(h:Jn ws xs)(m:List (Int × Int)):∀k,Proofs.YtpcajamacpbjcaaGreat.slFix xs m k=Proofs.YtpcajamacpbjcaaGreat.slFix ws m k:=by
 intro k
 induction k with
 | zero=>rfl
 | succ k ih =>unfold Proofs.YtpcajamacpbjcaaGreat.slFix;rw[ih,show il xs m k=il ws m k by unfold il;rw[h.sl,h.hi (112+k) (by omega)]]
theorem Jn.fs(h:Jn ws xs):eI xs=eI ws/\eC xs=eC ws:=by
 have e:eI xs=eI ws:=by unfold eI;rw[h.fx.1,h.fx.2,h.sls,h.slFix]
 refine⟨e,?_⟩;unfold eC;rw[e,h.fx.2,h.slFix]
theorem Jn.rfs(h:Jn ws xs)(b:Bk):fU xs b=fU ws b:=by unfold fU wL;rw[h.hi (tyA b) (by unfold tyA;omega),h.hi (tyA b+1) (by unfold tyA;omega)]
theorem I2{F:List Nat}{r:Int}(h:r∈rV F a j):a<=r:=by
 unfold rV at h;obtain⟨i,-,b⟩:=kj5.1 h;split at b
 .injection b with b;omega
 cases b
theorem Jn.ob(h:Jn ws xs)(a:Int):dR xs a=dR ws a/\cR xs a=cR ws a/\b8 xs a=b8 ws a:=by
 have e:∀b,aj ws=0->kz (aT ws 128) a=some b->∀M,dH xs M (fU ws b)=dH ws M (fU ws b):=λb c d M=>qj λr j=>by
  obtain⟨m,e1,i,l⟩:=Dc c d;have k:=I2 j;rw[i,af] at k;have:=l.1;exact h.hi _ (by omega)
 have f:cH ws=0->aj ws=0:=λg=>by
  unfold cH at g;split at g
  .assumption
  assumption
 refine⟨?_,?_,?_⟩
 .unfold dR;rw[h.fx.1,h.fx.2,(h.fr 128).2];by_cases c:cH ws=0
  .rw[if_pos c,if_pos c];cases d:kz (aT ws 128) a with
   | none=>rfl
   | some b=>dsimp only;rw[h.rfs,e b (f c) d]
  rw[if_neg c,if_neg c]
 .unfold cR;rw[h.fx.1,h.fx.2,(h.fr 128).2];by_cases c:cH ws=0
  .rw[if_pos c,if_pos c];cases d:kz (aT ws 128) a with
   | none=>rfl
   | some b=>dsimp only;rw[h.rfs,e b (f c) d]
  rw[if_neg c,if_neg c]
 unfold b8;rw[h.hp,(h.fr 128).2];split
 .cases kz (aT ws 128) a with
  | none=>rfl
  | some b=>exact h.rfs b
 rfl
theorem Jn.fixL(h:Jn ws xs):∀f a,Proofs.YtpcajamacpbjcaaGreat.fixL xs f a=Proofs.YtpcajamacpbjcaaGreat.fixL ws f a:=by
 intro f
 induction f with
 | zero=>intro a;rfl
 | succ f ih =>intro a;unfold Proofs.YtpcajamacpbjcaaGreat.fixL;rw[(h.nx a).1,(h.nx a).2,(h.ob _).1,(h.ob _).2.1,(h.ob _).2.2,ih]
theorem Jn.sgFix(h:Jn ws xs):Proofs.YtpcajamacpbjcaaGreat.sgFix xs=Proofs.YtpcajamacpbjcaaGreat.sgFix ws:=by unfold Proofs.YtpcajamacpbjcaaGreat.sgFix lA;rw[h.lo 17 (by decide),h.fs.1,h.fs.2,h.1,h.fixL]
theorem Jn.mv(h:Jn ws xs)(f t:Int):dY xs f t=dY ws f t/\jA xs f t=jA ws f t:=by
 have e:dY xs f t=dY ws f t:=by
  unfold dY;rw[(h.rd f t).1];by_cases a:bj ws f t=0
  .rw[if_pos a,if_pos a,h.bl (by have:=IS a;omega)]
  rw[if_neg a,if_neg a]
 refine⟨e,?_⟩;unfold jA;rw[e];by_cases a:dY ws f t=0
 .rw[if_pos a,if_pos a];have hg:128<=f.toNat:=by
   refine IS (ws:=ws) (s:=t) ?_;unfold dY at a;split at a
   .assumption
   assumption
  unfold kx szAt;rw[h.hi _ (show 96<=f.toNat by omega)];refine kz5 λj _=>?_;rw[h.hi (f.toNat+j) (by omega)]
 rw[if_neg a,if_neg a]
theorem Jn.sgSld(h:Jn ws xs):Proofs.YtpcajamacpbjcaaGreat.sgSld xs=Proofs.YtpcajamacpbjcaaGreat.sgSld ws:=by unfold Proofs.YtpcajamacpbjcaaGreat.sgSld;rw[h.lo 17 (by decide),h.lo 18 (by decide),(h.nx _).1,(h.nx _).2,(h.mv _ _).1,(h.mv _ _).2]
theorem Jn.sg(h:Jn ws xs):ag xs=ag ws:=by unfold ag;rw[h.ck,h.lo 16 (by decide),h.rc,h.wt,h.hp,h.wn,h.sgFix,h.sgSld]
theorem Jn.lf(h:Jn ws xs):lfN xs=lfN ws:=by unfold lfN hU;rw[h.ck,h.lo 16 (by decide),h.lo 17 (by decide),(h.fr _).2]
theorem Jn.en(h:Jn ws xs):dK xs=dK ws/\dp xs=dp ws:=by
 have e:dK xs=dK ws:=by unfold dK;rw[h.ck,h.lo 16 (by decide),h.lf]
 refine⟨e,?_⟩;unfold dp fp;rw[e,h.lo 18 (by decide),h.1]
theorem Jn.next(h:Jn ws xs):de xs=de ws:=by unfold de;rw[h.sg,h.lo 16 (by decide),h.en.1,h.en.2]
end
structure DvLt (d:Dv):Prop where
 im:∀v∈d.im,v<18446744073709551616
 dw:∀e∈d.dw,e.v<18446744073709551616
theorem Hr{v B:Nat}(h:∀u∈x,u<B)(hv:v<B):∀u∈x.set i v,u<B:=λu b=>by
 rcases List.mem_or_eq_of_mem_set b with a|a
 .exact h u a
 .rw[a];exact hv
theorem Cz:∀(l:List Dw) (x:List Nat),(∀v∈x,v<18446744073709551616)->(∀e∈l,e.v<18446744073709551616)->∀v∈kV x l,v<18446744073709551616:=by
 intro l
 induction l with
 | nil=>intro x h _;exact h
 | cons e l ih=>intro x h a;exact ih _ (Hr h (a e (by simp))) λy b=>a y (by simp[b])
theorem DvLt.v(h:DvLt d):∀v∈dvV d,v<18446744073709551616:=Cz _ _ h.im h.dw
theorem AK{v:Nat}:∀ {l:List Dw} {e:Dw},e∈stQ l a v->e∈l\/e=⟨a,v,false⟩:=by
 intro l
 induction l with
 | nil=>intro e b;exact .inr (by simpa [stQ] using b)
 | cons x l ih =>
  intro e b;unfold stQ at b;split at b
  .rcases kqw.1 b with rfl|b
   .exact .inl (by simp)
   rcases ih b with h|h
   .exact .inl (by simp[h])
   exact .inr h
  split at b
  .rcases kqw.1 b with rfl|b
   .exact .inr rfl
   exact .inl (by simp[b])
  rcases kqw.1 b with rfl|b
  .exact .inr rfl
  exact .inl b
theorem DvLt.st(h:DvLt d){v:Nat}(hv:v<18446744073709551616):DvLt (dvS d a v):=by
 unfold dvS dvD;split
 .exact ⟨h.im,h.dw⟩
 exact⟨h.im,λe c=>by
  rcases AK c with b|rfl
  .exact h.dw e b
  exact hv⟩
theorem DvLt.fl(h:DvLt d):DvLt (dvF d a):=by
 unfold dvF dvD;split
 .exact ⟨h.im,h.dw⟩
 refine⟨h.im,λe b=>?_⟩;obtain⟨y,c,rfl⟩:=kzx.1 b;rw[(tD a y).2];exact h.dw y c
theorem DvLt.fn(h:DvLt d):DvLt (dvN d):=by
 unfold dvN dvD;split
 .exact ⟨h.im,h.dw⟩
 exact⟨Cz _ _ h.im λe a=>h.dw e ((kzu.1 a).1),λe a=>h.dw e ((kzu.1 a).1)⟩
theorem DvLt.sts:∀(l:List En) {d:Dv},DvLt d->(∀e∈l,e.v<18446744073709551616)->DvLt (o8 d l):=by
 intro l
 induction l with
 | nil=>intro d h _;exact h
 | cons e l ih=>intro d h b;exact ih (d:=dvS d e.a e.v) (h.st (b e (by simp))) λy c=>b y (by simp[c])
theorem DvLt.fls(h:DvLt d):∀k,DvLt (lK ad d k):=by
 intro k
 induction k with
 | zero=>exact h
 | succ k ih =>
  unfold lK;split
  .exact ih.fl
  exact ih
theorem DvLt.rp(h:DvLt d)(he:∀e∈l,e.v<18446744073709551616):DvLt (rpP d l):=((h.sts l he).fls _).fn
theorem GT:∀(l:List Nat) (a:Int),(∀v∈l,v<18446744073709551616)->∀e∈lsE a l,e.v<18446744073709551616:=by
 intro l
 induction l with
 | nil=>intro a _ e b;exact absurd b (by simp[lsE])
 | cons v l ih =>
  intro a h e b;simp only[lsE,kqw] at b;rcases b with rfl|b
  .exact h v (by simp)
  exact ih _ (λy c=>h y (by simp[c])) e b
theorem Hl(h:l.length<=32):cmW l<18446744073709551616:=by unfold cmW;have:=kz0 (a8 14695981039346656037 (bM l)) (show 0<288230376151711744 by decide);omega
theorem Az(h:∀e∈l,e.a<2048/\e.v<18446744073709551616):∀x∈bM l,x<18446744073709551616:=by
 induction l with
 | nil=>intro x b;exact absurd b (by simp[bM])
 | cons e l ih =>
  intro x b;have c:=h e (by simp);simp only[bM,kqw] at b;rcases b with rfl|rfl|b
  .omega
  .exact c.2
  exact ih (λy d=>h y (by simp[d])) x b
theorem DvLt.at_(h:DvLt d)(h32:l.length<=32)(he:∀e∈l,e.a<2048/\e.v<18446744073709551616):DvLt (atM d l):=by
 unfold atM;split
 .exact h
 refine (((h.rp (GT _ _ (Az he))).rp λe b=>?_).rp λe b=>(he e b).2).rp λe b=>?_
 .rw[kqy] at b;subst b;exact Hl h32
 rw[kqy] at b;subst b;decide
def CA:List (List En)->Dv->Dv × Int
 | [],d=>(d,0)
 | l::L,d=>if (atM d l).down=true then (atM d l,60) else CA L (atM d l)
def dvZ:Dv:=⟨[],[],0,false⟩
noncomputable def coR (d:Dv):Dv × Int:=if fC d=0 then (if d.down=true then (dvZ,60) else if bT (dvV d)=0 then CA (coL (dvV d)) d else (dvZ,bT (dvV d))) else (dvZ,8)
theorem AR(h:l.Pairwise (λa b=>a.a<b.a)){n:Int}(hi:∀e∈l,Ef e.a n=true):∀k,k<=l.length->eN (av l) n k=true:=by
 intro k
 induction k with
 | zero=>intro _;rfl
 | succ k ih =>
  intro hk;refine qb (ih (by omega)) ?_ ?_
  .rw[d7 l k (by omega)];exact hi _ (kqn _)
  rw[d7 l k (by omega)];have c:∀j,j<=k->cc (av l) (l[k]).a j=false:=by
   intro j
   induction j with
   | zero=>intro _;rfl
   | succ j ih2 =>intro hj;unfold cc;rw[ih2 (by omega),kvk,kqi,d7 l j (by omega)];have:=kzj.1 h j k (by omega) (by omega) (by omega);omega
  exact c k (kqa _)
theorem Small.ent(h:Small n l)(hs:ak (n:Int)=true):dL (av l) (n:Int)=0:=by refine oy hs (by rw[aU];exact h.le) ?_;rw[aU];exact AR h.inc (λe a=>(rA _ _).2 (by have:=h.ins e a;omega)) _ (kqa _)
theorem Small.eok(h:Small n l)(hn:n<=2048):∀e∈l,e.ok:=λe a=>by have h1:=h.ins e a;have h2:=h.val e a;unfold En.ok;omega
theorem Small.in_(h:Small n l):mU n l:=λe a=>by have:=h.ins e a;omega
theorem Small.ne(h:Small n l):l≠[]:=λe=>by have:=h.pos;rw[e] at this;simp at this
structure RnAt (n:Nat) (x0 y:List Nat) (d:Dv) (E:List En) (outs:List (List En)):Prop where
 ok:ff d=true
 lt:DvLt d
 up:d.down=false
 len:d.im.length=n
 small:Small n E
 w24:wd (dvV d) 24=0
 way:∃x,Jn x (dvV d)/\(∀v∈ai x E,v<18446744073709551616)/\rsE (ai x E)=(0,outs,y)/\(x=x0\/(∀v∈x,v<18446744073709551616)/\rsE x=(0,E::outs,y))
section
variable {n:Nat} {x0 y:List Nat} {d:Dv} {E E2:List En} {outs:List (List En)}
theorem RnAt.err(h:RnAt n x0 y d E outs):atErr d E=0:=by unfold atErr;have a:=((bP d).1 h.ok).1;rw[if_pos (kq h.ok),if_pos (by rw[h.len] at a |-;exact h.small.ent a),if_pos h.w24]
theorem RnAt.size(h:RnAt n x0 y d E outs):ak (n:Int)=true:=by rw[<-h.len];exact ((bP d).1 h.ok).1
theorem RnAt.made(h:RnAt n x0 y d E outs):ff (atM d E)=true/\DvLt (atM d E)/\(atM d E).im.length=n:=by have hs:=(ab _).1 h.size;refine⟨atM_ok h.ok h.small.le (by rw[h.len];exact h.small.in_),h.lt.at_ h.small.le λe a=>⟨?_,h.small.val e a⟩,by rw[Kb,h.len]⟩;have:=h.small.ins e a;omega
theorem zG{z y:List Nat}(ho:∀v∈z,v<18446744073709551616)(h:rsE z=(0,[],y)):z=y/\de z=(0,true,[]):=by
 obtain⟨c,b,a⟩:=uG ho h;have e:z=y:=c;rw[<-e] at b a;refine⟨e,?_⟩;unfold de at b a |-;split at a
 .rename_i c1;rw[if_pos c1] at b |-;split at a
  .rename_i c2;rw[if_pos c2]
  cases a
 cases a
theorem RnAt.done(h:RnAt n x0 y d E [])(hd:(atM d E).down=false):de (dvV (atM d E))=(0,true,[]):=by obtain⟨x,b,a,c,-⟩:=h.way;obtain⟨-,e,-⟩:=Kn h.ok h.small.ne h.small.le (by rw[h.len];exact h.small.in_) hd;rw[((b.puts E).trans e).next];exact (zG a c).2
theorem RnAt.step(h:RnAt n x0 y d E (E2::outs))(hd:(atM d E).down=false):de (dvV (atM d E))=(0,false,E2)/\RnAt n x0 y (atM d E) E2 outs:=by
 obtain⟨x,f,c,g,-⟩:=h.way;obtain⟨-,p,m⟩:=Kn h.ok h.small.ne h.small.le (by rw[h.len];exact h.small.in_) hd;have e:=(f.puts E).trans p;obtain⟨b,l⟩:=qI c g;have a:=rY c (by rw[b]) (by rw[b]);rw[b] at a;have i:(ai x E).length=n:=by rw[au,<-f.1,kH,h.len]
 rw[i] at a;obtain⟨k,o,j⟩:=h.made;exact⟨by rw[e.next,b],k,o,hd,j,a.1,m,ai x E,e,a.2.1,l,.inr ⟨c,g⟩⟩
end
theorem vh(hok:ff d=true)(hlt:DvLt d)(hup:d.down=false)(h0:bT (dvV d)=0)(h24:wd (dvV d) 24=0):RnAt d.im.length (dvV d) (cpZ (dvV d)) d [⟨16,1⟩] (rsE (dI (dvV d))).2.1:=by
 obtain⟨b,c⟩:=gO h0;obtain⟨t,g⟩:=se c;have h:=g.all hlt.v;have f:=gi (kC hlt.v) h;rw[kH] at b;have hb:=(ab _).1 b;refine⟨hok,hlt,hup,rfl,⟨by decide,by decide,by simp,λe a=>?_,λe a=>?_⟩,h24,dvV d,Jn.refl _,kC hlt.v,?_,.inl rfl⟩
 .rw[kqy] at a;subst a;dsimp only;omega
 .rw[kqy] at a;subst a;decide
 exact f.2.1
theorem G9(hok:ff d=true)(hup:d.down=false)(h0:bT (dvV d)=0):coR d=CA ([⟨16,1⟩]::(rsE (dI (dvV d))).2.1) d:=by unfold coR;rw[if_pos (kq hok),hup,if_neg (by simp),if_pos h0];unfold coL;rw[if_pos h0]
end Go.Proofs.YtpcajamacpbjcaaGreat
