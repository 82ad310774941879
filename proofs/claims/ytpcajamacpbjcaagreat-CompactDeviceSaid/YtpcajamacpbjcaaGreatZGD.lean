/- Devices: what operations and changes do to all words. Plain. -/
import Derived.Test.YtpcajamacpbjcaaGreatZGA
import Derived.Test.YtpcajamacpbjcaaGreatZKStg1
import Derived.Test.YtpcajamacpbjcaaGreatZKCp1
import Derived.Test.YtpcajamacpbjcaaGreatZKRs
import Derived.Test.YtpcajamacpbjcaaGreatZKCo
set_option maxHeartbeats 16000000
set_option linter.all false
namespace Go.Proofs.YtpcajamacpbjcaaGreat
open Go.RowKit
variable {d:Dv}{a f s:Int}{l:List En}{ad:List Int}{b x:List Nat}{i j n:Nat}
theorem qp:∀(l:List Dw) (x:List Nat) (i v:Nat),(∀e∈l,e.a.toNat≠i)->ku (x.set i v) l=(ku x l).set i v:=by
 intro l
 induction l with
 | nil=>intro x i v _;rfl
 | cons e l ih =>intro x i v h;show ku ((x.set i v).set e.a.toNat e.v) l=(ku (x.set e.a.toNat e.v) l).set i v;rw[List.set_comm _ _ (Ne.symm (h e (by simp))),ih _ _ _ λy b=>h y (by simp[b])]
theorem Jb{v:Nat}:∀ {l:List Dw} {b:Int} (x:List Nat),iM n l b=true -> -1<=b->b<a->ku x (stQ l a v)=(ku x l).set a.toNat v:=by
 intro l
 induction l with
 | nil=>intro b x _ _ _;rfl
 | cons e l ih =>
  intro b x h hb hba;have hm:=fS h;simp only[iM,kqt,kzc] at h;have g:=fS h.2.2;unfold stQ;by_cases f:e.a<a
  .rw[if_pos f];exact ih (x.set e.a.toNat e.v) h.2.2 (by omega) f
  rw[if_neg f];by_cases d:e.a=a
  .rw[if_pos d];show ku (x.set a.toNat v) l=(ku (x.set e.a.toNat e.v) l).set a.toNat v;rw[<-qp l _ _ _ λy c=>by have:=g y c;omega,d,List.set_set]
  rw[if_neg d];show ku (x.set a.toNat v) (e::l)=(ku x (e::l)).set a.toNat v;exact qp _ _ _ _ λy c=>by
   rcases kqx.1 c with rfl|c
   .omega
   have:=g y c;omega
theorem sw(a:Int)(e:Dw):(flB a e).a=e.a/\(flB a e).v=e.v:=by unfold flB;split<;>exact⟨rfl,rfl⟩
theorem Il(a:Int):∀(l:List Dw) (x:List Nat),ku x (flQ a l)=ku x l:=by
 intro l
 induction l with
 | nil=>intro x;rfl
 | cons e l ih =>intro x;show ku (x.set (flB a e).a.toNat (flB a e).v) (flQ a l)=_;rw[(sw a e).1,(sw a e).2,ih];rfl
theorem IW :∀ {l:List Dw} {b:Int} (x:List Nat),iM n l b=true -> -1<=b->ku (fnI x l) (fnQ l)=ku x l:=by
 intro l
 induction l with
 | nil=>intro b x _ _;rfl
 | cons e l ih =>
  intro b x h hb;simp only[iM,kqt,kzc] at h;have g:=fS h.2.2;have d:=ih (x.set e.a.toNat e.v) h.2.2 (by omega);unfold fnI fnQ at d |-;cases c:e.f with
  | true =>rw[kk7 c,List.filter_cons_of_neg (by simp[c])];exact d
  | false =>rw[List.filter_cons_of_neg (by simp[c]),kk7 (by simp[c])];show ku ((ku x (l.filter (·.f))).set e.a.toNat e.v) _=ku (x.set e.a.toNat e.v) l;rw[<-d,qp (l.filter (·.f)) _ _ _ λy i=>by have:=g y (kzp.1 i).1;omega]
theorem dvS_v{v:Nat}(h:eY d=true)(h0:0<=a)(hd:(dvS d a v).down=false):d.down=false/\dvV (dvS d a v)=(dvV d).set a.toNat v:=by
 unfold dvS at hd |-;by_cases b:d.left=0
 .rw[if_pos b] at hd;cases hd
 rw[if_neg b] at hd |-;exact⟨hd,Jb d.im ((bM d).1 h).2.2.2.2 (by omega) (by omega)⟩
theorem dvF_v(hd:(dvF d a).down=false):d.down=false/\dvV (dvF d a)=dvV d:=by
 unfold dvF at hd |-;by_cases b:d.left=0
 .rw[if_pos b] at hd;cases hd
 rw[if_neg b] at hd |-;exact⟨hd,Il a _ _⟩
theorem dvN_v(h:eY d=true)(hd:(dvN d).down=false):d.down=false/\dvV (dvN d)=dvV d:=by
 unfold dvN at hd |-;by_cases a:d.left=0
 .rw[if_pos a] at hd;cases hd
 rw[if_neg a] at hd |-;exact⟨hd,IW _ ((bM d).1 h).2.2.2.2 (by omega)⟩
theorem j9(d:Dv):(dvV d).length=d.im.length:=mF _ _
def mg (n:Nat) (l:List En):Prop:=∀e∈l,0<=e.a/\e.a<(n:Int)
theorem dvSs_v:∀(l:List En) {d:Dv},eY d=true->mg d.im.length l->(ou d l).down=false->d.down=false/\dvV (ou d l)=ak (dvV d) l:=by
 intro l
 induction l with
 | nil=>intro d _ _ c;exact⟨c,rfl⟩
 | cons e l ih =>intro d h f c;have b:=f e (by simp);obtain⟨i,k⟩:=ih (d:=dvS d e.a e.v) (uM h b.1 b.2) (λx g=>by rw[sR];exact f x (by simp[g])) c;obtain⟨m,j⟩:=dvS_v h b.1 i;refine⟨m,?_⟩;show dvV (ou (dvS d e.a e.v) l)=_;rw[k,j];simp only[ak];rw[if_pos (by rw[j9];exact b)]
theorem dvFs_v :∀k,(ld ad d k).down=false->d.down=false/\dvV (ld ad d k)=dvV d:=by
 intro k
 induction k with
 | zero=>intro a;exact⟨a,rfl⟩
 | succ k ih =>
  unfold ld;split
  .intro a;obtain⟨f,b⟩:=dvF_v a;obtain⟨c,e⟩:=ih f;exact⟨c,b.trans e⟩
  exact ih
theorem rpP_v(h:eY d=true)(hi:mg d.im.length l)(hd:(rpP d l).down=false):d.down=false/\dvV (rpP d l)=ak (dvV d) l:=by unfold rpP at hd |-;obtain⟨g,a⟩:=dvN_v (kn (lQ l h hi) _) hd;obtain⟨e,f⟩:=dvFs_v _ g;obtain⟨b,c⟩:=dvSs_v l h hi e;exact⟨b,by rw[a,f,c]⟩
theorem vk:∀(l:List Nat) (a:Nat) {n:Nat},a+l.length<=n->∀e∈lsE (a:Int) l,(a:Int)<=e.a/\e.a<((a+l.length:Nat):Int)/\e.a<(n:Int):=by
 intro l
 induction l with
 | nil=>intro a n _ e b;exact absurd b (by simp[lsE])
 | cons v l ih =>
  intro a n h e b;rw[kq0] at h;simp only[lsE,kqx] at b;rcases b with rfl|b
  .dsimp only;rw[kq0];omega
  have:=ih (a+1) (n:=n) (by omega) e (by exact_mod_cast b);rw[kq0];omega
def atL (l:List En):List (List En):=[lsE 32 (cE l),[⟨24,cmW l⟩],l,[⟨24,0⟩]]
theorem pO(h:l≠[]):atM d l=(atL l).foldl rpP d:=by unfold atM atL;rw[if_neg h];simp only[kx1,kvw]
theorem vY(hn:256<=n)(h32:l.length<=32)(hi:mg n l):∀E∈atL l,mg n E:=by
 intro E b;have hw:=ij l;simp only[atL,kqx,kzf,or_false] at b;rcases b with rfl|rfl|rfl|rfl
 .intro e a;have:=vk (cE l) 32 (n:=n) (by omega) e a;omega
 .intro e a;rw[kq1] at a;subst a;dsimp only;omega
 .exact hi
 intro e a;rw[kq1] at a;subst a;dsimp only;omega
theorem Ic:∀(L:List (List En)) (d:Dv),(L.foldl rpP d).im.length=d.im.length:=by
 intro L
 induction L with
 | nil=>intro d;rfl
 | cons l L ih=>intro d;rw[kx1,ih,lD]
theorem rps_ok:∀(L:List (List En)) {d:Dv},eY d=true->(∀E∈L,mg d.im.length E)->eY (L.foldl rpP d)=true:=by
 intro L
 induction L with
 | nil=>intro d h _;exact h
 | cons l L ih =>intro d h a;rw[kx1];exact ih (ph h (a l (by simp))) λE b=>by rw[lD];exact a E (by simp[b])
theorem rps_v:∀(L:List (List En)) {d:Dv},eY d=true->(∀E∈L,mg d.im.length E)->(L.foldl rpP d).down=false->d.down=false/\dvV (L.foldl rpP d)=L.foldl ak (dvV d):=by
 intro L
 induction L with
 | nil=>intro d _ _ a;exact⟨a,rfl⟩
 | cons l L ih =>intro d h b a;rw[kx1] at a |-;obtain⟨i,e⟩:=ih (ph h (b l (by simp))) (λE c=>by rw[lD];exact b E (by simp[c])) a;obtain⟨f,g⟩:=rpP_v h (b l (by simp)) i;exact⟨f,by rw[e,g];rfl⟩
theorem IN(d:Dv)(l:List En):(atM d l).im.length=d.im.length:=by
 by_cases h:l=[]
 .unfold atM;rw[if_pos h]
 rw[pO h,Ic]
theorem kU(h:eY d=true):256<=d.im.length:=by have:=(aa _).1 ((bM d).1 h).1;omega
theorem atM_ok(h:eY d=true)(h32:l.length<=32)(hi:mg d.im.length l):eY (atM d l)=true:=by
 by_cases a:l=[]
 .unfold atM;rw[if_pos a];exact h
 rw[pO a];exact rps_ok _ h (vY (kU h) h32 hi)
def Jn (ws xs:List Nat):Prop:=xs.length=ws.length/\∀j,j≠24->(j<32\/96<=j)->wd xs j=wd ws j
theorem Jn.refl(ws:List Nat):Jn ws ws:=⟨rfl,λ_ _ _=>rfl⟩
theorem Jn.trans{a c:List Nat}(h:Jn a b)(g:Jn b c):Jn a c:=⟨g.1.trans h.1,λj d e=>(g.2 j d e).trans (h.2 j d e)⟩
theorem Jn.symm{a:List Nat}(h:Jn a b):Jn b a:=⟨h.1.symm,λj c d=>(h.2 j c d).symm⟩
theorem Gn{E:List En}(h:∀e∈E,e.a=24\/32<=e.a/\e.a<96):Jn x (ak x E):=⟨ax _ _,λj h1 hj=>aU _ _ _ λe b=>by have:=h e b;omega⟩
theorem vi{c:Prop}[Decidable c]{v:Nat}:wd (if c then x.set i v else x) j=if c/\i=j/\j<x.length then v else wd x j:=by
 by_cases h:c
 .rw[if_pos h];by_cases e:i=j
  .subst e;by_cases a:i<x.length
   .rw[if_pos ⟨h,rfl,a⟩];unfold wd;rw[kz7 a];rfl
   rw[if_neg (λh=>a h.2.2)];unfold wd;rw[List.getElem?_set_self'];simp[a]
  rw[if_neg (λh=>e h.2.1)];unfold wd;rw[kjc e]
 rw[if_neg h,if_neg (λg=>h g.1)]
theorem Jn.puts:∀(E:List En) {ws xs:List Nat},Jn ws xs->Jn (ak ws E) (ak xs E):=by
 intro E
 induction E with
 | nil=>intro ws xs h;exact h
 | cons e E ih =>intro ws xs h;simp only[ak];refine ih ⟨by have:=h.1;split<;>split<;>simp[this],λj b a=>?_⟩;rw[vi,vi,h.1,h.2 j b a]
theorem jn_atL(hn:256<=x.length)(h32:l.length<=32):Jn (ak x l) ((atL l).foldl ak x)/\wd ((atL l).foldl ak x) 24=0:=by
 have hw:=ij l;have d:Jn x (ak x (lsE 32 (cE l))):=Gn λe a=>by
  have:=vk (cE l) 32 (n:=256) (by omega) e a;omega
 have b:∀(y:List Nat) (v:Nat),Jn y (ak y [⟨24,v⟩]):=λy v=>Gn λe a=>by rw[kq1] at a;subst a;exact .inl rfl
 refine⟨((d.trans (b _ _)).puts l).trans (b _ _),?_⟩;show wd (ak (ak (ak (ak x (lsE 32 (cE l))) [⟨24,cmW l⟩]) l) [⟨24,0⟩]) 24=0;obtain⟨y,c⟩:∃y,ak (ak (ak x (lsE 32 (cE l))) [⟨24,cmW l⟩]) l=y:=⟨_,rfl⟩;have hl:y.length=x.length:=by rw[<-c,ax,ax,ax]
 rw[c];simp only[ak];rw[if_pos (show (0:Int)<=24/\(24:Int)<(y.length:Int) by omega)];unfold wd;rw[show (24:Int).toNat=24 from rfl,kz7 (by omega)];rfl
theorem JI(h:eY d=true)(h0:l≠[])(h32:l.length<=32)(hi:mg d.im.length l)(hd:(atM d l).down=false):d.down=false/\Jn (ak (dvV d) l) (dvV (atM d l))/\wd (dvV (atM d l)) 24=0:=by rw[pO h0] at hd |-;obtain⟨b,a⟩:=rps_v _ h (vY (kU h) h32 hi) hd;rw[a];exact⟨b,jn_atL (by rw[j9];exact kU h) h32⟩
section
variable {ws xs:List Nat}
theorem Jn.hi(h:Jn ws xs)(j:Nat)(hj:96<=j):wd xs j=wd ws j:=h.2 j (by omega) (.inr hj)
theorem Jn.lo(h:Jn ws xs)(j:Nat)(hj:j<24):wd xs j=wd ws j:=h.2 j (by omega) (.inl (by omega))
theorem Jn.bl(h:Jn ws xs)(hi:96<=i):blocks xs i=blocks ws i:=dX h.1 i λj hj=>h.hi j (by omega)
theorem Jn.fit(h:Jn ws xs):dK xs=dK ws:=funext λb=>sA h.hi b
theorem Jn.hp(h:Jn ws xs):ah xs=ah ws:=by unfold ah;rw[h.1,h.bl (by decide),h.fit]
theorem Jn.hpo(h:Jn ws xs):af xs=af ws:=by unfold af;rw[h.hp,h.bl (by decide)]
theorem Jn.fr(h:Jn ws xs)(a:Int):cc xs a=cc ws a/\aQ xs a=aQ ws a:=by
 have e:cc xs a=cc ws a:=by
  unfold cc;rw[h.1];cases c:fe ws.length a
  .rw[h.bl (by have:=jL c;omega)]
  rfl
 refine⟨e,?_⟩;unfold aQ;rw[e];by_cases b:cc ws a=0
 .rw[if_pos b,if_pos b,h.bl];unfold cc at b;split at b
  .cases c:fe ws.length a
   .have:=jL c;omega
   rw[c] at b;cases b
  cases b
 rw[if_neg b,if_neg b]
theorem Jn.nx(h:Jn ws xs)(a:Int):bj xs a=bj ws a/\iK xs a=iK ws a:=by unfold bj iK;rw[(h.fr a).1,(h.fr a).2];exact⟨rfl,rfl⟩
theorem GT(h:bh ws f s=0):128<=f.toNat:=by obtain⟨-,a,-⟩:=cj h;simp only[fU,kzn,kqc] at a;omega
theorem Eg(h2:fU n f s=false):128<=f.toNat:=by simp only[fU,kzn,kqc] at h2;omega
theorem Jn.rd(h:Jn ws xs)(f s:Int):bh xs f s=bh ws f s/\iB xs f s=iB ws f s:=by
 have e:bh xs f s=bh ws f s:=by
  by_cases c:96<=f.toNat
  .exact vv h.1 h.hi c
  unfold bh;rw[h.1];cases b:fU ws.length f s
  .have:=Eg b;omega
  rfl
 refine⟨e,?_⟩;unfold iB;rw[e];by_cases a:bh ws f s=0
 .rw[if_pos a,if_pos a,h.bl (by have:=GT a;omega)]
 rw[if_neg a,if_neg a]
theorem Jn.pr(h:Jn ws xs):cK xs=cK ws:=by unfold cK jd;rw[h.1,h.lo 16 (by decide),h.lo 17 (by decide),h.lo 18 (by decide),h.lo 19 (by decide),h.lo 20 (by decide),h.lo 21 (by decide),h.lo 22 (by decide),h.lo 23 (by decide)]
theorem Jn.ln(h:Jn ws xs):cP xs=cP ws:=by unfold cP oG;rw[h.pr,h.lo 16 (by decide),h.lo 17 (by decide),h.bl (by decide),h.1]
theorem Jn.mdOk(h:Jn ws xs)(hi:96<=i):Proofs.YtpcajamacpbjcaaGreat.mdOk xs i=Proofs.YtpcajamacpbjcaaGreat.mdOk ws i:=by unfold Proofs.YtpcajamacpbjcaaGreat.mdOk cZ;rw[h.hi i hi,h.hi (tyA (aq (wd ws i))) (by unfold tyA;omega),h.hi (tyA (aq (wd ws i))+1) (by unfold tyA;omega)]
theorem Jn.mvd(h:Jn ws xs)(t:Nat)(hi:96<=i):Proofs.YtpcajamacpbjcaaGreat.mvd xs i t=Proofs.YtpcajamacpbjcaaGreat.mvd ws i t:=by
 have a:∀f i,96<=i->uw xs f i t=uw ws f i t:=by
  intro f
  induction f with
  | zero=>intro i _;rfl
  | succ f ih =>intro i hi;unfold uw;rw[h.mdOk hi,show szAt xs i=szAt ws i by unfold szAt;rw[h.hi i hi],ih _ (by omega)]
 exact a _ _ hi
theorem Jn.ck(h:Jn ws xs):az xs=az ws:=by unfold az;rw[h.ln,h.lo 16 (by decide),h.lo 17 (by decide),h.lo 18 (by decide),h.mvd _ (by decide),(h.rd _ _).1,(h.rd 128 128).1,h.hp]
theorem Jn.sl(h:Jn ws xs)(i:Nat):slAt xs i=slAt ws i:=by unfold slAt;rw[h.hi _ (by omega)]
theorem Jn.sls(h:Jn ws xs):slsOk xs=slsOk ws:=by unfold slsOk;rw[show (λi=>mJ (slAt xs i))=λi=>mJ (slAt ws i) from funext λi=>by rw[h.sl]]
theorem Jn.tb(h:Jn ws xs)(a:Nat):Proofs.YtpcajamacpbjcaaGreat.tb xs a=Proofs.YtpcajamacpbjcaaGreat.tb ws a:=by unfold Proofs.YtpcajamacpbjcaaGreat.tb;rw[h.1,h.hpo]
theorem Jn.flds(h:Jn ws xs){a:Nat}(ha:96<=a):Proofs.YtpcajamacpbjcaaGreat.flds xs a=Proofs.YtpcajamacpbjcaaGreat.flds ws a:=by unfold Proofs.YtpcajamacpbjcaaGreat.flds;rw[h.hi a ha,h.hi _ (by omega),h.hi _ (by omega)]
theorem tb_hp{a:Nat}(ht:Proofs.YtpcajamacpbjcaaGreat.tb ws a≠0):ah ws=0:=by
 by_cases h:ah ws=0
 .exact h
 exfalso;apply ht;unfold Proofs.YtpcajamacpbjcaaGreat.tb af qu;rw[if_neg h,kvw,kka];split<;>rfl
theorem Jn.rch(h:Jn ws xs){a:Nat}(hr:Rch ws a):Rch xs a:=by
 induction hr with
 | slot i hi hu =>rw[<-h.sl];exact .slot i hi (by rw[h.sl];exact hu)
 | ref a i ha ht hi hv ih =>have b:=(iH (tb_hp ht) ht).1;have h128:=b.1;rw[<-h.hi (a+2+i) (by omega)] at hv |-;exact .ref a i ih (by rw[h.tb];exact ht) (by rw[h.flds (by omega)];exact hi) hv
theorem Jn.rchI(h:Jn ws xs)(a:Nat):Rch xs a↔Rch ws a:=⟨h.symm.rch,h.rch⟩
theorem Jn.good(h:Jn ws xs):pd xs↔pd ws:=by
 unfold pd;constructor
 .intro g a b;rw[<-h.tb];exact g a (h.rch b)
 intro g a b;rw[h.tb];exact g a ((h.rchI a).1 b)
theorem Jn.rc(h:Jn ws xs):aC xs=aC ws:=by
 unfold aC;rw[h.hp,h.sls];by_cases g:pd ws
 .rw[if_pos g,if_pos (h.good.2 g)]
 rw[if_neg g,if_neg λa=>g (h.good.1 a)]
theorem Jn.seen(h:Jn ws xs):seenL xs=seenL ws:=by unfold seenL;rw[h.1];refine kz2 λa _=>?_;exact decide_eq_decide.2 (h.rchI a)
theorem hp_ge{b:Bk}(hb:b∈af ws):128<=b.at_.toNat:=by
 have c:ah ws=0:=by
  by_cases h:ah ws=0
  .exact h
  unfold af at hb;rw[if_neg h] at hb;exact absurd hb (by simp)
 obtain⟨a,e,ha,-⟩:=(ch c).1 b hb;rw[e,ab];omega
theorem Jn.wt(h:Jn ws xs):aK xs=aK ws:=by
 unfold aK;rw[h.rc,h.seen,h.hpo];split
 .refine kz2 λb a=>?_;unfold yE;rw[h.hi _ (by have:=hp_ge (qi a);omega)]
 rfl
theorem Jn.wn(h:Jn ws xs):ay xs=ay ws:=by unfold ay;rw[h.hp,h.hpo]
theorem Jn.fx(h:Jn ws xs):cu xs=cu ws/\eW xs=eW ws:=by
 have e:cu xs=cu ws:=by unfold cu;rw[h.hp,(h.rd 128 128).1]
 refine⟨e,?_⟩;unfold eW;rw[e,(h.rd 128 128).2]
theorem Jn.slFix(h:Jn ws xs)(m:List (Int × Int)):∀k,Proofs.YtpcajamacpbjcaaGreat.slFix xs m k=Proofs.YtpcajamacpbjcaaGreat.slFix ws m k:=by
 intro k
 induction k with
 | zero=>rfl
 | succ k ih =>unfold Proofs.YtpcajamacpbjcaaGreat.slFix;rw[ih,show gM xs m k=gM ws m k by unfold gM;rw[h.sl,h.hi (112+k) (by omega)]]
theorem Jn.fs(h:Jn ws xs):dZ xs=dZ ws/\dL xs=dL ws:=by
 have e:dZ xs=dZ ws:=by unfold dZ;rw[h.fx.1,h.fx.2,h.sls,h.slFix]
 refine⟨e,?_⟩;unfold dL;rw[e,h.fx.2,h.slFix]
theorem Jn.rfs(h:Jn ws xs)(b:Bk):fj xs b=fj ws b:=by unfold fj r8;rw[h.hi (tyA b) (by unfold tyA;omega),h.hi (tyA b+1) (by unfold tyA;omega)]
theorem GY{F:List Nat}{r:Int}(h:r∈rq F a j):a<=r:=by
 unfold rq at h;obtain⟨i,-,b⟩:=kj1.1 h;split at b
 .injection b with b;omega
 cases b
theorem Jn.ob(h:Jn ws xs)(a:Int):dA xs a=dA ws a/\cD xs a=cD ws a/\bU xs a=bU ws a:=by
 have e:∀b,ah ws=0->jW (aQ ws 128) a=some b->∀M,dm xs M (fj ws b)=dm ws M (fj ws b):=λb c d M=>pg λr l=>by
  obtain⟨m,e1,i,j⟩:=uR c d;have k:=GY l;rw[i,ab] at k;have:=j.1;exact h.hi _ (by omega)
 have f:cu ws=0->ah ws=0:=λg=>by
  unfold cu at g;split at g
  .assumption
  assumption
 refine⟨?_,?_,?_⟩
 .unfold dA;rw[h.fx.1,h.fx.2,(h.fr 128).2];by_cases c:cu ws=0
  .rw[if_pos c,if_pos c];cases d:jW (aQ ws 128) a with
   | none=>rfl
   | some b=>dsimp only;rw[h.rfs,e b (f c) d]
  rw[if_neg c,if_neg c]
 .unfold cD;rw[h.fx.1,h.fx.2,(h.fr 128).2];by_cases c:cu ws=0
  .rw[if_pos c,if_pos c];cases d:jW (aQ ws 128) a with
   | none=>rfl
   | some b=>dsimp only;rw[h.rfs,e b (f c) d]
  rw[if_neg c,if_neg c]
 unfold bU;rw[h.hp,(h.fr 128).2];split
 .cases jW (aQ ws 128) a with
  | none=>rfl
  | some b=>exact h.rfs b
 rfl
theorem Jn.fixL(h:Jn ws xs):∀f a,Proofs.YtpcajamacpbjcaaGreat.fixL xs f a=Proofs.YtpcajamacpbjcaaGreat.fixL ws f a:=by
 intro f
 induction f with
 | zero=>intro a;rfl
 | succ f ih =>intro a;unfold Proofs.YtpcajamacpbjcaaGreat.fixL;rw[(h.nx a).1,(h.nx a).2,(h.ob _).1,(h.ob _).2.1,(h.ob _).2.2,ih]
theorem Jn.sgFix(h:Jn ws xs):Proofs.YtpcajamacpbjcaaGreat.sgFix xs=Proofs.YtpcajamacpbjcaaGreat.sgFix ws:=by unfold Proofs.YtpcajamacpbjcaaGreat.sgFix ke;rw[h.lo 17 (by decide),h.fs.1,h.fs.2,h.1,h.fixL]
theorem Jn.mv(h:Jn ws xs)(f t:Int):dG xs f t=dG ws f t/\iO xs f t=iO ws f t:=by
 have e:dG xs f t=dG ws f t:=by
  unfold dG;rw[(h.rd f t).1];by_cases a:bh ws f t=0
  .rw[if_pos a,if_pos a,h.bl (by have:=GT a;omega)]
  rw[if_neg a,if_neg a]
 refine⟨e,?_⟩;unfold iO;rw[e];by_cases a:dG ws f t=0
 .rw[if_pos a,if_pos a];have hg:128<=f.toNat:=by
   refine GT (ws:=ws) (s:=t) ?_;unfold dG at a;split at a
   .assumption
   assumption
  unfold ju szAt;rw[h.hi _ (show 96<=f.toNat by omega)];refine kz2 λj _=>?_;rw[h.hi (f.toNat+j) (by omega)]
 rw[if_neg a,if_neg a]
theorem Jn.sgSld(h:Jn ws xs):Proofs.YtpcajamacpbjcaaGreat.sgSld xs=Proofs.YtpcajamacpbjcaaGreat.sgSld ws:=by unfold Proofs.YtpcajamacpbjcaaGreat.sgSld;rw[h.lo 17 (by decide),h.lo 18 (by decide),(h.nx _).1,(h.nx _).2,(h.mv _ _).1,(h.mv _ _).2]
theorem Jn.sg(h:Jn ws xs):ae xs=ae ws:=by unfold ae;rw[h.ck,h.lo 16 (by decide),h.rc,h.wt,h.hp,h.wn,h.sgFix,h.sgSld]
theorem Jn.lf(h:Jn ws xs):lfN xs=lfN ws:=by unfold lfN ga;rw[h.ck,h.lo 16 (by decide),h.lo 17 (by decide),(h.fr _).2]
theorem Jn.en(h:Jn ws xs):el xs=el ws/\dl xs=dl ws:=by
 have e:el xs=el ws:=by unfold el;rw[h.ck,h.lo 16 (by decide),h.lf]
 refine⟨e,?_⟩;unfold dl fo;rw[e,h.lo 18 (by decide),h.1]
theorem Jn.next(h:Jn ws xs):cJ xs=cJ ws:=by unfold cJ;rw[h.sg,h.lo 16 (by decide),h.en.1,h.en.2]
end
structure DvLt (d:Dv):Prop where
 im:∀v∈d.im,v<18446744073709551616
 dw:∀e∈d.dw,e.v<18446744073709551616
theorem set_lt{v B:Nat}(h:∀u∈x,u<B)(hv:v<B):∀u∈x.set i v,u<B:=λu b=>by
 rcases List.mem_or_eq_of_mem_set b with a|a
 .exact h u a
 .rw[a];exact hv
theorem z9:∀(l:List Dw) (x:List Nat),(∀v∈x,v<18446744073709551616)->(∀e∈l,e.v<18446744073709551616)->∀v∈ku x l,v<18446744073709551616:=by
 intro l
 induction l with
 | nil=>intro x h _;exact h
 | cons e l ih=>intro x h a;exact ih _ (set_lt h (a e (by simp))) λy b=>a y (by simp[b])
theorem DvLt.v(h:DvLt d):∀v∈dvV d,v<18446744073709551616:=z9 _ _ h.im h.dw
theorem CN{v:Nat}:∀ {l:List Dw} {e:Dw},e∈stQ l a v->e∈l\/e=⟨a,v,false⟩:=by
 intro l
 induction l with
 | nil=>intro e b;exact .inr (by simpa [stQ] using b)
 | cons x l ih =>
  intro e b;unfold stQ at b;split at b
  .rcases kqx.1 b with rfl|b
   .exact .inl (by simp)
   rcases ih b with h|h
   .exact .inl (by simp[h])
   exact .inr h
  split at b
  .rcases kqx.1 b with rfl|b
   .exact .inr rfl
   exact .inl (by simp[b])
  rcases kqx.1 b with rfl|b
  .exact .inr rfl
  exact .inl b
theorem DvLt.st(h:DvLt d){v:Nat}(hv:v<18446744073709551616):DvLt (dvS d a v):=by
 unfold dvS dvD;split
 .exact ⟨h.im,h.dw⟩
 exact⟨h.im,λe b=>by
  rcases CN b with c|rfl
  .exact h.dw e c
  exact hv⟩
theorem DvLt.fl(h:DvLt d):DvLt (dvF d a):=by
 unfold dvF dvD;split
 .exact ⟨h.im,h.dw⟩
 refine⟨h.im,λe b=>?_⟩;obtain⟨y,c,rfl⟩:=kzr.1 b;rw[(sw a y).2];exact h.dw y c
theorem DvLt.fn(h:DvLt d):DvLt (dvN d):=by
 unfold dvN dvD;split
 .exact ⟨h.im,h.dw⟩
 exact⟨z9 _ _ h.im λe a=>h.dw e ((kzp.1 a).1),λe a=>h.dw e ((kzp.1 a).1)⟩
theorem DvLt.sts:∀(l:List En) {d:Dv},DvLt d->(∀e∈l,e.v<18446744073709551616)->DvLt (ou d l):=by
 intro l
 induction l with
 | nil=>intro d h _;exact h
 | cons e l ih=>intro d h b;exact ih (d:=dvS d e.a e.v) (h.st (b e (by simp))) λy c=>b y (by simp[c])
theorem DvLt.fls(h:DvLt d):∀k,DvLt (ld ad d k):=by
 intro k
 induction k with
 | zero=>exact h
 | succ k ih =>
  unfold ld;split
  .exact ih.fl
  exact ih
theorem DvLt.rp(h:DvLt d)(he:∀e∈l,e.v<18446744073709551616):DvLt (rpP d l):=((h.sts l he).fls _).fn
theorem Ge:∀(l:List Nat) (a:Int),(∀v∈l,v<18446744073709551616)->∀e∈lsE a l,e.v<18446744073709551616:=by
 intro l
 induction l with
 | nil=>intro a _ e b;exact absurd b (by simp[lsE])
 | cons v l ih =>
  intro a h e b;simp only[lsE,kqx] at b;rcases b with rfl|b
  .exact h v (by simp)
  exact ih _ (λy c=>h y (by simp[c])) e b
theorem Gu(h:l.length<=32):cmW l<18446744073709551616:=by unfold cmW;have:=kzz (aY 14695981039346656037 (cE l)) (show 0<288230376151711744 by decide);omega
theorem z6(h:∀e∈l,e.a<2048/\e.v<18446744073709551616):∀x∈cE l,x<18446744073709551616:=by
 induction l with
 | nil=>intro x b;exact absurd b (by simp[cE])
 | cons e l ih =>
  intro x b;have c:=h e (by simp);simp only[cE,kqx] at b;rcases b with rfl|rfl|b
  .omega
  .exact c.2
  exact ih (λy d=>h y (by simp[d])) x b
theorem DvLt.at_(h:DvLt d)(h32:l.length<=32)(he:∀e∈l,e.a<2048/\e.v<18446744073709551616):DvLt (atM d l):=by
 unfold atM;split
 .exact h
 refine (((h.rp (Ge _ _ (z6 he))).rp λe b=>?_).rp λe b=>(he e b).2).rp λe b=>?_
 .rw[kq1] at b;subst b;exact Gu h32
 rw[kq1] at b;subst b;decide
def zr:List (List En)->Dv->Dv × Int
 | [],d=>(d,0)
 | l::L,d=>if (atM d l).down=true then (atM d l,60) else zr L (atM d l)
def dvZ:Dv:=⟨[],[],0,false⟩
noncomputable def coR (d:Dv):Dv × Int:=if fh d=0 then (if d.down=true then (dvZ,60) else if bN (dvV d)=0 then zr (coL (dvV d)) d else (dvZ,bN (dvV d))) else (dvZ,8)
theorem AT(h:l.Pairwise (λa b=>a.a<b.a)){n:Int}(hi:∀e∈l,Do e.a n=true):∀k,k<=l.length->eD (au l) n k=true:=by
 intro k
 induction k with
 | zero=>intro _;rfl
 | succ k ih =>
  intro hk;refine pN (ih (by omega)) ?_ ?_
  .rw[dY l k (by omega)];exact hi _ (kqq _)
  rw[dY l k (by omega)];have c:∀j,j<=k->bT (au l) (l[k]).a j=false:=by
   intro j
   induction j with
   | zero=>intro _;rfl
   | succ j ih2 =>intro hj;unfold bT;rw[ih2 (by omega),kk4,kqi,dY l j (by omega)];have:=kzd.1 h j k (by omega) (by omega) (by omega);omega
  exact c k (kqa _)
theorem Small.ent(h:Small n l)(hs:aj (n:Int)=true):ey (au l) (n:Int)=0:=by refine rK hs (by rw[aT];exact h.le) ?_;rw[aT];exact AT h.inc (λe a=>(qL _ _).2 (by have:=h.ins e a;omega)) _ (kqa _)
theorem Small.eok(h:Small n l)(hn:n<=2048):∀e∈l,e.ok:=λe a=>by have h1:=h.ins e a;have h2:=h.val e a;unfold En.ok;omega
theorem Small.in_(h:Small n l):mg n l:=λe a=>by have:=h.ins e a;omega
theorem Small.ne(h:Small n l):l≠[]:=λe=>by have:=h.pos;rw[e] at this;simp at this
structure RnAt (n:Nat) (x0 y:List Nat) (d:Dv) (E:List En) (outs:List (List En)):Prop where
 ok:eY d=true
 lt:DvLt d
 up:d.down=false
 len:d.im.length=n
 small:Small n E
 w24:wd (dvV d) 24=0
 way:∃x,Jn x (dvV d)/\(∀v∈ak x E,v<18446744073709551616)/\rsE (ak x E)=(0,outs,y)/\(x=x0\/(∀v∈x,v<18446744073709551616)/\rsE x=(0,E::outs,y))
section
variable {n:Nat} {x0 y:List Nat} {d:Dv} {E E2:List En} {outs:List (List En)}
theorem RnAt.err(h:RnAt n x0 y d E outs):atErr d E=0:=by unfold atErr;have a:=((bM d).1 h.ok).1;rw[if_pos (jQ h.ok),if_pos (by rw[h.len] at a |-;exact h.small.ent a),if_pos h.w24]
theorem RnAt.size(h:RnAt n x0 y d E outs):aj (n:Int)=true:=by rw[<-h.len];exact ((bM d).1 h.ok).1
theorem RnAt.made(h:RnAt n x0 y d E outs):eY (atM d E)=true/\DvLt (atM d E)/\(atM d E).im.length=n:=by have hs:=(aa _).1 h.size;refine⟨atM_ok h.ok h.small.le (by rw[h.len];exact h.small.in_),h.lt.at_ h.small.le λe a=>⟨?_,h.small.val e a⟩,by rw[IN,h.len]⟩;have:=h.small.ins e a;omega
theorem Gz{z y:List Nat}(ho:∀v∈z,v<18446744073709551616)(h:rsE z=(0,[],y)):z=y/\cJ z=(0,true,[]):=by
 obtain⟨c,b,a⟩:=BY ho h;have e:z=y:=c;rw[<-e] at b a;refine⟨e,?_⟩;unfold cJ at b a |-;split at a
 .rename_i c1;rw[if_pos c1] at b |-;split at a
  .rename_i c2;rw[if_pos c2]
  cases a
 cases a
theorem RnAt.done(h:RnAt n x0 y d E [])(hd:(atM d E).down=false):cJ (dvV (atM d E))=(0,true,[]):=by obtain⟨x,e,c,b,-⟩:=h.way;obtain⟨-,a,-⟩:=JI h.ok h.small.ne h.small.le (by rw[h.len];exact h.small.in_) hd;rw[((e.puts E).trans a).next];exact (Gz c b).2
theorem RnAt.step(h:RnAt n x0 y d E (E2::outs))(hd:(atM d E).down=false):cJ (dvV (atM d E))=(0,false,E2)/\RnAt n x0 y (atM d E) E2 outs:=by
 obtain⟨x,e,c,g,-⟩:=h.way;obtain⟨-,o,j⟩:=JI h.ok h.small.ne h.small.le (by rw[h.len];exact h.small.in_) hd;have f:=(e.puts E).trans o;obtain⟨b,p⟩:=pQ c g;have a:=si c (by rw[b]) (by rw[b]);rw[b] at a;have k:(ak x E).length=n:=by rw[ax,<-e.1,j9,h.len]
 rw[k] at a;obtain⟨l,m,i⟩:=h.made;exact⟨by rw[f.next,b],l,m,hd,i,a.1,j,ak x E,f,a.2.1,p,.inr ⟨c,g⟩⟩
end
theorem vG(hok:eY d=true)(hlt:DvLt d)(hup:d.down=false)(h0:bN (dvV d)=0)(h24:wd (dvV d) 24=0):RnAt d.im.length (dvV d) (cpZ (dvV d)) d [⟨16,1⟩] (rsE (gA (dvV d))).2.1:=by
 obtain⟨b,f⟩:=gc h0;obtain⟨t,c⟩:=mm f;have h:=c.all hlt.v;have g:=jS (oI hlt.v) h;rw[j9] at b;have hb:=(aa _).1 b;refine⟨hok,hlt,hup,rfl,⟨by decide,by decide,by simp,λe a=>?_,λe a=>?_⟩,h24,dvV d,Jn.refl _,oI hlt.v,?_,.inl rfl⟩
 .rw[kq1] at a;subst a;dsimp only;omega
 .rw[kq1] at a;subst a;decide
 exact g.2.1
theorem Gr(hok:eY d=true)(hup:d.down=false)(h0:bN (dvV d)=0):coR d=zr ([⟨16,1⟩]::(rsE (gA (dvV d))).2.1) d:=by unfold coR;rw[if_pos (jQ hok),hup,if_neg (by simp),if_pos h0];unfold coL;rw[if_pos h0]
end Go.Proofs.YtpcajamacpbjcaaGreat
