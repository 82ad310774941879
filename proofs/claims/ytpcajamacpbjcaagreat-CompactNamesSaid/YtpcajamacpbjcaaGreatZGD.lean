/- Devices: what operations and changes do to all words. Plain. -/
import Derived.Test.YtpcajamacpbjcaaGreatZGA
import Derived.Test.YtpcajamacpbjcaaGreatZKStg1
import Derived.Test.YtpcajamacpbjcaaGreatZKCp1
import Derived.Test.YtpcajamacpbjcaaGreatZKRs
import Derived.Test.YtpcajamacpbjcaaGreatZKCo
set_option maxHeartbeats 16000000
set_option linter.all false
namespace Go.Proofs.YtpcajamacpbjcaaGreat
open Go.RowKit
variable {d:Dv}{a f s:Int}{l:List En}{ad:List Int}{b x:List Nat}{i j n:Nat}
theorem pS:∀(l:List Dw) (x:List Nat) (i v:Nat),(∀e∈l,e.a.toNat≠i)->km (x.set i v) l=(km x l).set i v:=by
 intro l
 induction l with
 | nil=>intro x i v _;rfl
 | cons e l ih =>intro x i v h;show km ((x.set i v).set e.a.toNat e.v) l=(km (x.set e.a.toNat e.v) l).set i v;rw[List.set_comm _ _ (Ne.symm (h e (by simp))),ih _ _ _ λy b=>h y (by simp[b])]
theorem FU{v:Nat}:∀ {l:List Dw} {b:Int} (x:List Nat),gN n l b=true -> -1<=b->b<a->km x (stQ l a v)=(km x l).set a.toNat v:=by
 intro l
 induction l with
 | nil=>intro b x _ _ _;rfl
 | cons e l ih =>
  intro b x h hb hba;have hm:=iQ h;simp only[gN,kqo,kzc] at h;have g:=iQ h.2.2;unfold stQ;by_cases f:e.a<a
  .rw[if_pos f];exact ih (x.set e.a.toNat e.v) h.2.2 (by omega) f
  rw[if_neg f];by_cases d:e.a=a
  .rw[if_pos d];show km (x.set a.toNat v) l=(km (x.set e.a.toNat e.v) l).set a.toNat v;rw[<-pS l _ _ _ λy c=>by have:=g y c;omega,d,List.set_set]
  rw[if_neg d];show km (x.set a.toNat v) (e::l)=(km x (e::l)).set a.toNat v;exact pS _ _ _ _ λy c=>by
   rcases kqt.1 c with rfl|c
   .omega
   have:=g y c;omega
theorem Ab(a:Int)(e:Dw):(flB a e).a=e.a/\(flB a e).v=e.v:=by unfold flB;split<;>exact⟨rfl,rfl⟩
theorem FR(a:Int):∀(l:List Dw) (x:List Nat),km x (flQ a l)=km x l:=by
 intro l
 induction l with
 | nil=>intro x;rfl
 | cons e l ih =>intro x;show km (x.set (flB a e).a.toNat (flB a e).v) (flQ a l)=_;rw[(Ab a e).1,(Ab a e).2,ih];rfl
theorem FZ :∀ {l:List Dw} {b:Int} (x:List Nat),gN n l b=true -> -1<=b->km (fnI x l) (fnQ l)=km x l:=by
 intro l
 induction l with
 | nil=>intro b x _ _;rfl
 | cons e l ih =>
  intro b x h hb;simp only[gN,kqo,kzc] at h;have g:=iQ h.2.2;have d:=ih (x.set e.a.toNat e.v) h.2.2 (by omega);unfold fnI fnQ at d |-;cases c:e.f with
  | true =>rw[kks c,List.filter_cons_of_neg (by simp[c])];exact d
  | false =>rw[List.filter_cons_of_neg (by simp[c]),kks (by simp[c])];show km ((km x (l.filter (·.f))).set e.a.toNat e.v) _=km (x.set e.a.toNat e.v) l;rw[<-d,pS (l.filter (·.f)) _ _ _ λy i=>by have:=g y (kzm.1 i).1;omega]
theorem dvS_v{v:Nat}(h:fX d=true)(h0:0<=a)(hd:(dvS d a v).down=false):d.down=false/\dvV (dvS d a v)=(dvV d).set a.toNat v:=by
 unfold dvS at hd |-;by_cases b:d.left=0
 .rw[if_pos b] at hd;cases hd
 rw[if_neg b] at hd |-;exact⟨hd,FU d.im ((ch d).1 h).2.2.2.2 (by omega) (by omega)⟩
theorem dvF_v(hd:(dvF d a).down=false):d.down=false/\dvV (dvF d a)=dvV d:=by
 unfold dvF at hd |-;by_cases b:d.left=0
 .rw[if_pos b] at hd;cases hd
 rw[if_neg b] at hd |-;exact⟨hd,FR a _ _⟩
theorem dvN_v(h:fX d=true)(hd:(dvN d).down=false):d.down=false/\dvV (dvN d)=dvV d:=by
 unfold dvN at hd |-;by_cases a:d.left=0
 .rw[if_pos a] at hd;cases hd
 rw[if_neg a] at hd |-;exact⟨hd,FZ _ ((ch d).1 h).2.2.2.2 (by omega)⟩
theorem ke(d:Dv):(dvV d).length=d.im.length:=ms _ _
def sr (n:Nat) (l:List En):Prop:=∀e∈l,0<=e.a/\e.a<(n:Int)
theorem dvSs_v:∀(l:List En) {d:Dv},fX d=true->sr d.im.length l->(vv d l).down=false->d.down=false/\dvV (vv d l)=aj (dvV d) l:=by
 intro l
 induction l with
 | nil=>intro d _ _ c;exact⟨c,rfl⟩
 | cons e l ih =>intro d h f c;have b:=f e (by simp);obtain⟨g,j⟩:=ih (d:=dvS d e.a e.v) (yd h b.1 b.2) (λx i=>by rw[tf];exact f x (by simp[i])) c;obtain⟨m,k⟩:=dvS_v h b.1 g;refine⟨m,?_⟩;show dvV (vv (dvS d e.a e.v) l)=_;rw[j,k];simp only[aj];rw[if_pos (by rw[ke];exact b)]
theorem dvFs_v :∀k,(qE ad d k).down=false->d.down=false/\dvV (qE ad d k)=dvV d:=by
 intro k
 induction k with
 | zero=>intro a;exact⟨a,rfl⟩
 | succ k ih =>
  unfold qE;split
  .intro a;obtain⟨c,b⟩:=dvF_v a;obtain⟨e,f⟩:=ih c;exact⟨e,b.trans f⟩
  exact ih
theorem rpP_v(h:fX d=true)(hi:sr d.im.length l)(hd:(rpP d l).down=false):d.down=false/\dvV (rpP d l)=aj (dvV d) l:=by unfold rpP at hd |-;obtain⟨b,a⟩:=dvN_v (z7 (zM l h hi) _) hd;obtain⟨c,f⟩:=dvFs_v _ b;obtain⟨e,g⟩:=dvSs_v l h hi c;exact⟨e,by rw[a,f,g]⟩
theorem Bp:∀(l:List Nat) (a:Nat) {n:Nat},a+l.length<=n->∀e∈lsE (a:Int) l,(a:Int)<=e.a/\e.a<((a+l.length:Nat):Int)/\e.a<(n:Int):=by
 intro l
 induction l with
 | nil=>intro a n _ e b;exact absurd b (by simp[lsE])
 | cons v l ih =>
  intro a n h e b;rw[kq1] at h;simp only[lsE,kqt] at b;rcases b with rfl|b
  .dsimp only;rw[kq1];omega
  have:=ih (a+1) (n:=n) (by omega) e (by exact_mod_cast b);rw[kq1];omega
def atL (l:List En):List (List En):=[lsE 32 (cq l),[⟨24,cmW l⟩],l,[⟨24,0⟩]]
theorem tJ(h:l≠[]):atM d l=(atL l).foldl rpP d:=by unfold atM atL;rw[if_neg h];simp only[kjm,List.foldl_nil]
theorem EQ(hn:256<=n)(h32:l.length<=32)(hi:sr n l):∀E∈atL l,sr n E:=by
 intro E b;have hw:=jt l;simp only[atL,kqt,kzb,or_false] at b;rcases b with rfl|rfl|rfl|rfl
 .intro e a;have:=Bp (cq l) 32 (n:=n) (by omega) e a;omega
 .intro e a;rw[kqx] at a;subst a;dsimp only;omega
 .exact hi
 intro e a;rw[kqx] at a;subst a;dsimp only;omega
theorem Gg:∀(L:List (List En)) (d:Dv),(L.foldl rpP d).im.length=d.im.length:=by
 intro L
 induction L with
 | nil=>intro d;rfl
 | cons l L ih=>intro d;rw[kjm,ih,pg]
theorem rps_ok:∀(L:List (List En)) {d:Dv},fX d=true->(∀E∈L,sr d.im.length E)->fX (L.foldl rpP d)=true:=by
 intro L
 induction L with
 | nil=>intro d h _;exact h
 | cons l L ih =>intro d h a;rw[kjm];exact ih (yB h (a l (by simp))) λE b=>by rw[pg];exact a E (by simp[b])
theorem rps_v:∀(L:List (List En)) {d:Dv},fX d=true->(∀E∈L,sr d.im.length E)->(L.foldl rpP d).down=false->d.down=false/\dvV (L.foldl rpP d)=L.foldl aj (dvV d):=by
 intro L
 induction L with
 | nil=>intro d _ _ a;exact⟨a,rfl⟩
 | cons l L ih =>intro d h b a;rw[kjm] at a |-;obtain⟨e,c⟩:=ih (yB h (b l (by simp))) (λE g=>by rw[pg];exact b E (by simp[g])) a;obtain⟨f,i⟩:=rpP_v h (b l (by simp)) e;exact⟨f,by rw[c,i];rfl⟩
theorem EZ(d:Dv)(l:List En):(atM d l).im.length=d.im.length:=by
 by_cases h:l=[]
 .unfold atM;rw[if_pos h]
 rw[tJ h,Gg]
theorem pq(h:fX d=true):256<=d.im.length:=by have:=(ae _).1 ((ch d).1 h).1;omega
theorem atM_ok(h:fX d=true)(h32:l.length<=32)(hi:sr d.im.length l):fX (atM d l)=true:=by
 by_cases a:l=[]
 .unfold atM;rw[if_pos a];exact h
 rw[tJ a];exact rps_ok _ h (EQ (pq h) h32 hi)
def Jn (ws xs:List Nat):Prop:=xs.length=ws.length/\∀j,j≠24->(j<32\/96<=j)->wd xs j=wd ws j
theorem Jn.refl(ws:List Nat):Jn ws ws:=⟨rfl,λ_ _ _=>rfl⟩
theorem Jn.trans{a c:List Nat}(h:Jn a b)(g:Jn b c):Jn a c:=⟨g.1.trans h.1,λj d e=>(g.2 j d e).trans (h.2 j d e)⟩
theorem Jn.symm{a:List Nat}(h:Jn a b):Jn b a:=⟨h.1.symm,λj c d=>(h.2 j c d).symm⟩
theorem EE{E:List En}(h:∀e∈E,e.a=24\/32<=e.a/\e.a<96):Jn x (aj x E):=⟨av _ _,λj h1 hj=>aQ _ _ _ λe b=>by have:=h e b;omega⟩
theorem ue{c:Prop}[Decidable c]{v:Nat}:wd (if c then x.set i v else x) j=if c/\i=j/\j<x.length then v else wd x j:=by
 by_cases h:c
 .rw[if_pos h];by_cases e:i=j
  .subst e;by_cases a:i<x.length
   .rw[if_pos ⟨h,rfl,a⟩];unfold wd;rw[kz5 a];rfl
   rw[if_neg (λh=>a h.2.2)];unfold wd;rw[List.getElem?_set_self'];simp[a]
  rw[if_neg (λh=>e h.2.1)];unfold wd;rw[kx3 e]
 rw[if_neg h,if_neg (λg=>h g.1)]
theorem Jn.puts:∀(E:List En) {ws xs:List Nat},Jn ws xs->Jn (aj ws E) (aj xs E):=by
 intro E
 induction E with
 | nil=>intro ws xs h;exact h
 | cons e E ih =>intro ws xs h;simp only[aj];refine ih ⟨by have:=h.1;split<;>split<;>simp[this],λj a b=>?_⟩;rw[ue,ue,h.1,h.2 j a b]
theorem jn_atL(hn:256<=x.length)(h32:l.length<=32):Jn (aj x l) ((atL l).foldl aj x)/\wd ((atL l).foldl aj x) 24=0:=by
 have hw:=jt l;have d:Jn x (aj x (lsE 32 (cq l))):=EE λe a=>by
  have:=Bp (cq l) 32 (n:=256) (by omega) e a;omega
 have c:∀(y:List Nat) (v:Nat),Jn y (aj y [⟨24,v⟩]):=λy v=>EE λe a=>by rw[kqx] at a;subst a;exact .inl rfl
 refine⟨((d.trans (c _ _)).puts l).trans (c _ _),?_⟩;show wd (aj (aj (aj (aj x (lsE 32 (cq l))) [⟨24,cmW l⟩]) l) [⟨24,0⟩]) 24=0;obtain⟨y,b⟩:∃y,aj (aj (aj x (lsE 32 (cq l))) [⟨24,cmW l⟩]) l=y:=⟨_,rfl⟩;have hl:y.length=x.length:=by rw[<-b,av,av,av]
 rw[b];simp only[aj];rw[if_pos (show (0:Int)<=24/\(24:Int)<(y.length:Int) by omega)];unfold wd;rw[show (24:Int).toNat=24 from rfl,kz5 (by omega)];rfl
theorem atM_v(h:fX d=true)(h0:l≠[])(h32:l.length<=32)(hi:sr d.im.length l)(hd:(atM d l).down=false):d.down=false/\Jn (aj (dvV d) l) (dvV (atM d l))/\wd (dvV (atM d l)) 24=0:=by rw[tJ h0] at hd |-;obtain⟨a,b⟩:=rps_v _ h (EQ (pq h) h32 hi) hd;rw[b];exact⟨a,jn_atL (by rw[ke];exact pq h) h32⟩
section
variable {ws xs:List Nat}
theorem Jn.hi(h:Jn ws xs)(j:Nat)(hj:96<=j):wd xs j=wd ws j:=h.2 j (by omega) (.inr hj)
theorem Jn.lo(h:Jn ws xs)(j:Nat)(hj:j<24):wd xs j=wd ws j:=h.2 j (by omega) (.inl (by omega))
theorem Jn.bl(h:Jn ws xs)(hi:96<=i):blocks xs i=blocks ws i:=dF h.1 i λj hj=>h.hi j (by omega)
theorem Jn.fit(h:Jn ws xs):du xs=du ws:=funext λb=>qn h.hi b
theorem Jn.hp(h:Jn ws xs):ah xs=ah ws:=by unfold ah;rw[h.1,h.bl (by decide),h.fit]
theorem Jn.hpo(h:Jn ws xs):af xs=af ws:=by unfold af;rw[h.hp,h.bl (by decide)]
theorem Jn.fr(h:Jn ws xs)(a:Int):bJ xs a=bJ ws a/\aJ xs a=aJ ws a:=by
 have e:bJ xs a=bJ ws a:=by
  unfold bJ;rw[h.1];cases c:eY ws.length a
  .rw[h.bl (by have:=jG c;omega)]
  rfl
 refine⟨e,?_⟩;unfold aJ;rw[e];by_cases b:bJ ws a=0
 .rw[if_pos b,if_pos b,h.bl];unfold bJ at b;split at b
  .cases c:eY ws.length a
   .have:=jG c;omega
   rw[c] at b;cases b
  cases b
 rw[if_neg b,if_neg b]
theorem Jn.nx(h:Jn ws xs)(a:Int):a9 xs a=a9 ws a/\ie xs a=ie ws a:=by unfold a9 ie;rw[(h.fr a).1,(h.fr a).2];exact⟨rfl,rfl⟩
theorem GB(h:aW ws f s=0):128<=f.toNat:=by obtain⟨-,a,-⟩:=bQ h;simp only[fJ,kzl,kqh] at a;omega
theorem C7(h2:fJ n f s=false):128<=f.toNat:=by simp only[fJ,kzl,kqh] at h2;omega
theorem Jn.rd(h:Jn ws xs)(f s:Int):aW xs f s=aW ws f s/\ia xs f s=ia ws f s:=by
 have e:aW xs f s=aW ws f s:=by
  by_cases c:96<=f.toNat
  .exact uv h.1 h.hi c
  unfold aW;rw[h.1];cases b:fJ ws.length f s
  .have:=C7 b;omega
  rfl
 refine⟨e,?_⟩;unfold ia;rw[e];by_cases a:aW ws f s=0
 .rw[if_pos a,if_pos a,h.bl (by have:=GB a;omega)]
 rw[if_neg a,if_neg a]
theorem Jn.pr(h:Jn ws xs):cu xs=cu ws:=by unfold cu iY;rw[h.1,h.lo 16 (by decide),h.lo 17 (by decide),h.lo 18 (by decide),h.lo 19 (by decide),h.lo 20 (by decide),h.lo 21 (by decide),h.lo 22 (by decide),h.lo 23 (by decide)]
theorem Jn.ln(h:Jn ws xs):cF xs=cF ws:=by unfold cF nM;rw[h.pr,h.lo 16 (by decide),h.lo 17 (by decide),h.bl (by decide),h.1]
theorem Jn.mdOk(h:Jn ws xs)(hi:96<=i):Proofs.YtpcajamacpbjcaaGreat.mdOk xs i=Proofs.YtpcajamacpbjcaaGreat.mdOk ws i:=by unfold Proofs.YtpcajamacpbjcaaGreat.mdOk cK;rw[h.hi i hi,h.hi (tyA (ar (wd ws i))) (by unfold tyA;omega),h.hi (tyA (ar (wd ws i))+1) (by unfold tyA;omega)]
theorem Jn.mvd(h:Jn ws xs)(t:Nat)(hi:96<=i):Proofs.YtpcajamacpbjcaaGreat.mvd xs i t=Proofs.YtpcajamacpbjcaaGreat.mvd ws i t:=by
 have a:∀f i,96<=i->tC xs f i t=tC ws f i t:=by
  intro f
  induction f with
  | zero=>intro i _;rfl
  | succ f ih =>intro i hi;unfold tC;rw[h.mdOk hi,show szAt xs i=szAt ws i by unfold szAt;rw[h.hi i hi],ih _ (by omega)]
 exact a _ _ hi
theorem Jn.ck(h:Jn ws xs):aw xs=aw ws:=by unfold aw;rw[h.ln,h.lo 16 (by decide),h.lo 17 (by decide),h.lo 18 (by decide),h.mvd _ (by decide),(h.rd _ _).1,(h.rd 128 128).1,h.hp]
theorem Jn.sl(h:Jn ws xs)(i:Nat):slAt xs i=slAt ws i:=by unfold slAt;rw[h.hi _ (by omega)]
theorem Jn.sls(h:Jn ws xs):slsOk xs=slsOk ws:=by unfold slsOk;rw[show (λi=>nJ (slAt xs i))=λi=>nJ (slAt ws i) from funext λi=>by rw[h.sl]]
theorem Jn.tb(h:Jn ws xs)(a:Nat):Proofs.YtpcajamacpbjcaaGreat.tb xs a=Proofs.YtpcajamacpbjcaaGreat.tb ws a:=by unfold Proofs.YtpcajamacpbjcaaGreat.tb;rw[h.1,h.hpo]
theorem Jn.flds(h:Jn ws xs){a:Nat}(ha:96<=a):Proofs.YtpcajamacpbjcaaGreat.flds xs a=Proofs.YtpcajamacpbjcaaGreat.flds ws a:=by unfold Proofs.YtpcajamacpbjcaaGreat.flds;rw[h.hi a ha,h.hi _ (by omega),h.hi _ (by omega)]
theorem tb_hp{a:Nat}(ht:Proofs.YtpcajamacpbjcaaGreat.tb ws a≠0):ah ws=0:=by
 by_cases h:ah ws=0
 .exact h
 exfalso;apply ht;unfold Proofs.YtpcajamacpbjcaaGreat.tb af py;rw[if_neg h,List.foldl_nil,kj3];split<;>rfl
theorem Jn.rch(h:Jn ws xs){a:Nat}(hr:Rch ws a):Rch xs a:=by
 induction hr with
 | slot i hi hu =>rw[<-h.sl];exact .slot i hi (by rw[h.sl];exact hu)
 | ref a i ha ht hi hv ih =>have b:=(ik (tb_hp ht) ht).1;have h128:=b.1;rw[<-h.hi (a+2+i) (by omega)] at hv |-;exact .ref a i ih (by rw[h.tb];exact ht) (by rw[h.flds (by omega)];exact hi) hv
theorem Jn.rchI(h:Jn ws xs)(a:Nat):Rch xs a↔Rch ws a:=⟨h.symm.rch,h.rch⟩
theorem Jn.good(h:Jn ws xs):oa xs↔oa ws:=by
 unfold oa;constructor
 .intro g a b;rw[<-h.tb];exact g a (h.rch b)
 intro g a b;rw[h.tb];exact g a ((h.rchI a).1 b)
theorem Jn.rc(h:Jn ws xs):aA xs=aA ws:=by
 unfold aA;rw[h.hp,h.sls];by_cases g:oa ws
 .rw[if_pos g,if_pos (h.good.2 g)]
 rw[if_neg g,if_neg λa=>g (h.good.1 a)]
theorem Jn.seen(h:Jn ws xs):seenL xs=seenL ws:=by unfold seenL;rw[h.1];refine kzy λa _=>?_;exact decide_eq_decide.2 (h.rchI a)
theorem hp_ge{b:Bk}(hb:b∈af ws):128<=b.at_.toNat:=by
 have c:ah ws=0:=by
  by_cases h:ah ws=0
  .exact h
  unfold af at hb;rw[if_neg h] at hb;exact absurd hb (by simp)
 obtain⟨a,e,ha,-⟩:=(b8 c).1 b hb;rw[e,ab];omega
theorem Jn.wt(h:Jn ws xs):aL xs=aL ws:=by
 unfold aL;rw[h.rc,h.seen,h.hpo];split
 .refine kzy λb a=>?_;unfold wZ;rw[h.hi _ (by have:=hp_ge (pv a);omega)]
 rfl
theorem Jn.wn(h:Jn ws xs):aD xs=aD ws:=by unfold aD;rw[h.hp,h.hpo]
theorem Jn.fx(h:Jn ws xs):cg xs=cg ws/\eT xs=eT ws:=by
 have e:cg xs=cg ws:=by unfold cg;rw[h.hp,(h.rd 128 128).1]
 refine⟨e,?_⟩;unfold eT;rw[e,(h.rd 128 128).2]
theorem Jn.slFix(h:Jn ws xs)(m:List (Int × Int)):∀k,Proofs.YtpcajamacpbjcaaGreat.slFix xs m k=Proofs.YtpcajamacpbjcaaGreat.slFix ws m k:=by
 intro k
 induction k with
 | zero=>rfl
 | succ k ih =>unfold Proofs.YtpcajamacpbjcaaGreat.slFix;rw[ih,show gy xs m k=gy ws m k by unfold gy;rw[h.sl,h.hi (112+k) (by omega)]]
theorem Jn.fs(h:Jn ws xs):ei xs=ei ws/\dK xs=dK ws:=by
 have e:ei xs=ei ws:=by unfold ei;rw[h.fx.1,h.fx.2,h.sls,h.slFix]
 refine⟨e,?_⟩;unfold dK;rw[e,h.fx.2,h.slFix]
theorem Jn.rfs(h:Jn ws xs)(b:Bk):fv xs b=fv ws b:=by unfold fv t4;rw[h.hi (tyA b) (by unfold tyA;omega),h.hi (tyA b+1) (by unfold tyA;omega)]
theorem F1{F:List Nat}{r:Int}(h:r∈ry F a j):a<=r:=by
 unfold ry at h;obtain⟨i,-,b⟩:=kjs.1 h;split at b
 .injection b with b;omega
 cases b
theorem Jn.ob(h:Jn ws xs)(a:Int):dp xs a=dp ws a/\cr xs a=cr ws a/\bH xs a=bH ws a:=by
 have e:∀b,ah ws=0->jS (aJ ws 128) a=some b->∀M,cX xs M (fv ws b)=cX ws M (fv ws b):=λb c d M=>nX λr l=>by
  obtain⟨m,e1,j,k⟩:=zx c d;have i:=F1 l;rw[j,ab] at i;have:=k.1;exact h.hi _ (by omega)
 have f:cg ws=0->ah ws=0:=λg=>by
  unfold cg at g;split at g
  .assumption
  assumption
 refine⟨?_,?_,?_⟩
 .unfold dp;rw[h.fx.1,h.fx.2,(h.fr 128).2];by_cases c:cg ws=0
  .rw[if_pos c,if_pos c];cases d:jS (aJ ws 128) a with
   | none=>rfl
   | some b=>dsimp only;rw[h.rfs,e b (f c) d]
  rw[if_neg c,if_neg c]
 .unfold cr;rw[h.fx.1,h.fx.2,(h.fr 128).2];by_cases c:cg ws=0
  .rw[if_pos c,if_pos c];cases d:jS (aJ ws 128) a with
   | none=>rfl
   | some b=>dsimp only;rw[h.rfs,e b (f c) d]
  rw[if_neg c,if_neg c]
 unfold bH;rw[h.hp,(h.fr 128).2];split
 .cases jS (aJ ws 128) a with
  | none=>rfl
  | some b=>exact h.rfs b
 rfl
theorem Jn.fixL(h:Jn ws xs):∀f a,Proofs.YtpcajamacpbjcaaGreat.fixL xs f a=Proofs.YtpcajamacpbjcaaGreat.fixL ws f a:=by
 intro f
 induction f with
 | zero=>intro a;rfl
 | succ f ih =>intro a;unfold Proofs.YtpcajamacpbjcaaGreat.fixL;rw[(h.nx a).1,(h.nx a).2,(h.ob _).1,(h.ob _).2.1,(h.ob _).2.2,ih]
theorem Jn.sgFix(h:Jn ws xs):Proofs.YtpcajamacpbjcaaGreat.sgFix xs=Proofs.YtpcajamacpbjcaaGreat.sgFix ws:=by unfold Proofs.YtpcajamacpbjcaaGreat.sgFix kM;rw[h.lo 17 (by decide),h.fs.1,h.fs.2,h.1,h.fixL]
theorem Jn.mv(h:Jn ws xs)(f t:Int):dA xs f t=dA ws f t/\iW xs f t=iW ws f t:=by
 have e:dA xs f t=dA ws f t:=by
  unfold dA;rw[(h.rd f t).1];by_cases a:aW ws f t=0
  .rw[if_pos a,if_pos a,h.bl (by have:=GB a;omega)]
  rw[if_neg a,if_neg a]
 refine⟨e,?_⟩;unfold iW;rw[e];by_cases a:dA ws f t=0
 .rw[if_pos a,if_pos a];have hg:128<=f.toNat:=by
   refine GB (ws:=ws) (s:=t) ?_;unfold dA at a;split at a
   .assumption
   assumption
  unfold jM szAt;rw[h.hi _ (show 96<=f.toNat by omega)];refine kzy λj _=>?_;rw[h.hi (f.toNat+j) (by omega)]
 rw[if_neg a,if_neg a]
theorem Jn.sgSld(h:Jn ws xs):Proofs.YtpcajamacpbjcaaGreat.sgSld xs=Proofs.YtpcajamacpbjcaaGreat.sgSld ws:=by unfold Proofs.YtpcajamacpbjcaaGreat.sgSld;rw[h.lo 17 (by decide),h.lo 18 (by decide),(h.nx _).1,(h.nx _).2,(h.mv _ _).1,(h.mv _ _).2]
theorem Jn.sg(h:Jn ws xs):ag xs=ag ws:=by unfold ag;rw[h.ck,h.lo 16 (by decide),h.rc,h.wt,h.hp,h.wn,h.sgFix,h.sgSld]
theorem Jn.lf(h:Jn ws xs):lfN xs=lfN ws:=by unfold lfN gm;rw[h.ck,h.lo 16 (by decide),h.lo 17 (by decide),(h.fr _).2]
theorem Jn.en(h:Jn ws xs):el xs=el ws/\dm xs=dm ws:=by
 have e:el xs=el ws:=by unfold el;rw[h.ck,h.lo 16 (by decide),h.lf]
 refine⟨e,?_⟩;unfold dm fh;rw[e,h.lo 18 (by decide),h.1]
theorem Jn.next(h:Jn ws xs):cJ xs=cJ ws:=by unfold cJ;rw[h.sg,h.lo 16 (by decide),h.en.1,h.en.2]
end
structure DvLt (d:Dv):Prop where
 im:∀v∈d.im,v<18446744073709551616
 dw:∀e∈d.dw,e.v<18446744073709551616
theorem set_lt{v B:Nat}(h:∀u∈x,u<B)(hv:v<B):∀u∈x.set i v,u<B:=λu b=>by
 rcases List.mem_or_eq_of_mem_set b with a|a
 .exact h u a
 .rw[a];exact hv
theorem zo:∀(l:List Dw) (x:List Nat),(∀v∈x,v<18446744073709551616)->(∀e∈l,e.v<18446744073709551616)->∀v∈km x l,v<18446744073709551616:=by
 intro l
 induction l with
 | nil=>intro x h _;exact h
 | cons e l ih=>intro x h a;exact ih _ (set_lt h (a e (by simp))) λy b=>a y (by simp[b])
theorem DvLt.v(h:DvLt d):∀v∈dvV d,v<18446744073709551616:=zo _ _ h.im h.dw
theorem Fc{v:Nat}:∀ {l:List Dw} {e:Dw},e∈stQ l a v->e∈l\/e=⟨a,v,false⟩:=by
 intro l
 induction l with
 | nil=>intro e b;exact .inr (by simpa [stQ] using b)
 | cons x l ih =>
  intro e b;unfold stQ at b;split at b
  .rcases kqt.1 b with rfl|b
   .exact .inl (by simp)
   rcases ih b with h|h
   .exact .inl (by simp[h])
   exact .inr h
  split at b
  .rcases kqt.1 b with rfl|b
   .exact .inr rfl
   exact .inl (by simp[b])
  rcases kqt.1 b with rfl|b
  .exact .inr rfl
  exact .inl b
theorem DvLt.st(h:DvLt d){v:Nat}(hv:v<18446744073709551616):DvLt (dvS d a v):=by
 unfold dvS dvD;split
 .exact ⟨h.im,h.dw⟩
 exact⟨h.im,λe c=>by
  rcases Fc c with b|rfl
  .exact h.dw e b
  exact hv⟩
theorem DvLt.fl(h:DvLt d):DvLt (dvF d a):=by
 unfold dvF dvD;split
 .exact ⟨h.im,h.dw⟩
 refine⟨h.im,λe b=>?_⟩;obtain⟨y,c,rfl⟩:=kzz.1 b;rw[(Ab a y).2];exact h.dw y c
theorem DvLt.fn(h:DvLt d):DvLt (dvN d):=by
 unfold dvN dvD;split
 .exact ⟨h.im,h.dw⟩
 exact⟨zo _ _ h.im λe a=>h.dw e ((kzm.1 a).1),λe a=>h.dw e ((kzm.1 a).1)⟩
theorem DvLt.sts:∀(l:List En) {d:Dv},DvLt d->(∀e∈l,e.v<18446744073709551616)->DvLt (vv d l):=by
 intro l
 induction l with
 | nil=>intro d h _;exact h
 | cons e l ih=>intro d h b;exact ih (d:=dvS d e.a e.v) (h.st (b e (by simp))) λy c=>b y (by simp[c])
theorem DvLt.fls(h:DvLt d):∀k,DvLt (qE ad d k):=by
 intro k
 induction k with
 | zero=>exact h
 | succ k ih =>
  unfold qE;split
  .exact ih.fl
  exact ih
theorem DvLt.rp(h:DvLt d)(he:∀e∈l,e.v<18446744073709551616):DvLt (rpP d l):=((h.sts l he).fls _).fn
theorem Ed:∀(l:List Nat) (a:Int),(∀v∈l,v<18446744073709551616)->∀e∈lsE a l,e.v<18446744073709551616:=by
 intro l
 induction l with
 | nil=>intro a _ e b;exact absurd b (by simp[lsE])
 | cons v l ih =>
  intro a h e b;simp only[lsE,kqt] at b;rcases b with rfl|b
  .exact h v (by simp)
  exact ih _ (λy c=>h y (by simp[c])) e b
theorem Eh(h:l.length<=32):cmW l<18446744073709551616:=by unfold cmW;have:=kz4 (aR 14695981039346656037 (cq l)) (show 0<288230376151711744 by decide);omega
theorem z8(h:∀e∈l,e.a<2048/\e.v<18446744073709551616):∀x∈cq l,x<18446744073709551616:=by
 induction l with
 | nil=>intro x b;exact absurd b (by simp[cq])
 | cons e l ih =>
  intro x b;have c:=h e (by simp);simp only[cq,kqt] at b;rcases b with rfl|rfl|b
  .omega
  .exact c.2
  exact ih (λy d=>h y (by simp[d])) x b
theorem DvLt.at_(h:DvLt d)(h32:l.length<=32)(he:∀e∈l,e.a<2048/\e.v<18446744073709551616):DvLt (atM d l):=by
 unfold atM;split
 .exact h
 refine (((h.rp (Ed _ _ (z8 he))).rp λe b=>?_).rp λe b=>(he e b).2).rp λe b=>?_
 .rw[kqx] at b;subst b;exact Eh h32
 rw[kqx] at b;subst b;decide
def E8:List (List En)->Dv->Dv × Int
 | [],d=>(d,0)
 | l::L,d=>if (atM d l).down=true then (atM d l,60) else E8 L (atM d l)
def dvZ:Dv:=⟨[],[],0,false⟩
noncomputable def coR (d:Dv):Dv × Int:=if fa d=0 then (if d.down=true then (dvZ,60) else if bi (dvV d)=0 then E8 (coL (dvV d)) d else (dvZ,bi (dvV d))) else (dvZ,8)
theorem xI(h:l.Pairwise (λa b=>a.a<b.a)){n:Int}(hi:∀e∈l,Bz e.a n=true):∀k,k<=l.length->ep (aF l) n k=true:=by
 intro k
 induction k with
 | zero=>intro _;rfl
 | succ k ih =>
  intro hk;refine oC (ih (by omega)) ?_ ?_
  .rw[ey l k (by omega)];exact hi _ (kqp _)
  rw[ey l k (by omega)];have c:∀j,j<=k->bY (aF l) (l[k]).a j=false:=by
   intro j
   induction j with
   | zero=>intro _;rfl
   | succ j ih2 =>intro hj;unfold bY;rw[ih2 (by omega),Bool.false_or,kqj,ey l j (by omega)];have:=kze.1 h j k (by omega) (by omega) (by omega);omega
  exact c k (kqa _)
theorem Small.ent(h:Small n l)(hs:ap (n:Int)=true):eg (aF l) (n:Int)=0:=by refine qL hs (by rw[aZ];exact h.le) ?_;rw[aZ];exact xI h.inc (λe a=>(pD _ _).2 (by have:=h.ins e a;omega)) _ (kqa _)
theorem Small.eok(h:Small n l)(hn:n<=2048):∀e∈l,e.ok:=λe a=>by have h1:=h.ins e a;have h2:=h.val e a;unfold En.ok;omega
theorem Small.in_(h:Small n l):sr n l:=λe a=>by have:=h.ins e a;omega
theorem Small.ne(h:Small n l):l≠[]:=λe=>by have:=h.pos;rw[e] at this;simp at this
structure RnAt (n:Nat) (x0 y:List Nat) (d:Dv) (E:List En) (outs:List (List En)):Prop where
 ok:fX d=true
 lt:DvLt d
 up:d.down=false
 len:d.im.length=n
 small:Small n E
 w24:wd (dvV d) 24=0
 way:∃x,Jn x (dvV d)/\(∀v∈aj x E,v<18446744073709551616)/\rsE (aj x E)=(0,outs,y)/\(x=x0\/(∀v∈x,v<18446744073709551616)/\rsE x=(0,E::outs,y))
section
variable {n:Nat} {x0 y:List Nat} {d:Dv} {E E2:List En} {outs:List (List En)}
theorem RnAt.err(h:RnAt n x0 y d E outs):atErr d E=0:=by unfold atErr;have a:=((ch d).1 h.ok).1;rw[if_pos (fO h.ok),if_pos (by rw[h.len] at a |-;exact h.small.ent a),if_pos h.w24]
theorem RnAt.size(h:RnAt n x0 y d E outs):ap (n:Int)=true:=by rw[<-h.len];exact ((ch d).1 h.ok).1
theorem RnAt.made(h:RnAt n x0 y d E outs):fX (atM d E)=true/\DvLt (atM d E)/\(atM d E).im.length=n:=by have hs:=(ae _).1 h.size;refine⟨atM_ok h.ok h.small.le (by rw[h.len];exact h.small.in_),h.lt.at_ h.small.le λe a=>⟨?_,h.small.val e a⟩,by rw[EZ,h.len]⟩;have:=h.small.ins e a;omega
theorem rs_end{z y:List Nat}(ho:∀v∈z,v<18446744073709551616)(h:rsE z=(0,[],y)):z=y/\cJ z=(0,true,[]):=by
 obtain⟨c,b,a⟩:=xh ho h;have e:z=y:=c;rw[<-e] at b a;refine⟨e,?_⟩;unfold cJ at b a |-;split at a
 .rename_i c1;rw[if_pos c1] at b |-;split at a
  .rename_i c2;rw[if_pos c2]
  cases a
 cases a
theorem RnAt.done(h:RnAt n x0 y d E [])(hd:(atM d E).down=false):cJ (dvV (atM d E))=(0,true,[]):=by obtain⟨x,b,a,c,-⟩:=h.way;obtain⟨-,e,-⟩:=atM_v h.ok h.small.ne h.small.le (by rw[h.len];exact h.small.in_) hd;rw[((b.puts E).trans e).next];exact (rs_end a c).2
theorem RnAt.step(h:RnAt n x0 y d E (E2::outs))(hd:(atM d E).down=false):cJ (dvV (atM d E))=(0,false,E2)/\RnAt n x0 y (atM d E) E2 outs:=by
 obtain⟨x,e,c,f,-⟩:=h.way;obtain⟨-,p,k⟩:=atM_v h.ok h.small.ne h.small.le (by rw[h.len];exact h.small.in_) hd;have g:=(e.puts E).trans p;obtain⟨b,m⟩:=sh c f;have a:=rS c (by rw[b]) (by rw[b]);rw[b] at a;have i:(aj x E).length=n:=by rw[av,<-e.1,ke,h.len]
 rw[i] at a;obtain⟨o,l,j⟩:=h.made;exact⟨by rw[g.next,b],o,l,hd,j,a.1,k,aj x E,g,a.2.1,m,.inr ⟨c,f⟩⟩
end
theorem DJ(hok:fX d=true)(hlt:DvLt d)(hup:d.down=false)(h0:bi (dvV d)=0)(h24:wd (dvV d) 24=0):RnAt d.im.length (dvV d) (cpZ (dvV d)) d [⟨16,1⟩] (rsE (gF (dvV d))).2.1:=by
 obtain⟨b,f⟩:=iB h0;obtain⟨t,h⟩:=lW f;have g:=h.all hlt.v;have c:=ml (nN hlt.v) g;rw[ke] at b;have hb:=(ae _).1 b;refine⟨hok,hlt,hup,rfl,⟨by decide,by decide,by simp,λe a=>?_,λe a=>?_⟩,h24,dvV d,Jn.refl _,nN hlt.v,?_,.inl rfl⟩
 .rw[kqx] at a;subst a;dsimp only;omega
 .rw[kqx] at a;subst a;decide
 exact c.2.1
theorem coR_of(hok:fX d=true)(hup:d.down=false)(h0:bi (dvV d)=0):coR d=E8 ([⟨16,1⟩]::(rsE (gF (dvV d))).2.1) d:=by unfold coR;rw[if_pos (fO hok),hup,if_neg (by simp),if_pos h0];unfold coL;rw[if_pos h0]
end Go.Proofs.YtpcajamacpbjcaaGreat
