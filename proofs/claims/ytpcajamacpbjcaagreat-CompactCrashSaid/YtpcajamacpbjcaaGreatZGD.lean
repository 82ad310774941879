/- Devices: what operations and changes do to all words. Plain. -/
import Derived.Test.YtpcajamacpbjcaaGreatZGA
import Derived.Test.YtpcajamacpbjcaaGreatZKStg1
import Derived.Test.YtpcajamacpbjcaaGreatZKCp1
import Derived.Test.YtpcajamacpbjcaaGreatZKRs
import Derived.Test.YtpcajamacpbjcaaGreatZKCo
set_option maxHeartbeats 16000000
set_option linter.all false
namespace Go.Proofs.YtpcajamacpbjcaaGreat
open Go.RowKit
variable {d:Dv}{a f s:Int}{l:List En}{ad:List Int}{b x:List Nat}{i j n:Nat}
theorem pQ:∀(l:List Dw) (x:List Nat) (i v:Nat),(∀e∈l,e.a.toNat≠i)->kn (x.set i v) l=(kn x l).set i v:=by
 intro l
 induction l with
 | nil=>intro x i v _;rfl
 | cons e l ih =>intro x i v h;show kn ((x.set i v).set e.a.toNat e.v) l=(kn (x.set e.a.toNat e.v) l).set i v;rw[List.set_comm _ _ (Ne.symm (h e (by simp))),ih _ _ _ λy b=>h y (by simp[b])]
theorem FS{v:Nat}:∀ {l:List Dw} {b:Int} (x:List Nat),iu n l b=true -> -1<=b->b<a->kn x (stQ l a v)=(kn x l).set a.toNat v:=by
 intro l
 induction l with
 | nil=>intro b x _ _ _;rfl
 | cons e l ih =>
  intro b x h hb hba;have hm:=fL h;simp only[iu,kqt,kzc] at h;have g:=fL h.2.2;unfold stQ;by_cases f:e.a<a
  .rw[if_pos f];exact ih (x.set e.a.toNat e.v) h.2.2 (by omega) f
  rw[if_neg f];by_cases d:e.a=a
  .rw[if_pos d];show kn (x.set a.toNat v) l=(kn (x.set e.a.toNat e.v) l).set a.toNat v;rw[<-pQ l _ _ _ λy c=>by have:=g y c;omega,d,List.set_set]
  rw[if_neg d];show kn (x.set a.toNat v) (e::l)=(kn x (e::l)).set a.toNat v;exact pQ _ _ _ _ λy c=>by
   rcases kqx.1 c with rfl|c
   .omega
   have:=g y c;omega
theorem qL(a:Int)(e:Dw):(flB a e).a=e.a/\(flB a e).v=e.v:=by unfold flB;split<;>exact⟨rfl,rfl⟩
theorem Gp(a:Int):∀(l:List Dw) (x:List Nat),kn x (flQ a l)=kn x l:=by
 intro l
 induction l with
 | nil=>intro x;rfl
 | cons e l ih =>intro x;show kn (x.set (flB a e).a.toNat (flB a e).v) (flQ a l)=_;rw[(qL a e).1,(qL a e).2,ih];rfl
theorem FA :∀ {l:List Dw} {b:Int} (x:List Nat),iu n l b=true -> -1<=b->kn (fnI x l) (fnQ l)=kn x l:=by
 intro l
 induction l with
 | nil=>intro b x _ _;rfl
 | cons e l ih =>
  intro b x h hb;simp only[iu,kqt,kzc] at h;have g:=fL h.2.2;have d:=ih (x.set e.a.toNat e.v) h.2.2 (by omega);unfold fnI fnQ at d |-;cases c:e.f with
  | true =>rw[kkx c,List.filter_cons_of_neg (by simp[c])];exact d
  | false =>rw[List.filter_cons_of_neg (by simp[c]),kkx (by simp[c])];show kn ((kn x (l.filter (·.f))).set e.a.toNat e.v) _=kn (x.set e.a.toNat e.v) l;rw[<-d,pQ (l.filter (·.f)) _ _ _ λy i=>by have:=g y (kzo.1 i).1;omega]
theorem dvS_v{v:Nat}(h:eW d=true)(h0:0<=a)(hd:(dvS d a v).down=false):d.down=false/\dvV (dvS d a v)=(dvV d).set a.toNat v:=by
 unfold dvS at hd |-;by_cases b:d.left=0
 .rw[if_pos b] at hd;cases hd
 rw[if_neg b] at hd |-;exact⟨hd,FS d.im ((bH d).1 h).2.2.2.2 (by omega) (by omega)⟩
theorem dvF_v(hd:(dvF d a).down=false):d.down=false/\dvV (dvF d a)=dvV d:=by
 unfold dvF at hd |-;by_cases b:d.left=0
 .rw[if_pos b] at hd;cases hd
 rw[if_neg b] at hd |-;exact⟨hd,Gp a _ _⟩
theorem dvN_v(h:eW d=true)(hd:(dvN d).down=false):d.down=false/\dvV (dvN d)=dvV d:=by
 unfold dvN at hd |-;by_cases a:d.left=0
 .rw[if_pos a] at hd;cases hd
 rw[if_neg a] at hd |-;exact⟨hd,FA _ ((bH d).1 h).2.2.2.2 (by omega)⟩
theorem kg(d:Dv):(dvV d).length=d.im.length:=my _ _
def mD (n:Nat) (l:List En):Prop:=∀e∈l,0<=e.a/\e.a<(n:Int)
theorem dvSs_v:∀(l:List En) {d:Dv},eW d=true->mD d.im.length l->(nP d l).down=false->d.down=false/\dvV (nP d l)=am (dvV d) l:=by
 intro l
 induction l with
 | nil=>intro d _ _ c;exact⟨c,rfl⟩
 | cons e l ih =>intro d h f c;have b:=f e (by simp);obtain⟨g,j⟩:=ih (d:=dvS d e.a e.v) (uq h b.1 b.2) (λx k=>by rw[qE];exact f x (by simp[k])) c;obtain⟨i,m⟩:=dvS_v h b.1 g;refine⟨i,?_⟩;show dvV (nP (dvS d e.a e.v) l)=_;rw[j,m];simp only[am];rw[if_pos (by rw[kg];exact b)]
theorem dvFs_v :∀k,(kM ad d k).down=false->d.down=false/\dvV (kM ad d k)=dvV d:=by
 intro k
 induction k with
 | zero=>intro a;exact⟨a,rfl⟩
 | succ k ih =>
  unfold kM;split
  .intro a;obtain⟨c,b⟩:=dvF_v a;obtain⟨f,e⟩:=ih c;exact⟨f,b.trans e⟩
  exact ih
theorem rpP_v(h:eW d=true)(hi:mD d.im.length l)(hd:(rpP d l).down=false):d.down=false/\dvV (rpP d l)=am (dvV d) l:=by unfold rpP at hd |-;obtain⟨b,a⟩:=dvN_v (kh (li l h hi) _) hd;obtain⟨g,e⟩:=dvFs_v _ b;obtain⟨f,c⟩:=dvSs_v l h hi g;exact⟨f,by rw[a,e,c]⟩
theorem uI:∀(l:List Nat) (a:Nat) {n:Nat},a+l.length<=n->∀e∈lsE (a:Int) l,(a:Int)<=e.a/\e.a<((a+l.length:Nat):Int)/\e.a<(n:Int):=by
 intro l
 induction l with
 | nil=>intro a n _ e b;exact absurd b (by simp[lsE])
 | cons v l ih =>
  intro a n h e b;rw[kq2] at h;simp only[lsE,kqx] at b;rcases b with rfl|b
  .dsimp only;rw[kq2];omega
  have:=ih (a+1) (n:=n) (by omega) e (by exact_mod_cast b);rw[kq2];omega
def atL (l:List En):List (List En):=[lsE 32 (cn l),[⟨24,cmW l⟩],l,[⟨24,0⟩]]
theorem oX(h:l≠[]):atM d l=(atL l).foldl rpP d:=by unfold atM atL;rw[if_neg h];simp only[kxy,kvq]
theorem uR(hn:256<=n)(h32:l.length<=32)(hi:mD n l):∀E∈atL l,mD n E:=by
 intro E b;have hw:=ib l;simp only[atL,kqx,kzf,or_false] at b;rcases b with rfl|rfl|rfl|rfl
 .intro e a;have:=uI (cn l) 32 (n:=n) (by omega) e a;omega
 .intro e a;rw[kq0] at a;subst a;dsimp only;omega
 .exact hi
 intro e a;rw[kq0] at a;subst a;dsimp only;omega
theorem GK:∀(L:List (List En)) (d:Dv),(L.foldl rpP d).im.length=d.im.length:=by
 intro L
 induction L with
 | nil=>intro d;rfl
 | cons l L ih=>intro d;rw[kxy,ih,lz]
theorem rps_ok:∀(L:List (List En)) {d:Dv},eW d=true->(∀E∈L,mD d.im.length E)->eW (L.foldl rpP d)=true:=by
 intro L
 induction L with
 | nil=>intro d h _;exact h
 | cons l L ih =>intro d h a;rw[kxy];exact ih (oD h (a l (by simp))) λE b=>by rw[lz];exact a E (by simp[b])
theorem rps_v:∀(L:List (List En)) {d:Dv},eW d=true->(∀E∈L,mD d.im.length E)->(L.foldl rpP d).down=false->d.down=false/\dvV (L.foldl rpP d)=L.foldl am (dvV d):=by
 intro L
 induction L with
 | nil=>intro d _ _ a;exact⟨a,rfl⟩
 | cons l L ih =>intro d h b a;rw[kxy] at a |-;obtain⟨e,c⟩:=ih (oD h (b l (by simp))) (λE i=>by rw[lz];exact b E (by simp[i])) a;obtain⟨g,f⟩:=rpP_v h (b l (by simp)) e;exact⟨g,by rw[c,f];rfl⟩
theorem Hb(d:Dv)(l:List En):(atM d l).im.length=d.im.length:=by
 by_cases h:l=[]
 .unfold atM;rw[if_pos h]
 rw[oX h,GK]
theorem jF(h:eW d=true):256<=d.im.length:=by have:=(aa _).1 ((bH d).1 h).1;omega
theorem atM_ok(h:eW d=true)(h32:l.length<=32)(hi:mD d.im.length l):eW (atM d l)=true:=by
 by_cases a:l=[]
 .unfold atM;rw[if_pos a];exact h
 rw[oX a];exact rps_ok _ h (uR (jF h) h32 hi)
def Jn (ws xs:List Nat):Prop:=xs.length=ws.length/\∀j,j≠24->(j<32\/96<=j)->wd xs j=wd ws j
theorem Jn.refl(ws:List Nat):Jn ws ws:=⟨rfl,λ_ _ _=>rfl⟩
theorem Jn.trans{a c:List Nat}(h:Jn a b)(g:Jn b c):Jn a c:=⟨g.1.trans h.1,λj d e=>(g.2 j d e).trans (h.2 j d e)⟩
theorem Jn.symm{a:List Nat}(h:Jn a b):Jn b a:=⟨h.1.symm,λj c d=>(h.2 j c d).symm⟩
theorem ze{E:List En}(h:∀e∈E,e.a=24\/32<=e.a/\e.a<96):Jn x (am x E):=⟨ax _ _,λj h1 hj=>aP _ _ _ λe b=>by have:=h e b;omega⟩
theorem t5{c:Prop}[Decidable c]{v:Nat}:wd (if c then x.set i v else x) j=if c/\i=j/\j<x.length then v else wd x j:=by
 by_cases h:c
 .rw[if_pos h];by_cases e:i=j
  .subst e;by_cases a:i<x.length
   .rw[if_pos ⟨h,rfl,a⟩];unfold wd;rw[kz6 a];rfl
   rw[if_neg (λh=>a h.2.2)];unfold wd;rw[List.getElem?_set_self'];simp[a]
  rw[if_neg (λh=>e h.2.1)];unfold wd;rw[kjc e]
 rw[if_neg h,if_neg (λg=>h g.1)]
theorem Jn.puts:∀(E:List En) {ws xs:List Nat},Jn ws xs->Jn (am ws E) (am xs E):=by
 intro E
 induction E with
 | nil=>intro ws xs h;exact h
 | cons e E ih =>intro ws xs h;simp only[am];refine ih ⟨by have:=h.1;split<;>split<;>simp[this],λj a b=>?_⟩;rw[t5,t5,h.1,h.2 j a b]
theorem jn_atL(hn:256<=x.length)(h32:l.length<=32):Jn (am x l) ((atL l).foldl am x)/\wd ((atL l).foldl am x) 24=0:=by
 have hw:=ib l;have d:Jn x (am x (lsE 32 (cn l))):=ze λe a=>by
  have:=uI (cn l) 32 (n:=256) (by omega) e a;omega
 have b:∀(y:List Nat) (v:Nat),Jn y (am y [⟨24,v⟩]):=λy v=>ze λe a=>by rw[kq0] at a;subst a;exact .inl rfl
 refine⟨((d.trans (b _ _)).puts l).trans (b _ _),?_⟩;show wd (am (am (am (am x (lsE 32 (cn l))) [⟨24,cmW l⟩]) l) [⟨24,0⟩]) 24=0;obtain⟨y,c⟩:∃y,am (am (am x (lsE 32 (cn l))) [⟨24,cmW l⟩]) l=y:=⟨_,rfl⟩;have hl:y.length=x.length:=by rw[<-c,ax,ax,ax]
 rw[c];simp only[am];rw[if_pos (show (0:Int)<=24/\(24:Int)<(y.length:Int) by omega)];unfold wd;rw[show (24:Int).toNat=24 from rfl,kz6 (by omega)];rfl
theorem FV(h:eW d=true)(h0:l≠[])(h32:l.length<=32)(hi:mD d.im.length l)(hd:(atM d l).down=false):d.down=false/\Jn (am (dvV d) l) (dvV (atM d l))/\wd (dvV (atM d l)) 24=0:=by rw[oX h0] at hd |-;obtain⟨a,b⟩:=rps_v _ h (uR (jF h) h32 hi) hd;rw[b];exact⟨a,jn_atL (by rw[kg];exact jF h) h32⟩
section
variable {ws xs:List Nat}
theorem Jn.hi(h:Jn ws xs)(j:Nat)(hj:96<=j):wd xs j=wd ws j:=h.2 j (by omega) (.inr hj)
theorem Jn.lo(h:Jn ws xs)(j:Nat)(hj:j<24):wd xs j=wd ws j:=h.2 j (by omega) (.inl (by omega))
theorem Jn.bl(h:Jn ws xs)(hi:96<=i):blocks xs i=blocks ws i:=dP h.1 i λj hj=>h.hi j (by omega)
theorem Jn.fit(h:Jn ws xs):dC xs=dC ws:=funext λb=>qU h.hi b
theorem Jn.hp(h:Jn ws xs):ah xs=ah ws:=by unfold ah;rw[h.1,h.bl (by decide),h.fit]
theorem Jn.hpo(h:Jn ws xs):ag xs=ag ws:=by unfold ag;rw[h.hp,h.bl (by decide)]
theorem Jn.fr(h:Jn ws xs)(a:Int):bQ xs a=bQ ws a/\aN xs a=aN ws a:=by
 have e:bQ xs a=bQ ws a:=by
  unfold bQ;rw[h.1];cases c:fc ws.length a
  .rw[h.bl (by have:=jE c;omega)]
  rfl
 refine⟨e,?_⟩;unfold aN;rw[e];by_cases b:bQ ws a=0
 .rw[if_pos b,if_pos b,h.bl];unfold bQ at b;split at b
  .cases c:fc ws.length a
   .have:=jE c;omega
   rw[c] at b;cases b
  cases b
 rw[if_neg b,if_neg b]
theorem Jn.nx(h:Jn ws xs)(a:Int):bg xs a=bg ws a/\ie xs a=ie ws a:=by unfold bg ie;rw[(h.fr a).1,(h.fr a).2];exact⟨rfl,rfl⟩
theorem GN(h:aW ws f s=0):128<=f.toNat:=by obtain⟨-,a,-⟩:=bY h;simp only[fT,kzl,kqh] at a;omega
theorem DK(h2:fT n f s=false):128<=f.toNat:=by simp only[fT,kzl,kqh] at h2;omega
theorem Jn.rd(h:Jn ws xs)(f s:Int):aW xs f s=aW ws f s/\ic xs f s=ic ws f s:=by
 have e:aW xs f s=aW ws f s:=by
  by_cases c:96<=f.toNat
  .exact tS h.1 h.hi c
  unfold aW;rw[h.1];cases b:fT ws.length f s
  .have:=DK b;omega
  rfl
 refine⟨e,?_⟩;unfold ic;rw[e];by_cases a:aW ws f s=0
 .rw[if_pos a,if_pos a,h.bl (by have:=GN a;omega)]
 rw[if_neg a,if_neg a]
theorem Jn.pr(h:Jn ws xs):cA xs=cA ws:=by unfold cA iF;rw[h.1,h.lo 16 (by decide),h.lo 17 (by decide),h.lo 18 (by decide),h.lo 19 (by decide),h.lo 20 (by decide),h.lo 21 (by decide),h.lo 22 (by decide),h.lo 23 (by decide)]
theorem Jn.ln(h:Jn ws xs):cM xs=cM ws:=by unfold cM nR;rw[h.pr,h.lo 16 (by decide),h.lo 17 (by decide),h.bl (by decide),h.1]
theorem Jn.mdOk(h:Jn ws xs)(hi:96<=i):Proofs.YtpcajamacpbjcaaGreat.mdOk xs i=Proofs.YtpcajamacpbjcaaGreat.mdOk ws i:=by unfold Proofs.YtpcajamacpbjcaaGreat.mdOk cZ;rw[h.hi i hi,h.hi (tyA (ar (wd ws i))) (by unfold tyA;omega),h.hi (tyA (ar (wd ws i))+1) (by unfold tyA;omega)]
theorem Jn.mvd(h:Jn ws xs)(t:Nat)(hi:96<=i):Proofs.YtpcajamacpbjcaaGreat.mvd xs i t=Proofs.YtpcajamacpbjcaaGreat.mvd ws i t:=by
 have a:∀f i,96<=i->tV xs f i t=tV ws f i t:=by
  intro f
  induction f with
  | zero=>intro i _;rfl
  | succ f ih =>intro i hi;unfold tV;rw[h.mdOk hi,show szAt xs i=szAt ws i by unfold szAt;rw[h.hi i hi],ih _ (by omega)]
 exact a _ _ hi
theorem Jn.ck(h:Jn ws xs):aw xs=aw ws:=by unfold aw;rw[h.ln,h.lo 16 (by decide),h.lo 17 (by decide),h.lo 18 (by decide),h.mvd _ (by decide),(h.rd _ _).1,(h.rd 128 128).1,h.hp]
theorem Jn.sl(h:Jn ws xs)(i:Nat):slAt xs i=slAt ws i:=by unfold slAt;rw[h.hi _ (by omega)]
theorem Jn.sls(h:Jn ws xs):slsOk xs=slsOk ws:=by unfold slsOk;rw[show (λi=>mA (slAt xs i))=λi=>mA (slAt ws i) from funext λi=>by rw[h.sl]]
theorem Jn.tb(h:Jn ws xs)(a:Nat):Proofs.YtpcajamacpbjcaaGreat.tb xs a=Proofs.YtpcajamacpbjcaaGreat.tb ws a:=by unfold Proofs.YtpcajamacpbjcaaGreat.tb;rw[h.1,h.hpo]
theorem Jn.flds(h:Jn ws xs){a:Nat}(ha:96<=a):Proofs.YtpcajamacpbjcaaGreat.flds xs a=Proofs.YtpcajamacpbjcaaGreat.flds ws a:=by unfold Proofs.YtpcajamacpbjcaaGreat.flds;rw[h.hi a ha,h.hi _ (by omega),h.hi _ (by omega)]
theorem tb_hp{a:Nat}(ht:Proofs.YtpcajamacpbjcaaGreat.tb ws a≠0):ah ws=0:=by
 by_cases h:ah ws=0
 .exact h
 exfalso;apply ht;unfold Proofs.YtpcajamacpbjcaaGreat.tb ag pz;rw[if_neg h,kvq,kj8];split<;>rfl
theorem Jn.rch(h:Jn ws xs){a:Nat}(hr:Rch ws a):Rch xs a:=by
 induction hr with
 | slot i hi hu =>rw[<-h.sl];exact .slot i hi (by rw[h.sl];exact hu)
 | ref a i ha ht hi hv ih =>have b:=(iy (tb_hp ht) ht).1;have h128:=b.1;rw[<-h.hi (a+2+i) (by omega)] at hv |-;exact .ref a i ih (by rw[h.tb];exact ht) (by rw[h.flds (by omega)];exact hi) hv
theorem Jn.rchI(h:Jn ws xs)(a:Nat):Rch xs a↔Rch ws a:=⟨h.symm.rch,h.rch⟩
theorem Jn.good(h:Jn ws xs):oB xs↔oB ws:=by
 unfold oB;constructor
 .intro g a b;rw[<-h.tb];exact g a (h.rch b)
 intro g a b;rw[h.tb];exact g a ((h.rchI a).1 b)
theorem Jn.rc(h:Jn ws xs):aA xs=aA ws:=by
 unfold aA;rw[h.hp,h.sls];by_cases g:oB ws
 .rw[if_pos g,if_pos (h.good.2 g)]
 rw[if_neg g,if_neg λa=>g (h.good.1 a)]
theorem Jn.seen(h:Jn ws xs):seenL xs=seenL ws:=by unfold seenL;rw[h.1];refine kz4 λa _=>?_;exact decide_eq_decide.2 (h.rchI a)
theorem hp_ge{b:Bk}(hb:b∈ag ws):128<=b.at_.toNat:=by
 have c:ah ws=0:=by
  by_cases h:ah ws=0
  .exact h
  unfold ag at hb;rw[if_neg h] at hb;exact absurd hb (by simp)
 obtain⟨a,e,ha,-⟩:=(cg c).1 b hb;rw[e,ae];omega
theorem Jn.wt(h:Jn ws xs):aO xs=aO ws:=by
 unfold aO;rw[h.rc,h.seen,h.hpo];split
 .refine kz4 λb a=>?_;unfold xS;rw[h.hi _ (by have:=hp_ge (qt a);omega)]
 rfl
theorem Jn.wn(h:Jn ws xs):aG xs=aG ws:=by unfold aG;rw[h.hp,h.hpo]
theorem Jn.fx(h:Jn ws xs):cm xs=cm ws/\eV xs=eV ws:=by
 have e:cm xs=cm ws:=by unfold cm;rw[h.hp,(h.rd 128 128).1]
 refine⟨e,?_⟩;unfold eV;rw[e,(h.rd 128 128).2]
theorem Jn.slFix(h:Jn ws xs)(m:List (Int × Int)):∀k,Proofs.YtpcajamacpbjcaaGreat.slFix xs m k=Proofs.YtpcajamacpbjcaaGreat.slFix ws m k:=by
 intro k
 induction k with
 | zero=>rfl
 | succ k ih =>unfold Proofs.YtpcajamacpbjcaaGreat.slFix;rw[ih,show gx xs m k=gx ws m k by unfold gx;rw[h.sl,h.hi (112+k) (by omega)]]
theorem Jn.fs(h:Jn ws xs):ep xs=ep ws/\dV xs=dV ws:=by
 have e:ep xs=ep ws:=by unfold ep;rw[h.fx.1,h.fx.2,h.sls,h.slFix]
 refine⟨e,?_⟩;unfold dV;rw[e,h.fx.2,h.slFix]
theorem Jn.rfs(h:Jn ws xs)(b:Bk):fu xs b=fu ws b:=by unfold fu vj;rw[h.hi (tyA b) (by unfold tyA;omega),h.hi (tyA b+1) (by unfold tyA;omega)]
theorem Hi{F:List Nat}{r:Int}(h:r∈ra F a j):a<=r:=by
 unfold ra at h;obtain⟨i,-,b⟩:=kjz.1 h;split at b
 .injection b with b;omega
 cases b
theorem Jn.ob(h:Jn ws xs)(a:Int):dt xs a=dt ws a/\cD xs a=cD ws a/\bM xs a=bM ws a:=by
 have d:∀b,ah ws=0->jQ (aN ws 128) a=some b->∀M,di xs M (fu ws b)=di ws M (fu ws b):=λb c e M=>oq λr i=>by
  obtain⟨m,e1,j,k⟩:=BM c e;have l:=Hi i;rw[j,ae] at l;have:=k.1;exact h.hi _ (by omega)
 have f:cm ws=0->ah ws=0:=λg=>by
  unfold cm at g;split at g
  .assumption
  assumption
 refine⟨?_,?_,?_⟩
 .unfold dt;rw[h.fx.1,h.fx.2,(h.fr 128).2];by_cases c:cm ws=0
  .rw[if_pos c,if_pos c];cases e:jQ (aN ws 128) a with
   | none=>rfl
   | some b=>dsimp only;rw[h.rfs,d b (f c) e]
  rw[if_neg c,if_neg c]
 .unfold cD;rw[h.fx.1,h.fx.2,(h.fr 128).2];by_cases c:cm ws=0
  .rw[if_pos c,if_pos c];cases e:jQ (aN ws 128) a with
   | none=>rfl
   | some b=>dsimp only;rw[h.rfs,d b (f c) e]
  rw[if_neg c,if_neg c]
 unfold bM;rw[h.hp,(h.fr 128).2];split
 .cases jQ (aN ws 128) a with
  | none=>rfl
  | some b=>exact h.rfs b
 rfl
theorem Jn.fixL(h:Jn ws xs):∀f a,Proofs.YtpcajamacpbjcaaGreat.fixL xs f a=Proofs.YtpcajamacpbjcaaGreat.fixL ws f a:=by
 intro f
 induction f with
 | zero=>intro a;rfl
 | succ f ih =>intro a;unfold Proofs.YtpcajamacpbjcaaGreat.fixL;rw[(h.nx a).1,(h.nx a).2,(h.ob _).1,(h.ob _).2.1,(h.ob _).2.2,ih]
theorem Jn.sgFix(h:Jn ws xs):Proofs.YtpcajamacpbjcaaGreat.sgFix xs=Proofs.YtpcajamacpbjcaaGreat.sgFix ws:=by unfold Proofs.YtpcajamacpbjcaaGreat.sgFix kK;rw[h.lo 17 (by decide),h.fs.1,h.fs.2,h.1,h.fixL]
theorem Jn.mv(h:Jn ws xs)(f t:Int):dK xs f t=dK ws f t/\iW xs f t=iW ws f t:=by
 have e:dK xs f t=dK ws f t:=by
  unfold dK;rw[(h.rd f t).1];by_cases a:aW ws f t=0
  .rw[if_pos a,if_pos a,h.bl (by have:=GN a;omega)]
  rw[if_neg a,if_neg a]
 refine⟨e,?_⟩;unfold iW;rw[e];by_cases a:dK ws f t=0
 .rw[if_pos a,if_pos a];have hg:128<=f.toNat:=by
   refine GN (ws:=ws) (s:=t) ?_;unfold dK at a;split at a
   .assumption
   assumption
  unfold jN szAt;rw[h.hi _ (show 96<=f.toNat by omega)];refine kz4 λj _=>?_;rw[h.hi (f.toNat+j) (by omega)]
 rw[if_neg a,if_neg a]
theorem Jn.sgSld(h:Jn ws xs):Proofs.YtpcajamacpbjcaaGreat.sgSld xs=Proofs.YtpcajamacpbjcaaGreat.sgSld ws:=by unfold Proofs.YtpcajamacpbjcaaGreat.sgSld;rw[h.lo 17 (by decide),h.lo 18 (by decide),(h.nx _).1,(h.nx _).2,(h.mv _ _).1,(h.mv _ _).2]
theorem Jn.sg(h:Jn ws xs):af xs=af ws:=by unfold af;rw[h.ck,h.lo 16 (by decide),h.rc,h.wt,h.hp,h.wn,h.sgFix,h.sgSld]
theorem Jn.lf(h:Jn ws xs):lfN xs=lfN ws:=by unfold lfN gi;rw[h.ck,h.lo 16 (by decide),h.lo 17 (by decide),(h.fr _).2]
theorem Jn.en(h:Jn ws xs):el xs=el ws/\dx xs=dx ws:=by
 have e:el xs=el ws:=by unfold el;rw[h.ck,h.lo 16 (by decide),h.lf]
 refine⟨e,?_⟩;unfold dx fj;rw[e,h.lo 18 (by decide),h.1]
theorem Jn.next(h:Jn ws xs):cO xs=cO ws:=by unfold cO;rw[h.sg,h.lo 16 (by decide),h.en.1,h.en.2]
end
structure DvLt (d:Dv):Prop where
 im:∀v∈d.im,v<18446744073709551616
 dw:∀e∈d.dw,e.v<18446744073709551616
theorem set_lt{v B:Nat}(h:∀u∈x,u<B)(hv:v<B):∀u∈x.set i v,u<B:=λu b=>by
 rcases List.mem_or_eq_of_mem_set b with a|a
 .exact h u a
 .rw[a];exact hv
theorem Ba:∀(l:List Dw) (x:List Nat),(∀v∈x,v<18446744073709551616)->(∀e∈l,e.v<18446744073709551616)->∀v∈kn x l,v<18446744073709551616:=by
 intro l
 induction l with
 | nil=>intro x h _;exact h
 | cons e l ih=>intro x h a;exact ih _ (set_lt h (a e (by simp))) λy b=>a y (by simp[b])
theorem DvLt.v(h:DvLt d):∀v∈dvV d,v<18446744073709551616:=Ba _ _ h.im h.dw
theorem yz{v:Nat}:∀ {l:List Dw} {e:Dw},e∈stQ l a v->e∈l\/e=⟨a,v,false⟩:=by
 intro l
 induction l with
 | nil=>intro e b;exact .inr (by simpa [stQ] using b)
 | cons x l ih =>
  intro e b;unfold stQ at b;split at b
  .rcases kqx.1 b with rfl|b
   .exact .inl (by simp)
   rcases ih b with h|h
   .exact .inl (by simp[h])
   exact .inr h
  split at b
  .rcases kqx.1 b with rfl|b
   .exact .inr rfl
   exact .inl (by simp[b])
  rcases kqx.1 b with rfl|b
  .exact .inr rfl
  exact .inl b
theorem DvLt.st(h:DvLt d){v:Nat}(hv:v<18446744073709551616):DvLt (dvS d a v):=by
 unfold dvS dvD;split
 .exact ⟨h.im,h.dw⟩
 exact⟨h.im,λe c=>by
  rcases yz c with b|rfl
  .exact h.dw e b
  exact hv⟩
theorem DvLt.fl(h:DvLt d):DvLt (dvF d a):=by
 unfold dvF dvD;split
 .exact ⟨h.im,h.dw⟩
 refine⟨h.im,λe b=>?_⟩;obtain⟨y,c,rfl⟩:=kzw.1 b;rw[(qL a y).2];exact h.dw y c
theorem DvLt.fn(h:DvLt d):DvLt (dvN d):=by
 unfold dvN dvD;split
 .exact ⟨h.im,h.dw⟩
 exact⟨Ba _ _ h.im λe a=>h.dw e ((kzo.1 a).1),λe a=>h.dw e ((kzo.1 a).1)⟩
theorem DvLt.sts:∀(l:List En) {d:Dv},DvLt d->(∀e∈l,e.v<18446744073709551616)->DvLt (nP d l):=by
 intro l
 induction l with
 | nil=>intro d h _;exact h
 | cons e l ih=>intro d h b;exact ih (d:=dvS d e.a e.v) (h.st (b e (by simp))) λy c=>b y (by simp[c])
theorem DvLt.fls(h:DvLt d):∀k,DvLt (kM ad d k):=by
 intro k
 induction k with
 | zero=>exact h
 | succ k ih =>
  unfold kM;split
  .exact ih.fl
  exact ih
theorem DvLt.rp(h:DvLt d)(he:∀e∈l,e.v<18446744073709551616):DvLt (rpP d l):=((h.sts l he).fls _).fn
theorem Fl:∀(l:List Nat) (a:Int),(∀v∈l,v<18446744073709551616)->∀e∈lsE a l,e.v<18446744073709551616:=by
 intro l
 induction l with
 | nil=>intro a _ e b;exact absurd b (by simp[lsE])
 | cons v l ih =>
  intro a h e b;simp only[lsE,kqx] at b;rcases b with rfl|b
  .exact h v (by simp)
  exact ih _ (λy c=>h y (by simp[c])) e b
theorem Ff(h:l.length<=32):cmW l<18446744073709551616:=by unfold cmW;have:=kz0 (aS 14695981039346656037 (cn l)) (show 0<288230376151711744 by decide);omega
theorem AB(h:∀e∈l,e.a<2048/\e.v<18446744073709551616):∀x∈cn l,x<18446744073709551616:=by
 induction l with
 | nil=>intro x b;exact absurd b (by simp[cn])
 | cons e l ih =>
  intro x b;have c:=h e (by simp);simp only[cn,kqx] at b;rcases b with rfl|rfl|b
  .omega
  .exact c.2
  exact ih (λy d=>h y (by simp[d])) x b
theorem DvLt.at_(h:DvLt d)(h32:l.length<=32)(he:∀e∈l,e.a<2048/\e.v<18446744073709551616):DvLt (atM d l):=by
 unfold atM;split
 .exact h
 refine (((h.rp (Fl _ _ (AB he))).rp λe b=>?_).rp λe b=>(he e b).2).rp λe b=>?_
 .rw[kq0] at b;subst b;exact Ff h32
 rw[kq0] at b;subst b;decide
def yD:List (List En)->Dv->Dv × Int
 | [],d=>(d,0)
 | l::L,d=>if (atM d l).down=true then (atM d l,60) else yD L (atM d l)
def dvZ:Dv:=⟨[],[],0,false⟩
noncomputable def coR (d:Dv):Dv × Int:=if ff d=0 then (if d.down=true then (dvZ,60) else if cc (dvV d)=0 then yD (coL (dvV d)) d else (dvZ,cc (dvV d))) else (dvZ,8)
theorem Bq(h:l.Pairwise (λa b=>a.a<b.a)){n:Int}(hi:∀e∈l,Cs e.a n=true):∀k,k<=l.length->eC (cE l) n k=true:=by
 intro k
 induction k with
 | zero=>intro _;rfl
 | succ k ih =>
  intro hk;refine og (ih (by omega)) ?_ ?_
  .rw[fd l k (by omega)];exact hi _ (kqp _)
  rw[fd l k (by omega)];have c:∀j,j<=k->cJ (cE l) (l[k]).a j=false:=by
   intro j
   induction j with
   | zero=>intro _;rfl
   | succ j ih2 =>intro hj;unfold cJ;rw[ih2 (by omega),Bool.false_or,kqi,fd l j (by omega)];have:=kzj.1 h j k (by omega) (by omega) (by omega);omega
  exact c k (kqd _)
theorem Small.ent(h:Small n l)(hs:aj (n:Int)=true):eh (cE l) (n:Int)=0:=by refine rn hs (by rw[da];exact h.le) ?_;rw[da];exact Bq h.inc (λe a=>(pv _ _).2 (by have:=h.ins e a;omega)) _ (kqd _)
theorem Small.eok(h:Small n l)(hn:n<=2048):∀e∈l,e.ok:=λe a=>by have h1:=h.ins e a;have h2:=h.val e a;unfold En.ok;omega
theorem Small.in_(h:Small n l):mD n l:=λe a=>by have:=h.ins e a;omega
theorem Small.ne(h:Small n l):l≠[]:=λe=>by have:=h.pos;rw[e] at this;simp at this
structure RnAt (n:Nat) (x0 y:List Nat) (d:Dv) (E:List En) (outs:List (List En)):Prop where
 ok:eW d=true
 lt:DvLt d
 up:d.down=false
 len:d.im.length=n
 small:Small n E
 w24:wd (dvV d) 24=0
 way:∃x,Jn x (dvV d)/\(∀v∈am x E,v<18446744073709551616)/\rsE (am x E)=(0,outs,y)/\(x=x0\/(∀v∈x,v<18446744073709551616)/\rsE x=(0,E::outs,y))
section
variable {n:Nat} {x0 y:List Nat} {d:Dv} {E E2:List En} {outs:List (List En)}
theorem RnAt.err(h:RnAt n x0 y d E outs):atErr d E=0:=by unfold atErr;have a:=((bH d).1 h.ok).1;rw[if_pos (jH h.ok),if_pos (by rw[h.len] at a |-;exact h.small.ent a),if_pos h.w24]
theorem RnAt.size(h:RnAt n x0 y d E outs):aj (n:Int)=true:=by rw[<-h.len];exact ((bH d).1 h.ok).1
theorem RnAt.made(h:RnAt n x0 y d E outs):eW (atM d E)=true/\DvLt (atM d E)/\(atM d E).im.length=n:=by have hs:=(aa _).1 h.size;refine⟨atM_ok h.ok h.small.le (by rw[h.len];exact h.small.in_),h.lt.at_ h.small.le λe a=>⟨?_,h.small.val e a⟩,by rw[Hb,h.len]⟩;have:=h.small.ins e a;omega
theorem zS{z y:List Nat}(ho:∀v∈z,v<18446744073709551616)(h:rsE z=(0,[],y)):z=y/\cO z=(0,true,[]):=by
 obtain⟨c,b,a⟩:=ta ho h;have e:z=y:=c;rw[<-e] at b a;refine⟨e,?_⟩;unfold cO at b a |-;split at a
 .rename_i c1;rw[if_pos c1] at b |-;split at a
  .rename_i c2;rw[if_pos c2]
  cases a
 cases a
theorem RnAt.done(h:RnAt n x0 y d E [])(hd:(atM d E).down=false):cO (dvV (atM d E))=(0,true,[]):=by obtain⟨x,e,c,a,-⟩:=h.way;obtain⟨-,b,-⟩:=FV h.ok h.small.ne h.small.le (by rw[h.len];exact h.small.in_) hd;rw[((e.puts E).trans b).next];exact (zS c a).2
theorem RnAt.step(h:RnAt n x0 y d E (E2::outs))(hd:(atM d E).down=false):cO (dvV (atM d E))=(0,false,E2)/\RnAt n x0 y (atM d E) E2 outs:=by
 obtain⟨x,f,c,e,-⟩:=h.way;obtain⟨-,m,i⟩:=FV h.ok h.small.ne h.small.le (by rw[h.len];exact h.small.in_) hd;have g:=(f.puts E).trans m;obtain⟨b,k⟩:=pF c e;have a:=qn c (by rw[b]) (by rw[b]);rw[b] at a;have l:(am x E).length=n:=by rw[ax,<-f.1,kg,h.len]
 rw[l] at a;obtain⟨o,p,j⟩:=h.made;exact⟨by rw[g.next,b],o,p,hd,j,a.1,i,am x E,g,a.2.1,k,.inr ⟨c,e⟩⟩
end
theorem uh(hok:eW d=true)(hlt:DvLt d)(hup:d.down=false)(h0:cc (dvV d)=0)(h24:wd (dvV d) 24=0):RnAt d.im.length (dvV d) (cpZ (dvV d)) d [⟨16,1⟩] (rsE (gG (dvV d))).2.1:=by
 obtain⟨b,f⟩:=iC h0;obtain⟨t,h⟩:=nu f;have g:=h.all hlt.v;have c:=mp (pY hlt.v) g;rw[kg] at b;have hb:=(aa _).1 b;refine⟨hok,hlt,hup,rfl,⟨by decide,by decide,by simp,λe a=>?_,λe a=>?_⟩,h24,dvV d,Jn.refl _,pY hlt.v,?_,.inl rfl⟩
 .rw[kq0] at a;subst a;dsimp only;omega
 .rw[kq0] at a;subst a;decide
 exact c.2.1
theorem Fe(hok:eW d=true)(hup:d.down=false)(h0:cc (dvV d)=0):coR d=yD ([⟨16,1⟩]::(rsE (gG (dvV d))).2.1) d:=by unfold coR;rw[if_pos (jH hok),hup,if_neg (by simp),if_pos h0];unfold coL;rw[if_pos h0]
end Go.Proofs.YtpcajamacpbjcaaGreat
