import Derived.Test.YtpcajamacpbjcaaGreatZGA
import Derived.Test.YtpcajamacpbjcaaGreatZKLy2
set_option maxHeartbeats 16000000
set_option linter.all false
namespace Go.Proofs.YtpcajamacpbjcaaGreat
open Go.RowKit
variable {d:Dv}{a f s:Int}{l:List En}{ad:List Int}{b x:List Nat}{i j n:Nat}
theorem qg:∀(l:List Dw) (x:List Nat) (i v:Nat),(∀e∈l,e.a.toNat≠i)->iU (x.set i v) l=(iU x l).set i v:=by
 intro l
 induction l with
 | nil=>intro x i v _;rfl
 | cons e l c =>intro x i v h;show iU ((x.set i v).set e.a.toNat e.v) l=(iU (x.set e.a.toNat e.v) l).set i v;rw[List.set_comm _ _ (Ne.symm (h e (by simp))),c _ _ _ λy b=>h y (by simp[b])]
theorem Iy{v:Nat}:∀ {l:List Dw} {b:Int} (x:List Nat),fP n l b=true -> -1<=b->b<a->iU x (stQ l a v)=(iU x l).set a.toNat v:=by
 intro l
 induction l with
 | nil=>intro b x _ _ _;rfl
 | cons e l c =>
  intro b x h hb hba;have hm:=fc h;simp only[fP,kqs,kze] at h;have g:=fc h.2.2;unfold stQ;by_cases d:e.a<a
  .rw[if_pos d];exact c (x.set e.a.toNat e.v) h.2.2 (by omega) d
  rw[if_neg d];by_cases f:e.a=a
  .rw[if_pos f];show iU (x.set a.toNat v) l=(iU (x.set e.a.toNat e.v) l).set a.toNat v;rw[<-qg l _ _ _ λy c=>by have:=g y c;omega,f,List.set_set]
  rw[if_neg f];show iU (x.set a.toNat v) (e::l)=(iU x (e::l)).set a.toNat v;exact qg _ _ _ _ λy c=>by
   rcases kq0.1 c with rfl|c
   .omega
   have:=g y c;omega
theorem zN(a:Int)(e:Dw):(flB a e).a=e.a/\(flB a e).v=e.v:=by unfold flB;split<;>exact⟨rfl,rfl⟩
theorem Js(a:Int):∀(l:List Dw) (x:List Nat),iU x (flQ a l)=iU x l:=by
 intro l
 induction l with
 | nil=>intro x;rfl
 | cons e l b =>intro x;show iU (x.set (flB a e).a.toNat (flB a e).v) (flQ a l)=_;rw[(zN a e).1,(zN a e).2,b];rfl
theorem IF :∀ {l:List Dw} {b:Int} (x:List Nat),fP n l b=true -> -1<=b->iU (fnI x l) (fnQ l)=iU x l:=by
 intro l
 induction l with
 | nil=>intro b x _ _;rfl
 | cons e l i =>
  intro b x h hb;simp only[fP,kqs,kze] at h;have g:=fc h.2.2;have d:=i (x.set e.a.toNat e.v) h.2.2 (by omega);unfold fnI fnQ at d |-;cases c:e.f with
  | true =>rw[kju c,kk5 (by simp[c])];exact d
  | false =>rw[kk5 (by simp[c]),kju (by simp[c])];show iU ((iU x (l.filter (·.f))).set e.a.toNat e.v) _=iU (x.set e.a.toNat e.v) l;rw[<-d,qg (l.filter (·.f)) _ _ _ λy i=>by have:=g y (kzy.1 i).1;omega]
theorem dvS_v{v:Nat}(h:fg d=true)(h0:0<=a)(b:(dvS d a v).down=false):d.down=false/\dvV (dvS d a v)=(dvV d).set a.toNat v:=by
 unfold dvS at b |-;by_cases c:d.left=0
 .rw[if_pos c] at b;cases b
 rw[if_neg c] at b |-;exact⟨b,Iy d.im ((cq d).1 h).2.2.2.2 (by omega) (by omega)⟩
theorem dvF_v(b:(dvF d a).down=false):d.down=false/\dvV (dvF d a)=dvV d:=by
 unfold dvF at b |-;by_cases c:d.left=0
 .rw[if_pos c] at b;cases b
 rw[if_neg c] at b |-;exact⟨b,Js a _ _⟩
theorem dvN_v(h:fg d=true)(a:(dvN d).down=false):d.down=false/\dvV (dvN d)=dvV d:=by
 unfold dvN at a |-;by_cases b:d.left=0
 .rw[if_pos b] at a;cases a
 rw[if_neg b] at a |-;exact⟨a,IF _ ((cq d).1 h).2.2.2.2 (by omega)⟩
theorem iD(d:Dv):(dvV d).length=d.im.length:=mV _ _
def oU (n:Nat) (l:List En):Prop:=∀e∈l,0<=e.a/\e.a<(n:Int)
theorem dvSs_v:∀(l:List En) {d:Dv},fg d=true->oU d.im.length l->(rT d l).down=false->d.down=false/\dvV (rT d l)=au (dvV d) l:=by
 intro l
 induction l with
 | nil=>intro d _ _ c;exact⟨c,rfl⟩
 | cons e l m =>intro d h f c;have b:=f e (by simp);obtain⟨g,i⟩:=m (d:=dvS d e.a e.v) (v9 h b.1 b.2) (λx j=>by rw[ss];exact f x (by simp[j])) c;obtain⟨j,k⟩:=dvS_v h b.1 g;refine⟨j,?_⟩;show dvV (rT (dvS d e.a e.v) l)=_;rw[i,k];simp only[au];rw[if_pos (by rw[iD];exact b)]
theorem dvFs_v :∀k,(lE ad d k).down=false->d.down=false/\dvV (lE ad d k)=dvV d:=by
 intro k
 induction k with
 | zero=>intro a;exact⟨a,rfl⟩
 | succ k b =>
  unfold lE;split
  .intro a;obtain⟨c,e⟩:=dvF_v a;obtain⟨f,g⟩:=b c;exact⟨f,e.trans g⟩
  exact b
theorem rpP_v(h:fg d=true)(b:oU d.im.length l)(a:(rpP d l).down=false):d.down=false/\dvV (rpP d l)=au (dvV d) l:=by unfold rpP at a |-;obtain⟨c,e⟩:=dvN_v (Bb (AG l h b) _) a;obtain⟨f,g⟩:=dvFs_v _ c;obtain⟨i,j⟩:=dvSs_v l h b f;exact⟨i,by rw[e,g,j]⟩
theorem vQ:∀(l:List Nat) (a:Nat) {n:Nat},a+l.length<=n->∀e∈lsE (a:Int) l,(a:Int)<=e.a/\e.a<((a+l.length:Nat):Int)/\e.a<(n:Int):=by
 intro l
 induction l with
 | nil=>intro a n _ e b;exact absurd b (by simp[lsE])
 | cons v l c =>
  intro a n h e b;rw[kq4] at h;simp only[lsE,kq0] at b;rcases b with rfl|b
  .dsimp only;rw[kq4];omega
  have:=c (a+1) (n:=n) (by omega) e (by exact_mod_cast b);rw[kq4];omega
def atL (l:List En):List (List En):=[lsE 32 (bH l),[⟨24,cmW l⟩],l,[⟨24,0⟩]]
theorem wy(h:l≠[]):atM d l=(atL l).foldl rpP d:=by unfold atM atL;rw[if_neg h];simp only[kjz,List.foldl_nil]
theorem F2(hn:256<=n)(h32:l.length<=32)(c:oU n l):∀E∈atL l,oU n E:=by
 intro E b;have hw:=fZ l;simp only[atL,kq0,kzm,or_false] at b;rcases b with rfl|rfl|rfl|rfl
 .intro e a;have:=vQ (bH l) 32 (n:=n) (by omega) e a;omega
 .intro e a;rw[kq2] at a;subst a;dsimp only;omega
 .exact c
 intro e a;rw[kq2] at a;subst a;dsimp only;omega
theorem I2:∀(L:List (List En)) (d:Dv),(L.foldl rpP d).im.length=d.im.length:=by
 intro L
 induction L with
 | nil=>intro d;rfl
 | cons l L a=>intro d;rw[kjz,a,iB]
theorem rps_ok:∀(L:List (List En)) {d:Dv},fg d=true->(∀E∈L,oU d.im.length E)->fg (L.foldl rpP d)=true:=by
 intro L
 induction L with
 | nil=>intro d h _;exact h
 | cons l L c =>intro d h a;rw[kjz];exact c (pS h (a l (by simp))) λE b=>by rw[iB];exact a E (by simp[b])
theorem rps_v:∀(L:List (List En)) {d:Dv},fg d=true->(∀E∈L,oU d.im.length E)->(L.foldl rpP d).down=false->d.down=false/\dvV (L.foldl rpP d)=L.foldl au (dvV d):=by
 intro L
 induction L with
 | nil=>intro d _ _ a;exact⟨a,rfl⟩
 | cons l L i =>intro d h b a;rw[kjz] at a |-;obtain⟨c,e⟩:=i (pS h (b l (by simp))) (λE f=>by rw[iB];exact b E (by simp[f])) a;obtain⟨f,g⟩:=rpP_v h (b l (by simp)) c;exact⟨f,by rw[e,g];rfl⟩
theorem BK(d:Dv)(l:List En):(atM d l).im.length=d.im.length:=by
 by_cases h:l=[]
 .unfold atM;rw[if_pos h]
 rw[wy h,I2]
theorem qz(h:fg d=true):256<=d.im.length:=by have:=(ae _).1 ((cq d).1 h).1;omega
theorem atM_ok(h:fg d=true)(a:l.length<=32)(c:oU d.im.length l):fg (atM d l)=true:=by
 by_cases b:l=[]
 .unfold atM;rw[if_pos b];exact h
 rw[wy b];exact rps_ok _ h (F2 (qz h) a c)
def Jn (G xs:List Nat):Prop:=xs.length=G.length/\∀j,j≠24->(j<32\/96<=j)->wd xs j=wd G j
theorem Jn.refl(G:List Nat):Jn G G:=⟨rfl,λ_ _ _=>rfl⟩
theorem Jn.trans{a c:List Nat}(h:Jn a b)(g:Jn b c):Jn a c:=⟨g.1.trans h.1,λj d e=>(g.2 j d e).trans (h.2 j d e)⟩
theorem Jn.symm{a:List Nat}(h:Jn a b):Jn b a:=⟨h.1.symm,λj c d=>(h.2 j c d).symm⟩
theorem F4{E:List En}(h:∀e∈E,e.a=24\/32<=e.a/\e.a<96):Jn x (au x E):=⟨aG _ _,λj h1 hj=>bj _ _ _ λe b=>by have:=h e b;omega⟩
theorem vL{c:Prop}[Decidable c]{v:Nat}:wd (if c then x.set i v else x) j=if c/\i=j/\j<x.length then v else wd x j:=by
 by_cases h:c
 .rw[if_pos h];by_cases e:i=j
  .subst e;by_cases a:i<x.length
   .rw[if_pos ⟨h,rfl,a⟩];unfold wd;rw[kz0 a];rfl
   rw[if_neg (λh=>a h.2.2)];unfold wd;rw[List.getElem?_set_self'];simp[a]
  rw[if_neg (λh=>e h.2.1)];unfold wd;rw[kxs e]
 rw[if_neg h,if_neg (λg=>h g.1)]
theorem Jn.puts:∀(E:List En) {G a:List Nat},Jn G a->Jn (au G E) (au a E):=by
 intro E
 induction E with
 | nil=>intro G a h;exact h
 | cons e E d =>intro G a h;simp only[au];refine d ⟨by have:=h.1;split<;>split<;>simp[this],λj b c=>?_⟩;rw[vL,vL,h.1,h.2 j b c]
theorem jn_atL(hn:256<=x.length)(h32:l.length<=32):Jn (au x l) ((atL l).foldl au x)/\wd ((atL l).foldl au x) 24=0:=by
 have hw:=fZ l;have c:Jn x (au x (lsE 32 (bH l))):=F4 λe a=>by
  have:=vQ (bH l) 32 (n:=256) (by omega) e a;omega
 have b:∀(y:List Nat) (v:Nat),Jn y (au y [⟨24,v⟩]):=λy v=>F4 λe a=>by rw[kq2] at a;subst a;exact .inl rfl
 refine⟨((c.trans (b _ _)).puts l).trans (b _ _),?_⟩;show wd (au (au (au (au x (lsE 32 (bH l))) [⟨24,cmW l⟩]) l) [⟨24,0⟩]) 24=0;obtain⟨y,a⟩:∃y,au (au (au x (lsE 32 (bH l))) [⟨24,cmW l⟩]) l=y:=⟨_,rfl⟩;have hl:y.length=x.length:=by rw[<-a,aG,aG,aG]
 rw[a];simp only[au];rw[if_pos (show (0:Int)<=24/\(24:Int)<(y.length:Int) by omega)];unfold wd;rw[show (24:Int).toNat=24 from rfl,kz0 (by omega)];rfl
theorem atM_v(h:fg d=true)(c:l≠[])(a:l.length<=32)(g:oU d.im.length l)(b:(atM d l).down=false):d.down=false/\Jn (au (dvV d) l) (dvV (atM d l))/\wd (dvV (atM d l)) 24=0:=by rw[wy c] at b |-;obtain⟨e,f⟩:=rps_v _ h (F2 (qz h) a g) b;rw[f];exact⟨e,jn_atL (by rw[iD];exact qz h) a⟩
section
variable {G xs:List Nat}
theorem Jn.hi(h:Jn G xs)(j:Nat)(a:96<=j):wd xs j=wd G j:=h.2 j (by omega) (.inr a)
theorem Jn.lo(h:Jn G xs)(j:Nat)(hj:j<24):wd xs j=wd G j:=h.2 j (by omega) (.inl (by omega))
theorem Jn.bl(h:Jn G xs)(hi:96<=i):blocks xs i=blocks G i:=eC h.1 i λj hj=>h.hi j (by omega)
theorem Jn.fit(h:Jn G xs):dQ xs=dQ G:=funext λb=>sh h.hi b
theorem Jn.hp(h:Jn G xs):ao xs=ao G:=by unfold ao;rw[h.1,h.bl (by decide),h.fit]
theorem Jn.hpo(h:Jn G xs):aa xs=aa G:=by unfold aa;rw[h.hp,h.bl (by decide)]
theorem Jn.fr(h:Jn G xs)(a:Int):cp xs a=cp G a/\aS xs a=aS G a:=by
 have e:cp xs a=cp G a:=by
  unfold cp;rw[h.1];cases c:eU G.length a
  .rw[h.bl (by have:=j8 c;omega)]
  rfl
 refine⟨e,?_⟩;unfold aS;rw[e];by_cases b:cp G a=0
 .rw[if_pos b,if_pos b,h.bl];unfold cp at b;split at b
  .cases c:eU G.length a
   .have:=j8 c;omega
   rw[c] at b;cases b
  cases b
 rw[if_neg b,if_neg b]
theorem Jn.nx(h:Jn G xs)(a:Int):bu xs a=bu G a/\iI xs a=iI G a:=by unfold bu iI;rw[(h.fr a).1,(h.fr a).2];exact⟨rfl,rfl⟩
theorem I5(h:bh G f s=0):128<=f.toNat:=by obtain⟨-,a,-⟩:=cu h;simp only[gy,kzo,kqb] at a;omega
theorem El(a:gy n f s=false):128<=f.toNat:=by simp only[gy,kzo,kqb] at a;omega
theorem Jn.rd(h:Jn G xs)(f s:Int):bh xs f s=bh G f s/\gQ xs f s=gQ G f s:=by
 have e:bh xs f s=bh G f s:=by
  by_cases b:96<=f.toNat
  .exact ve h.1 h.hi b
  unfold bh;rw[h.1];cases a:gy G.length f s
  .have:=El a;omega
  rfl
 refine⟨e,?_⟩;unfold gQ;rw[e];by_cases a:bh G f s=0
 .rw[if_pos a,if_pos a,h.bl (by have:=I5 a;omega)]
 rw[if_neg a,if_neg a]
theorem Jn.pr(h:Jn G xs):cK xs=cK G:=by unfold cK jq;rw[h.1,h.lo 16 (by decide),h.lo 17 (by decide),h.lo 18 (by decide),h.lo 19 (by decide),h.lo 20 (by decide),h.lo 21 (by decide),h.lo 22 (by decide),h.lo 23 (by decide)]
theorem Jn.ln(h:Jn G xs):cJ xs=cJ G:=by unfold cJ mU;rw[h.pr,h.lo 16 (by decide),h.lo 17 (by decide),h.bl (by decide),h.1]
theorem Jn.mdOk(h:Jn G xs)(a:96<=i):Proofs.YtpcajamacpbjcaaGreat.mdOk xs i=Proofs.YtpcajamacpbjcaaGreat.mdOk G i:=by unfold Proofs.YtpcajamacpbjcaaGreat.mdOk dm;rw[h.hi i a,h.hi (tyA (aq (wd G i))) (by unfold tyA;omega),h.hi (tyA (aq (wd G i))+1) (by unfold tyA;omega)]
theorem Jn.mvd(h:Jn G xs)(t:Nat)(a:96<=i):Proofs.YtpcajamacpbjcaaGreat.mvd xs i t=Proofs.YtpcajamacpbjcaaGreat.mvd G i t:=by
 have b:∀f i,96<=i->uG xs f i t=uG G f i t:=by
  intro f
  induction f with
  | zero=>intro i _;rfl
  | succ f c =>intro i a;unfold uG;rw[h.mdOk a,show szAt xs i=szAt G i by unfold szAt;rw[h.hi i a],c _ (by omega)]
 exact b _ _ a
theorem Jn.ck(h:Jn G xs):aB xs=aB G:=by unfold aB;rw[h.ln,h.lo 16 (by decide),h.lo 17 (by decide),h.lo 18 (by decide),h.mvd _ (by decide),(h.rd _ _).1,(h.rd 128 128).1,h.hp]
theorem Jn.sl(h:Jn G xs)(i:Nat):slAt xs i=slAt G i:=by unfold slAt;rw[h.hi _ (by omega)]
theorem Jn.sls(h:Jn G xs):slsOk xs=slsOk G:=by unfold slsOk;rw[show (λi=>my (slAt xs i))=λi=>my (slAt G i) from funext λi=>by rw[h.sl]]
theorem Jn.tb(h:Jn G xs)(a:Nat):Proofs.YtpcajamacpbjcaaGreat.tb xs a=Proofs.YtpcajamacpbjcaaGreat.tb G a:=by unfold Proofs.YtpcajamacpbjcaaGreat.tb;rw[h.1,h.hpo]
theorem Jn.flds(h:Jn G xs){a:Nat}(b:96<=a):Proofs.YtpcajamacpbjcaaGreat.flds xs a=Proofs.YtpcajamacpbjcaaGreat.flds G a:=by unfold Proofs.YtpcajamacpbjcaaGreat.flds;rw[h.hi a b,h.hi _ (by omega),h.hi _ (by omega)]
theorem tb_hp{a:Nat}(b:Proofs.YtpcajamacpbjcaaGreat.tb G a≠0):ao G=0:=by
 by_cases h:ao G=0
 .exact h
 exfalso;apply b;unfold Proofs.YtpcajamacpbjcaaGreat.tb aa p9;rw[if_neg h,List.foldl_nil,kjt];split<;>rfl
theorem Jn.rch(h:Jn G xs){a:Nat}(e:Rch G a):Rch xs a:=by
 induction e with
 | slot i hi b =>rw[<-h.sl];exact .slot i hi (by rw[h.sl];exact b)
 | ref a i ha b hi c f =>have d:=(iy (tb_hp b) b).1;have h128:=d.1;rw[<-h.hi (a+2+i) (by omega)] at c |-;exact .ref a i f (by rw[h.tb];exact b) (by rw[h.flds (by omega)];exact hi) c
theorem Jn.rchI(h:Jn G xs)(a:Nat):Rch xs a↔Rch G a:=⟨h.symm.rch,h.rch⟩
theorem Jn.good(h:Jn G xs):qT xs↔qT G:=by
 unfold qT;constructor
 .intro g a b;rw[<-h.tb];exact g a (h.rch b)
 intro g a b;rw[h.tb];exact g a ((h.rchI a).1 b)
theorem Jn.rc(h:Jn G xs):aK xs=aK G:=by
 unfold aK;rw[h.hp,h.sls];by_cases g:qT G
 .rw[if_pos g,if_pos (h.good.2 g)]
 rw[if_neg g,if_neg λa=>g (h.good.1 a)]
theorem Jn.seen(h:Jn G xs):seenL xs=seenL G:=by unfold seenL;rw[h.1];refine kxi λa _=>?_;exact decide_eq_decide.2 (h.rchI a)
theorem hp_ge{b:Bk}(c:b∈aa G):128<=b.at_.toNat:=by
 have d:ao G=0:=by
  by_cases h:ao G=0
  .exact h
  unfold aa at c;rw[if_neg h] at c;exact absurd c (by simp)
 obtain⟨a,e,ha,-⟩:=(cH d).1 b c;rw[e,af];omega
theorem Jn.wt(h:Jn G xs):aO xs=aO G:=by
 unfold aO;rw[h.rc,h.seen,h.hpo];split
 .refine kxi λb a=>?_;unfold tp;rw[h.hi _ (by have:=hp_ge (qk a);omega)]
 rfl
theorem Jn.wn(h:Jn G xs):aI xs=aI G:=by unfold aI;rw[h.hp,h.hpo]
theorem Jn.fx(h:Jn G xs):cn xs=cn G/\di xs=di G:=by
 have e:cn xs=cn G:=by unfold cn;rw[h.hp,(h.rd 128 128).1]
 refine⟨e,?_⟩;unfold di;rw[e,(h.rd 128 128).2]
theorem Jn.slFix(h:Jn G xs)(m:List (Int × Int)):∀k,Proofs.YtpcajamacpbjcaaGreat.slFix xs m k=Proofs.YtpcajamacpbjcaaGreat.slFix G m k:=by
 intro k
 induction k with
 | zero=>rfl
 | succ k a =>unfold Proofs.YtpcajamacpbjcaaGreat.slFix;rw[a,show gp xs m k=gp G m k by unfold gp;rw[h.sl,h.hi (112+k) (by omega)]]
theorem Jn.fs(h:Jn G xs):dh xs=dh G/\dg xs=dg G:=by
 have e:dh xs=dh G:=by unfold dh;rw[h.fx.1,h.fx.2,h.sls,h.slFix]
 refine⟨e,?_⟩;unfold dg;rw[e,h.fx.2,h.slFix]
theorem Jn.rfs(h:Jn G xs)(b:Bk):da xs b=da G b:=by unfold da s9;rw[h.hi (tyA b) (by unfold tyA;omega),h.hi (tyA b+1) (by unfold tyA;omega)]
theorem Ij{F:List Nat}{r:Int}(h:r∈mi F a j):a<=r:=by
 unfold mi at h;obtain⟨i,-,b⟩:=kjg.1 h;split at b
 .injection b with b;omega
 cases b
theorem Jn.ob(h:Jn G xs)(a:Int):cM xs a=cM G a/\cB xs a=cB G a/\cm xs a=cm G a:=by
 have e:∀b,ao G=0->js (aS G 128) a=some b->∀M,cI xs M (da G b)=cI G M (da G b):=λb c d M=>o9 λr j=>by
  obtain⟨m,e1,f,g⟩:=vv c d;have i:=Ij j;rw[f,af] at i;have:=g.1;exact h.hi _ (by omega)
 have f:cn G=0->ao G=0:=λg=>by
  unfold cn at g;split at g
  .assumption
  assumption
 refine⟨?_,?_,?_⟩
 .unfold cM;rw[h.fx.1,h.fx.2,(h.fr 128).2];by_cases c:cn G=0
  .rw[if_pos c,if_pos c];cases d:js (aS G 128) a with
   | none=>rfl
   | some b=>dsimp only;rw[h.rfs,e b (f c) d]
  rw[if_neg c,if_neg c]
 .unfold cB;rw[h.fx.1,h.fx.2,(h.fr 128).2];by_cases c:cn G=0
  .rw[if_pos c,if_pos c];cases d:js (aS G 128) a with
   | none=>rfl
   | some b=>dsimp only;rw[h.rfs,e b (f c) d]
  rw[if_neg c,if_neg c]
 unfold cm;rw[h.hp,(h.fr 128).2];split
 .cases js (aS G 128) a with
  | none=>rfl
  | some b=>exact h.rfs b
 rfl
theorem Jn.fixL(h:Jn G xs):∀f a,Proofs.YtpcajamacpbjcaaGreat.fixL xs f a=Proofs.YtpcajamacpbjcaaGreat.fixL G f a:=by
 intro f
 induction f with
 | zero=>intro a;rfl
 | succ f b =>intro a;unfold Proofs.YtpcajamacpbjcaaGreat.fixL;rw[(h.nx a).1,(h.nx a).2,(h.ob _).1,(h.ob _).2.1,(h.ob _).2.2,b]
theorem Jn.sgFix(h:Jn G xs):Proofs.YtpcajamacpbjcaaGreat.sgFix xs=Proofs.YtpcajamacpbjcaaGreat.sgFix G:=by unfold Proofs.YtpcajamacpbjcaaGreat.sgFix jp;rw[h.lo 17 (by decide),h.fs.1,h.fs.2,h.1,h.fixL]
theorem Jn.mv(h:Jn G xs)(f t:Int):ei xs f t=ei G f t/\i9 xs f t=i9 G f t:=by
 have e:ei xs f t=ei G f t:=by
  unfold ei;rw[(h.rd f t).1];by_cases a:bh G f t=0
  .rw[if_pos a,if_pos a,h.bl (by have:=I5 a;omega)]
  rw[if_neg a,if_neg a]
 refine⟨e,?_⟩;unfold i9;rw[e];by_cases a:ei G f t=0
 .rw[if_pos a,if_pos a];have hg:128<=f.toNat:=by
   refine I5 (G:=G) (s:=t) ?_;unfold ei at a;split at a
   .assumption
   assumption
  unfold jj szAt;rw[h.hi _ (show 96<=f.toNat by omega)];refine kxi λj _=>?_;rw[h.hi (f.toNat+j) (by omega)]
 rw[if_neg a,if_neg a]
theorem Jn.sgSld(h:Jn G xs):Proofs.YtpcajamacpbjcaaGreat.sgSld xs=Proofs.YtpcajamacpbjcaaGreat.sgSld G:=by unfold Proofs.YtpcajamacpbjcaaGreat.sgSld;rw[h.lo 17 (by decide),h.lo 18 (by decide),(h.nx _).1,(h.nx _).2,(h.mv _ _).1,(h.mv _ _).2]
theorem Jn.sg(h:Jn G xs):ah xs=ah G:=by unfold ah;rw[h.ck,h.lo 16 (by decide),h.rc,h.wt,h.hp,h.wn,h.sgFix,h.sgSld]
theorem Jn.lf(h:Jn G xs):lfN xs=lfN G:=by unfold lfN fY;rw[h.ck,h.lo 16 (by decide),h.lo 17 (by decide),(h.fr _).2]
theorem Jn.en(h:Jn G xs):dJ xs=dJ G/\du xs=du G:=by
 have e:dJ xs=dJ G:=by unfold dJ;rw[h.ck,h.lo 16 (by decide),h.lf]
 refine⟨e,?_⟩;unfold du fK;rw[e,h.lo 18 (by decide),h.1]
theorem Jn.next(h:Jn G xs):dy xs=dy G:=by unfold dy;rw[h.sg,h.lo 16 (by decide),h.en.1,h.en.2]
end
structure DvLt (d:Dv):Prop where
 im:∀v∈d.im,v<2^64
 dw:∀e∈d.dw,e.v<18446744073709551616
theorem set_lt{v B:Nat}(h:∀u∈x,u<B)(b:v<B):∀u∈x.set i v,u<B:=λu a=>by
 rcases List.mem_or_eq_of_mem_set a with a|a
 .exact h u a
 .rw[a];exact b
theorem Cm:∀(l:List Dw) (x:List Nat),(∀v∈x,v<2^64)->(∀e∈l,e.v<18446744073709551616)->∀v∈iU x l,v<18446744073709551616:=by
 intro l
 induction l with
 | nil=>intro x h _;exact h
 | cons e l c=>intro x h a;exact c _ (set_lt h (a e (by simp))) λy b=>a y (by simp[b])
theorem DvLt.v(h:DvLt d):∀v∈dvV d,v<18446744073709551616:=Cm _ _ h.im h.dw
theorem H6{v:Nat}:∀ {l:List Dw} {e:Dw},e∈stQ l a v->e∈l\/e=⟨a,v,false⟩:=by
 intro l
 induction l with
 | nil=>intro e b;exact .inr (by simpa [stQ] using b)
 | cons x l c =>
  intro e b;unfold stQ at b;split at b
  .rcases kq0.1 b with rfl|b
   .exact .inl (by simp)
   rcases c b with h|h
   .exact .inl (by simp[h])
   exact .inr h
  split at b
  .rcases kq0.1 b with rfl|b
   .exact .inr rfl
   exact .inl (by simp[b])
  rcases kq0.1 b with rfl|b
  .exact .inr rfl
  exact .inl b
theorem DvLt.st(h:DvLt d){v:Nat}(c:v<18446744073709551616):DvLt (dvS d a v):=by
 unfold dvS dvD;split
 .exact ⟨h.im,h.dw⟩
 exact⟨h.im,λe b=>by
  rcases H6 b with b|rfl
  .exact h.dw e b
  exact c⟩
theorem DvLt.fl(h:DvLt d):DvLt (dvF d a):=by
 unfold dvF dvD;split
 .exact ⟨h.im,h.dw⟩
 refine⟨h.im,λe b=>?_⟩;obtain⟨y,c,rfl⟩:=kz9.1 b;rw[(zN a y).2];exact h.dw y c
theorem DvLt.fn(h:DvLt d):DvLt (dvN d):=by
 unfold dvN dvD;split
 .exact ⟨h.im,h.dw⟩
 exact⟨Cm _ _ h.im λe a=>h.dw e ((kzy.1 a).1),λe a=>h.dw e ((kzy.1 a).1)⟩
theorem DvLt.sts:∀(l:List En) {d:Dv},DvLt d->(∀e∈l,e.v<18446744073709551616)->DvLt (rT d l):=by
 intro l
 induction l with
 | nil=>intro d h _;exact h
 | cons e l f=>intro d h b;exact f (d:=dvS d e.a e.v) (h.st (b e (by simp))) λy c=>b y (by simp[c])
theorem DvLt.fls(h:DvLt d):∀k,DvLt (lE ad d k):=by
 intro k
 induction k with
 | zero=>exact h
 | succ k a =>
  unfold lE;split
  .exact a.fl
  exact a
theorem DvLt.rp(h:DvLt d)(a:∀e∈l,e.v<18446744073709551616):DvLt (rpP d l):=((h.sts l a).fls _).fn
theorem Gy:∀(l:List Nat) (a:Int),(∀v∈l,v<2^64)->∀e∈lsE a l,e.v<18446744073709551616:=by
 intro l
 induction l with
 | nil=>intro a _ e b;exact absurd b (by simp[lsE])
 | cons v l d =>
  intro a h e b;simp only[lsE,kq0] at b;rcases b with rfl|b
  .exact h v (by simp)
  exact d _ (λy c=>h y (by simp[c])) e b
theorem Gn(h:l.length<=32):cmW l<18446744073709551616:=by unfold cmW;have:=kz3 (aR 14695981039346656037 (bH l)) (show 0<288230376151711744 by decide);omega
theorem r6(h:∀e∈l,e.a<2048/\e.v<18446744073709551616):∀x∈bH l,x<18446744073709551616:=by
 induction l with
 | nil=>intro x b;exact absurd b (by simp[bH])
 | cons e l f =>
  intro x b;have c:=h e (by simp);simp only[bH,kq0] at b;rcases b with rfl|rfl|b
  .omega
  .exact c.2
  exact f (λy d=>h y (by simp[d])) x b
theorem DvLt.at_(h:DvLt d)(c:l.length<=32)(f:∀e∈l,e.a<2048/\e.v<18446744073709551616):DvLt (atM d l):=by
 unfold atM;split
 .exact h
 refine (((h.rp (Gy _ _ (r6 f))).rp λe b=>?_).rp λe b=>(f e b).2).rp λe b=>?_
 .rw[kq2] at b;subst b;exact Gn c
 rw[kq2] at b;subst b;decide
def Cg:List (List En)->Dv->Dv × Int
 | [],d=>(d,0)
 | l::L,d=>if (atM d l).down=true then (atM d l,60) else Cg L (atM d l)
def dvZ:Dv:=⟨[],[],0,false⟩
noncomputable def coR (d:Dv):Dv × Int:=if dZ d=0 then (if d.down=true then (dvZ,60) else if d7 (dvV d)=0 then Cg (coL (dvV d)) d else (dvZ,d7 (dvV d))) else (dvZ,8)
theorem Dp(h:l.Pairwise (λa b=>a.a<b.a)){n:Int}(c:∀e∈l,yG e.a n=true):∀k,k<=l.length->eP (b9 l) n k=true:=by
 intro k
 induction k with
 | zero=>intro _;rfl
 | succ k a =>
  intro hk;refine lJ (a (by omega)) ?_ ?_
  .rw[cZ l k (by omega)];exact c _ (kqp _)
  rw[cZ l k (by omega)];have b:∀j,j<=k->bT (b9 l) (l[k]).a j=false:=by
   intro j
   induction j with
   | zero=>intro _;rfl
   | succ j a =>intro hj;unfold bT;rw[a (by omega),Bool.false_or,kqc,cZ l j (by omega)];have:=kzg.1 h j k (by omega) (by omega) (by omega);omega
  exact b k (kqa _)
theorem Small.ent(h:Small n l)(b:am (n:Int)=true):dG (b9 l) (n:Int)=0:=by refine nj b (by rw[bD];exact h.le) ?_;rw[bD];exact Dp h.inc (λe a=>(mS _ _).2 (by have:=h.ins e a;omega)) _ (kqa _)
theorem Small.eok(h:Small n l)(hn:n<=2048):∀e∈l,e.ok:=λe a=>by have h1:=h.ins e a;have h2:=h.val e a;unfold En.ok;omega
theorem Small.in_(h:Small n l):oU n l:=λe a=>by have:=h.ins e a;omega
theorem Small.ne(h:Small n l):l≠[]:=λe=>by have:=h.pos;rw[e] at this;simp at this
structure RnAt (n:Nat) (x0 y:List Nat) (d:Dv) (E:List En) (outs:List (List En)):Prop where
 ok:fg d=true
 lt:DvLt d
 up:d.down=false
 len:d.im.length=n
 small:Small n E
 w24:wd (dvV d) 24=0
 way:∃x,Jn x (dvV d)/\(∀v∈au x E,v<18446744073709551616)/\rsE (au x E)=(0,outs,y)/\(x=x0\/(∀v∈x,v<2^64)/\rsE x=(0,E::outs,y))
section
variable {n:Nat} {x0 y:List Nat} {d:Dv} {E E2:List En} {outs:List (List En)}
theorem RnAt.err(h:RnAt n x0 y d E outs):atErr d E=0:=by unfold atErr;have a:=((cq d).1 h.ok).1;rw[if_pos (iY h.ok),if_pos (by rw[h.len] at a |-;exact h.small.ent a),if_pos h.w24]
theorem RnAt.size(h:RnAt n x0 y d E outs):am (n:Int)=true:=by rw[<-h.len];exact ((cq d).1 h.ok).1
theorem RnAt.made(h:RnAt n x0 y d E outs):fg (atM d E)=true/\DvLt (atM d E)/\(atM d E).im.length=n:=by have hs:=(ae _).1 h.size;refine⟨atM_ok h.ok h.small.le (by rw[h.len];exact h.small.in_),h.lt.at_ h.small.le λe a=>⟨?_,h.small.val e a⟩,by rw[BK,h.len]⟩;have:=h.small.ins e a;omega
theorem rs_end{z y:List Nat}(c:∀v∈z,v<2^64)(h:rsE z=(0,[],y)):z=y/\dy z=(0,true,[]):=by
 obtain⟨d,b,a⟩:=BV c h;have e:z=y:=d;rw[<-e] at b a;refine⟨e,?_⟩;unfold dy at b a |-;split at a
 .rename_i c1;rw[if_pos c1] at b |-;split at a
  .rename_i c2;rw[if_pos c2]
  cases a
 cases a
theorem RnAt.done(h:RnAt n x0 y d E [])(b:(atM d E).down=false):dy (dvV (atM d E))=(0,true,[]):=by obtain⟨x,c,e,f,-⟩:=h.way;obtain⟨-,a,-⟩:=atM_v h.ok h.small.ne h.small.le (by rw[h.len];exact h.small.in_) b;rw[((c.puts E).trans a).next];exact (rs_end e f).2
theorem RnAt.step(h:RnAt n x0 y d E (E2::outs))(e:(atM d E).down=false):dy (dvV (atM d E))=(0,false,E2)/\RnAt n x0 y (atM d E) E2 outs:=by
 obtain⟨x,g,c,i,-⟩:=h.way;obtain⟨-,j,k⟩:=atM_v h.ok h.small.ne h.small.le (by rw[h.len];exact h.small.in_) e;have f:=(g.puts E).trans j;obtain⟨a,l⟩:=tR c i;have b:=CY c (by rw[a]) (by rw[a]);rw[a] at b;have m:(au x E).length=n:=by rw[aG,<-g.1,iD,h.len]
 rw[m] at b;obtain⟨o,p,q⟩:=h.made;exact⟨by rw[f.next,a],o,p,e,q,b.1,k,au x E,f,b.2.1,l,.inr ⟨c,i⟩⟩
end
theorem qF(f:fg d=true)(a:DvLt d)(g:d.down=false)(i:d7 (dvV d)=0)(c:wd (dvV d) 24=0):RnAt d.im.length (dvV d) (cpZ (dvV d)) d [⟨16,1⟩] (rsE (qt (dvV d))).2.1:=by
 obtain⟨h,m⟩:=og i;obtain⟨t,l⟩:=Gf m;have j:=l.all a.v;have k:=DW (Jd a.v) j;rw[iD] at h;have hb:=(ae _).1 h;refine⟨f,a,g,rfl,⟨by decide,by decide,by simp,λe b=>?_,λe b=>?_⟩,c,dvV d,Jn.refl _,Jd a.v,?_,.inl rfl⟩
 .rw[kq2] at b;subst b;dsimp only;omega
 .rw[kq2] at b;subst b;decide
 exact k.2.1
theorem BG(a:fg d=true)(b:d.down=false)(c:d7 (dvV d)=0):coR d=Cg ([⟨16,1⟩]::(rsE (qt (dvV d))).2.1) d:=by unfold coR;rw[if_pos (iY a),b,if_neg (by simp),if_pos c];unfold coL;rw[if_pos c]
end Go.Proofs.YtpcajamacpbjcaaGreat
