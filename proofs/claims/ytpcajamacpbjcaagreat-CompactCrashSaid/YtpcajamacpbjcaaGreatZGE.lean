/- Clean devices: images behind changes, and how many operations they take. Plain. -/
import Derived.Test.YtpcajamacpbjcaaGreatZGD
import Derived.Test.YtpcajamacpbjcaaGreatZKEff
set_option maxHeartbeats 16000000
set_option linter.all false
namespace Go.Proofs.YtpcajamacpbjcaaGreat
open Go.RowKit
variable {d x:Dv}{a left:Int}{l:List En}{ad:List Int}{ws x0 y:List Nat}{j k m n t:Nat}
theorem dvS_dn{v:Nat}(h:eW d=true)(hd:d.down=true):dvS d a v=d:=by have:=((bH d).1 h).2.2.2.1 hd;unfold dvS dvD;rw[if_pos this,<-hd]
theorem dvF_dn(h:eW d=true)(hd:d.down=true):dvF d a=d:=by have:=((bH d).1 h).2.2.2.1 hd;unfold dvF dvD;rw[if_pos this,<-hd]
theorem dvN_dn(h:eW d=true)(hd:d.down=true):dvN d=d:=by have:=((bH d).1 h).2.2.2.1 hd;unfold dvN dvD;rw[if_pos this,<-hd]
theorem Gg:∀(l:List En) {d:Dv},eW d=true->d.down=true->nP d l=d:=by
 intro l
 induction l with
 | nil=>intro d _ _;rfl
 | cons e l ih =>intro d h b;show nP (dvS d e.a e.v) l=d;rw[dvS_dn h b,ih h b]
theorem Gk(h:eW d=true)(hd:d.down=true):∀k,kM ad d k=d:=by
 intro k
 induction k with
 | zero=>rfl
 | succ k ih =>unfold kM;rw[ih,dvF_dn h hd,ite_self]
theorem rpP_dn(h:eW d=true)(hd:d.down=true):rpP d l=d:=by unfold rpP;rw[Gg l h hd,Gk h hd,dvN_dn h hd]
theorem rps_dn:∀(L:List (List En)) {d:Dv},eW d=true->d.down=true->L.foldl rpP d=d:=by
 intro L
 induction L with
 | nil=>intro d _ _;rfl
 | cons l L ih=>intro d h a;rw[kxy,rpP_dn h a,ih h a]
structure Ran (k:Nat) (d x:Dv):Prop where
 free:d.left = -1->x.left = -1/\x.down=d.down
 few:0<=d.left->(k:Int)<=d.left->x.left=d.left-k/\x.down=d.down
 many:0<=d.left->d.left<k->x.left=0/\x.down=true
theorem Ran.refl(d:Dv):Ran 0 d d:=⟨λh=>⟨h,rfl⟩,λ_ _=>⟨by omega,rfl⟩,λh1 h2=>by omega⟩
theorem Ran.trans{y:Dv}(h:Ran k d x)(g:Ran m x y):Ran (k+m) d y:=by
 refine⟨λb=>?_,λb i=>?_,λb i=>?_⟩
 .obtain ⟨e,a⟩:=h.free b;obtain⟨f,c⟩:=g.free e;exact⟨f,c.trans a⟩
 .obtain ⟨e,a⟩:=h.few b (by omega);obtain⟨f,c⟩:=g.few (by omega) (by omega);exact⟨by omega,c.trans a⟩
 by_cases j:(k:Int)<=d.left
 .obtain ⟨e,a⟩:=h.few b j;exact g.many (by omega) (by omega)
 obtain⟨e,a⟩:=h.many b (by omega);by_cases hm:m=0
 .obtain ⟨f,c⟩:=g.few (by omega) (by omega);exact⟨by omega,c.trans a⟩
 exact g.many (by omega) (by omega)
theorem se{im:List Nat}{dw:List Dw}(hl:¬ d.left=0)(_h1 : -1<=d.left):Ran 1 d { d with im:=im,dw:=dw,left:=dec d.left }:=by
 unfold dec;refine⟨λa=>?_,λa b=>?_,λa b=>by omega⟩
 .refine ⟨?_,rfl⟩;dsimp only;rw[if_neg (by omega)];exact a
 refine⟨?_,rfl⟩;dsimp only;rw[if_pos (by omega)];omega
theorem Bj(hl:d.left=0):Ran 1 d (dvD d):=⟨λa=>by omega,λa h2=>by omega,λ_ _=>⟨hl,rfl⟩⟩
theorem ran_S{v:Nat}(h1 : -1<=d.left):Ran 1 d (dvS d a v):=by
 unfold dvS;by_cases b:d.left=0
 .rw[if_pos b];exact Bj b
 rw[if_neg b];exact se (im:=d.im) b h1
theorem ran_F(h1 : -1<=d.left):Ran 1 d (dvF d a):=by
 unfold dvF;by_cases b:d.left=0
 .rw[if_pos b];exact Bj b
 rw[if_neg b];exact se (im:=d.im) b h1
theorem ran_N(h1 : -1<=d.left):Ran 1 d (dvN d):=by
 unfold dvN;by_cases a:d.left=0
 .rw[if_pos a];exact Bj a
 rw[if_neg a];exact se a h1
theorem sZ(h:eW d=true): -1<=d.left:=((bH d).1 h).2.1
theorem ran_Ss:∀(l:List En) {d:Dv},eW d=true->mD d.im.length l->Ran l.length d (nP d l):=by
 intro l
 induction l with
 | nil=>intro d _ _;exact Ran.refl d
 | cons e l ih =>intro d h b;have c:=b e (by simp);have:=(ran_S (a:=e.a) (v:=e.v) (sZ h)).trans (ih (uq h c.1 c.2) λx f=>by rw[qE];exact b x (by simp[f]));rw[kjp] at this;exact this
def nLn (ad:List Int):Nat->Nat
 | 0=>0
 | k+1=>nLn ad k+if dy ad (8*(k:Int)) ad.length=true then 1 else 0
theorem ran_Fs(h:eW d=true):∀k,Ran (nLn ad k) d (kM ad d k):=by
 intro k
 induction k with
 | zero=>exact Ran.refl d
 | succ k ih =>
  unfold kM nLn;split
  .exact ih.trans (ran_F (sZ (kh h k)))
  exact ih
def rpN (l:List En):Nat:=l.length+nLn (cE l) 256+1
theorem ran_P(h:eW d=true)(hi:mD d.im.length l):Ran (rpN l) d (rpP d l):=((ran_Ss l h hi).trans (ran_Fs (li l h hi) 256)).trans (ran_N (sZ (kh (li l h hi) _)))
def rpsN (L:List (List En)):Nat:=(L.map rpN).sum
theorem Fm:∀(L:List (List En)) {d:Dv},eW d=true->(∀E∈L,mD d.im.length E)->Ran (rpsN L) d (L.foldl rpP d):=by
 intro L
 induction L with
 | nil=>intro d _ _;exact Ran.refl d
 | cons l L ih =>intro d h a;have:=(ran_P h (a l (by simp))).trans (ih (oD h (a l (by simp))) λE b=>by rw[lz];exact a E (by simp[b]));unfold rpsN at this |-;rw[kxz,List.sum_cons];exact this
theorem stQ_a{v:Nat}{l:List Dw}{S:List Int}(h:∀e∈l,e.a∈S):∀e∈stQ l a v,e.a∈S++[a]:=λe c=>by
 rcases yz c with b|rfl
 .exact kvd _ (h e b)
 .exact List.mem_append_right _ (by simp)
theorem dvSs_a:∀(l:List En) {d:Dv} {S:List Int},(∀e∈d.dw,e.a∈S)->∀e∈(nP d l).dw,e.a∈S++cE l:=by
 intro l
 induction l with
 | nil=>intro d S h e b;exact kvd _ (h e b)
 | cons x l ih =>
  intro d S h e b;have c:∀e∈(dvS d x.a x.v).dw,e.a∈S++[x.a]:=by
   unfold dvS dvD;split
   .exact λe b=>kvd _ (h e b)
   exact stQ_a h
  have:=ih (d:=dvS d x.a x.v) c e b;rw[kxr] at this;exact this
theorem Ao{x:Int}(hj:j<n)(h:(ad[j]?.getD 0)/8=x/8):dy ad x n=true:=by
 induction n with
 | zero=>omega
 | succ n ih =>
  unfold dy;rw[kxv];rcases kq6 j n with a|a
  .exact .inl (ih a)
  have:j=n:=by omega
  subst this;exact .inr (by rw[kqw];exact h)
def Flu (k:Nat) (e:Dw):Prop:=e.a/8<(k:Int)->e.f=true
theorem Fz(ha:∀e∈d.dw,e.a∈ad/\0<=e.a):∀k,(kM ad d k).down=false->∀e∈(kM ad d k).dw,(e.a∈ad/\0<=e.a)/\Flu k e:=by
 intro k
 induction k with
 | zero=>intro _ e b;exact⟨ha e b,λh=>by have:=(ha e b).2;omega⟩
 | succ k ih =>
  unfold kM;by_cases i:dy ad (8*(k:Int)) ad.length=true
  .rw[if_pos i];intro c e b;have l:=(dvF_v c).1;unfold dvF at b c;by_cases n:(kM ad d k).left=0
   .rw[if_pos n] at c;cases c
   rw[if_neg n] at b;obtain⟨y,q,rfl⟩:=kzw.1 b;obtain⟨g,m⟩:=ih l y q;rw[(qL _ y).1];refine⟨g,λh=>?_⟩;rw[(qL _ y).1] at h;unfold flB;by_cases f:y.a/8=8*(k:Int)/8
   .rw[if_pos f]
   rw[if_neg f];exact m (by omega)
  rw[if_neg i];intro c e b;obtain⟨g,m⟩:=ih c e b;refine⟨g,λh=>?_⟩;by_cases f:e.a/8<(k:Int)
  .exact m f
  exfalso;apply i;obtain⟨j,o,p⟩:=kqz g.1;exact Ao o (by rw[kqk o,kq9,p];omega)
structure Cln (d:Dv):Prop where
 ok:eW d=true
 dw:d.dw=[]
theorem Cln.v(h:Cln d):dvV d=d.im:=by unfold dvV;rw[h.dw];rfl
theorem Cln.put(h:Cln d)(hi:mD d.im.length l)(hd:(rpP d l).down=false):Cln (rpP d l)/\(rpP d l).im=am d.im l:=by
 have g:=oD h.ok hi;have c:=li l h.ok hi;have m:=(rpP_v h.ok hi hd).2;have n:(kM (cE l) (nP d l) 256).down=false:=(dvN_v (kh c _) hd).1;have hn:d.im.length<=2048:=((aa _).1 ((bH d).1 h.ok).1).2.1 |> λh=>by omega
 have o:∀e∈(nP d l).dw,e.a∈cE l/\0<=e.a:=λe b=>by
  have:=dvSs_a l (d:=d) (S:=[]) (λe b=>by rw[h.dw] at b;exact absurd b (by simp)) e b;rw[kz2] at this;have:=fL ((bH _).1 c).2.2.2.2 e b;exact⟨by assumption,by omega⟩
 have p:=Fz o 256 n;have f:(rpP d l).dw=[]:=by
  unfold rpP dvN;by_cases i:(kM (cE l) (nP d l) 256).left=0
  .unfold rpP dvN at hd;rw[if_pos i] at hd;cases hd
  rw[if_neg i];show fnQ _=[];unfold fnQ;rw[kkb];intro e b;have k:=p e b;have j:=fL ((bH _).1 (kh c 256)).2.2.2.2 e b;rw[sr,sM] at j;rw[k.2 (by omega)];simp
 refine⟨⟨g,f⟩,?_⟩;have:dvV (rpP d l)=(rpP d l).im:=by unfold dvV;rw[f];rfl
 rw[<-this,m,h.v]
theorem rpP_im(h:eW d=true)(hi:mD d.im.length l)(hd:(rpP d l).down=true):(rpP d l).im=d.im:=by
 have b:=kh (ad:=cE l) (li l h hi) 256;unfold rpP at hd |-;unfold dvN at hd |-;by_cases a:(kM (cE l) (nP d l) 256).left=0
 .rw[if_pos a];show (kM (cE l) (nP d l) 256).im=d.im;rw[sr,sM]
 rw[if_neg a] at hd;exact absurd (((bH _).1 b).2.2.2.1 hd) a
theorem xX:∀(L:List (List En)) {d:Dv},Cln d->(∀E∈L,mD d.im.length E)->((L.foldl rpP d).down=false->Cln (L.foldl rpP d)/\(L.foldl rpP d).im=L.foldl am d.im)/\(d.down=false->(L.foldl rpP d).down=true->∃j,j<L.length/\(L.foldl rpP d).im=(L.take j).foldl am d.im):=by
 intro L
 induction L with
 | nil =>intro d h _;exact⟨λ_=>⟨h,rfl⟩,λi b=>by rw[kvq,i] at b;cases b⟩
 | cons l L ih =>
  intro d h k;have c:=k l (by simp);have f:∀E∈L,mD (rpP d l).im.length E:=λE o=>by rw[lz];exact k E (by simp[o])
  have m:=oD h.ok c;refine⟨λa=>?_,λi b=>?_⟩
  .rw[kxy] at a |-;have:=(rps_v L m f a).1;obtain⟨e,g⟩:=h.put c this;obtain⟨q,n⟩:=(ih e f).1 a;exact⟨q,by rw[n,g];rfl⟩
  rw[kxy] at b |-;cases a:(rpP d l).down with
  | true =>rw[rps_dn L m a];exact⟨0,by simp,rpP_im h.ok c a⟩
  | false =>obtain⟨e,g⟩:=h.put c a;obtain⟨j,hj,p⟩:=(ih e f).2 a b;exact⟨j+1,by simp;omega,by rw[p,g];rfl⟩
theorem F5:∀(l:List Nat) (a:Int),(lsE a l).length=l.length:=by
 intro l
 induction l with
 | nil=>intro a;rfl
 | cons v l ih=>intro a;simp only[lsE,kq2,ih]
theorem GI{x:List Nat}{L:List (List En)}(h:rsE x=(0,L,y)):(cO x).1=0:=by
 by_cases a:(cO x).1=0
 .exact a
 rw[kc a] at h;exact congrArg Prod.fst h
theorem yJ:∀(L:List (List En)) {x xs y:List Nat},Jn x xs->(∀v∈x,v<18446744073709551616)->(∀v∈xs,v<18446744073709551616)->rsE x=(0,L,y)->∃g,rsE xs=(0,L,g)/\Jn y g:=by
 intro L
 induction L with
 | nil =>intro x xs y d i a h;obtain⟨e,n⟩:=zS i h;have c:=d.next.trans n;subst e;exact⟨xs,fJ (by rw[c]) (by rw[c]),d⟩
 | cons E L ih =>intro x xs y d i a h;obtain⟨f,o⟩:=pF i h;have b:=d.next.trans f;have k:=(qn i (by rw[f]) (by rw[f])).2.1;have j:=(qn a (by rw[b]) (by rw[b])).2.1;rw[f] at k;rw[b] at j;obtain⟨g,l,m⟩:=ih (d.puts E) k j o;refine⟨g,?_,m⟩;rw[gt a (by rw[b]) (by rw[b]),b];dsimp only;rw[l,if_pos rfl]
theorem py{x:List Nat}{L:List (List En)}(h:rsE x=(0,L,y)):fR x=(0,L,y):=by unfold fR;rw[if_pos (rs_ck (GI h)),h]
def CrAt (n:Nat) (x0 y:List Nat) (x:Dv):Prop:=∃d E outs j,RnAt n x0 y d E outs/\Cln d/\j<4/\x.im=((atL E).take j).foldl am d.im
theorem Ran.dn(h:Ran k d x)(hd:d.down=false)(hx:x.down=true):Ran (k+m) d x:=by
 refine⟨λa=>?_,λa b=>?_,λa b=>?_⟩
 .have:=(h.free a).2;rw[hx,hd] at this;cases this
 .have:=(h.few a (by omega)).2;rw[hx,hd] at this;cases this
 by_cases c:(k:Int)<=d.left
 .have:=(h.few a c).2;rw[hx,hd] at this;cases this
 exact h.many a (by omega)
def Gi (L:List (List En)):Nat:=(L.map λl=>rpsN (atL l)).sum
structure RnRes (n:Nat) (x0 y:List Nat) (k:Nat) (d:Dv) (r:Dv × Int):Prop where
 ok:eW r.1=true
 lt:DvLt r.1
 len:r.1.im.length=n
 ran:Ran k d r.1
 how:(r.2=0/\r.1.down=false/\Cln r.1/\Jn y r.1.im/\wd r.1.im 24=0)\/(r.2=60/\r.1.down=true/\CrAt n x0 y r.1)
theorem Ar :∀(a:List (List En)) {d:Dv} {E:List En},RnAt n x0 y d E a->Cln d->RnRes n x0 y (Gi (E::a)) d (yD (E::a) d):=by
 intro a
 induction a with
 | nil =>
  intro d E h i;obtain⟨m,o,k⟩:=h.made;have t:=jF h.ok;have f:∀F∈atL E,mD d.im.length F:=uR t h.small.le (by rw[h.len];exact h.small.in_);have c:=xX (atL E) i f;have b:=Fm (atL E) h.ok f;rw[<-oX h.small.ne] at c b;have s:Gi [E]=rpsN (atL E):=by simp[Gi]
  rw[s];unfold yD;cases g:(atM d E).down with
  | true =>rw[if_pos rfl];obtain⟨j,q,p⟩:=c.2 h.up g;exact⟨m,o,k,b,.inr ⟨rfl,g,d,E,[],j,h,i,q,p⟩⟩
  | false =>rw[if_neg (by simp)];obtain⟨l,C⟩:=c.1 g;obtain⟨x,B,A,z,-⟩:=h.way;obtain⟨-,w,u⟩:=FV h.ok h.small.ne h.small.le (by rw[h.len];exact h.small.in_) g;rw[l.v] at w u;have e:=(zS A z).1;refine⟨m,o,k,b,.inl ⟨rfl,g,l,?_,u⟩⟩;rw[<-e];exact (B.puts E).trans w
 | cons E2 a ih =>
  intro d E h i;obtain⟨m,o,k⟩:=h.made;have t:=jF h.ok;have f:∀F∈atL E,mD d.im.length F:=uR t h.small.le (by rw[h.len];exact h.small.in_);have c:=xX (atL E) i f;have b:=Fm (atL E) h.ok f;rw[<-oX h.small.ne] at c b;have s:Gi (E::E2::a)=rpsN (atL E)+Gi (E2::a):=by simp[Gi]
  rw[s];rw[show yD (E::E2::a) d=if (atM d E).down=true then (atM d E,60) else yD (E2::a) (atM d E) from rfl];cases g:(atM d E).down with
  | true =>rw[if_pos rfl];obtain⟨j,q,p⟩:=c.2 h.up g;exact⟨m,o,k,b.dn h.up g,.inr ⟨rfl,g,d,E,E2::a,j,h,i,q,p⟩⟩
  | false =>rw[if_neg (by simp)];obtain⟨l,C⟩:=c.1 g;have D:=(h.step g).2;have r:=ih D l;exact⟨r.ok,r.lt,r.len,b.trans r.ran,r.how⟩
theorem dv_of(h:Lay ws t)(ho:∀v∈ws,v<18446744073709551616)(h1 : -1<=left)(h2:left<=1000000):Cln ⟨ws,[],left,false⟩/\DvLt ⟨ws,[],left,false⟩/\RnAt ws.length ws (cpZ ws) ⟨ws,[],left,false⟩ [⟨16,1⟩] (rsE (gG ws)).2.1/\coR ⟨ws,[],left,false⟩=yD (coL ws) ⟨ws,[],left,false⟩:=by have a:eW ⟨ws,[],left,false⟩=true:=(bH _).2 ⟨h.size,h1,h2,λh=>(by cases h),rfl⟩;have b:DvLt ⟨ws,[],left,false⟩:=⟨ho,λe d=>absurd d (by simp)⟩;have c:=nC h;refine⟨⟨a,rfl⟩,b,uh a b rfl c (h.z16 24 (by decide) (by decide)),?_⟩;rw[Fe a rfl c];unfold coL;rw[if_pos c];rfl
theorem run_of(h:Lay ws t)(ho:∀v∈ws,v<18446744073709551616)(h1 : -1<=left)(h2:left<=1000000):RnRes ws.length ws (cpZ ws) (Gi (coL ws)) ⟨ws,[],left,false⟩ (coR ⟨ws,[],left,false⟩):=by obtain⟨c,c2,b,a⟩:=dv_of h ho h1 h2;rw[a,show coL ws=[⟨16,1⟩]::(rsE (gG ws)).2.1 by unfold coL;rw[if_pos (nC h)]];exact Ar _ b c
theorem GV{x:List Nat}{E:List En}(hn:256<=x.length)(h32:E.length<=32)(hp:1<=E.length)(hs:∀e∈E,e.a≠24)(hj:j<4)(h24:wd x 24=0):
 (j<2/\Jn x (((atL E).take j).foldl am x)/\wd (((atL E).take j).foldl am x) 24=0)\/(2<=j/\wd (((atL E).take j).foldl am x) 24=cmW E/\0<cmW E):=by
 have hw:=ib E;have d:∀e∈lsE 32 (cn E),32<=e.a/\e.a<96:=λe c=>by
  have:=uI (cn E) 32 (n:=256) (by omega) e c;omega
 have b:0<cmW E:=by unfold cmW;omega
 have h:wd (am x (lsE 32 (cn E))) 24=0:=by rw[aP _ _ _ λe c=>by have:=d e c;omega];exact h24
 have g:∀(y:List Nat) (v:Nat),y.length=x.length->wd (am y [⟨24,v⟩]) 24=v:=λy v hy=>by
  simp only[am];rw[if_pos (show (0:Int)<=24/\(24:Int)<(y.length:Int) by omega)];unfold wd;rw[show (24:Int).toNat=24 from rfl,kz6 (by omega)];rfl
 have f:(am x (lsE 32 (cn E))).length=x.length:=ax _ _
 match j,hj with
 | 0,_=>exact .inl ⟨by omega,Jn.refl _,h24⟩
 | 1,_=>exact .inl ⟨by omega,ze λe c=>.inr (d e c),h⟩
 | 2,_=>exact .inr ⟨by omega,g _ _ f,b⟩
 | 3,_=>exact .inr ⟨by omega,(aP _ _ _ λe c=>by have:=hs e c;omega).trans (g _ _ f),b⟩
theorem F1(h:CrAt n x0 y x)(h0:cO x0=(0,true,[]))(hx0:∀v∈x0,v<18446744073709551616)(hlt:∀v∈x.im,v<18446744073709551616)(h24:wd x.im 24=0):Jn x0 x.im\/∃L c,fR x.im=(0,L,c)/\Jn y c:=by
 obtain⟨d,E,outs,j,b,f,q,e⟩:=h;have r:=jF b.ok;have a:=b.w24;rw[f.v] at a;rcases GV r b.small.le b.small.pos (λe s=>by have:=b.small.ins e s;omega) q a with⟨-,h1,-⟩|⟨-,h1,h2⟩
 .rw[<-e] at h1;obtain⟨z,g,z2,z3,m⟩:=b.way;rw[f.v] at g;have i:=g.trans h1;rcases m with rfl|⟨o,p⟩
  .exact .inl i
  obtain⟨c,k,l⟩:=yJ _ i o hlt p;exact .inr ⟨_,c,py k,l⟩
 rw[<-e,h24] at h1;omega
theorem nf(h:Lay ws t):cO ws=(0,true,[]):=by
 have a:wd ws 16=0:=h.z16 16 (by decide) (by decide);have b:aw ws=0:=by
  have c:cA ws=0:=by
   refine vu h.size ?_ ?_
   .unfold iF;simp[a,h.z16 17 (by decide) (by decide),h.z16 18 (by decide) (by decide),h.z16 19 (by decide) (by decide),h.z16 20 (by decide) (by decide),h.z16 21 (by decide) (by decide),h.z16 22 (by decide) (by decide),h.z16 23 (by decide) (by decide)]
   rw[a,h.z16 17 (by decide) (by decide),h.z16 18 (by decide) (by decide)];rfl
  exact sx c (by rw[a];decide) (by rw[a];decide) h.hp
 unfold cO af;rw[if_pos b,a];rfl
theorem tI(h:Lay ws t)(ho:∀v∈ws,v<18446744073709551616)(h1 : -1<=left)(h2:left<=1000000){f:Int}(e:coR ⟨ws,[],left,false⟩=(x,f)):
 (f=0/\x.down=false\/f=60/\x.down=true)/\x.im.length=ws.length/\(∀v∈x.im,v<18446744073709551616)/\(wd x.im 24=0->∃L y,fR x.im=(0,L,y)/\y.length=ws.length/\((wd x.im 16=0/\f=60/\∀j,128<=j->wd y j=wd ws j)\/∀j,96<=j->wd y j=wd (cpZ ws) j)):=by
 have p:=run_of h ho h1 h2;rw[e] at p;obtain⟨s,g,q,r,m⟩:=p;dsimp only at s g q r m;refine⟨m.imp (λh=>⟨h.1,h.2.1⟩) (λh=>⟨h.1,h.2.1⟩),q,g.im,λl=>?_⟩;have c:=tF h ho;rcases m with⟨-,-,-,b,-⟩|⟨u,-,n⟩
 .have o:rsE (cpZ ws)=(0,[],cpZ ws):=by have:=mp (pY ho) (h.all ho);have i:=ta (pY ho) this.2.1;exact fJ i.2.1 i.2.2
  obtain⟨k,d,a⟩:=yJ _ b (h.lt ho) g.im o;exact⟨_,k,py d,a.1.trans c,.inr λj b=>a.2 j (by omega) (.inr b)⟩
 rcases F1 n (nf h) ho g.im l with i|⟨L,k,d,a⟩
 .obtain ⟨k,d,a⟩:=yJ [] i ho g.im (fJ (by rw[nf h]) (by rw[nf h]));refine⟨[],k,py d,a.1,.inl ⟨?_,u,λj b=>a.2 j (by omega) (.inr (by omega))⟩⟩;rw[i.lo 16 (by decide)];exact h.z16 16 (by decide) (by decide)
 exact⟨L,k,d,a.1.trans c,.inr λj b=>a.2 j (by omega) (.inr b)⟩
end Go.Proofs.YtpcajamacpbjcaaGreat
