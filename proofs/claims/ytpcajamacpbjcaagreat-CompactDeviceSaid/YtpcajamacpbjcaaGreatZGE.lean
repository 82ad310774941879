/- Clean devices: images behind changes, and how many operations they take. Plain. -/
import Derived.Test.YtpcajamacpbjcaaGreatZGD
import Derived.Test.YtpcajamacpbjcaaGreatZKEff
set_option maxHeartbeats 16000000
set_option linter.all false
namespace Go.Proofs.YtpcajamacpbjcaaGreat
open Go.RowKit
variable {d:Dv}{a left x:Int}{l:List En}{ad:List Int}{ws:List Nat}{k m n t:Nat}
theorem dvS_dn{v:Nat}(h:eY d=true)(hd:d.down=true):dvS d a v=d:=by have:=((bM d).1 h).2.2.2.1 hd;unfold dvS dvD;rw[if_pos this,<-hd]
theorem dvF_dn(h:eY d=true)(hd:d.down=true):dvF d a=d:=by have:=((bM d).1 h).2.2.2.1 hd;unfold dvF dvD;rw[if_pos this,<-hd]
theorem dvN_dn(h:eY d=true)(hd:d.down=true):dvN d=d:=by have:=((bM d).1 h).2.2.2.1 hd;unfold dvN dvD;rw[if_pos this,<-hd]
theorem Iy:∀(l:List En) {d:Dv},eY d=true->d.down=true->ou d l=d:=by
 intro l
 induction l with
 | nil=>intro d _ _;rfl
 | cons e l ih =>intro d h b;show ou (dvS d e.a e.v) l=d;rw[dvS_dn h b,ih h b]
theorem Jl(h:eY d=true)(hd:d.down=true):∀k,ld ad d k=d:=by
 intro k
 induction k with
 | zero=>rfl
 | succ k ih =>unfold ld;rw[ih,dvF_dn h hd,ite_self]
theorem rpP_dn(h:eY d=true)(hd:d.down=true):rpP d l=d:=by unfold rpP;rw[Iy l h hd,Jl h hd,dvN_dn h hd]
theorem rps_dn:∀(L:List (List En)) {d:Dv},eY d=true->d.down=true->L.foldl rpP d=d:=by
 intro L
 induction L with
 | nil=>intro d _ _;rfl
 | cons l L ih=>intro d h a;rw[kx1,rpP_dn h a,ih h a]
structure Ran (k:Nat) (d x:Dv):Prop where
 free:d.left = -1->x.left = -1/\x.down=d.down
 few:0<=d.left->(k:Int)<=d.left->x.left=d.left-k/\x.down=d.down
 many:0<=d.left->d.left<k->x.left=0/\x.down=true
theorem Ran.refl(d:Dv):Ran 0 d d:=⟨λh=>⟨h,rfl⟩,λ_ _=>⟨by omega,rfl⟩,λh1 h2=>by omega⟩
theorem Ran.trans{x y:Dv}(h:Ran k d x)(g:Ran m x y):Ran (k+m) d y:=by
 refine⟨λa=>?_,λa j=>?_,λa j=>?_⟩
 .obtain ⟨e,b⟩:=h.free a;obtain⟨f,c⟩:=g.free e;exact⟨f,c.trans b⟩
 .obtain ⟨e,b⟩:=h.few a (by omega);obtain⟨f,c⟩:=g.few (by omega) (by omega);exact⟨by omega,c.trans b⟩
 by_cases i:(k:Int)<=d.left
 .obtain ⟨e,b⟩:=h.few a i;exact g.many (by omega) (by omega)
 obtain⟨e,b⟩:=h.many a (by omega);by_cases hm:m=0
 .obtain ⟨f,c⟩:=g.few (by omega) (by omega);exact⟨by omega,c.trans b⟩
 exact g.many (by omega) (by omega)
theorem tw{im:List Nat}{dw:List Dw}(hl:¬ d.left=0)(_h1 : -1<=d.left):Ran 1 d { d with im:=im,dw:=dw,left:=dec d.left }:=by
 unfold dec;refine⟨λa=>?_,λa b=>?_,λa b=>by omega⟩
 .refine ⟨?_,rfl⟩;dsimp only;rw[if_neg (by omega)];exact a
 refine⟨?_,rfl⟩;dsimp only;rw[if_pos (by omega)];omega
theorem Bt(hl:d.left=0):Ran 1 d (dvD d):=⟨λa=>by omega,λa h2=>by omega,λ_ _=>⟨hl,rfl⟩⟩
theorem ran_S{v:Nat}(h1 : -1<=d.left):Ran 1 d (dvS d a v):=by
 unfold dvS;by_cases b:d.left=0
 .rw[if_pos b];exact Bt b
 rw[if_neg b];exact tw (im:=d.im) b h1
theorem ran_F(h1 : -1<=d.left):Ran 1 d (dvF d a):=by
 unfold dvF;by_cases b:d.left=0
 .rw[if_pos b];exact Bt b
 rw[if_neg b];exact tw (im:=d.im) b h1
theorem ran_N(h1 : -1<=d.left):Ran 1 d (dvN d):=by
 unfold dvN;by_cases a:d.left=0
 .rw[if_pos a];exact Bt a
 rw[if_neg a];exact tw a h1
theorem s7(h:eY d=true): -1<=d.left:=((bM d).1 h).2.1
theorem ran_Ss:∀(l:List En) {d:Dv},eY d=true->mg d.im.length l->Ran l.length d (ou d l):=by
 intro l
 induction l with
 | nil=>intro d _ _;exact Ran.refl d
 | cons e l ih =>intro d h b;have c:=b e (by simp);have:=(ran_S (a:=e.a) (v:=e.v) (s7 h)).trans (ih (uM h c.1 c.2) λx f=>by rw[sR];exact b x (by simp[f]));rw[kju] at this;exact this
def nLn (ad:List Int):Nat->Nat
 | 0=>0
 | k+1=>nLn ad k+if aJ ad (8*(k:Int)) ad.length=true then 1 else 0
theorem ran_Fs(h:eY d=true):∀k,Ran (nLn ad k) d (ld ad d k):=by
 intro k
 induction k with
 | zero=>exact Ran.refl d
 | succ k ih =>
  unfold ld nLn;split
  .exact ih.trans (ran_F (s7 (kn h k)))
  exact ih
def rpN (l:List En):Nat:=l.length+nLn (au l) 256+1
theorem ran_P(h:eY d=true)(hi:mg d.im.length l):Ran (rpN l) d (rpP d l):=((ran_Ss l h hi).trans (ran_Fs (lQ l h hi) 256)).trans (ran_N (s7 (kn (lQ l h hi) _)))
def Fs (L:List (List En)):Nat:=(L.map rpN).sum
theorem Gv:∀(L:List (List En)) {d:Dv},eY d=true->(∀E∈L,mg d.im.length E)->Ran (Fs L) d (L.foldl rpP d):=by
 intro L
 induction L with
 | nil=>intro d _ _;exact Ran.refl d
 | cons l L ih =>intro d h a;have:=(ran_P h (a l (by simp))).trans (ih (ph h (a l (by simp))) λE b=>by rw[lD];exact a E (by simp[b]));unfold Fs at this |-;rw[kxj,List.sum_cons];exact this
theorem stQ_a{v:Nat}{l:List Dw}{S:List Int}(h:∀e∈l,e.a∈S):∀e∈stQ l a v,e.a∈S++[a]:=λe b=>by
 rcases CN b with c|rfl
 .exact kvl _ (h e c)
 .exact List.mem_append_right _ (by simp)
theorem dvSs_a:∀(l:List En) {d:Dv} {S:List Int},(∀e∈d.dw,e.a∈S)->∀e∈(ou d l).dw,e.a∈S++au l:=by
 intro l
 induction l with
 | nil=>intro d S h e b;exact kvl _ (h e b)
 | cons x l ih =>
  intro d S h e b;have c:∀e∈(dvS d x.a x.v).dw,e.a∈S++[x.a]:=by
   unfold dvS dvD;split
   .exact λe b=>kvl _ (h e b)
   exact stQ_a h
  have:=ih (d:=dvS d x.a x.v) c e b;rw[kxs] at this;exact this
theorem sf{j:Nat}(hj:j<n)(h:(ad[j]?.getD 0)/8=x/8):aJ ad x n=true:=by
 induction n with
 | zero=>omega
 | succ n ih =>
  unfold aJ;rw[kxy];rcases kq6 j n with a|a
  .exact .inl (ih a)
  have:j=n:=by omega
  subst this;exact .inr (by rw[kqw];exact h)
def Flu (k:Nat) (e:Dw):Prop:=e.a/8<(k:Int)->e.f=true
theorem Jj(ha:∀e∈d.dw,e.a∈ad/\0<=e.a):∀k,(ld ad d k).down=false->∀e∈(ld ad d k).dw,(e.a∈ad/\0<=e.a)/\Flu k e:=by
 intro k
 induction k with
 | zero=>intro _ e b;exact⟨ha e b,λh=>by have:=(ha e b).2;omega⟩
 | succ k ih =>
  unfold ld;by_cases i:aJ ad (8*(k:Int)) ad.length=true
  .rw[if_pos i];intro c e b;have m:=(dvF_v c).1;unfold dvF at b c;by_cases n:(ld ad d k).left=0
   .rw[if_pos n] at c;cases c
   rw[if_neg n] at b;obtain⟨y,q,rfl⟩:=kzr.1 b;obtain⟨g,l⟩:=ih m y q;rw[(sw _ y).1];refine⟨g,λh=>?_⟩;rw[(sw _ y).1] at h;unfold flB;by_cases f:y.a/8=8*(k:Int)/8
   .rw[if_pos f]
   rw[if_neg f];exact l (by omega)
  rw[if_neg i];intro c e b;obtain⟨g,l⟩:=ih c e b;refine⟨g,λh=>?_⟩;by_cases f:e.a/8<(k:Int)
  .exact l f
  exfalso;apply i;obtain⟨j,o,p⟩:=kqz g.1;exact sf o (by rw[kql o,kq8,p];omega)
structure Cln (d:Dv):Prop where
 ok:eY d=true
 dw:d.dw=[]
theorem Cln.v(h:Cln d):dvV d=d.im:=by unfold dvV;rw[h.dw];rfl
theorem Cln.put(h:Cln d)(hi:mg d.im.length l)(hd:(rpP d l).down=false):Cln (rpP d l)/\(rpP d l).im=ak d.im l:=by
 have g:=ph h.ok hi;have c:=lQ l h.ok hi;have m:=(rpP_v h.ok hi hd).2;have p:(ld (au l) (ou d l) 256).down=false:=(dvN_v (kn c _) hd).1;have hn:d.im.length<=2048:=((aa _).1 ((bM d).1 h.ok).1).2.1 |> λh=>by omega
 have j:∀e∈(ou d l).dw,e.a∈au l/\0<=e.a:=λe b=>by
  have:=dvSs_a l (d:=d) (S:=[]) (λe b=>by rw[h.dw] at b;exact absurd b (by simp)) e b;rw[kz1] at this;have:=fS ((bM _).1 c).2.2.2.2 e b;exact⟨by assumption,by omega⟩
 have k:=Jj j 256 p;have f:(rpP d l).dw=[]:=by
  unfold rpP dvN;by_cases i:(ld (au l) (ou d l) 256).left=0
  .unfold rpP dvN at hd;rw[if_pos i] at hd;cases hd
  rw[if_neg i];show fnQ _=[];unfold fnQ;rw[kke];intro e b;have n:=k e b;have o:=fS ((bM _).1 (kn c 256)).2.2.2.2 e b;rw[ua,tD] at o;rw[n.2 (by omega)];simp
 refine⟨⟨g,f⟩,?_⟩;have:dvV (rpP d l)=(rpP d l).im:=by unfold dvV;rw[f];rfl
 rw[<-this,m,h.v]
theorem rpP_im(h:eY d=true)(hi:mg d.im.length l)(hd:(rpP d l).down=true):(rpP d l).im=d.im:=by
 have b:=kn (ad:=au l) (lQ l h hi) 256;unfold rpP at hd |-;unfold dvN at hd |-;by_cases a:(ld (au l) (ou d l) 256).left=0
 .rw[if_pos a];show (ld (au l) (ou d l) 256).im=d.im;rw[ua,tD]
 rw[if_neg a] at hd;exact absurd (((bM _).1 b).2.2.2.1 hd) a
theorem Bw:∀(L:List (List En)) {d:Dv},Cln d->(∀E∈L,mg d.im.length E)->((L.foldl rpP d).down=false->Cln (L.foldl rpP d)/\(L.foldl rpP d).im=L.foldl ak d.im)/\(d.down=false->(L.foldl rpP d).down=true->∃j,j<L.length/\(L.foldl rpP d).im=(L.take j).foldl ak d.im):=by
 intro L
 induction L with
 | nil =>intro d h _;exact⟨λ_=>⟨h,rfl⟩,λi b=>by rw[kvw,i] at b;cases b⟩
 | cons l L ih =>
  intro d h m;have c:=m l (by simp);have f:∀E∈L,mg (rpP d l).im.length E:=λE p=>by rw[lD];exact m E (by simp[p])
  have k:=ph h.ok c;refine⟨λa=>?_,λi b=>?_⟩
  .rw[kx1] at a |-;have:=(rps_v L k f a).1;obtain⟨g,e⟩:=h.put c this;obtain⟨o,n⟩:=(ih g f).1 a;exact⟨o,by rw[n,e];rfl⟩
  rw[kx1] at b |-;cases a:(rpP d l).down with
  | true =>rw[rps_dn L k a];exact⟨0,by simp,rpP_im h.ok c a⟩
  | false =>obtain⟨g,e⟩:=h.put c a;obtain⟨j,hj,q⟩:=(ih g f).2 a b;exact⟨j+1,by simp;omega,by rw[q,e];rfl⟩
theorem JA(ad:List Int){y:Int}(h:x/8=y/8):∀m,aJ ad x m=aJ ad y m:=by
 intro m
 induction m with
 | zero=>rfl
 | succ m ih=>unfold aJ;rw[ih,h]
theorem Hx :∀ {n:Nat},(∀j,j<n->(ad[j]?.getD 0)/8≠x/8)->aJ ad x n=false:=by
 intro n
 induction n with
 | zero=>intro _;rfl
 | succ n ih =>intro h;unfold aJ;rw[ih λj hj=>h j (by omega),kk4,kqi];exact h n (by omega)
def lnP (ad:List Int) (m:Nat):Nat->Nat
 | 0=>0
 | k+1=>lnP ad m k+if aJ ad (8*(k:Int)) m=true then 1 else 0
theorem nLn_P(ad:List Int):∀k,nLn ad k=lnP ad ad.length k:=by
 intro k
 induction k with
 | zero=>rfl
 | succ k ih=>unfold nLn lnP;rw[ih]
theorem Fh(ad:List Int):∀k,lnP ad 0 k=0:=by
 intro k
 induction k with
 | zero=>rfl
 | succ k ih=>unfold lnP;rw[ih];rfl
theorem Fk{x:Nat}(hx:ad[m]?.getD 0=(x:Int)):∀k,lnP ad (m+1) k=lnP ad m k+if x/8<k/\aJ ad (x:Int) m=false then 1 else 0:=by
 intro k
 induction k with
 | zero=>rfl
 | succ k ih =>
  unfold lnP;rw[ih,show aJ ad (8*(k:Int)) (m+1)=(aJ ad (8*(k:Int)) m||((x:Int)/8==8*(k:Int)/8)) by rw[<-hx];rfl];by_cases e:x/8=k
  .have a:((x:Int)/8==8*(k:Int)/8)=true:=by rw[kqw];omega
   rw[a,kvc,if_pos rfl,JA ad (show 8*(k:Int)/8=(x:Int)/8 by omega) m,if_neg (show ¬ (x/8<k/\aJ ad (x:Int) m=false) by omega)];cases hs:aJ ad (x:Int) m
   .rw[if_neg (by simp),if_pos ⟨by omega,rfl⟩]
   rw[if_pos rfl,if_neg (by simp)]
  have a:((x:Int)/8==8*(k:Int)/8)=false:=by rw[kqi];omega
  rw[a,kkl];have b:(x/8<k/\aJ ad (x:Int) m=false)=(x/8<k+1/\aJ ad (x:Int) m=false):=by
   rw[eq_iff_iff];constructor
   .exact λh=>⟨by omega,h.2⟩
   exact λh=>⟨by omega,h.2⟩
  simp only[b];omega
theorem AH :∀m,(∀j,j<m->0<=ad[j]?.getD 0/\ad[j]?.getD 0<2048)->lnP ad m 256=eU ad m:=by
 intro m
 induction m with
 | zero=>intro _;rw[Fh];rfl
 | succ m ih =>
  intro h;obtain⟨c,b⟩:=h m (by omega);obtain⟨x,a⟩:=kq2 c;rw[Fk a,ih λj hj=>h j (by omega),show eU ad (m+1)=eU ad m+if aJ ad (ad[m]?.getD 0) m=true then 0 else 1 from rfl,a];rw[a] at b;cases aJ ad (x:Int) m
  .rw[if_pos ⟨by omega,rfl⟩,if_neg (by simp)]
  rw[if_neg (by simp),if_pos rfl]
theorem uj:∀(l:List Nat) (a:Int),(lsE a l).length=l.length:=by
 intro l
 induction l with
 | nil=>intro a;rfl
 | cons v l ih=>intro a;simp only[lsE,kq0,ih]
theorem Ji:∀(l:List Nat) (a:Int) (k:Nat),k<l.length->(lsE a l)[k]? = some ⟨a+(k:Int),l[k]?.getD 0⟩:=by
 intro l
 induction l with
 | nil=>intro a k h;simp at h
 | cons v l ih =>
  intro a k h;cases k with
  | zero=>simp[lsE]
  | succ k =>rw[lsE,kj8,ih _ k (by simpa using h),kj8];simp only[Option.some.injEq,En.mk.injEq,and_true];omega
theorem Fy(l:List Nat):∀m,m<=l.length->eU (au (lsE 32 l)) m=(m+7)/8:=by
 have a:∀j,j<l.length->(au (lsE 32 l))[j]?.getD 0=32+(j:Int):=λj b=>by
  unfold au;rw[kxf,Ji l 32 j b];rfl
 intro m
 induction m with
 | zero=>intro _;rfl
 | succ m ih =>
  intro h;unfold eU;rw[ih (by omega),a m (by omega)];by_cases h8:m%8=0
  .rw[Hx λj b=>by rw[a j (by omega)];omega];simp only[kzh,if_false];omega
  rw[sf (j:=m-1) (by omega) (by rw[a (m-1) (by omega)];omega)];simp only[if_true];omega
theorem nM(h:mg 2048 l):nLn (au l) 256=eU (au l) (au l).length:=by rw[nLn_P];refine AH _ λj a=>?_;rw[aT] at a;rw[dY l j a];exact h _ (kqq a)
theorem zX(a v:Nat)(h:a<2048):nLn (au [⟨(a:Int),v⟩]) 256=1:=by rw[nM λe b=>by rw[kq1] at b;subst b;dsimp only;omega];rfl
theorem at_ops(hne:l≠[])(h32:l.length<=32)(hi:mg 2048 l)(he:gm (au l)=0):(Fs (atL l):Int)=ofS (au l)+ofF (au l)+ofN (au l):=by
 have hpos:1<=l.length:=by cases l with | nil=>exact absurd rfl hne | cons _ _=>simp
 have d:=ij l;have j:nLn (au (lsE 32 (cE l))) 256=(2*l.length+7)/8:=by rw[nM λe h=>by have:=vk (cE l) 32 (n:=2048) (by omega) e h;omega,aT,uj,Fy _ _ (kqa _),d]
 have f:=zX 24 (cmW l) (by decide);have i:=zX 24 0 (by decide);have g:=nM hi;have k:Fs (atL l)=(2*l.length+(2*l.length+7)/8+1)+((1+1+1)+((l.length+eU (au l) (au l).length+1)+(1+1+1))):=by unfold Fs atL;simp only[kxj,List.map_nil,List.sum_cons,List.sum_nil,kz8];unfold rpN;rw[j,uj,d,g];have c:nLn (au [({ a:=24,v:=cmW l }:En)]) 256=1:=f;have b:nLn (au [({ a:=24,v:=0 }:En)]) 256=1:=i;rw[c,b];rfl
 rw[k];unfold ofS ofF ofN;rw[if_pos he,if_pos he,if_pos he];unfold ge fc gw;rw[aT];split<;>omega
def CrAt (n:Nat) (x0 y:List Nat) (x:Dv):Prop:=∃d E outs j,RnAt n x0 y d E outs/\Cln d/\j<4/\x.im=((atL E).take j).foldl ak d.im
theorem Ran.dn{x:Dv}(h:Ran k d x)(hd:d.down=false)(hx:x.down=true):Ran (k+m) d x:=by
 refine⟨λa=>?_,λa c=>?_,λa c=>?_⟩
 .have:=(h.free a).2;rw[hx,hd] at this;cases this
 .have:=(h.few a (by omega)).2;rw[hx,hd] at this;cases this
 by_cases b:(k:Int)<=d.left
 .have:=(h.few a b).2;rw[hx,hd] at this;cases this
 exact h.many a (by omega)
def yR (L:List (List En)):Nat:=(L.map λl=>Fs (atL l)).sum
structure RnRes (n:Nat) (x0 y:List Nat) (k:Nat) (d:Dv) (r:Dv × Int):Prop where
 ok:eY r.1=true
 lt:DvLt r.1
 len:r.1.im.length=n
 ran:Ran k d r.1
 how:(r.2=0/\r.1.down=false/\Cln r.1/\Jn y r.1.im/\wd r.1.im 24=0)\/(r.2=60/\r.1.down=true/\CrAt n x0 y r.1)
theorem Cs{x0 y:List Nat}:∀(a:List (List En)) {d:Dv} {E:List En},RnAt n x0 y d E a->Cln d->RnRes n x0 y (yR (E::a)) d (zr (E::a) d):=by
 intro a
 induction a with
 | nil =>
  intro d E h i;obtain⟨m,o,l⟩:=h.made;have t:=kU h.ok;have f:∀F∈atL E,mg d.im.length F:=vY t h.small.le (by rw[h.len];exact h.small.in_);have b:=Bw (atL E) i f;have c:=Gv (atL E) h.ok f;rw[<-pO h.small.ne] at b c;have q:yR [E]=Fs (atL E):=by simp[yR]
  rw[q];unfold zr;cases g:(atM d E).down with
  | true =>rw[if_pos rfl];obtain⟨j,p,s⟩:=b.2 h.up g;exact⟨m,o,l,c,.inr ⟨rfl,g,d,E,[],j,h,i,p,s⟩⟩
  | false =>rw[if_neg (by simp)];obtain⟨k,z⟩:=b.1 g;obtain⟨x,C,B,A,-⟩:=h.way;obtain⟨-,u,w⟩:=JI h.ok h.small.ne h.small.le (by rw[h.len];exact h.small.in_) g;rw[k.v] at u w;have e:=(Gz B A).1;refine⟨m,o,l,c,.inl ⟨rfl,g,k,?_,w⟩⟩;rw[<-e];exact (C.puts E).trans u
 | cons E2 a ih =>
  intro d E h i;obtain⟨m,o,l⟩:=h.made;have t:=kU h.ok;have f:∀F∈atL E,mg d.im.length F:=vY t h.small.le (by rw[h.len];exact h.small.in_);have b:=Bw (atL E) i f;have c:=Gv (atL E) h.ok f;rw[<-pO h.small.ne] at b c;have q:yR (E::E2::a)=Fs (atL E)+yR (E2::a):=by simp[yR]
  rw[q];rw[show zr (E::E2::a) d=if (atM d E).down=true then (atM d E,60) else zr (E2::a) (atM d E) from rfl];cases g:(atM d E).down with
  | true =>rw[if_pos rfl];obtain⟨j,p,s⟩:=b.2 h.up g;exact⟨m,o,l,c.dn h.up g,.inr ⟨rfl,g,d,E,E2::a,j,h,i,p,s⟩⟩
  | false =>rw[if_neg (by simp)];obtain⟨k,z⟩:=b.1 g;have D:=(h.step g).2;have r:=ih D k;exact⟨r.ok,r.lt,r.len,c.trans r.ran,r.how⟩
theorem dv_of(h:Lay ws t)(ho:∀v∈ws,v<18446744073709551616)(h1 : -1<=left)(h2:left<=1000000):Cln ⟨ws,[],left,false⟩/\DvLt ⟨ws,[],left,false⟩/\RnAt ws.length ws (cpZ ws) ⟨ws,[],left,false⟩ [⟨16,1⟩] (rsE (gA ws)).2.1/\coR ⟨ws,[],left,false⟩=zr (coL ws) ⟨ws,[],left,false⟩:=by have a:eY ⟨ws,[],left,false⟩=true:=(bM _).2 ⟨h.size,h1,h2,λh=>(by cases h),rfl⟩;have b:DvLt ⟨ws,[],left,false⟩:=⟨ho,λe d=>absurd d (by simp)⟩;have c:=li h;refine⟨⟨a,rfl⟩,b,vG a b rfl c (h.z16 24 (by decide) (by decide)),?_⟩;rw[Gr a rfl c];unfold coL;rw[if_pos c];rfl
theorem run_of(h:Lay ws t)(ho:∀v∈ws,v<18446744073709551616)(h1 : -1<=left)(h2:left<=1000000):RnRes ws.length ws (cpZ ws) (yR (coL ws)) ⟨ws,[],left,false⟩ (coR ⟨ws,[],left,false⟩):=by obtain⟨b,c2,a,c⟩:=dv_of h ho h1 h2;rw[c,show coL ws=[⟨16,1⟩]::(rsE (gA ws)).2.1 by unfold coL;rw[if_pos (li h)]];exact Cs _ a b
end Go.Proofs.YtpcajamacpbjcaaGreat
