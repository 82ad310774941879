/- Clean devices: images behind changes, and how many operations they take. Plain. -/
import Derived.Test.YtpcajamacpbjcaaGreatZGD
import Derived.Test.YtpcajamacpbjcaaGreatZKEff
set_option maxHeartbeats 16000000
set_option linter.all false
namespace Go.Proofs.YtpcajamacpbjcaaGreat
open Go.RowKit
variable {d x:Dv}{a left:Int}{l:List En}{ad:List Int}{ws x0 y:List Nat}{j k m n t:Nat}
theorem dvS_dn{v:Nat}(h:ff d=true)(hd:d.down=true):dvS d a v=d:=by have:=((bP d).1 h).2.2.2.1 hd;unfold dvS dvD;rw[if_pos this,<-hd]
theorem dvF_dn(h:ff d=true)(hd:d.down=true):dvF d a=d:=by have:=((bP d).1 h).2.2.2.1 hd;unfold dvF dvD;rw[if_pos this,<-hd]
theorem dvN_dn(h:ff d=true)(hd:d.down=true):dvN d=d:=by have:=((bP d).1 h).2.2.2.1 hd;unfold dvN dvD;rw[if_pos this,<-hd]
theorem Is:∀(l:List En) {d:Dv},ff d=true->d.down=true->o8 d l=d:=by
 intro l
 induction l with
 | nil=>intro d _ _;rfl
 | cons e l ih =>intro d h b;show o8 (dvS d e.a e.v) l=d;rw[dvS_dn h b,ih h b]
theorem IP(h:ff d=true)(hd:d.down=true):∀k,lK ad d k=d:=by
 intro k
 induction k with
 | zero=>rfl
 | succ k ih =>unfold lK;rw[ih,dvF_dn h hd,ite_self]
theorem rpP_dn(h:ff d=true)(hd:d.down=true):rpP d l=d:=by unfold rpP;rw[Is l h hd,IP h hd,dvN_dn h hd]
theorem rps_dn:∀(L:List (List En)) {d:Dv},ff d=true->d.down=true->L.foldl rpP d=d:=by
 intro L
 induction L with
 | nil=>intro d _ _;rfl
 | cons l L ih=>intro d h a;rw[kxv,rpP_dn h a,ih h a]
structure Ran (k:Nat) (d x:Dv):Prop where
 free:d.left = -1->x.left = -1/\x.down=d.down
 few:0<=d.left->(k:Int)<=d.left->x.left=d.left-k/\x.down=d.down
 many:0<=d.left->d.left<k->x.left=0/\x.down=true
theorem Ran.refl(d:Dv):Ran 0 d d:=⟨λh=>⟨h,rfl⟩,λ_ _=>⟨by omega,rfl⟩,λh1 h2=>by omega⟩
theorem Ran.trans{y:Dv}(h:Ran k d x)(g:Ran m x y):Ran (k+m) d y:=by
 refine⟨λa=>?_,λa j=>?_,λa j=>?_⟩
 .obtain ⟨e,b⟩:=h.free a;obtain⟨f,c⟩:=g.free e;exact⟨f,c.trans b⟩
 .obtain ⟨e,b⟩:=h.few a (by omega);obtain⟨f,c⟩:=g.few (by omega) (by omega);exact⟨by omega,c.trans b⟩
 by_cases i:(k:Int)<=d.left
 .obtain ⟨e,b⟩:=h.few a i;exact g.many (by omega) (by omega)
 obtain⟨e,b⟩:=h.many a (by omega);by_cases hm:m=0
 .obtain ⟨f,c⟩:=g.few (by omega) (by omega);exact⟨by omega,c.trans b⟩
 exact g.many (by omega) (by omega)
theorem uo{im:List Nat}{dw:List Dw}(hl:¬ d.left=0)(_h1 : -1<=d.left):Ran 1 d { d with im:=im,dw:=dw,left:=dec d.left }:=by
 unfold dec;refine⟨λa=>?_,λa b=>?_,λa b=>by omega⟩
 .refine ⟨?_,rfl⟩;dsimp only;rw[if_neg (by omega)];exact a
 refine⟨?_,rfl⟩;dsimp only;rw[if_pos (by omega)];omega
theorem CY(hl:d.left=0):Ran 1 d (dvD d):=⟨λa=>by omega,λa h2=>by omega,λ_ _=>⟨hl,rfl⟩⟩
theorem ran_S{v:Nat}(h1 : -1<=d.left):Ran 1 d (dvS d a v):=by
 unfold dvS;by_cases b:d.left=0
 .rw[if_pos b];exact CY b
 rw[if_neg b];exact uo (im:=d.im) b h1
theorem ran_F(h1 : -1<=d.left):Ran 1 d (dvF d a):=by
 unfold dvF;by_cases b:d.left=0
 .rw[if_pos b];exact CY b
 rw[if_neg b];exact uo (im:=d.im) b h1
theorem ran_N(h1 : -1<=d.left):Ran 1 d (dvN d):=by
 unfold dvN;by_cases a:d.left=0
 .rw[if_pos a];exact CY a
 rw[if_neg a];exact uo a h1
theorem uy(h:ff d=true): -1<=d.left:=((bP d).1 h).2.1
theorem ran_Ss:∀(l:List En) {d:Dv},ff d=true->mU d.im.length l->Ran l.length d (o8 d l):=by
 intro l
 induction l with
 | nil=>intro d _ _;exact Ran.refl d
 | cons e l ih =>intro d h c;have b:=c e (by simp);have:=(ran_S (a:=e.a) (v:=e.v) (uy h)).trans (ih (vF h b.1 b.2) λx f=>by rw[sb];exact c x (by simp[f]));rw[kjw] at this;exact this
def nLn (ad:List Int):Nat->Nat
 | 0=>0
 | k+1=>nLn ad k+if aI ad (8*(k:Int)) ad.length=true then 1 else 0
theorem ran_Fs(h:ff d=true):∀k,Ran (nLn ad k) d (lK ad d k):=by
 intro k
 induction k with
 | zero=>exact Ran.refl d
 | succ k ih =>
  unfold lK nLn;split
  .exact ih.trans (ran_F (uy (kG h k)))
  exact ih
def rpN (l:List En):Nat:=l.length+nLn (av l) 256+1
theorem ran_P(h:ff d=true)(hi:mU d.im.length l):Ran (rpN l) d (rpP d l):=((ran_Ss l h hi).trans (ran_Fs (mf l h hi) 256)).trans (ran_N (uy (kG (mf l h hi) _)))
def FE (L:List (List En)):Nat:=(L.map rpN).sum
theorem Hh:∀(L:List (List En)) {d:Dv},ff d=true->(∀E∈L,mU d.im.length E)->Ran (FE L) d (L.foldl rpP d):=by
 intro L
 induction L with
 | nil=>intro d _ _;exact Ran.refl d
 | cons l L ih =>intro d h a;have:=(ran_P h (a l (by simp))).trans (ih (qc h (a l (by simp))) λE b=>by rw[mz];exact a E (by simp[b]));unfold FE at this |-;rw[kxm,List.sum_cons];exact this
theorem stQ_a{v:Nat}{l:List Dw}{S:List Int}(h:∀e∈l,e.a∈S):∀e∈stQ l a v,e.a∈S++[a]:=λe c=>by
 rcases AK c with b|rfl
 .exact kkq _ (h e b)
 .exact List.mem_append_right _ (by simp)
theorem dvSs_a:∀(l:List En) {d:Dv} {S:List Int},(∀e∈d.dw,e.a∈S)->∀e∈(o8 d l).dw,e.a∈S++av l:=by
 intro l
 induction l with
 | nil=>intro d S h e b;exact kkq _ (h e b)
 | cons x l ih =>
  intro d S h e b;have c:∀e∈(dvS d x.a x.v).dw,e.a∈S++[x.a]:=by
   unfold dvS dvD;split
   .exact λe b=>kkq _ (h e b)
   exact stQ_a h
  have:=ih (d:=dvS d x.a x.v) c e b;rw[kxo] at this;exact this
theorem tI{x:Int}(hj:j<n)(h:(ad[j]?.getD 0)/8=x/8):aI ad x n=true:=by
 induction n with
 | zero=>omega
 | succ n ih =>
  unfold aI;rw[kx1];rcases kq7 j n with a|a
  .exact .inl (ih a)
  have:j=n:=by omega
  subst this;exact .inr (by rw[kqx];exact h)
def Flu (k:Nat) (e:Dw):Prop:=e.a/8<(k:Int)->e.f=true
theorem Kr(ha:∀e∈d.dw,e.a∈ad/\0<=e.a):∀k,(lK ad d k).down=false->∀e∈(lK ad d k).dw,(e.a∈ad/\0<=e.a)/\Flu k e:=by
 intro k
 induction k with
 | zero=>intro _ e b;exact⟨ha e b,λh=>by have:=(ha e b).2;omega⟩
 | succ k ih =>
  unfold lK;by_cases m:aI ad (8*(k:Int)) ad.length=true
  .rw[if_pos m];intro c e b;have l:=(dvF_v c).1;unfold dvF at b c;by_cases n:(lK ad d k).left=0
   .rw[if_pos n] at c;cases c
   rw[if_neg n] at b;obtain⟨y,q,rfl⟩:=kzx.1 b;obtain⟨f,i⟩:=ih l y q;rw[(tD _ y).1];refine⟨f,λh=>?_⟩;rw[(tD _ y).1] at h;unfold flB;by_cases g:y.a/8=8*(k:Int)/8
   .rw[if_pos g]
   rw[if_neg g];exact i (by omega)
  rw[if_neg m];intro c e b;obtain⟨f,i⟩:=ih c e b;refine⟨f,λh=>?_⟩;by_cases g:e.a/8<(k:Int)
  .exact i g
  exfalso;apply m;obtain⟨j,o,p⟩:=kq0 f.1;exact tI o (by rw[kql o,kq5,p];omega)
structure Cln (d:Dv):Prop where
 ok:ff d=true
 dw:d.dw=[]
theorem Cln.v(h:Cln d):dvV d=d.im:=by unfold dvV;rw[h.dw];rfl
theorem Cln.put(h:Cln d)(hi:mU d.im.length l)(hd:(rpP d l).down=false):Cln (rpP d l)/\(rpP d l).im=ai d.im l:=by
 have g:=qc h.ok hi;have c:=mf l h.ok hi;have n:=(rpP_v h.ok hi hd).2;have o:(lK (av l) (o8 d l) 256).down=false:=(dvN_v (kG c _) hd).1;have hn:d.im.length<=2048:=((ab _).1 ((bP d).1 h.ok).1).2.1 |> λh=>by omega
 have m:∀e∈(o8 d l).dw,e.a∈av l/\0<=e.a:=λe b=>by
  have:=dvSs_a l (d:=d) (S:=[]) (λe b=>by rw[h.dw] at b;exact absurd b (by simp)) e b;rw[kz2] at this;have:=gw ((bP _).1 c).2.2.2.2 e b;exact⟨by assumption,by omega⟩
 have p:=Kr m 256 o;have f:(rpP d l).dw=[]:=by
  unfold rpP dvN;by_cases i:(lK (av l) (o8 d l) 256).left=0
  .unfold rpP dvN at hd;rw[if_pos i] at hd;cases hd
  rw[if_neg i];show fnQ _=[];unfold fnQ;rw[kkh];intro e b;have k:=p e b;have j:=gw ((bP _).1 (kG c 256)).2.2.2.2 e b;rw[uN,uL] at j;rw[k.2 (by omega)];simp
 refine⟨⟨g,f⟩,?_⟩;have:dvV (rpP d l)=(rpP d l).im:=by unfold dvV;rw[f];rfl
 rw[<-this,n,h.v]
theorem rpP_im(h:ff d=true)(hi:mU d.im.length l)(hd:(rpP d l).down=true):(rpP d l).im=d.im:=by
 have b:=kG (ad:=av l) (mf l h hi) 256;unfold rpP at hd |-;unfold dvN at hd |-;by_cases a:(lK (av l) (o8 d l) 256).left=0
 .rw[if_pos a];show (lK (av l) (o8 d l) 256).im=d.im;rw[uN,uL]
 rw[if_neg a] at hd;exact absurd (((bP _).1 b).2.2.2.1 hd) a
theorem Bf:∀(L:List (List En)) {d:Dv},Cln d->(∀E∈L,mU d.im.length E)->((L.foldl rpP d).down=false->Cln (L.foldl rpP d)/\(L.foldl rpP d).im=L.foldl ai d.im)/\(d.down=false->(L.foldl rpP d).down=true->∃j,j<L.length/\(L.foldl rpP d).im=(L.take j).foldl ai d.im):=by
 intro L
 induction L with
 | nil =>intro d h _;exact⟨λ_=>⟨h,rfl⟩,λk b=>by rw[kvv,k] at b;cases b⟩
 | cons l L ih =>
  intro d h i;have c:=i l (by simp);have e:∀E∈L,mU (rpP d l).im.length E:=λE q=>by rw[mz];exact i E (by simp[q])
  have m:=qc h.ok c;refine⟨λa=>?_,λk b=>?_⟩
  .rw[kxv] at a |-;have:=(rps_v L m e a).1;obtain⟨f,g⟩:=h.put c this;obtain⟨p,o⟩:=(ih f e).1 a;exact⟨p,by rw[o,g];rfl⟩
  rw[kxv] at b |-;cases a:(rpP d l).down with
  | true =>rw[rps_dn L m a];exact⟨0,by simp,rpP_im h.ok c a⟩
  | false =>obtain⟨f,g⟩:=h.put c a;obtain⟨j,hj,n⟩:=(ih f e).2 a b;exact⟨j+1,by simp;omega,by rw[n,g];rfl⟩
theorem JY(ad:List Int){x y:Int}(h:x/8=y/8):∀m,aI ad x m=aI ad y m:=by
 intro m
 induction m with
 | zero=>rfl
 | succ m ih=>unfold aI;rw[ih,h]
theorem JG{x:Int}:∀ {n:Nat},(∀j,j<n->(ad[j]?.getD 0)/8≠x/8)->aI ad x n=false:=by
 intro n
 induction n with
 | zero=>intro _;rfl
 | succ n ih =>intro h;unfold aI;rw[ih λj hj=>h j (by omega),kvk,kqi];exact h n (by omega)
def lnP (ad:List Int) (m:Nat):Nat->Nat
 | 0=>0
 | k+1=>lnP ad m k+if aI ad (8*(k:Int)) m=true then 1 else 0
theorem nLn_P(ad:List Int):∀k,nLn ad k=lnP ad ad.length k:=by
 intro k
 induction k with
 | zero=>rfl
 | succ k ih=>unfold nLn lnP;rw[ih]
theorem Gf(ad:List Int):∀k,lnP ad 0 k=0:=by
 intro k
 induction k with
 | zero=>rfl
 | succ k ih=>unfold lnP;rw[ih];rfl
theorem Gr{x:Nat}(hx:ad[m]?.getD 0=(x:Int)):∀k,lnP ad (m+1) k=lnP ad m k+if x/8<k/\aI ad (x:Int) m=false then 1 else 0:=by
 intro k
 induction k with
 | zero=>rfl
 | succ k ih =>
  unfold lnP;rw[ih,show aI ad (8*(k:Int)) (m+1)=(aI ad (8*(k:Int)) m||((x:Int)/8==8*(k:Int)/8)) by rw[<-hx];rfl];by_cases e:x/8=k
  .have a:((x:Int)/8==8*(k:Int)/8)=true:=by rw[kqx];omega
   rw[a,kvb,if_pos rfl,JY ad (show 8*(k:Int)/8=(x:Int)/8 by omega) m,if_neg (show ¬ (x/8<k/\aI ad (x:Int) m=false) by omega)];cases hs:aI ad (x:Int) m
   .rw[if_neg (by simp),if_pos ⟨by omega,rfl⟩]
   rw[if_pos rfl,if_neg (by simp)]
  have a:((x:Int)/8==8*(k:Int)/8)=false:=by rw[kqi];omega
  rw[a,kkm];have b:(x/8<k/\aI ad (x:Int) m=false)=(x/8<k+1/\aI ad (x:Int) m=false):=by
   rw[eq_iff_iff];constructor
   .exact λh=>⟨by omega,h.2⟩
   exact λh=>⟨by omega,h.2⟩
  simp only[b];omega
theorem B5 :∀m,(∀j,j<m->0<=ad[j]?.getD 0/\ad[j]?.getD 0<2048)->lnP ad m 256=fe ad m:=by
 intro m
 induction m with
 | zero=>intro _;rw[Gf];rfl
 | succ m ih =>
  intro h;obtain⟨c,b⟩:=h m (by omega);obtain⟨x,a⟩:=kq1 c;rw[Gr a,ih λj hj=>h j (by omega),show fe ad (m+1)=fe ad m+if aI ad (ad[m]?.getD 0) m=true then 0 else 1 from rfl,a];rw[a] at b;cases aI ad (x:Int) m
  .rw[if_pos ⟨by omega,rfl⟩,if_neg (by simp)]
  rw[if_neg (by simp),if_pos rfl]
theorem tR:∀(l:List Nat) (a:Int),(lsE a l).length=l.length:=by
 intro l
 induction l with
 | nil=>intro a;rfl
 | cons v l ih=>intro a;simp only[lsE,kq2,ih]
theorem Jy:∀(l:List Nat) (a:Int) (k:Nat),k<l.length->(lsE a l)[k]? = some ⟨a+(k:Int),l[k]?.getD 0⟩:=by
 intro l
 induction l with
 | nil=>intro a k h;simp at h
 | cons v l ih =>
  intro a k h;cases k with
  | zero=>simp[lsE]
  | succ k =>rw[lsE,kkd,ih _ k (by simpa using h),kkd];simp only[Option.some.injEq,En.mk.injEq,and_true];omega
theorem Gs(l:List Nat):∀m,m<=l.length->fe (av (lsE 32 l)) m=(m+7)/8:=by
 have a:∀j,j<l.length->(av (lsE 32 l))[j]?.getD 0=32+(j:Int):=λj b=>by
  unfold av;rw[kxh,Jy l 32 j b];rfl
 intro m
 induction m with
 | zero=>intro _;rfl
 | succ m ih =>
  intro h;unfold fe;rw[ih (by omega),a m (by omega)];by_cases h8:m%8=0
  .rw[JG λj b=>by rw[a j (by omega)];omega];simp only[kzm,if_false];omega
  rw[tI (j:=m-1) (by omega) (by rw[a (m-1) (by omega)];omega)];simp only[if_true];omega
theorem nE(h:mU 2048 l):nLn (av l) 256=fe (av l) (av l).length:=by rw[nLn_P];refine B5 _ λj a=>?_;rw[aU] at a;rw[d7 l j a];exact h _ (kqn a)
theorem CC(a v:Nat)(h:a<2048):nLn (av [⟨(a:Int),v⟩]) 256=1:=by rw[nE λe b=>by rw[kqy] at b;subst b;dsimp only;omega];rfl
theorem at_ops(hne:l≠[])(h32:l.length<=32)(hi:mU 2048 l)(he:f8 (av l)=0):(FE (atL l):Int)=ofS (av l)+ofF (av l)+ofN (av l):=by
 have hpos:1<=l.length:=by cases l with | nil=>exact absurd rfl hne | cons _ _=>simp
 have d:=fS l;have g:nLn (av (lsE 32 (bM l))) 256=(2*l.length+7)/8:=by rw[nE λe h=>by have:=oh (bM l) 32 (n:=2048) (by omega) e h;omega,aU,tR,Gs _ _ (kqa _),d]
 have f:=CC 24 (cmW l) (by decide);have i:=CC 24 0 (by decide);have k:=nE hi;have j:FE (atL l)=(2*l.length+(2*l.length+7)/8+1)+((1+1+1)+((l.length+fe (av l) (av l).length+1)+(1+1+1))):=by unfold FE atL;simp only[kxm,List.map_nil,List.sum_cons,List.sum_nil,kxa];unfold rpN;rw[g,tR,d,k];have b:nLn (av [({ a:=24,v:=cmW l }:En)]) 256=1:=f;have c:nLn (av [({ a:=24,v:=0 }:En)]) 256=1:=i;rw[b,c];rfl
 rw[j];unfold ofS ofF ofN;rw[if_pos he,if_pos he,if_pos he];unfold gV fo gG;rw[aU];split<;>omega
theorem J4{x:List Nat}{L:List (List En)}(h:rsE x=(0,L,y)):(de x).1=0:=by
 by_cases a:(de x).1=0
 .exact a
 rw[mD a] at h;exact congrArg Prod.fst h
theorem we:∀(L:List (List En)) {x xs y:List Nat},Jn x xs->(∀v∈x,v<18446744073709551616)->(∀v∈xs,v<18446744073709551616)->rsE x=(0,L,y)->∃g,rsE xs=(0,L,g)/\Jn y g:=by
 intro L
 induction L with
 | nil =>intro x xs y d f a h;obtain⟨e,l⟩:=zG f h;have c:=d.next.trans l;subst e;exact⟨xs,ii (by rw[c]) (by rw[c]),d⟩
 | cons E L ih =>intro x xs y d f a h;obtain⟨i,n⟩:=qI f h;have b:=d.next.trans i;have j:=(rY f (by rw[i]) (by rw[i])).2.1;have k:=(rY a (by rw[b]) (by rw[b])).2.1;rw[i] at j;rw[b] at k;obtain⟨g,o,m⟩:=ih (d.puts E) j k n;refine⟨g,?_,m⟩;rw[jo a (by rw[b]) (by rw[b]),b];dsimp only;rw[o,if_pos rfl]
theorem lk{x:List Nat}{L:List (List En)}(h:rsE x=(0,L,y)):f9 x=(0,L,y):=by unfold f9;rw[if_pos (rs_ck (J4 h)),h]
def CrAt (n:Nat) (x0 y:List Nat) (x:Dv):Prop:=∃d E outs j,RnAt n x0 y d E outs/\Cln d/\j<4/\x.im=((atL E).take j).foldl ai d.im
theorem Ran.dn(h:Ran k d x)(hd:d.down=false)(hx:x.down=true):Ran (k+m) d x:=by
 refine⟨λa=>?_,λa c=>?_,λa c=>?_⟩
 .have:=(h.free a).2;rw[hx,hd] at this;cases this
 .have:=(h.few a (by omega)).2;rw[hx,hd] at this;cases this
 by_cases b:(k:Int)<=d.left
 .have:=(h.few a b).2;rw[hx,hd] at this;cases this
 exact h.many a (by omega)
def zE (L:List (List En)):Nat:=(L.map λl=>FE (atL l)).sum
structure RnRes (n:Nat) (x0 y:List Nat) (k:Nat) (d:Dv) (r:Dv × Int):Prop where
 ok:ff r.1=true
 lt:DvLt r.1
 len:r.1.im.length=n
 ran:Ran k d r.1
 how:(r.2=0/\r.1.down=false/\Cln r.1/\Jn y r.1.im/\wd r.1.im 24=0)\/(r.2=60/\r.1.down=true/\CrAt n x0 y r.1)
theorem Ak :∀(a:List (List En)) {d:Dv} {E:List En},RnAt n x0 y d E a->Cln d->RnRes n x0 y (zE (E::a)) d (CA (E::a) d):=by
 intro a
 induction a with
 | nil =>
  intro d E h i;obtain⟨m,l,k⟩:=h.made;have q:=ie h.ok;have g:∀F∈atL E,mU d.im.length F:=wU q h.small.le (by rw[h.len];exact h.small.in_);have c:=Bf (atL E) i g;have b:=Hh (atL E) h.ok g;rw[<-pV h.small.ne] at c b;have t:zE [E]=FE (atL E):=by simp[zE]
  rw[t];unfold CA;cases f:(atM d E).down with
  | true =>rw[if_pos rfl];obtain⟨j,s,p⟩:=c.2 h.up f;exact⟨m,l,k,b,.inr ⟨rfl,f,d,E,[],j,h,i,s,p⟩⟩
  | false =>rw[if_neg (by simp)];obtain⟨o,D⟩:=c.1 f;obtain⟨x,C,B,z,-⟩:=h.way;obtain⟨-,w,u⟩:=Kn h.ok h.small.ne h.small.le (by rw[h.len];exact h.small.in_) f;rw[o.v] at w u;have e:=(zG B z).1;refine⟨m,l,k,b,.inl ⟨rfl,f,o,?_,u⟩⟩;rw[<-e];exact (C.puts E).trans w
 | cons E2 a ih =>
  intro d E h i;obtain⟨m,l,k⟩:=h.made;have q:=ie h.ok;have g:∀F∈atL E,mU d.im.length F:=wU q h.small.le (by rw[h.len];exact h.small.in_);have c:=Bf (atL E) i g;have b:=Hh (atL E) h.ok g;rw[<-pV h.small.ne] at c b;have t:zE (E::E2::a)=FE (atL E)+zE (E2::a):=by simp[zE]
  rw[t];rw[show CA (E::E2::a) d=if (atM d E).down=true then (atM d E,60) else CA (E2::a) (atM d E) from rfl];cases f:(atM d E).down with
  | true =>rw[if_pos rfl];obtain⟨j,s,p⟩:=c.2 h.up f;exact⟨m,l,k,b.dn h.up f,.inr ⟨rfl,f,d,E,E2::a,j,h,i,s,p⟩⟩
  | false =>rw[if_neg (by simp)];obtain⟨o,D⟩:=c.1 f;have A:=(h.step f).2;have r:=ih A o;exact⟨r.ok,r.lt,r.len,b.trans r.ran,r.how⟩
theorem dv_of(h:Lay ws t)(ho:∀v∈ws,v<18446744073709551616)(h1 : -1<=left)(h2:left<=1000000):Cln ⟨ws,[],left,false⟩/\DvLt ⟨ws,[],left,false⟩/\RnAt ws.length ws (cpZ ws) ⟨ws,[],left,false⟩ [⟨16,1⟩] (rsE (dI ws)).2.1/\coR ⟨ws,[],left,false⟩=CA (coL ws) ⟨ws,[],left,false⟩:=by have a:ff ⟨ws,[],left,false⟩=true:=(bP _).2 ⟨h.size,h1,h2,λh=>(by cases h),rfl⟩;have b:DvLt ⟨ws,[],left,false⟩:=⟨ho,λe d=>absurd d (by simp)⟩;have c:=jV h;refine⟨⟨a,rfl⟩,b,vh a b rfl c (h.z16 24 (by decide) (by decide)),?_⟩;rw[G9 a rfl c];unfold coL;rw[if_pos c];rfl
theorem run_of(h:Lay ws t)(ho:∀v∈ws,v<18446744073709551616)(h1 : -1<=left)(h2:left<=1000000):RnRes ws.length ws (cpZ ws) (zE (coL ws)) ⟨ws,[],left,false⟩ (coR ⟨ws,[],left,false⟩):=by obtain⟨c,c2,b,a⟩:=dv_of h ho h1 h2;rw[a,show coL ws=[⟨16,1⟩]::(rsE (dI ws)).2.1 by unfold coL;rw[if_pos (jV h)]];exact Ak _ b c
theorem AP{x:List Nat}{E:List En}(hn:256<=x.length)(h32:E.length<=32)(hp:1<=E.length)(hs:∀e∈E,e.a≠24)(hj:j<4)(h24:wd x 24=0):
 (j<2/\Jn x (((atL E).take j).foldl ai x)/\wd (((atL E).take j).foldl ai x) 24=0)\/(2<=j/\wd (((atL E).take j).foldl ai x) 24=cmW E/\0<cmW E):=by
 have hw:=fS E;have f:∀e∈lsE 32 (bM E),32<=e.a/\e.a<96:=λe c=>by
  have:=oh (bM E) 32 (n:=256) (by omega) e c;omega
 have b:0<cmW E:=by unfold cmW;omega
 have h:wd (ai x (lsE 32 (bM E))) 24=0:=by rw[aP _ _ _ λe c=>by have:=f e c;omega];exact h24
 have g:∀(y:List Nat) (v:Nat),y.length=x.length->wd (ai y [⟨24,v⟩]) 24=v:=λy v hy=>by
  simp only[ai];rw[if_pos (show (0:Int)<=24/\(24:Int)<(y.length:Int) by omega)];unfold wd;rw[show (24:Int).toNat=24 from rfl,kz4 (by omega)];rfl
 have d:(ai x (lsE 32 (bM E))).length=x.length:=au _ _
 match j,hj with
 | 0,_=>exact .inl ⟨by omega,Jn.refl _,h24⟩
 | 1,_=>exact .inl ⟨by omega,sZ λe c=>.inr (f e c),h⟩
 | 2,_=>exact .inr ⟨by omega,g _ _ d,b⟩
 | 3,_=>exact .inr ⟨by omega,(aP _ _ _ λe c=>by have:=hs e c;omega).trans (g _ _ d),b⟩
theorem JF(h:CrAt n x0 y x)(h0:de x0=(0,true,[]))(hx0:∀v∈x0,v<18446744073709551616)(hlt:∀v∈x.im,v<18446744073709551616)(h24:wd x.im 24=0):Jn x0 x.im\/∃L c,f9 x.im=(0,L,c)/\Jn y c:=by
 obtain⟨d,E,outs,j,b,i,p,e⟩:=h;have o:=ie b.ok;have a:=b.w24;rw[i.v] at a;rcases AP o b.small.le b.small.pos (λe l=>by have:=b.small.ins e l;omega) p a with⟨-,h1,-⟩|⟨-,h1,h2⟩
 .rw[<-e] at h1;obtain⟨z,g,z2,z3,m⟩:=b.way;rw[i.v] at g;have f:=g.trans h1;rcases m with rfl|⟨r,k⟩
  .exact .inl f
  obtain⟨c,s,q⟩:=we _ f r hlt k;exact .inr ⟨_,c,lk s,q⟩
 rw[<-e,h24] at h1;omega
theorem oX(h:Lay ws t):de ws=(0,true,[]):=by
 have a:wd ws 16=0:=h.z16 16 (by decide) (by decide);have c:ax ws=0:=by
  have b:cP ws=0:=by
   refine yv h.size ?_ ?_
   .unfold ji;simp[a,h.z16 17 (by decide) (by decide),h.z16 18 (by decide) (by decide),h.z16 19 (by decide) (by decide),h.z16 20 (by decide) (by decide),h.z16 21 (by decide) (by decide),h.z16 22 (by decide) (by decide),h.z16 23 (by decide) (by decide)]
   rw[a,h.z16 17 (by decide) (by decide),h.z16 18 (by decide) (by decide)];rfl
  exact uC b (by rw[a];decide) (by rw[a];decide) h.hp
 unfold de ag;rw[if_pos c,a];rfl
end Go.Proofs.YtpcajamacpbjcaaGreat
