/- Texts laid together: FixP Fix Fix2 Fix3 Fix4 FxSP FxOP. -/
import Derived.Test.YtpcajamacpbjcaaGreatZKRch
import Derived.Test.YtpcajamacpbjcaaGreatZKMove
import Derived.Test.YtpcajamacpbjcaaGreatZKHeap
set_option maxHeartbeats 16000000
set_option maxRecDepth 100000
set_option linter.all false
namespace Go.Proofs.YtpcajamacpbjcaaGreat
open Lib (hid)
variable {b:Bk}{a r:Int}{o:List En}{l:List Int}{ws:List Nat}{g j k p:Nat}
open Go.Proofs.Tryz
def cE (ws:List Nat):Int:=if af ws=0 then a9 ws 128 128 else af ws
def eC (ws:List Nat):List (Int × Int):=if cE ws=0 then iE ws 128 128 else []
theorem dA(h:cE ws=0):af ws=0/\a9 ws 128 128=0/\eC ws=iE ws 128 128:=by
 have a:af ws=0/\a9 ws 128 128=0:=by
  unfold cE at h;split at h
  .rename_i a;exact⟨a,h⟩
  rename_i a;exact absurd h a
 exact⟨a.1,a.2,by simp[eC,h]⟩
theorem pW:∀ {l:List (Int × Int)} {a t:Int},ed l a=some t->(a,t)∈l:=by
 intro l
 induction l with
 | nil=>intro a t h;cases h
 | cons m l ih =>
  intro a t h;simp only[ed] at h;split at h
  .rename_i e;injection h with h;rw[<-e,<-h];simp
  exact kzj _ (ih h)
theorem CQ(h:cE ws=0){t:Int}(ht:ed (eC ws) a=some t):∃n:Nat,t=(n:Int)/\128<=n/\n<ws.length/\n<2048/\∃m:Nat,a=(m:Int)/\128<=m/\m<ws.length:=by
 obtain⟨h1,k,v⟩:=dA h;rw[v] at ht;obtain⟨p,e⟩:=kj1.1 (pW ht);have g:=(kq7.1 e).1;obtain⟨m,n,i,z,g3,-,-,-⟩:=wQ k g;obtain⟨x,i2,l,y,i4,w⟩:=bT k;have hb:=ma x;have f:blocks ws 128=some l:=y;have c:=n8 (ws:=ws) (by omega) f (by omega) (by omega) (by omega);have b:(128:Int)<=nC l:=by
  unfold nC;split
  .omega
  rename_i hl;obtain⟨a0,u,-,e1,-⟩:=bH _ _ f (by omega) 0 (by omega);rw[bB l 0 (by omega),u,ab];omega
 obtain⟨s,r,o⟩:=xf c b;rw[e] at i;injection i with i;injection i with g4 g5;rw[w] at g e;have e:=(kq7.1 e).2;have d:=(s p g).1;rw[e] at d;have hge:(128:Int)<=t:=by
  rcases kx6 p with j|j
  .subst j;have:=o g;rw[e] at this;dsimp only at this;omega
  have q:=(r 0 p g j).1;have h6:=o (by omega);rw[e] at q;dsimp only at q;omega
 dsimp only at d;exact⟨n,g5,by omega,by omega,by omega,m,g4,z,by omega⟩
def fH (m:List (Int × Int)) (v:Nat):Option Int:=if 2048<v then none else ed m (v:Int)
def kN (l:List Bk) (a:Int):Option Bk:=l.find? λb=>b.at_==a&&b.kind==1
def qH (l:List Bk) (a:Int) (k:Nat):Prop:=∀j,j<k->((gk l j).at_==a&&(gk l j).kind==1)=false
theorem vh(l:List Bk)(a:Int):qH l a 0:=λj h=>absurd h (by omega)
theorem xR{l:List Bk}(h:qH l a k)(h2:((gk l k).at_==a&&(gk l k).kind==1)=false):qH l a (k+1):=λj hj=>by
 rcases kq9 j k with b|b
 .exact h j b
 .have:j=k:=by omega
  subst this;exact h2
theorem BL:∀ {l:List Bk} {a:Int},qH l a l.length->kN l a=none:=by
 intro l
 induction l with
 | nil=>intro a _;rfl
 | cons b l ih =>intro a h;have d:(b.at_==a&&b.kind==1)=false:=h 0 (by simp);unfold kN;rw[List.find?_cons,d];exact ih λj c=>by have:=h (j+1) (by simpa using c);rwa [gV] at this
theorem GY:∀ {l:List Bk} {a:Int} {k:Nat},k<l.length->qH l a k->((gk l k).at_==a&&(gk l k).kind==1)=true->kN l a=some (gk l k):=by
 intro l
 induction l with
 | nil=>intro a k h;simp at h
 | cons b l ih =>
  intro a k e h c;cases k with
  | zero =>rw[mx] at c |-;unfold kN;rw[List.find?_cons,c]
  | succ k =>have d:(b.at_==a&&b.kind==1)=false:=h 0 (by omega);unfold kN;rw[List.find?_cons,d];rw[gV] at c |-;exact ih (by simpa using e) (λj hj=>by have:=h (j+1) (by omega);rwa [gV] at this) c
def wN (ws:List Nat) (a:Int):Bk:=(kN (aO ws 128) a).getD lN
def di (ws:List Nat) (a:Int):Int:=if (kN (aO ws 128) a).isSome then 0 else 6
theorem jb{l:List Bk}(h:kN l a=some b):b∈l/\b.at_=a/\b.kind=1:=by unfold kN at h;have c:=List.find?_some h;simp only[kqz,kqx] at c;exact⟨List.mem_of_find?_eq_some h,c.1,c.2⟩
def sm (F:List Nat) (a:Int) (j:Nat):List Int:=(List.range j).filterMap λ(i:Nat)=>if F[i]? = some 3 then some (a+2+(i:Int)) else none
theorem rA(F:List Nat)(a:Int)(j:Nat):sm F a (j+1)=sm F a j++(if F[j]? = some 3 then [a+2+(j:Int)] else []):=by unfold sm;rw[kj7,kkh];congr 1;simp only[kjw,kk1];split<;>simp_all
theorem u9(F:List Nat)(a:Int)(j:Nat):(sm F a j).length<=j:=by unfold sm;have:=kku (λ(i:Nat)=>if F[i]? = some 3 then some (a+2+(i:Int)) else none) (List.range j);rwa [kx4] at this
theorem kc{F:List Nat}{x:Int}:x∈sm F a j↔∃i,i<j/\F[i]? = some 3/\x=a+2+(i:Int):=by
 unfold sm;rw[kjm];constructor
 .rintro ⟨i,c,b⟩;split at b
  .rename_i d;injection b with b;exact⟨i,kq8.1 c,d,b.symm⟩
  cases b
 rintro ⟨i,c,b,d⟩;exact⟨i,kq8.2 c,by rw[if_pos b,d]⟩
def xP (ws:List Nat) (b:Bk):List Nat:=aX (wd ws (tyA b)) (wd ws (tyA b+1))
def fA (ws:List Nat) (b:Bk):List Int:=sm (xP ws b) b.at_ (xP ws b).length
theorem EY(h:af ws=0)(ho:kN (aO ws 128) a=some b):∃m:Nat,a=(m:Int)/\b=bkAt ws m/\cb ws m:=by obtain⟨c,e,f⟩:=jb ho;rw[(eY h).2.1] at c;obtain⟨k,i,rfl⟩:=kqu c;obtain⟨m,d,g⟩:=ju h i f;exact⟨m,by rw[<-e,d];rfl,d,g⟩
def fm (ws:List Nat) (m:List (Int × Int)) (r:Nat):Option (List En):=if wd ws r=0 then some [] else match fH m (wd ws r) with
 | none=>none
 | some t=>if (wd ws r:Int)=t then some [] else some [⟨(r:Int),t.toNat⟩]
def da (ws:List Nat) (m:List (Int × Int)):List Int->Option (List En)
 | []=>some []
 | r::l=>match fm ws m r.toNat with
  | none=>none
  | some x=>(da ws m l).map (x ++ ·)
theorem iQ(ws:List Nat)(m:List (Int × Int))(a b:List Int):da ws m (a++b)=match da ws m a with
 | none=>none
 | some x=>(da ws m b).map (x ++ ·):=by
 induction a with
 | nil=>simp[da]
 | cons r a ih =>
  simp only[kz0,da];cases fm ws m r.toNat with
  | none=>rfl
  | some x =>
   rw[ih];cases da ws m a with
   | none=>rfl
   | some y =>
    cases da ws m b with
    | none=>rfl
    | some z=>simp
theorem lh{m:List (Int × Int)}(hk:k<l.length)(h:da ws m (l.take k)=some o):da ws m (l.take (k+1))=(fm ws m l[k].toNat).map (o ++ ·):=by rw[kqp hk,iQ,h];simp only[da];cases fm ws m l[k].toNat<;>simp
theorem Aw{m:List (Int × Int)}(hk:k<l.length)(h:da ws m (l.take k)=some o)(h2:fm ws m l[k].toNat=none):da ws m l=none:=by
 conv=>lhs;rw[<-kxo (k+1) l]
 rw[iQ,lh hk h,h2];rfl
theorem qz{m:List (Int × Int)}:∀ {l:List Int} {o:List En},da ws m l=some o->o.length<=l.length:=by
 intro l
 induction l with
 | nil=>intro o h;simp only[da,Option.some.injEq] at h;subst h;simp
 | cons r l ih =>
  intro o h;simp only[da] at h;cases a:fm ws m r.toNat with
  | none=>rw[a] at h;cases h
  | some x =>
   rw[a] at h;cases b:da ws m l with
   | none=>rw[b] at h;cases h
   | some y =>
    rw[b] at h;simp only[kzk,Option.some.injEq] at h;subst h;have h1:=ih b;have h2:x.length<=1:=by
     unfold fm at a;split at a
     .injection a with a;subst a;simp
     split at a
     .cases a
     split at a<;>(injection a with a;subst a;simp)
    rw[kqw,kzc];omega
def dw (ws:List Nat) (a:Int):Int:=if cE ws=0 then (match kN (aO ws 128) a with
 | none=>6
 | some b=>if b.mark=true then (match da ws (eC ws) (fA ws b) with | none=>50 | some _=>0) else 6) else cE ws
def cw (ws:List Nat) (a:Int):List En:=if cE ws=0 then (match kN (aO ws 128) a with
 | none=>[]
 | some b=>if b.mark=true then (da ws (eC ws) (fA ws b)).getD [] else []) else []
theorem B4(h:cE ws=r)(h0:r≠0):dw ws a=r/\cw ws a=[]:=by subst h;simp[dw,cw,h0]
theorem sF(h:cE ws=0)(h1:kN (aO ws 128) a=none):dw ws a=6/\cw ws a=[]:=by simp[dw,cw,h,h1]
theorem sJ(h:cE ws=0)(h1:kN (aO ws 128) a=some b)(h2:b.mark=false):dw ws a=6/\cw ws a=[]:=by simp[dw,cw,h,h1,h2]
theorem yq(h:cE ws=0)(h1:kN (aO ws 128) a=some b)(h2:b.mark=true)(h3:da ws (eC ws) (fA ws b)=none):dw ws a=50/\cw ws a=[]:=by simp[dw,cw,h,h1,h2,h3]
theorem As(h:cE ws=0)(h1:kN (aO ws 128) a=some b)(h2:b.mark=true)(h3:da ws (eC ws) (fA ws b)=some o):dw ws a=0/\cw ws a=o:=by simp[dw,cw,h,h1,h2,h3]
def nR (ws:List Nat) (a:Int):Int:=if af ws=0 then di ws a else af ws
def bI (ws:List Nat) (a:Int):List Int:=if af ws=0 then (match kN (aO ws 128) a with | none=>[] | some b=>fA ws b) else []
def nH (s:Sl):Nat:=s.at_.toNat+s.gen.toNat*4294967296+(if s.used=true then 9223372036854775808 else 0)
def ja (ws:List Nat) (m:List (Int × Int)) (i:Nat):Option (List En):=if (slAt ws i).used=true then (match fH m (slAt ws i).at_.toNat with
 | none=>none
 | some t=>if wd ws (112+i)=nH ⟨(slAt ws i).gen,true,t⟩ then some [] else some [⟨((112+i:Nat):Int),nH ⟨(slAt ws i).gen,true,t⟩⟩]) else some []
def d6 (ws:List Nat) (m:List (Int × Int)):Nat->Option (List En)
 | 0=>some []
 | k+1=>match d6 ws m k with
  | none=>none
  | some o=>(ja ws m k).map (o ++ ·)
theorem vX{m:List (Int × Int)}(h:d6 ws m k=none):∀ {n:Nat},k<=n->d6 ws m n=none:=by
 intro n
 induction n with
 | zero =>
  intro b;have:k=0:=by omega
  subst this;exact h
 | succ n ih =>
  intro b;rcases kq9 n k with a|a
  .have:k=n+1:=by omega
   subst this;exact h
  simp only[d6,ih a]
theorem rf{m:List (Int × Int)}:∀ {k:Nat} {o:List En},d6 ws m k=some o->o.length<=k:=by
 intro k
 induction k with
 | zero=>intro o h;simp only[d6,Option.some.injEq] at h;subst h;simp
 | succ k ih =>
  intro o h;simp only[d6] at h;cases b:d6 ws m k with
  | none=>rw[b] at h;cases h
  | some x =>
   rw[b] at h;cases a:ja ws m k with
   | none=>rw[a] at h;cases h
   | some y =>
    rw[a] at h;simp only[kzk,Option.some.injEq] at h;subst h;have h1:=ih b;have h2:y.length<=1:=by
     unfold ja at a;split at a
     .split at a
      .cases a
      split at a<;>(injection a with a;subst a;simp)
     injection a with a;subst a;simp
    rw[kqw];omega
def eE (ws:List Nat):Int:=if cE ws=0 then (if slsOk ws=true then (match d6 ws (eC ws) 16 with | none=>50 | some _=>0) else 50) else cE ws
def dK (ws:List Nat):List En:=if eE ws=0 then (d6 ws (eC ws) 16).getD [] else []
open Go.RowKit
theorem Bh(A:Option Addr)(m:List (Int × Int))(c n v:Nat)(w:World)(hn:m.length=n)(hm:n<=1000000)(hv:v<18446744073709551616)(hr:RdM w w.heap.size A m):
 Calls prog 256 #[.slice A n c,.int .u64 (v:Int)] w λe w'=>e=.returned (.tuple #[.int .i64 ((fH m v).getD 0),.bool (fH m v).isSome])/\Below w.heap.size w w':=by
 have g:=hid (λa=>fwTo_c A m c n w.heap.size a w hn hm hr (kqg _));by_cases h:2048<v
 .have H:Hid (fH m v=none):=hid (by simp[fH,h]);have j:decide ((2048:Int)<(v:Int))=true:=by rw[kqo];omega
  have f:decide (2048<v)=true:=by rw[kqo];exact h
  clear hv hr hn hm h;go_enter func256,ntmps256;go_wp2;go_ret2;exact⟨by rw[H.out];rfl,kql _ _⟩
 have H:Hid (fH m v=ed m (v:Int)):=hid (by simp[fH,h]);have j:decide ((2048:Int)<(v:Int))=false:=by rw[kqh];omega
 have f:decide (2048<v)=false:=by rw[kqh];exact h
 have hw:IntKind.i64.wrap (v:Int)=(v:Int):=kqr _ (by omega);have b:=hid (g.out (v:Int));rw[<-H.out] at b;obtain⟨q,i⟩:=xq (fH m v);rw[i] at b |-;clear hv hr hn hm h i g H;go_enter func256,ntmps256;go_wp2_with fail;refine b.out.mono ?_;rintro e w1 ⟨rfl,d⟩;go_wp2;go_ret2;exact⟨rfl,d⟩
def Hs (ws:List Nat) (e:Ending) (w':World):Prop:=∃A c,e=.returned (.tuple #[.slice A (eC ws).length c,.int .i64 (cE ws)])/\RdM w' w'.heap.size A (eC ws)/\(eC ws).length<=c
theorem uz(A:Option Addr)(ws:List Nat)(c n:Nat)(w:World)(hn:ws.length=n)(hm:n<=9223372036854775807)(f:RdW w w.heap.size A ws)(ho:∀x∈ws,x<18446744073709551616):
 Calls prog 255 #[.slice A n c] w λe w'=>Hs ws e w'/\Below w.heap.size w w':=by
 have v:=hid f;have d:=hid (lY A ws c n w hn hm f ho);have o:=hid (λW (h:RdW W W.heap.size A ws)=>qb A ws c n 128 128 W hn hm (by omega) (by omega) h ho);unfold xy at o;clear f ho hn hm;by_cases g:af ws=0
 .have b:Hid (cE ws=a9 ws 128 128/\eC ws=iE ws 128 128):=hid (by
   have j:cE ws=a9 ws 128 128:=by simp[cE,g]
   refine⟨j,?_⟩;unfold eC;rw[j];split
   .rfl
   rename_i h2;simp[iE,h2])
  rw[g] at d;clear g;go_enter func255,ntmps255;go_wp2_with fail;refine d.out.mono ?_;rintro e z ⟨rfl,a⟩;have i:=hid a;have q:=hid (v.out.up a a.size);clear a;go_wp2_with fail;refine (o.out _ q.out).mono ?_;rintro e w2 ⟨⟨u,y,rfl,l,k⟩,m⟩;have t:=hid (i.out.trans (m.mono i.out.size));have s:=hid l;have p:=hid k;clear m l k;go_wp2;go_ret2;exact⟨⟨u,y,by rw[b.out.1,b.out.2];rfl,by rw[b.out.2];exact s.out,by rw[b.out.2];exact p.out⟩,t.out⟩
 obtain⟨r,f⟩:=xq (af ws);have b:Hid (cE ws=r/\eC ws=[]):=hid (by
  have j:cE ws=r:=by unfold cE;rw[if_neg g,f]
  exact⟨j,by unfold eC;rw[j,if_neg (by rw[<-f];exact g)]⟩)
 rw[f] at d g;have hrn:(r != 0)=true:=by rw[kqt];exact g
 clear g f;go_enter func255,ntmps255;go_wp2_with fail;refine d.out.mono ?_;rintro e z ⟨rfl,a⟩;go_wp2;go_ret2;exact⟨⟨none,0,by rw[b.out.1,b.out.2];rfl,by rw[b.out.2];exact Rd.nil_,by rw[b.out.2];exact kqg _⟩,a⟩
theorem Ht{a:Nat}(ha:a<4294967296)(hg:g<2147483648):bits BinOp.or .u64 (a:Int) ((g:Int)*4294967296)=((a+g*4294967296:Nat):Int) /\
 bits BinOp.or .u64 ((a+g*4294967296:Nat):Int) 9223372036854775808=((a+g*4294967296+9223372036854775808:Nat):Int):=by
 refine⟨or32 ha (by omega),?_⟩;have h:=u64_or_nat (a+g*4294967296) 9223372036854775808 (by omega) (by omega);have e:(a+g*4294967296) ||| 9223372036854775808=a+g*4294967296+9223372036854775808:=by rw[show (9223372036854775808:Nat)=1*2 ^ 63 by decide,jC (i:=63) (by omega)]
 rw[e] at h;exact h
theorem AC{a q:Nat}(hp:a+g*4294967296=p)(hq:p+9223372036854775808=q):nH ⟨(g:Int),true,(a:Int)⟩=q:=by unfold nH;dsimp only;rw[kqk,kqk,if_pos rfl,hp,hq]
theorem wL{a:Nat}(hp:a+g*4294967296=p):nH ⟨(g:Int),false,(a:Int)⟩=p:=by unfold nH;dsimp only;rw[kqk,kqk,if_neg (by simp),hp,kxd]
theorem CJ(g a p:Nat)(w:World)(hg:g<2147483648)(ha:a<4294967296)(o1:bits BinOp.or .u64 (a:Int) ((g:Int)*4294967296)=(p:Int)):
 Calls prog 285 #[.agg #[.int .i64 (g:Int),.bool false,.int .i64 (a:Int)]] w λe w'=>e=.returned (.int .u64 (p:Int))/\Below w.heap.size w w':=by have hw1:IntKind.u64.wrap (a:Int)=(a:Int):=kzs _ (by omega);have hw2:IntKind.u64.wrap (g:Int)=(g:Int):=kzs _ (by omega);have hw3:IntKind.u64.wrap ((g:Int)*4294967296)=(g:Int)*4294967296:=kzs _ (by omega);have b:=hid ((kql w.heap.size w).alloc (kqg _) (.cells #[.int .i64 (g:Int),.bool false,.int .i64 (a:Int)] 52));clear ha hg;go_enter func285,ntmps285;go_wp2;go_ret;exact⟨rfl,b.out⟩
theorem CA(g a p q:Nat)(w:World)(hg:g<2147483648)(ha:a<4294967296)(o1:bits BinOp.or .u64 (a:Int) ((g:Int)*4294967296)=(p:Int))(o2:bits BinOp.or .u64 (p:Int) 9223372036854775808=(q:Int)):
 Calls prog 285 #[.agg #[.int .i64 (g:Int),.bool true,.int .i64 (a:Int)]] w λe w'=>e=.returned (.int .u64 (q:Int))/\Below w.heap.size w w':=by have hw1:IntKind.u64.wrap (a:Int)=(a:Int):=kzs _ (by omega);have hw2:IntKind.u64.wrap (g:Int)=(g:Int):=kzs _ (by omega);have hw3:IntKind.u64.wrap ((g:Int)*4294967296)=(g:Int)*4294967296:=kzs _ (by omega);have b:=hid ((kql w.heap.size w).alloc (kqg _) (.cells #[.int .i64 (g:Int),.bool true,.int .i64 (a:Int)] 52));clear ha hg;go_enter func285,ntmps285;go_wp2;go_ret;exact⟨rfl,b.out⟩
theorem Hi(g a:Nat)(u:Bool)(w:World)(hg:g<2147483648)(ha:a<4294967296):
 Calls prog 285 #[.agg #[.int .i64 (g:Int),.bool u,.int .i64 (a:Int)]] w λe w'=>e=.returned (.int .u64 (nH ⟨(g:Int),u,(a:Int)⟩:Nat))/\Below w.heap.size w w':=by
 obtain⟨c,b⟩:=Ht ha hg;obtain⟨p,d⟩:=xq (a+g*4294967296);rw[d] at c b;obtain⟨q,f⟩:=xq (p+9223372036854775808);rw[f] at b;cases u
 .rw[wL d];exact CJ g a p w hg ha c
 rw[AC d f];exact CA g a p q w hg ha c b
theorem Gy(g a:Nat)(u:Bool)(w:World)(hg:g<2147483648)(ha:a<4294967296)(hok:lL ⟨(g:Int),u,(a:Int)⟩=true):
 Calls prog 257 #[.agg #[.int .i64 (g:Int),.bool u,.int .i64 (a:Int)]] w λe w'=>e=.returned (.tuple #[.int .u64 (nH ⟨(g:Int),u,(a:Int)⟩:Nat),.int .i64 0])/\Below w.heap.size w w':=by have d:=hid (λW=>ux (g:Int) u (a:Int) W (by omega) (by omega));rw[hok] at d;have h:=hid (λW=>Hi g a u W hg ha);have k:=Bx.new w 52 #[.int .i64 (g:Int),.bool u,.int .i64 (a:Int)];have l:=hid k;have j:=hid ((kql w.heap.size w).alloc (kqg _) (.cells #[.int .i64 (g:Int),.bool u,.int .i64 (a:Int)] 52));obtain⟨V,m⟩:∃V,nH ⟨(g:Int),u,(a:Int)⟩=V:=⟨_,rfl⟩;rw[m] at h |-;clear k m hok hg ha;go_enter func257,ntmps257;go_wp2_with fail;refine (d.out _).mono ?_;rintro e w1 ⟨rfl,b⟩;have f:=l.out.up b l.out.lt;obtain⟨p0,p1,p2,-⟩:=f.c3;have c:=hid (j.out.trans (b.mono j.out.size));clear b f;go_wp2_with fail;refine (h.out _).mono ?_;rintro e w2 ⟨rfl,i⟩;go_wp2;go_ret2;exact⟨rfl,c.out.trans (i.mono c.out.size)⟩
theorem Bm(A:Option Addr)(ws:List Nat)(c n:Nat)(a:Int)(w:World)(hn:ws.length=n)(hm:n<=9223372036854775807)(hr:RdW w w.heap.size A ws)(ho:∀x∈ws,x<18446744073709551616):
 Calls prog 258 #[.slice A n c,.int .i64 a] w λe w'=>e=.returned (.tuple #[(wN ws a).val,.int .i64 (di ws a)])/\Below w.heap.size w w':=by
 have j:=hid (lG A ws c n 128 (w.alloc (.cells #[.int .i64 0,.int .i64 0,.int .i64 0,.int .i64 0,.bool false,.int .u64 0] 55)) hn hm ((hr.alloc (kqg _) _).more (by simp)) ho);unfold pM at j;rw[kqn] at j;have M:=gu ws 128;have Z:Hid (qH (aO ws 128) a (aO ws 128).length->wN ws a=lN/\di ws a=6):=hid λh=>by simp[wN,di,BL h]
 have HY:Hid (∀k,k<(aO ws 128).length->qH (aO ws 128) a k->((gk (aO ws 128) k).at_==a&&(gk (aO ws 128) k).kind==1)=true->wN ws a=gk (aO ws 128) k/\di ws a=0):=hid λk h1 h2 h3=>by simp[wN,di,GY h1 h2 h3]
 obtain⟨l,X⟩:=xq (aO ws 128);obtain⟨r,L⟩:=xq (bU ws 128);rw[X,L] at j;rw[X] at M Z HY;have I:=mh;clear X L hr ho hn hm;go_enter func258,ntmps258;go_wp2_with fail;refine j.out.mono ?_;rintro e w1 ⟨⟨A1,c1,rfl,J,-⟩,D⟩;have E:=au D;have Q:=E.size;have b0:=hid (Bx.of_new D);have G:=b0.out.lt;have U:=hid J;have O:=hid E;clear J D E;go_wp2_with fail;go_loopw [17] (λi wr=>∃k:Nat,k<=l.length/\i=.int .i64 k/\Hid (qH l a k)/\Below w1.heap.size w1 wr) (λi _=>l.length-(intOf i).toNat)
 case atStart=>exact⟨0,kqy _,rfl,vh l a,kql _ _⟩
 obtain⟨k,hk,rfl,y,t⟩:=hrel;have V:=t.size;have C:=hid (b0.out.up t G);by_cases z:k<l.length
 .obtain ⟨b,off,rfl,hbw,q0,q1,q2,q3,q4,q5⟩:=RdB.at_ (U.out.below t) z;have g:=hid (λh=>xR y.out h);have f:=hid (λh=>HY.out k z y.out h);rw[bB l k z] at g f;obtain⟨x,hx⟩:=xq (l[k]);rw[hx] at q0 q1 q2 q3 q4 q5 g f;obtain⟨o,xs,m,q,B,u⟩:=x;dsimp only at q0 q1 q2 q3 q4 q5 g;have hlm:(k:Int)<(l.length:Int):=by omega
  clear hx;obtain⟨d1,e1⟩:=xq ((o==a));obtain⟨d2,e2⟩:=xq ((m==1));dsimp only at f;rw[e1,e2] at g f;cases d1
  .have F:=hid (g.out rfl);clear g f e2;go_wp2;go_roundw
   case rel=>exact⟨k+1,by omega,by go_num,F.out,t.alloc V _⟩
   case measure=>simp[intOf];omega
  cases d2
  .have F:=hid (g.out rfl);clear g f;go_wp2;go_roundw
   case rel=>exact⟨k+1,by omega,by go_num,F.out,t.alloc V _⟩
   case measure=>simp[intOf];omega
  have N:=hid (f.out rfl);have p:=hid (Bx.new wr 55 #[.int .i64 o,.int .i64 xs,.int .i64 m,.int .i64 q,.bool B,.int .u64 (u:Int)]);have P:=hid (t.alloc V (.cells #[.int .i64 o,.int .i64 xs,.int .i64 m,.int .i64 q,.bool B,.int .u64 (u:Int)] 55));have R:=hid (C.out.alloc (.cells #[.int .i64 o,.int .i64 xs,.int .i64 m,.int .i64 q,.bool B,.int .u64 (u:Int)] 55));clear g f;go_upto_region 6 with (fail);obtain⟨wn,S⟩:∃wn,wr.alloc (.cells #[.int .i64 o,.int .i64 xs,.int .i64 m,.int .i64 q,.bool B,.int .u64 (u:Int)] 55)=wn:=⟨_,rfl⟩;rw[S] at p R P |-;clear S;go_wp2_with (first
   | ((with_reducible refine gX 55 (.tmp 9) ?_);refine kja rfl _ _ rfl wr.heap.size (by rfl) 55 #[.int .i64 o,.int .i64 xs,.int .i64 m,.int .i64 q,.bool B,.int .u64 (u:Int)] (0,0) _ p.out underlying55 (by rfl) I ?_)
   | ((with_reducible refine bt 55 (.tmp 4) _ ?_);refine am rfl _ _ _ rfl w.heap.size 55 #[.int .i64 0,.int .i64 0,.int .i64 0,.int .i64 0,.bool false,.int .u64 0] #[.int .i64 o,.int .i64 xs,.int .i64 m,.int .i64 q,.bool B,.int .u64 (u:Int)] (by rfl) (by rfl) R.out rfl I (mC _ _ _ _ _ _) ?_;intro w3 K H;have W:=hid K;have Y:=hid H;clear K H))
  exact kqv (v:=.tuple #[.agg #[.int .i64 o,.int .i64 xs,.int .i64 m,.int .i64 q,.bool B,.int .u64 (u:Int)],.int .i64 0]) (aL results258 _ W.out rfl rfl) rfl ⟨by rw[N.out.1,N.out.2];rfl,Y.out.below (O.out.trans (P.out.mono Q)) (kqg _)⟩
 have N:=hid (Z.out (by have:=y.out;rwa [show k=l.length by omega] at this));have T:=hid (O.out.trans (t.mono Q));obtain⟨x0,x1,x2,x3,x4,x5,s,hgl⟩:=C.out.c6;have f0:=s 0;have f1:=s 1;have f2:=s 2;have f3:=s 3;have f4:=s 4;have f5:=s 5;clear s;go_wp2_with fail;exact kqv (v:=.tuple #[.agg #[.int .i64 0,.int .i64 0,.int .i64 0,.int .i64 0,.bool false,.int .u64 0],.int .i64 6]) (aL results258 _ (lv C.out _ _ _ _ _ _) rfl rfl) rfl ⟨by rw[N.out.1,N.out.2];rfl,eX T.out (kqg _) _ _ _ _ _ _⟩
theorem uM(A:Option Addr)(ws:List Nat)(c n t xa:Nat)(xs xk:Int)(xm:Bool)(xn:Nat)(w:World)(hn:ws.length=n)(hm:n<=1000000)(h2:256<=n)(ht:t<8)(hxa:xa<=1000000)(hr:RdW w w.heap.size A ws)(ho:∀x∈ws,x<18446744073709551616):
 Calls prog 259 #[.slice A n c,.agg #[.int .i64 (xa:Int),.int .i64 xs,.int .i64 xk,.int .i64 (t:Int),.bool xm,.int .u64 (xn:Int)]] w λe w'=>(∃A' c',e=.returned (.slice A' (fA ws ⟨(xa:Int),xs,xk,(t:Int),xm,xn⟩).length c')/\RdI w' w'.heap.size A' (fA ws ⟨(xa:Int),xs,xk,(t:Int),xm,xn⟩)/\(fA ws ⟨(xa:Int),xs,xk,(t:Int),xm,xn⟩).length<=c')/\Below w.heap.size w w':=by
 subst hn;have hx:=fd ho (96+2*t);have hy:=fd ho (96+2*t+1);have R:=hid (λW=>pA (wd ws (96+2*t)) (wd ws (96+2*t+1)) W hx hy);unfold Ee at R;have z:=kb (wd ws (96+2*t)) (wd ws (96+2*t+1));have Ja:fA ws ⟨(xa:Int),xs,xk,(t:Int),xm,xn⟩=sm (aX (wd ws (96+2*t)) (wd ws (96+2*t+1))) (xa:Int) (aX (wd ws (96+2*t)) (wd ws (96+2*t+1))).length:=rfl;rw[Ja];clear Ja;obtain⟨b,f,rfl,hb,D⟩:=RdW.at_ hr (show 96+2*t<ws.length by omega);obtain⟨b',off',e',-,u⟩:=RdW.at_ hr (show 96+2*t+1<ws.length by omega);cases e';rw[<-ce] at D u;obtain⟨x,Q⟩:=xq (wd ws (96+2*t));obtain⟨y,T⟩:=xq (wd ws (96+2*t+1));rw[Q] at D R z |-;rw[T] at u R z |-;obtain⟨F,hF⟩:=xq (aX x y);obtain⟨r,V⟩:=xq (dJ x y);rw[hF,V] at R;rw[hF] at z |-;have Jl:=hid (λj=>rA F (xa:Int) j);have Jk:=hid (λj=>u9 F (xa:Int) j);have t0:(0:Int)<=(t:Int):=by omega
 have t8:(t:Int)<8:=by omega
 have w1:IntKind.i64.wrap (2*(t:Int))=2*(t:Int):=kqr _ (by omega);have w2:IntKind.i64.wrap (96+2*(t:Int))=96+2*(t:Int):=kqr _ (by omega);have w3:IntKind.i64.wrap (96+2*(t:Int)+1)=96+2*(t:Int)+1:=kqr _ (by omega);have wa:IntKind.i64.wrap ((xa:Int)+2)=(xa:Int)+2:=kqr _ (by omega);have i1:(0:Int)<=96+2*(t:Int):=by omega
 have i2:(96:Int)+2*(t:Int)<(ws.length:Int):=by omega
 have i3:(0:Int)<=96+2*(t:Int)+1:=by omega
 have i4:(96:Int)+2*(t:Int)+1<(ws.length:Int):=by omega
 have n1:((96:Int)+2*(t:Int)).toNat=96+2*t:=by omega
 have n2:((96:Int)+2*(t:Int)+1).toNat=96+2*t+1:=by omega
 have bx:=Bx.new w 55 #[.int .i64 (xa:Int),.int .i64 xs,.int .i64 xk,.int .i64 (t:Int),.bool xm,.int .u64 (xn:Int)];have l:=(kql w.heap.size w).alloc (kqg _) (.cells #[.int .i64 (xa:Int),.int .i64 xs,.int .i64 xk,.int .i64 (t:Int),.bool xm,.int .u64 (xn:Int)] 55);replace D:=(l.cell (p:=⟨b,f+(96+2*t),none⟩) hb).trans D;replace u:=(l.cell (p:=⟨b,f+(96+2*t+1),none⟩) hb).trans u;have Z:(w.alloc (.cells #[.int .i64 (xa:Int),.int .i64 xs,.int .i64 xk,.int .i64 (t:Int),.bool xm,.int .u64 (xn:Int)] 55)).heap.size=w.heap.size+1:=by simp
 obtain⟨i0,hi,J,Jc,N⟩:=kzt tI;have HI:=hid hi;have Jm:=hid J;have Jj:=hid Jc;have Jf:=hid N;clear hi J Jc N;clear hr hx hy Q T ho ht hF V;go_enter func259,ntmps259;go_wp2_with fail;obtain⟨q,Jd⟩:∃q,w.alloc (.cells #[.int .i64 (xa:Int),.int .i64 xs,.int .i64 xk,.int .i64 (t:Int),.bool xm,.int .u64 (xn:Int)] 55)=q:=⟨_,rfl⟩;rw[Jd] at D u bx l Z |-;clear Jd;have b3:q.cell? ⟨w.heap.size,3,none⟩=some (.int .i64 (t:Int)):=bx.cell 3;have P:b<q.heap.size:=by omega
 have Eq:w.heap.size<q.heap.size:=by omega
 have BX:=hid bx;have K:=hid l;clear bx l Z
 go_region_held3 (λX:World=>X.cell? ⟨b,f+(96+2*t),none⟩=some (.int .u64 (x:Int))/\X.cell? ⟨b,f+(96+2*t+1),none⟩=some (.int .u64 (y:Int))/\X.cell? ⟨w.heap.size,3,none⟩=some (.int .i64 (t:Int))) (go_keep)
  (first | (go_at_call 117;refine (R.out _).mono ?_;rintro e H ⟨⟨A1,c1,rfl,U,-⟩,o⟩;have m0:=(o.cell (p:=⟨b,f+(96+2*t),none⟩) P).trans D;have m1:=(o.cell (p:=⟨b,f+(96+2*t+1),none⟩) P).trans u;have m2:=(o.cell (p:=⟨w.heap.size,3,none⟩) Eq).trans b3;have Jg:=hid U;have G:Below q.heap.size q H:=(kql q.heap.size q).drew.trans o;have BX5:=hid (BX.out.up G Eq);have S:=hid (K.out.trans (G.mono K.out.size));clear U o G))
 have Jn:=S.out.size;clear m0 m1 m2 D u b3;go_wp2_with fail;go_loopw [7,31] (λv i wr=>∃k:Nat,k<=F.length/\i=.int .i64 k/\wr.ownsRow H.heap.size 3 1 v (sm F (xa:Int) k).length ((sm F (xa:Int) k).flatMap cd)/\Below H.heap.size H wr) (λ_ i _=>F.length-(intOf i).toNat)
 case atStart=>exact⟨0,kqy _,rfl,kq3 _ _ _ _,kql _ _⟩
 obtain⟨k,hk,rfl,a,I⟩:=hrel;have hz:=I.size;by_cases Y:k<F.length
 .obtain ⟨bF,oF,rfl,hbF,y0⟩:=RdY.at_ (show RdY wr H.heap.size A1 F from Rd.below Jg.out I) Y;have C:=BX5.out.up I BX5.out.lt;have p0:=C.cell 0;have hgr:=C.lt;have d:=hid (Jl.out k);have Je:=Jk.out k;rw[kqj Y] at d;obtain⟨B,L⟩:=xq (F[k]);obtain⟨m,O⟩:∃m,sm F (xa:Int) k=m:=⟨_,rfl⟩;rw[L] at y0 d;rw[O] at a d Je;have p0':wr.cell? ⟨w.heap.size,0,none⟩=some (.int .i64 (xa:Int)):=p0;have hki:(k:Int)<(F.length:Int):=by omega
  have hwk:IntKind.i64.wrap ((xa:Int)+2+(k:Int))=(xa:Int)+2+(k:Int):=kqr _ (by omega);clear L O C p0;by_cases g:B=3
  .have e3:((B:Int)==3)=true:=by rw[kqx];omega
   have e3n:(B==3)=true:=by rw[kqx];exact g
   have HY:=hid (show sm F (xa:Int) (k+1)=m++[(xa:Int)+2+(k:Int)] by rw[d.out,if_pos (by rw[g])]);clear g d;go_wp2_with (at_builtin;refine kzn _ rfl _ _ 42 rfl H.heap.size 3 i0 _ 1 8 underlying42 HI.out Jm.out Jj.out Jf.out rfl (by decide) _ _ _ rfl (a.alloc _) ⟨_,0,none⟩ 1 1 [.int .i64 ((xa:Int)+2+(k:Int))] rfl rfl (bY _ _ _) (by simp[Value.oneCell']) (by unfold maxLen;omega) (by omega) (by simp;omega) ?_;intro v1 w6 E Jh _;have Jo:=aw I hz a Jh);go_roundw
   case rel=>exact⟨k+1,by omega,by go_num,by rw[HY.out,kqw,bP];exact E,Jo⟩
   case measure=>simp[intOf];omega
  have e3:((B:Int)==3)=false:=by rw[kqi];omega
  have e3n:(B==3)=false:=by rw[kqi];exact g
  have HY:=hid (show sm F (xa:Int) (k+1)=m by rw[d.out,if_neg (λh=>g (Option.some.inj h)),kz1]);clear g d;go_wp2;go_roundw
  case rel=>exact⟨k+1,by omega,by go_num,by rw[HY.out];exact a,I⟩
  case measure=>simp[intOf];omega
 obtain rfl:k=F.length:=by omega
 obtain⟨A2,c2,rfl,M,s⟩:=jh a;have Jb:=hid s;have Ji:=hid M;clear s a M;go_wp2;go_ret;exact⟨⟨A2,c2,rfl,Jb.out,Ji.out⟩,S.out.trans (I.mono Jn)⟩
theorem ng(h:af ws=0)(ho:kN (aO ws 128) a=some b):∃(m t:Nat) (xs xk:Int) (xm:Bool) (xn:Nat),a=(m:Int)/\b=⟨(m:Int),xs,xk,(t:Int),xm,xn⟩/\t<8/\cb ws m/\m<ws.length /\
 (fA ws b).length<=8/\∀k (o:k<(fA ws b).length),∃r:Nat,(fA ws b)[k]=(r:Int)/\m<=r/\r<ws.length:=by
 obtain⟨m,p,d,c⟩:=EY h ho;have g:wd ws m/512%128<8:=by have h7:=(bn _).1 (eJ c.2.2.2.1);have h5:=c.2.2.2.2.1;have h6:(ah (wd ws m)).typ=((wd ws m/512%128:Nat):Int):=rfl;omega
 have l:xP ws b=flds ws m:=by rw[d];rfl
 refine⟨m,wd ws m/512%128,(bkAt ws m).size,(bkAt ws m).kind,(bkAt ws m).mark,(bkAt ws m).next,p,d,g,c,c.2.2.1,?_,λk o=>?_⟩
 .have q:=u9 (xP ws b) b.at_ (xP ws b).length;have h2:=pr ws m;unfold fA;rw[l] at q |-;omega
 have j:=kqm o;unfold fA at j;obtain⟨i,n,i2,s⟩:=kc.1 j;rw[l] at n;have f:=tH c n;have e:b.at_=(m:Int):=by rw[d];rfl
 refine⟨m+2+i,?_,by omega,f⟩;have:(fA ws b)[k]=b.at_+2+(i:Int):=s;rw[this,e];omega
def RsRes (ws:List Nat) (a:Int) (e:Ending) (w':World):Prop:=∃A c,e=.returned (.tuple #[.slice A (bI ws a).length c,.int .i64 (nR ws a)])/\RdI w' w'.heap.size A (bI ws a)/\(bI ws a).length<=c
theorem wC(A:Option Addr)(ws:List Nat)(c n:Nat)(a:Int)(w:World)(hn:ws.length=n)(hm:n<=9223372036854775807)(u:RdW w w.heap.size A ws)(ho:∀x∈ws,x<18446744073709551616):
 Calls prog 208 #[.slice A n c,.int .i64 a] w λe w'=>RsRes ws a e w'/\Below w.heap.size w w':=by
 subst hn;have J:=hid u;have o:=hid (lY A ws c ws.length w rfl hm u ho);have g:=hid (λW (h:RdW W W.heap.size A ws)=>Bm A ws c ws.length a W rfl hm h ho);have X:=hid ho;clear u ho;by_cases k:af ws=0
 .rw[k] at o;cases f:kN (aO ws 128) a with
  | none =>have i:Hid (nR ws a=6/\bI ws a=[]):=hid (by simp[nR,bI,di,k,f]);rw[show wN ws a=lN by simp[wN,f],show di ws a=6 by simp[di,f]] at g;unfold lN Bk.val at g;simp only[kzb] at g;clear k f;go_enter func208,ntmps208;go_wp2_with fail;refine o.out.mono ?_;rintro e Q ⟨rfl,d⟩;have l:=hid d;have v:=hid (J.out.up d d.size);clear d;go_wp2_with fail;refine (g.out _ v.out).mono ?_;rintro e S ⟨rfl,p⟩;have j:=l.out.trans (p.mono l.out.size);go_wp2;go_ret2;exact⟨⟨none,0,by rw[i.out.1,i.out.2];rfl,by rw[i.out.2];exact Rd.nil_,by rw[i.out.2];exact kqg _⟩,j.alloc j.size _⟩
  | some b =>
   obtain⟨m,t,xs,N,M,P,T,G,D,B,I,-,-⟩:=ng k f;subst T;have K:=fP ws (ao k).1;have i:Hid (nR ws (m:Int)=0/\bI ws (m:Int)=fA ws b):=hid (by simp[nR,bI,di,k,f]);rw[show wN ws (m:Int)=b by simp[wN,f],show di ws (m:Int)=0 by simp[di,f]] at g;have y:=hid (λW (h:RdW W W.heap.size A ws)=>uM A ws c ws.length t m xs N M P W rfl (by omega) (by omega) D (by omega) h X.out);rw[<-G] at y;obtain⟨R,O⟩:=xq (fA ws b);rw[O] at y i;rw[G] at g;unfold Bk.val at g;dsimp only at g;clear k f G D B I K O;go_enter func208,ntmps208;go_wp2_with fail;refine o.out.mono ?_;rintro e Q ⟨rfl,d⟩;have l:=hid d;have v:=hid (J.out.up d d.size);clear d;go_wp2_with fail;refine (g.out _ v.out).mono ?_;rintro e S ⟨rfl,p⟩;have j:=l.out.trans (p.mono l.out.size);have q:=hid (j.alloc j.size (.cells #[.int .i64 (m:Int),.int .i64 xs,.int .i64 N,.int .i64 (t:Int),.bool M,.int .u64 (P:Int)] 55));have E:=hid (J.out.up q.out q.out.size);clear p j;go_wp2_with fail;refine (y.out _ E.out).mono ?_;rintro e w3 ⟨⟨V,U,rfl,s,z⟩,C⟩;have L:=hid s;have F:=hid z;have H:=hid (q.out.trans (C.mono q.out.size));clear s z C;go_wp2;go_ret2;exact⟨⟨V,U,by rw[i.out.1,i.out.2];rfl,by rw[i.out.2];exact L.out,by rw[i.out.2];exact F.out⟩,H.out⟩
 obtain⟨r,u⟩:=xq (af ws);have i:Hid (nR ws a=r/\bI ws a=[]):=hid ⟨by unfold nR;rw[if_neg k,u],by unfold bI;rw[if_neg k]⟩;rw[u] at o k;have hrn:(r != 0)=true:=by rw[kqt];exact k
 clear k u;go_enter func208,ntmps208;go_wp2_with fail;refine o.out.mono ?_;rintro e Q ⟨rfl,d⟩;go_wp2;go_ret2;exact⟨⟨none,0,by rw[i.out.1,i.out.2];rfl,by rw[i.out.2];exact Rd.nil_,by rw[i.out.2];exact kqg _⟩,d⟩
theorem uZ(ws:List Nat):(eC ws).length<=2048:=by
 unfold eC;split
 .exact Eo ws 128 128
 simp
theorem sZ(A:Option Addr)(ws:List Nat)(c n:Nat)(a:Int)(w:World)(hn:ws.length=n)(hm:n<=9223372036854775807)(N:RdW w w.heap.size A ws)(ho:∀x∈ws,x<18446744073709551616):
 Calls prog 209 #[.slice A n c,.int .i64 a] w λe w'=>io w.heap.size (dw ws a) (cw ws a) e w'/\Below w.heap.size w w':=by
 subst hn;have HR:=hid N;have u:=hid (uz A ws c ws.length w rfl hm N ho);unfold Hs at u;have g:=hid (λW (h:RdW W W.heap.size A ws)=>Bm A ws c ws.length a W rfl hm h ho);have HO:=hid ho;clear N ho;by_cases I:cE ws=0
 .obtain ⟨Ka,-,-⟩:=dA I;rw[I] at u;have Jf:=uZ ws;cases j:kN (aO ws 128) a with
  | none =>have O:=hid (sF I j);rw[show wN ws a=lN by simp[wN,j],show di ws a=6 by simp[di,j]] at g;unfold lN Bk.val at g;simp only[kzb] at g;obtain⟨q,hq⟩:=xq ((eC ws).length);rw[hq] at u;clear I j hq Jf;go_enter func209,ntmps209;go_wp2_with fail;refine u.out.mono ?_;rintro e w1 ⟨⟨A1,c1,rfl,-,-⟩,d⟩;have G:=hid d;have L:=hid (HR.out.up d d.size);clear d;go_wp2_with fail;refine (g.out _ L.out).mono ?_;rintro e w2 ⟨rfl,F⟩;have D:=G.out.trans (F.mono G.out.size);go_wp2;go_ret2;exact⟨bu O.out.1 O.out.2,D.alloc D.size _⟩
  | some b =>
   obtain⟨m,t,xs,xk,xm,xn,ea,eb,Jq,Jb,Jc,Ju,Q⟩:=ng Ka j;subst ea;have Jg:=fP ws (ao Ka).1;rw[show wN ws (m:Int)=b by simp[wN,j],show di ws (m:Int)=0 by simp[di,j]] at g;have K:b.mark=xm:=by rw[eb]
   cases V:xm with
   | false =>have O:=hid (sJ I j (by rw[K,V]));rw[eb,V] at g;unfold Bk.val at g;dsimp only at g;obtain⟨q,hq⟩:=xq ((eC ws).length);rw[hq] at u;clear I j eb Jq Jb Jc Jg Ju Q hq Jf K V;go_enter func209,ntmps209;go_wp2_with fail;refine u.out.mono ?_;rintro e w1 ⟨⟨A1,c1,rfl,-,-⟩,d⟩;have G:=hid d;have L:=hid (HR.out.up d d.size);clear d;go_wp2_with fail;refine (g.out _ L.out).mono ?_;rintro e w2 ⟨rfl,F⟩;have D:=G.out.trans (F.mono G.out.size);go_wp2;go_ret2;exact⟨bu O.out.1 O.out.2,D.alloc D.size _⟩
   | true =>
    subst V;have Jo:=hid (λW (h:RdW W W.heap.size A ws)=>uM A ws c ws.length t m xs xk true xn W rfl (by omega) (by omega) Jq (by omega) h HO.out);rw[<-eb] at Jo;have Jm:=hid (λh3=>yq I j K h3);have Ji:=hid (λo h3=>As I j K (o:=o) h3);have Jz:=hid (λx y h=>CQ I (a:=x) (t:=y) h);have Jy:=hid (λA1 c1 (v:Nat) W (hv:v<18446744073709551616) (h:RdM W W.heap.size A1 (eC ws))=>Bh A1 (eC ws) c1 (eC ws).length v W rfl (by omega) hv h);have Kc:Hid (∀v t,fH (eC ws) v=some t->ed (eC ws) (v:Int)=some t):=hid λv t h=>by
     unfold fH at h;split at h
     .cases h
     exact h
    have Jd:Hid (∀r,fm ws (eC ws) r=if wd ws r=0 then some [] else match fH (eC ws) (wd ws r) with
     | none=>none
     | some t=>if (wd ws r:Int)=t then some [] else some [⟨(r:Int),t.toNat⟩]):=hid λr=>rfl
    have Jk:=hid (λk (hk:k<(fA ws b).length) o h=>lh (ws:=ws) (m:=eC ws) hk (o:=o) h);have Jp:=hid (λk (hk:k<(fA ws b).length) o h h2=>Aw (ws:=ws) (m:=eC ws) hk (o:=o) h h2);have Jh:=hid (λk o (h:da ws (eC ws) ((fA ws b).take k)=some o)=>qz h);obtain⟨R,hR⟩:=xq (fA ws b);rw[hR] at Jo Jm Ji Jk Jp Jh Ju;have Ki:Hid (∀k (hk:k<R.length),∃r:Nat,R[k]=(r:Int)/\m<=r/\r<ws.length):=hid (by subst hR;exact Q);obtain⟨M,hM⟩:=xq (eC ws);rw[hM] at u Jm Ji Jz Jy Kc Jd Jk Jp Jh Jf;rw[eb] at g;unfold Bk.val at g;dsimp only at g;have hlen:=Jg.2.1;obtain⟨i0,hi,Jr,Kb,Jt⟩:=kzt dp;have HI:=hid hi;have Kl:=hid Jr;have Kj:=hid Kb;have Kf:=hid Jt;clear hi Jr Kb Jt;clear I j eb Jq Jb Jc Jg hR Q hM K;go_enter func209,ntmps209;go_wp2_with fail;refine u.out.mono ?_;rintro e w1 ⟨⟨A1,c1,rfl,Jv,-⟩,d⟩;have G:=hid d;have L:=hid (HR.out.up d d.size);have Kr:=hid Jv;clear d Jv;go_wp2_with fail;refine (g.out _ L.out).mono ?_;rintro e w2 ⟨rfl,F⟩;have D:=G.out.trans (F.mono G.out.size);have Z:=hid (D.alloc D.size (.cells #[.int .i64 (m:Int),.int .i64 xs,.int .i64 xk,.int .i64 (t:Int),.bool true,.int .u64 (xn:Int)] 55))
    have Kk:=hid (HR.out.up Z.out Z.out.size);have Kq:=hid (Rd.more (Rd.alloc (Kr.out.up F F.size) (kqg _) (.cells #[.int .i64 (m:Int),.int .i64 xs,.int .i64 xk,.int .i64 (t:Int),.bool true,.int .u64 (xn:Int)] 55)) (show w2.heap.size<=(w2.alloc (.cells #[.int .i64 (m:Int),.int .i64 xs,.int .i64 xk,.int .i64 (t:Int),.bool true,.int .u64 (xn:Int)] 55)).heap.size by simp));clear F D;go_wp2_with fail;refine (Jo.out _ Kk.out).mono ?_;rintro e w3 ⟨⟨A3,c3,rfl,Je,-⟩,U⟩;have Kt:=hid Je;have S:=hid (Z.out.trans (U.mono Z.out.size));have Ko:=hid (Kq.out.up U U.size);have Kd:=hid (HR.out.up S.out S.out.size);have Jj:=S.out.size;clear Je U;go_wp2_with fail;go_loopw [10,42] (λv i wr=>∃(k:Nat) (o:List En),k<=R.length/\i=.int .i64 k/\Hid (da ws M (R.take k)=some o)/\wr.ownsRow w3.heap.size 89 2 v o.length (o.flatMap En.cells)/\Below w3.heap.size w3 wr) (λ_ i _=>R.length-(intOf i).toNat)
    case atStart=>exact⟨0,[],kqy _,rfl,rfl,kq3 _ _ _ _,kql _ _⟩
    obtain⟨k,o,hk,rfl,Eq,B,X⟩:=hrel;have hz:=X.size;have Km:=Jh.out k o Eq.out;rw[kq6] at Km;by_cases Y:k<R.length
    .obtain ⟨bR,oR,rfl,hbR,q0⟩:=RdI.at_ (Rd.below Kt.out X) Y;obtain⟨r,N,hmr,Kh⟩:=Ki.out k Y;obtain⟨bW,oW,rfl,hbW,x0⟩:=RdW.at_ (Rd.below Kd.out X) Kh;rw[<-ce] at x0;have Ks:=hid (Ko.out.up X hz);have hv:=fd HO.out r;have f:=hid (Jk.out k Y o Eq.out);have z:=hid (Jp.out k Y o Eq.out);have l:=hid (Jd.out r);rw[N] at q0 f z;rw[kqk] at f z;have Jl:=Kc.out (wd ws r);obtain⟨v,Js⟩:=xq (wd ws r);rw[Js] at x0 hv l Jl;have hri:(r:Int)<(ws.length:Int):=by omega
     have hr0:(0:Int)<=(r:Int):=by omega
     have hki:(k:Int)<(R.length:Int):=by omega
     have Kp:=hid hv;have Ke:=hid Jl;clear N Js hv Jl;by_cases E:v=0
     .have e0:((v:Int)==0)=true:=by rw[kqx];omega
      have e0n:(v==0)=true:=by rw[kqx];exact E
      have HY:=hid (show da ws M (R.take (k+1))=some o by rw[f.out,l.out,if_pos E];simp);clear E f z l;go_wp2;go_roundw
      case rel=>exact⟨k+1,o,by omega,by go_num,HY.out,B,X⟩
      case measure=>simp[intOf];omega
     have e0:((v:Int)==0)=false:=by rw[kqi];omega
     have e0n:(v==0)=false:=by rw[kqi];exact E
     rw[if_neg E] at l;have H:=hid (Jy.out A1 c1 v _ Kp.out Ks.out);cases J:fH M v with
     | none =>rw[J] at H l;have O:=hid (Jm.out (z.out l.out));simp only[kkp,kkd] at H;clear E f z l J;go_wp2_with fail;refine H.out.mono ?_;rintro e w5 ⟨rfl,s⟩;go_wp2;go_ret2;exact⟨bu O.out.1 O.out.2,S.out.trans ((X.trans (s.mono hz)).mono Jj)⟩
     | some tt =>
      obtain⟨T,rfl,ht1,-,ht2,-⟩:=Jz.out (v:Int) tt (Ke.out tt J);rw[J] at H l;simp only[kq2,kke] at H;have hwt:IntKind.u64.wrap (T:Int)=(T:Int):=kzs _ (by omega);by_cases P:v=T
      .have en:((v:Int) != (T:Int))=false:=by rw[kqq];omega
       have enn:(v != T)=false:=by rw[kqq];exact P
       have HY:=hid (show da ws M (R.take (k+1))=some o by rw[f.out,l.out];simp[P]);clear E f z l J P;go_wp2_with fail;refine H.out.mono ?_;rintro e w5 ⟨rfl,s⟩;have x5:=(s.cell (p:=⟨bW,oW+r,none⟩) (by show bW<wr.heap.size;omega)).trans x0;have C:=hid (aj B s (kqg _));have Ja:=hid (X.trans (s.mono hz));clear s;go_wp2;go_roundw
       case rel=>exact⟨k+1,o,by omega,by go_num,HY.out,C.out,Ja.out⟩
       case measure=>simp[intOf];omega
      have en:((v:Int) != (T:Int))=true:=by rw[kqt];omega
      have enn:(v != T)=true:=by rw[kqt];exact P
      have HY:=hid (show da ws M (R.take (k+1))=some (o++[⟨(r:Int),T⟩]) by
       rw[f.out,l.out];have:¬ ((v:Int)=(T:Int)):=by omega
       simp[this])
      clear E f z l J P;go_wp2_with fail;refine H.out.mono ?_;rintro e w5 ⟨rfl,s⟩;have x5:=(s.cell (p:=⟨bW,oW+r,none⟩) (by show bW<wr.heap.size;omega)).trans x0;have C:=aj B s (kqg _);have Ja:=X.trans (s.mono hz);have Kn:=Ja.size;clear s;go_wp2_with (at_builtin;refine kzn _ rfl _ _ 26 rfl w3.heap.size 89 i0 _ 2 16 underlying26 HI.out Kl.out Kj.out Kf.out rfl (by decide) _ _ _ rfl (C.alloc _) ⟨_,0,none⟩ 1 1 [.int .i64 (r:Int),.int .u64 (T:Int)] rfl rfl (bY _ _ _) (by simp[Value.oneCell']) (by unfold maxLen;omega) (by omega) (by simp;omega) ?_;intro v1 w6 Jn Kg _;have Ku:=aw Ja Kn C Kg);go_roundw
      case rel=>exact⟨k+1,o++[(⟨(r:Int),T⟩:En)],by omega,by go_num,HY.out,by rw[kqw,bP];exact Jn,Ku⟩
      case measure=>simp[intOf];omega
    obtain rfl:k=R.length:=by omega
    have HV:=hid (Ji.out o (by have:=Eq.out;rwa [kzg (kqg _)] at this));obtain⟨A2,c2,rfl⟩:=aE B;have Jw:=hid (aB B Jj);clear B;go_wp2;go_ret2;exact⟨⟨A2,c2,by rw[HV.out.1,HV.out.2];rfl,by rw[HV.out.2];exact Jw.out⟩,S.out.trans (X.mono Jj)⟩
 obtain⟨r,N⟩:=xq (cE ws);have O:=hid (B4 (a:=a) N (by rw[<-N];exact I));rw[N] at u I;have hrn:(r != 0)=true:=by rw[kqt];exact I
 obtain⟨q,hq⟩:=xq ((eC ws).length);rw[hq] at u;clear I N hq;go_enter func209,ntmps209;go_wp2_with fail;refine u.out.mono ?_;rintro e w1 ⟨⟨A1,c1,rfl,-,-⟩,d⟩;go_wp2;go_ret2;exact⟨bu O.out.1 O.out.2,d⟩
theorem pi(h1:eE ws=r)(h0:r≠0):dK ws=[]:=by unfold dK;rw[if_neg (by rw[h1];exact h0)]
theorem fs_err(h:cE ws=r)(h0:r≠0):eE ws=r:=by subst h;simp[eE,h0]
theorem fs_sl(h:cE ws=0)(h1:slsOk ws=false):eE ws=50:=by simp[eE,h,h1]
theorem E3(h:cE ws=0)(h1:slsOk ws=true)(h2:d6 ws (eC ws) 16=none):eE ws=50:=by simp[eE,h,h1,h2]
theorem Fo(h:cE ws=0)(h1:slsOk ws=true)(h2:d6 ws (eC ws) 16=some o):eE ws=0/\dK ws=o:=by simp[dK,eE,h,h1,h2]
theorem vq{m:List (Int × Int)}(h:d6 ws m k=some o):d6 ws m (k+1)=(ja ws m k).map (o ++ ·):=by simp only[d6,h]
theorem ar{w:World}{H n:Nat}{e:TypeId}{sz:Nat}{v:Value}{xs:List Value}(h:w.ownsRow H e sz v n xs){p:Addr}(hp:v.ownBlock≠some p.block)(u:Value):(w.setCell p u).ownsRow H e sz v n xs:=by
 refine⟨h.1,?_⟩;rcases h.2 with a|⟨d,c,b,a,g,i,f⟩
 .exact .inl a
 subst a;refine .inr ⟨d,c,b,rfl,g,?_,f⟩;exact (kka w p u d (λe=>hp (by simp[Value.ownBlock,e]))).trans i
theorem Br{a:Nat}(hg:g<2147483648)(ha:a<4294967296)(u:Bool):nH ⟨(g:Int),u,(a:Int)⟩<18446744073709551616:=by unfold nH;dsimp only;rw[kqk,kqk];split<;>omega
theorem xF(A:Option Addr)(ws:List Nat)(c n:Nat)(w:World)(hn:ws.length=n)(hm:n<=9223372036854775807)(X:RdW w w.heap.size A ws)(ho:∀x∈ws,x<18446744073709551616):
 Calls prog 207 #[.slice A n c] w λe w'=>io w.heap.size (eE ws) (dK ws) e w'/\Below w.heap.size w w':=by
 subst hn;have HR:=hid X;have m:=hid (uz A ws c ws.length w rfl hm X ho);unfold Hs at m;have L:=hid (λW (h:RdW W W.heap.size A ws)=>Fh A ws c ws.length W rfl hm h ho);unfold Hn at L;have HO:=hid ho;clear X ho;by_cases G:cE ws=0
 .obtain ⟨Je,-,-⟩:=dA G;have T:=(ao Je).1;have P:=fP ws T;rw[G] at m;have Ji:=uZ ws;cases C:slsOk ws with
  | false =>
   have he:=k8 T C;have hq:ew ws=[]:=by simp[ew,he]
   rw[he,hq] at L;have Y:=hid (fs_sl G C);obtain⟨q,hq⟩:=xq ((eC ws).length);rw[hq] at m;clear G Je T P C he hq Ji;go_enter func207,ntmps207;go_wp2_with fail;refine m.out.mono ?_;rintro e w1 ⟨⟨A1,c1,rfl,-,-⟩,l⟩;have I:=hid l;have Eq:=hid (HR.out.up l l.size);clear l;go_wp2_with fail;refine (L.out _ Eq.out).mono ?_;rintro e w2 ⟨⟨A2,c2,rfl,-,-⟩,Ku⟩;go_wp2;go_ret2;exact⟨bu Y.out (pi Y.out (by omega)),I.out.trans (Ku.mono I.out.size)⟩
  | true =>
   obtain⟨g1,g2⟩:=gI T C;rw[g1,g2,eg] at L;have Lj:=hid ((bQ ws).1 C);have Kc:=hid (λh=>E3 G C h);have Jy:=hid (λo h=>Fo G C (o:=o) h);have Kb:=hid (λx y h=>CQ G (a:=x) (t:=y) h);have Jt:=hid (λA1 c1 (v:Nat) W (hv:v<18446744073709551616) (h:RdM W W.heap.size A1 (eC ws))=>Bh A1 (eC ws) c1 (eC ws).length v W rfl (by omega) hv h);have Kf:Hid (∀v t,fH (eC ws) v=some t->ed (eC ws) (v:Int)=some t):=hid λv t h=>by
    unfold fH at h;split at h
    .cases h
    exact h
   have R:Hid (∀i,ja ws (eC ws) i=if (slAt ws i).used=true then (match fH (eC ws) (slAt ws i).at_.toNat with
    | none=>none
    | some t=>if wd ws (112+i)=nH ⟨(slAt ws i).gen,true,t⟩ then some [] else some [⟨((112+i:Nat):Int),nH ⟨(slAt ws i).gen,true,t⟩⟩]) else some []):=hid λi=>rfl
   have Ka:=hid (λk o (h:d6 ws (eC ws) k=some o)=>vq h);have Kh:=hid (λk (h:d6 ws (eC ws) (k+1)=none) (h2:k+1<=16)=>vX h h2);have Jv:=hid (λk o (h:d6 ws (eC ws) k=some o)=>rf h);obtain⟨M,hM⟩:=xq (eC ws);rw[hM] at m Kc Jy Kb Jt Kf R Ka Kh Jv Ji;have hlen:=P.1;have hlen2:=P.2.1;obtain⟨i0,hi,Jf,Ke,Jj⟩:=kzt dp;have HI:=hid hi;have La:=hid Jf;have Ky:=hid Ke;have Kn:=hid Jj;clear hi Jf Ke Jj;clear G Je T P C g1 g2 hM;go_enter func207,ntmps207;go_wp2_with fail;refine m.out.mono ?_;rintro e w1 ⟨⟨A1,c1,rfl,Jn,-⟩,l⟩;have I:=hid l;have Eq:=hid (HR.out.up l l.size);have Le:=hid Jn;clear l Jn;go_wp2_with fail;refine (L.out _ Eq.out).mono ?_;rintro e w3 ⟨⟨A3,c3,rfl,Jm,-⟩,O⟩;have K:=hid (I.out.trans (O.mono I.out.size));have Lb:=hid Jm;have Lc:=hid (Le.out.up O O.size);have Ki:=hid (HR.out.up K.out K.out.size);have Ja:=K.out.size;clear Jm O;go_wp2_with fail;go_loopw [8,36] (λv i wr=>∃(k:Nat) (o:List En),k<=16/\i=.int .i64 k/\Hid (d6 ws M k=some o)/\wr.ownsRow w3.heap.size 89 2 v o.length (o.flatMap En.cells)/\Below w3.heap.size w3 wr) (λ_ i _=>16-(intOf i).toNat)
   case atStart=>exact⟨0,[],kqy _,rfl,rfl,kq3 _ _ _ _,kql _ _⟩
   obtain⟨k,o,hk,rfl,Jc,j,hB⟩:=hrel;have hz:=hB.size;have hol:=Jv.out k o Jc.out;by_cases Jw:k<16
   .obtain ⟨bS,oS,rfl,hbS,q0,q1,q2⟩:=RdS.at_ (Rd.below Lb.out hB) (show k<(slL ws).length by rw[eg];exact Jw);rw[mt] at q0 q1 q2;obtain⟨bW,oW,rfl,hbW,x0⟩:=RdW.at_ (Rd.below Ki.out hB) (show 112+k<ws.length by omega);rw[<-ce] at x0;have Lg:=hid (Lc.out.up hB hz);have Jb:=Lj.out k Jw;have f:=hid (Ka.out k o Jc.out);have B:=hid (λh=>Kh.out k h (by omega));have d:=hid (R.out k);obtain⟨r1,r2,r3,r4⟩:=dt (wd ws (112+k));have Jq:slAt ws k=dc (wd ws (112+k)):=rfl;rw[<-Jq] at r1 r2 r3 r4;have Jg:=fd HO.out (112+k);obtain⟨x,hx⟩:=xq (wd ws (112+k));rw[hx] at x0 d Jg;obtain⟨s,T⟩:=xq (slAt ws k);rw[T] at q0 q1 q2 d r1 r2 r3 r4 Jb;obtain⟨sg,su,sa⟩:=s;dsimp only at q0 q1 q2 d r1 r2 r3 r4;obtain⟨g,rfl⟩:=kq5 r1;obtain⟨u,rfl⟩:=kq5 r3;rw[kqk] at d;have hki:(k:Int)<16:=by omega
    have hk0:(0:Int)<=(k:Int):=by omega
    have hw1:IntKind.i64.wrap (112+(k:Int))=112+(k:Int):=kqr _ (by omega);have i1:(0:Int)<=112+(k:Int):=by omega
    have i2:(112:Int)+(k:Int)<(ws.length:Int):=by omega
    have n1:((112:Int)+(k:Int)).toNat=112+k:=by omega
    have S:g<2147483648:=by omega
    have Kk:=hid Jb;clear hx T Jq r1 r2 r3 r4 Jb Jg;cases su
    .have HY:=hid (show d6 ws M (k+1)=some o by rw[f.out,d.out,if_neg (by simp)];simp);clear f B d;go_wp2;go_roundw
     case rel=>exact⟨k+1,o,by omega,by go_num,HY.out,j.alloc _,hB.alloc hz _⟩
     case measure=>simp[intOf];omega
    obtain⟨Kl,Kv,Kz⟩:=s7 Kk.out rfl;dsimp only at Kl Kv Kz;rw[if_pos rfl] at d;have hwu:IntKind.u64.wrap (u:Int)=(u:Int):=kzs _ (by omega);have Kd:=hB.alloc hz (.cells #[.int .i64 (g:Int),.bool true,.int .i64 (u:Int)] 52);have H:=hid Kd;have Jz:=hid (Rd.more (Rd.alloc Lg.out (kqg _) (.cells #[.int .i64 (g:Int),.bool true,.int .i64 (u:Int)] 52)) (show wr.heap.size<=(wr.alloc (.cells #[.int .i64 (g:Int),.bool true,.int .i64 (u:Int)] 52)).heap.size by simp));have BN:=hid (Bx.new wr 52 #[.int .i64 (g:Int),.bool true,.int .i64 (u:Int)]);have U:=hid (j.alloc (.cells #[.int .i64 (g:Int),.bool true,.int .i64 (u:Int)] 52));have Kx:=hid (λb h=>(j.lt b h).2);have x1:=(kq4 wr (.cells #[.int .i64 (g:Int),.bool true,.int .i64 (u:Int)] 52) ⟨bW,oW+(112+k),none⟩ (by show bW<wr.heap.size;omega)).trans x0;have Ju:=hid x1;have E:=hid (Jt.out A1 c1 u _ (by omega) Jz.out);have Jh:(wr.alloc (.cells #[.int .i64 (g:Int),.bool true,.int .i64 (u:Int)] 52)).heap.size=wr.heap.size+1:=by simp
    clear Kd x1;go_upto_region 14 with (fail);obtain⟨wn,Kg⟩:∃wn,wr.alloc (.cells #[.int .i64 (g:Int),.bool true,.int .i64 (u:Int)] 52)=wn:=⟨_,rfl⟩;rw[Kg] at H Jz BN U E Ju Jh |-;clear Kg x0 j;obtain⟨p0,p1,p2,f0,f1,f2,Kq⟩:=BN.out.c3;cases J:fH M u with
    | none =>rw[J] at E d;have Y:=hid (Kc.out (B.out (by rw[f.out,d.out];rfl)));simp only[kkp,kkd] at E;clear f B d J;go_wp2_with fail;refine E.out.mono ?_;rintro e w5 ⟨rfl,D⟩;have Lf:=H.out.trans (D.mono H.out.size);go_wp2;go_ret2;exact⟨bu Y.out (pi Y.out (by omega)),K.out.trans (Lf.mono Ja)⟩
    | some tt =>
     obtain⟨Z,rfl,ht1,-,ht2,-⟩:=Kb.out (u:Int) tt (Kf.out u tt J);rw[J] at E d;simp only[kq2,kke] at E;have Jo:lL ⟨(g:Int),true,(Z:Int)⟩=true:=by unfold lL;rw[if_pos rfl];simp only[kqz,kzz];omega
     have Jk:=hid (λW=>Gy g Z true W S (by omega) Jo);have Ld:=Br (g:=g) (a:=Z) S (by omega) true;obtain⟨V,hV⟩:∃V,nH ⟨(g:Int),true,(Z:Int)⟩=V:=⟨_,rfl⟩;dsimp only at d;rw[hV] at Jk d;clear Jo hV Ld J;go_wp2_with fail;refine E.out.mono ?_;rintro e w5 ⟨rfl,D⟩;have bn5:=BN.out.up D Kq;have BN5:=hid bn5;have Jr:=hid (H.out.trans (D.mono H.out.size));have Km:=hid (aj U.out D (kqg _));have x5:=(D.cell (p:=⟨bW,oW+(112+k),none⟩) (by show bW<wn.heap.size;omega)).trans Ju.out;have Kw:=hid x5;obtain⟨p0,p1,p2,f0,f1,f2,hg5⟩:=bn5.c3;clear D bn5 x5;go_wp2_with fail;have Jp:=hid (Jr.out.setCell (p:=⟨wr.heap.size,2,none⟩) hz (.int .i64 (Z:Int)));have Kp:=hid (ar Km.out (p:=⟨wr.heap.size,2,none⟩) (λh=>by have h9:=Kx.out _ h;exact absurd h9 (Nat.lt_irrefl _)) (.int .i64 (Z:Int)));have x6:(w5.setCell ⟨wr.heap.size,2,none⟩ (.int .i64 (Z:Int))).cell? ⟨bW,oW+(112+k),none⟩=some (.int .u64 (x:Int)):=(kko w5 _ _ _ (λe2=>by injection e2 with e3 _ _;omega)).trans Kw.out;have Li:=hid x6;have Jl:bW<(w5.setCell ⟨wr.heap.size,2,none⟩ (.int .i64 (Z:Int))).heap.size:=by rw[kxw];have:=Jr.out.size;omega
     clear x6;refine (Jk.out _).mono ?_;rintro e w7 ⟨rfl,Q⟩;have x7:=(Q.cell (p:=⟨bW,oW+(112+k),none⟩) Jl).trans Li.out;have z:=aj Kp.out Q (kqg _);have N:=Jp.out.trans (Q.mono Jp.out.size);have Kt:=N.size;clear Q Jl;by_cases F:x=V
     .have en:((x:Int) != (V:Int))=false:=by rw[kqq];omega
      have enn:(x != V)=false:=by rw[kqq];exact F
      have HY:=hid (show d6 ws M (k+1)=some o by rw[f.out,d.out];simp[F]);have Ko:=hid z;have Ks:=hid N;clear f B d F z N;go_wp2;go_roundw
      case rel=>exact⟨k+1,o,by omega,by go_num,HY.out,Ko.out,Ks.out⟩
      case measure=>simp[intOf];omega
     have en:((x:Int) != (V:Int))=true:=by rw[kqt];omega
     have enn:(x != V)=true:=by rw[kqt];exact F
     have HY:=hid (show d6 ws M (k+1)=some (o++[⟨112+(k:Int),V⟩]) by rw[f.out,d.out];simp[F]);clear f B d F;go_wp2_with (at_builtin;refine kzn _ rfl _ _ 26 rfl w3.heap.size 89 i0 _ 2 16 underlying26 HI.out La.out Ky.out Kn.out rfl (by decide) _ _ _ rfl (z.alloc _) ⟨_,0,none⟩ 1 1 [.int .i64 (112+(k:Int)),.int .u64 (V:Int)] rfl rfl (bY _ _ _) (by simp[Value.oneCell']) (by unfold maxLen;omega) (by omega) (by simp;omega) ?_;intro v1 w8 Jd Kr _;have Lh:=aw N Kt z Kr);go_roundw
     case rel=>exact⟨k+1,o++[(⟨112+(k:Int),V⟩:En)],by omega,by go_num,HY.out,by rw[kqw,bP];exact Jd,Lh⟩
     case measure=>simp[intOf];omega
   obtain rfl:k=16:=by omega
   have HV:=hid (Jy.out o Jc.out);obtain⟨A2,c2,rfl⟩:=aE j;have Js:=hid (aB j Ja);clear j;go_wp2;go_ret2;exact⟨⟨A2,c2,by rw[HV.out.1,HV.out.2];rfl,by rw[HV.out.2];exact Js.out⟩,K.out.trans (hB.mono Ja)⟩
 obtain⟨r,X⟩:=xq (cE ws);have Y:=hid (fs_err X (by rw[<-X];exact G));rw[X] at m G;have hrn:(r != 0)=true:=by rw[kqt];exact G
 have Kj:=hid G;obtain⟨q,hq⟩:=xq ((eC ws).length);rw[hq] at m;clear G X hq;go_enter func207,ntmps207;go_wp2_with fail;refine m.out.mono ?_;rintro e w1 ⟨⟨A1,c1,rfl,-,-⟩,l⟩;go_wp2;go_ret2;exact⟨bu Y.out (pi Y.out Kj.out),l⟩
theorem Ep{a:Nat}(hg:g<2147483648)(ha:a<4294967296):dc (nH ⟨(g:Int),true,(a:Int)⟩)=⟨(g:Int),true,(a:Int)⟩:=by
 unfold nH dc;dsimp only;rw[kqk,kqk,if_pos rfl];have b:(a+g*4294967296+9223372036854775808)/4294967296%2147483648=g:=by omega
 have c:(a+g*4294967296+9223372036854775808)/9223372036854775808=1:=by omega
 have d:(a+g*4294967296+9223372036854775808)%4294967296=a:=by omega
 rw[b,c,d];rfl
def nwS (ws:List Nat) (M:List (Int × Int)) (i:Nat):Sl:=if (slAt ws i).used=true then ⟨(slAt ws i).gen,true,(ed M (slAt ws i).at_).getD 0⟩ else slAt ws i
theorem zr{v:Nat}(h:j<ws.length)(i:Nat):wd (ak ws [⟨(j:Int),v⟩]) i=if i=j then v else wd ws i:=by
 simp only[ak];rw[if_pos (by omega),kqk];unfold wd;rw[kz4];by_cases e:j=i
 .subst e;simp[h]
 rw[if_neg e,if_neg (λh=>e h.symm)]
theorem Ay{M:List (Int × Int)}(hw:256<=ws.length)(hM:∀a t,ed M a=some t->∃n:Nat,t=(n:Int)/\n<2048):∀k,k<=16->∀o,d6 ws M k=some o ->
 (∀e∈o,∃i,i<k/\e.a=((112+i:Nat):Int)/\e.v<18446744073709551616)/\o.Pairwise (λa b=>a.a<b.a)/\(∀i,i<k->slAt (ak ws o) i=nwS ws M i)/\(∀i,i<k->(slAt ws i).used=true->(ed M (slAt ws i).at_).isSome=true):=by
 intro k
 induction k with
 | zero =>intro _ o h;simp only[d6,Option.some.injEq] at h;subst h;exact⟨λe f=>(by cases f),List.Pairwise.nil,λi h=>absurd h (by omega),λi h=>absurd h (by omega)⟩
 | succ k ih =>
  intro hk o h;simp only[d6] at h;cases A:d6 ws M k with
  | none=>rw[A] at h;cases h
  | some o1 =>
  rw[A] at h;obtain⟨u,N,K,F⟩:=ih (by omega) o1 A;have q:wd (ak ws o1) (112+k)=wd ws (112+k):=aT o1 ws _ λe f=>by
   obtain⟨i,h1,P,-⟩:=u e f;rw[P];omega
  have j:∀(E:slAt ws k=nwS ws M k) (H:(slAt ws k).used=true->(ed M (slAt ws k).at_).isSome=true),(∀e∈o1,∃i,i<k+1/\e.a=((112+i:Nat):Int)/\e.v<18446744073709551616)/\o1.Pairwise (λa b=>a.a<b.a)/\(∀i,i<k+1->slAt (ak ws o1) i=nwS ws M i)/\(∀i,i<k+1->(slAt ws i).used=true->(ed M (slAt ws i).at_).isSome=true):=by
   intro E H;refine⟨λe f=>?_,N,λi B=>?_,λi B=>?_⟩
   .obtain ⟨i,D,m,C⟩:=u e f;exact⟨i,by omega,m,C⟩
   .rcases kq9 i k with d|d
    .exact K i d
    have:i=k:=by omega
    subst this;rw[<-E];unfold slAt;rw[q]
   rcases kq9 i k with d|d
   .exact F i d
   have:i=k:=by omega
   subst this;exact H
  cases c:ja ws M k with
  | none=>rw[c] at h;cases h
  | some y =>
   rw[c] at h;simp only[kzk,Option.some.injEq] at h;subst h;unfold ja at c;split at c
   .rename_i hu;obtain⟨L,Q,G,r4⟩:=dt (wd ws (112+k))
    change 0<=(slAt ws k).gen at L
    change (slAt ws k).gen<=_ at Q
    change 0<=(slAt ws k).at_ at G
    obtain⟨g,I⟩:=kq5 L;cases l:fH M (slAt ws k).at_.toNat with
    | none=>rw[l] at c;cases c
    | some t =>
     rw[l] at c;have z:ed M (slAt ws k).at_=some t:=by
      unfold fH at l;split at l
      .cases l
      rw[kx2 G] at l;exact l
     obtain⟨n,rfl,hn⟩:=hM _ _ z;have r:nwS ws M k=⟨(g:Int),true,(n:Int)⟩:=by unfold nwS;rw[if_pos hu,z,I];rfl
     have p:=Ep (g:=g) (a:=n) (by omega) (by omega);have x:=Br (g:=g) (a:=n) (by omega) (by omega) true;have s:(slAt ws k).used=true->(ed M (slAt ws k).at_).isSome=true:=λ_=>by rw[z];rfl
     dsimp only at c;rw[I] at c;by_cases f:wd ws (112+k)=nH ⟨(g:Int),true,(n:Int)⟩
     .rw[if_pos f] at c;injection c with c;subst c;rw[kz1];exact j (by rw[r,<-p,<-f];rfl) s
     rw[if_neg f] at c;injection c with c;subst c;refine⟨λe f=>?_,?_,λi B=>?_,λi B=>?_⟩
     .rcases kzo.1 f with d|d
      .obtain ⟨i,D,m,C⟩:=u e d;exact⟨i,by omega,m,C⟩
      simp only[kq1] at d;subst d;exact⟨k,by omega,rfl,x⟩
     .rw[kkm];refine⟨N,by simp,λa O b J=>?_⟩;simp only[kq1] at J;subst J;obtain⟨i,D,m,-⟩:=u a O;rw[m];dsimp only;omega
     .have w:112+k<(ak ws o1).length:=by rw[aD];omega
      unfold slAt;rw[dR,zr w];split
      .rename_i h6;have:i=k:=by omega
       subst this;rw[p,r]
      exact K i (by omega)
     rcases kq9 i k with d|d
     .exact F i d
     have:i=k:=by omega
     subst this;exact s
   rename_i hu;injection c with c;subst c;rw[kz1];exact j (by unfold nwS;rw[if_neg hu]) (λh=>absurd h hu)
theorem jj(h:eE ws=0):256<=ws.length/\af ws=0/\a9 ws 128 128=0/\db ws=0/\ew ws=slL ws/\db (ak ws (dK ws))=0/\ew (ak ws (dK ws))=slL (ak ws (dK ws)) /\
 (∀e∈dK ws,(112<=e.a/\e.a<128)/\e.v<18446744073709551616)/\(dK ws).Pairwise (λa b=>a.a<b.a)/\(dK ws).length<=16 /\
 (∀i,i<16->slAt (ak ws (dK ws)) i=nwS ws (iE ws 128 128) i)/\(∀i,i<16->(slAt ws i).used=true->(ed (iE ws 128 128) (slAt ws i).at_).isSome=true):=by
 have j:cE ws=0:=by
  by_cases m:cE ws=0
  .exact m
  unfold eE at h;rw[if_neg m] at h;exact absurd h m
 have k:slsOk ws=true:=by
  cases w:slsOk ws with
  | true=>rfl
  | false=>rw[fs_sl j w] at h;cases h
 obtain⟨o,q⟩:∃o,d6 ws (eC ws) 16=some o:=by
  cases w:d6 ws (eC ws) 16 with
  | some o=>exact⟨o,rfl⟩
  | none=>rw[E3 j k w] at h;cases h
 obtain⟨e1,D⟩:=Fo j k q;obtain⟨x,J,E⟩:=dA j;have r:=(ao x).1;have hbd:=fP ws r;have c:=λa t (d:ed (eC ws) a=some t)=>CQ j d;have f:=rf q;obtain⟨A,y,s,u⟩:=Ay (by omega) (λa t d=>by obtain⟨n,q1,-,-,q4,-⟩:=c a t d;exact⟨n,q1,q4⟩) 16 (kqg _) o q;rw[E] at s u c;rw[D];obtain⟨B,z⟩:=gI r k;have l:slsOk (ak ws o)=true:=(bQ _).2 λi p=>by
  rw[s i p];have g:=(bQ ws).1 k i p;unfold nwS;split
  .rename_i hu;obtain⟨t,d⟩:=Option.isSome_iff_exists.1 (u i p hu);obtain⟨n,rfl,n1,-,n2,-⟩:=c _ _ d;obtain⟨u1,-,-⟩:=s7 g hu;rw[d];unfold lL;rw[if_pos rfl];simp only[kqz,kzz,kq2];omega
  exact g
 obtain⟨C,F⟩:=gI (ws:=ak ws o) (by rw[aD];exact r) l;refine⟨by omega,x,J,B,z,C,F,λe H=>?_,y,f,s,u⟩;obtain⟨i,i1,I,G⟩:=A e H;exact⟨by rw[I];omega,G⟩
theorem zf(F:List Nat)(a:Int)(j:Nat):(sm F a j).Pairwise (· < ·):=by
 induction j with
 | zero=>exact List.Pairwise.nil
 | succ j ih =>
  rw[rA,kkm];refine⟨ih,by split<;>simp,λx c y b=>?_⟩;obtain⟨i,i1,-,i3⟩:=kc.1 c;split at b
  .simp only[kq1] at b;omega
  cases b
def Cq (ws x:List Nat) (M:List (Int × Int)) (r:Nat):Prop:=(wd ws r=0/\wd x r=0)\/(0<wd ws r/\∃t m:Nat,ed M (wd ws r:Int)=some (t:Int)/\wd x r=t/\t<2048/\wd ws r=m/\m<ws.length)
theorem zF{M:List (Int × Int)}{f:Nat->Nat}(hM:∀a t,ed M a=some t->∃n:Nat,t=(n:Int)/\n<2048/\∃m:Nat,a=(m:Int)/\m<ws.length)(hl:∀i (u:i<l.length),l[i]=(f i:Int))(hf:∀i,i<l.length->f i<ws.length)(u:∀i j,i<j->j<l.length->f i<f j):∀k,k<=l.length->∀o,da ws M (l.take k)=some o ->
 (∀e∈o,∃i,i<k/\e.a=(f i:Int)/\wd ws (f i)≠e.v/\e.v<2048)/\o.Pairwise (λa b=>a.a<b.a)/\(∀i,i<k->Cq ws (ak ws o) M (f i)):=by
 intro k
 induction k with
 | zero =>intro _ o h;simp only[kvl,da,Option.some.injEq] at h;subst h;exact⟨λe q=>(by cases q),List.Pairwise.nil,λi h=>absurd h (by omega)⟩
 | succ k ih =>
  intro hk o h;have c:k<l.length:=by omega
  cases B:da ws M (l.take k) with
  | none =>rw[kqp c,iQ,B] at h;cases h
  | some o1 =>
  rw[lh c B,hl k c,kqk] at h;obtain⟨y,J,I⟩:=ih (by omega) o1 B;have p:wd (ak ws o1) (f k)=wd ws (f k):=aT o1 ws _ λe q=>by
   obtain⟨i,L,N,-⟩:=y e q;have:=u i k L c;rw[N];omega
  have g:Cq ws (ak ws o1) M (f k)->(∀e∈o1,∃i,i<k+1/\e.a=(f i:Int)/\wd ws (f i)≠e.v/\e.v<2048)/\o1.Pairwise (λa b=>a.a<b.a)/\(∀i,i<k+1->Cq ws (ak ws o1) M (f i)):=by
   intro O;refine⟨λe q=>?_,J,λi u=>?_⟩
   .obtain ⟨i,C,s,E,F⟩:=y e q;exact⟨i,by omega,s,E,F⟩
   rcases kq9 i k with d|d
   .exact I i d
   have:i=k:=by omega
   subst this;exact O
  unfold fm at h;by_cases x:wd ws (f k)=0
  .rw[if_pos x] at h;simp only[kzk,Option.some.injEq,kz1] at h;subst h;exact g (.inl ⟨x,by rw[p,x]⟩)
  rw[if_neg x] at h;cases r:fH M (wd ws (f k)) with
  | none=>rw[r] at h;cases h
  | some t =>
   rw[r] at h;have A:ed M (wd ws (f k):Int)=some t:=by
    unfold fH at r;split at r
    .cases r
    exact r
   obtain⟨n,rfl,G,m,em,w⟩:=hM _ _ A;dsimp only at h;by_cases q:(wd ws (f k):Int)=(n:Int)
   .rw[if_pos q] at h;simp only[kzk,Option.some.injEq,kz1] at h;subst h;exact g (.inr ⟨by omega,n,m,A,by rw[p];omega,G,by omega,w⟩)
   rw[if_neg q] at h;simp only[kzk,Option.some.injEq] at h;subst h;rw[kqk];have z:f k<(ak ws o1).length:=by rw[aD];exact hf k c
   refine⟨λe D=>?_,?_,λi hi2=>?_⟩
   .rcases kzo.1 D with d|d
    .obtain ⟨i,C,s,E,F⟩:=y e d;exact⟨i,by omega,s,E,F⟩
    simp only[kq1] at d;subst d;exact⟨k,by omega,rfl,by dsimp only;omega,G⟩
   .rw[kkm];refine⟨J,by simp,λa K b H=>?_⟩;simp only[kq1] at H;subst H;obtain⟨i,C,s,-⟩:=y a K;have:=u i k C c;rw[s];dsimp only;omega
   unfold Cq;rw[dR,zr z];rcases kq9 i k with d|d
   .have:=u i k d c;rw[if_neg (by omega)];exact I i d
   have:i=k:=by omega
   subst this;rw[if_pos rfl];exact .inr ⟨by omega,n,m,A,rfl,G,by omega,w⟩
theorem iu(h:dw ws a=0):∃f:Nat->Nat,(256<=ws.length/\ws.length<=2048)/\a9 ws 128 128=0/\nR ws a=0/\(bI ws a).length<=8/\(cw ws a).length<=8 /\
 (∀i (c:i<(bI ws a).length),(bI ws a)[i]=(f i:Int)/\a<=(f i:Int)/\f i<ws.length/\Cq ws (ak ws (cw ws a)) (iE ws 128 128) (f i)) /\
 (∀j,(∀i,i<(bI ws a).length->f i≠j)->wd (ak ws (cw ws a)) j=wd ws j) /\
 (∀e∈cw ws a,∃r:Nat,e.a=(r:Int)/\r<ws.length/\wd ws r≠e.v/\e.v<2048)/\(cw ws a).Pairwise (λa b=>a.a<b.a):=by
 have q:cE ws=0:=by
  by_cases w:cE ws=0
  .exact w
  rw[(B4 rfl w).1] at h;exact absurd h w
 obtain⟨z,Z,T⟩:=dA q;cases p:kN (aO ws 128) a with
 | none=>rw[(sF q p).1] at h;cases h
 | some b =>
  cases l:b.mark with
  | false=>rw[(sJ q p l).1] at h;cases h
  | true =>
   cases A:da ws (eC ws) (fA ws b) with
   | none=>rw[(yq q p l A).1] at h;cases h
   | some o =>
    have O:=(As q p l A).2;have L:bI ws a=fA ws b:=by simp[bI,z,p]
    have V:nR ws a=0:=by simp[nR,z,di,p]
    obtain⟨m,t,xs,xk,xm,xn,ea,eb,ht8,hobj,hmlt,G,g⟩:=ng z p;have hbd:=fP ws (ao z).1;have U:(fA ws b).Pairwise (· < ·):=zf _ _ _;have I:=kzf.1 U;have d:∀i (c:i<(fA ws b).length),(fA ws b)[i]=((((fA ws b)[i]?.getD 0).toNat:Nat):Int):=λi c=>by
     obtain⟨r,u,-,-⟩:=g i c;rw[kqj c,kq2,u,kqk]
    have hlo:=qz A;have E:=λx y (F:ed (eC ws) x=some y)=>CQ q F;have S:∀x y,ed (eC ws) x=some y->∃n:Nat,y=(n:Int)/\n<2048/\∃m:Nat,x=(m:Int)/\m<ws.length:=λx y F=>by
     obtain⟨n,P,-,-,Y,m,N,-,X⟩:=E x y F;exact⟨n,P,Y,m,N,X⟩
    have k:∀i,i<(fA ws b).length->((fA ws b)[i]?.getD 0).toNat<ws.length:=λi c=>by
     obtain⟨r,u,-,e3⟩:=g i c;rw[kqj c,kq2,u,kqk];exact e3
    have s:∀i j,i<j->j<(fA ws b).length->((fA ws b)[i]?.getD 0).toNat<((fA ws b)[j]?.getD 0).toNat:=λi j H B=>by
     have w:=I i j (by omega) B H;have h2:=d i (by omega);have h3:=d j B;omega
    obtain⟨K,M,R⟩:=zF S d k s _ (kqg _) o (by rw[kz2];exact A);rw[O,L];rw[<-T];refine⟨λi=>((fA ws b)[i]?.getD 0).toNat,by omega,Z,V,G,by omega,λi c=>⟨d i c,?_,k i c,R i c⟩,λj B=>?_,λe J=>?_,M⟩
    .obtain ⟨r,u,e2,-⟩:=g i c;have:=d i c;rw[ea];show (m:Int)<=((((fA ws b)[i]?.getD 0).toNat:Nat):Int);omega
    .refine aT o ws j λe J=>?_;obtain⟨i,D,C,-⟩:=K e J;have:=B i D;dsimp only at this;rw[C];omega
    obtain⟨i,D,C,Q,W⟩:=K e J;exact⟨_,C,k i D,Q,W⟩
end Go.Proofs.YtpcajamacpbjcaaGreat
