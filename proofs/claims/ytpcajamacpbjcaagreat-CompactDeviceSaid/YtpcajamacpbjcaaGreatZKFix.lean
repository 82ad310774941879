/- Texts laid together: FixP Fix Fix2 Fix3 Fix4 FxSP FxOP. -/
import Derived.Test.YtpcajamacpbjcaaGreatZKRch
import Derived.Test.YtpcajamacpbjcaaGreatZKMove
import Derived.Test.YtpcajamacpbjcaaGreatZKHeap
set_option maxHeartbeats 16000000
set_option maxRecDepth 100000
set_option linter.all false
namespace Go.Proofs.YtpcajamacpbjcaaGreat
open Lib (hid)
variable {b:Bk}{a r:Int}{o:List En}{l:List Int}{ws:List Nat}{g j k p:Nat}
open Go.Proofs.Tryz
def cu (ws:List Nat):Int:=if ah ws=0 then bh ws 128 128 else ah ws
def eW (ws:List Nat):List (Int × Int):=if cu ws=0 then iB ws 128 128 else []
theorem dF(h:cu ws=0):ah ws=0/\bh ws 128 128=0/\eW ws=iB ws 128 128:=by
 have a:ah ws=0/\bh ws 128 128=0:=by
  unfold cu at h;split at h
  .rename_i a;exact⟨a,h⟩
  rename_i a;exact absurd h a
 exact⟨a.1,a.2,by simp[eW,h]⟩
theorem pX:∀ {l:List (Int × Int)} {a t:Int},ic l a=some t->(a,t)∈l:=by
 intro l
 induction l with
 | nil=>intro a t h;cases h
 | cons m l ih =>
  intro a t h;simp only[ic] at h;split at h
  .rename_i e;injection h with h;rw[<-e,<-h];simp
  exact kxw _ (ih h)
theorem ER(h:cu ws=0){t:Int}(ht:ic (eW ws) a=some t):∃n:Nat,t=(n:Int)/\128<=n/\n<ws.length/\n<2048/\∃m:Nat,a=(m:Int)/\128<=m/\m<ws.length:=by
 obtain⟨h1,q,x⟩:=dF h;rw[x] at ht;obtain⟨p,e⟩:=kjr.1 (pX ht);have g:=(kzb.1 e).1;obtain⟨m,n,i,y,g3,-,-,-⟩:=wh q g;obtain⟨u,i2,l,w,i4,r⟩:=cj q;have hb:=mU u;have f:blocks ws 128=some l:=w;have d:=oQ (ws:=ws) (by omega) f (by omega) (by omega) (by omega);have b:(128:Int)<=oh l:=by
  unfold oh;split
  .omega
  rename_i hl;obtain⟨a0,v,-,e1,-⟩:=cp _ _ f (by omega) 0 (by omega);rw[bP l 0 (by omega),v,ab];omega
 obtain⟨z,s,o⟩:=v9 d b;rw[e] at i;injection i with i;injection i with g4 g5;rw[r] at g e;have e:=(kzb.1 e).2;have c:=(z p g).1;rw[e] at c;have hge:(128:Int)<=t:=by
  rcases kx7 p with j|j
  .subst j;have:=o g;rw[e] at this;dsimp only at this;omega
  have k:=(s 0 p g j).1;have h6:=o (by omega);rw[e] at k;dsimp only at k;omega
 dsimp only at c;exact⟨n,g5,by omega,by omega,by omega,m,g4,y,by omega⟩
def gn (m:List (Int × Int)) (v:Nat):Option Int:=if 2048<v then none else ic m (v:Int)
def jW (l:List Bk) (a:Int):Option Bk:=l.find? λb=>b.at_==a&&b.kind==1
def sK (l:List Bk) (a:Int) (k:Nat):Prop:=∀j,j<k->((gk l j).at_==a&&(gk l j).kind==1)=false
theorem wW(l:List Bk)(a:Int):sK l a 0:=λj h=>absurd h (by omega)
theorem wV{l:List Bk}(h:sK l a k)(h2:((gk l k).at_==a&&(gk l k).kind==1)=false):sK l a (k+1):=λj hj=>by
 rcases kq6 j k with b|b
 .exact h j b
 .have:j=k:=by omega
  subst this;exact h2
theorem zK:∀ {l:List Bk} {a:Int},sK l a l.length->jW l a=none:=by
 intro l
 induction l with
 | nil=>intro a _;rfl
 | cons b l ih =>intro a h;have d:(b.at_==a&&b.kind==1)=false:=h 0 (by simp);unfold jW;rw[List.find?_cons,d];exact ih λj c=>by have:=h (j+1) (by simpa using c);rwa [iT] at this
theorem Iw:∀ {l:List Bk} {a:Int} {k:Nat},k<l.length->sK l a k->((gk l k).at_==a&&(gk l k).kind==1)=true->jW l a=some (gk l k):=by
 intro l
 induction l with
 | nil=>intro a k h;simp at h
 | cons b l ih =>
  intro a k d h c;cases k with
  | zero =>rw[nb] at c |-;unfold jW;rw[List.find?_cons,c]
  | succ k =>have e:(b.at_==a&&b.kind==1)=false:=h 0 (by omega);unfold jW;rw[List.find?_cons,e];rw[iT] at c |-;exact ih (by simpa using d) (λj hj=>by have:=h (j+1) (by omega);rwa [iT] at this) c
def yj (ws:List Nat) (a:Int):Bk:=(jW (aQ ws 128) a).getD mA
def dU (ws:List Nat) (a:Int):Int:=if (jW (aQ ws 128) a).isSome then 0 else 6
theorem jA{l:List Bk}(h:jW l a=some b):b∈l/\b.at_=a/\b.kind=1:=by unfold jW at h;have c:=List.find?_some h;simp only[kqt,kqw] at c;exact⟨List.mem_of_find?_eq_some h,c.1,c.2⟩
def rq (F:List Nat) (a:Int) (j:Nat):List Int:=(List.range j).filterMap λ(i:Nat)=>if F[i]? = some 3 then some (a+2+(i:Int)) else none
theorem rP(F:List Nat)(a:Int)(j:Nat):rq F a (j+1)=rq F a j++(if F[j]? = some 3 then [a+2+(j:Int)] else []):=by unfold rq;rw[kk5,kve];congr 1;simp only[kvp,kvv];split<;>simp_all
theorem qa(F:List Nat)(a:Int)(j:Nat):(rq F a j).length<=j:=by unfold rq;have:=kky (λ(i:Nat)=>if F[i]? = some 3 then some (a+2+(i:Int)) else none) (List.range j);rwa [kkm] at this
theorem ky{F:List Nat}{x:Int}:x∈rq F a j↔∃i,i<j/\F[i]? = some 3/\x=a+2+(i:Int):=by
 unfold rq;rw[kj1];constructor
 .rintro ⟨i,d,b⟩;split at b
  .rename_i c;injection b with b;exact⟨i,kzj.1 d,c,b.symm⟩
  cases b
 rintro ⟨i,d,b,c⟩;exact⟨i,kzj.2 d,by rw[if_pos b,c]⟩
def r8 (ws:List Nat) (b:Bk):List Nat:=bp (wd ws (tyA b)) (wd ws (tyA b+1))
def fj (ws:List Nat) (b:Bk):List Int:=rq (r8 ws b) b.at_ (r8 ws b).length
theorem uR(h:ah ws=0)(ho:jW (aQ ws 128) a=some b):∃m:Nat,a=(m:Int)/\b=bkAt ws m/\fW ws m:=by obtain⟨c,g,i⟩:=jA ho;rw[(gj h).2.1] at c;obtain⟨k,e,rfl⟩:=kqz c;obtain⟨m,d,f⟩:=pL h e i;exact⟨m,by rw[<-g,d];rfl,d,f⟩
def fR (ws:List Nat) (m:List (Int × Int)) (r:Nat):Option (List En):=if wd ws r=0 then some [] else match gn m (wd ws r) with
 | none=>none
 | some t=>if (wd ws r:Int)=t then some [] else some [⟨(r:Int),t.toNat⟩]
def dm (ws:List Nat) (m:List (Int × Int)):List Int->Option (List En)
 | []=>some []
 | r::l=>match fR ws m r.toNat with
  | none=>none
  | some x=>(dm ws m l).map (x ++ ·)
theorem jm(ws:List Nat)(m:List (Int × Int))(a b:List Int):dm ws m (a++b)=match dm ws m a with
 | none=>none
 | some x=>(dm ws m b).map (x ++ ·):=by
 induction a with
 | nil=>simp[dm]
 | cons r a ih =>
  simp only[kzm,dm];cases fR ws m r.toNat with
  | none=>rfl
  | some x =>
   rw[ih];cases dm ws m a with
   | none=>rfl
   | some y =>
    cases dm ws m b with
    | none=>rfl
    | some z=>simp
theorem lH{m:List (Int × Int)}(hk:k<l.length)(h:dm ws m (l.take k)=some o):dm ws m (l.take (k+1))=(fR ws m l[k].toNat).map (o ++ ·):=by rw[kqp hk,jm,h];simp only[dm];cases fR ws m l[k].toNat<;>simp
theorem Bi{m:List (Int × Int)}(hk:k<l.length)(h:dm ws m (l.take k)=some o)(h2:fR ws m l[k].toNat=none):dm ws m l=none:=by
 conv=>lhs;rw[<-kxa (k+1) l]
 rw[jm,lH hk h,h2];rfl
theorem nC{m:List (Int × Int)}:∀ {l:List Int} {o:List En},dm ws m l=some o->o.length<=l.length:=by
 intro l
 induction l with
 | nil=>intro o h;simp only[dm,Option.some.injEq] at h;subst h;simp
 | cons r l ih =>
  intro o h;simp only[dm] at h;cases a:fR ws m r.toNat with
  | none=>rw[a] at h;cases h
  | some x =>
   rw[a] at h;cases b:dm ws m l with
   | none=>rw[b] at h;cases h
   | some y =>
    rw[b] at h;simp only[kzy,Option.some.injEq] at h;subst h;have h1:=ih b;have h2:x.length<=1:=by
     unfold fR at a;split at a
     .injection a with a;subst a;simp
     split at a
     .cases a
     split at a<;>(injection a with a;subst a;simp)
    rw[kqu,kq0];omega
def dA (ws:List Nat) (a:Int):Int:=if cu ws=0 then (match jW (aQ ws 128) a with
 | none=>6
 | some b=>if b.mark=true then (match dm ws (eW ws) (fj ws b) with | none=>50 | some _=>0) else 6) else cu ws
def cD (ws:List Nat) (a:Int):List En:=if cu ws=0 then (match jW (aQ ws 128) a with
 | none=>[]
 | some b=>if b.mark=true then (dm ws (eW ws) (fj ws b)).getD [] else []) else []
theorem vj(h:cu ws=r)(h0:r≠0):dA ws a=r/\cD ws a=[]:=by subst h;simp[dA,cD,h0]
theorem rf(h:cu ws=0)(h1:jW (aQ ws 128) a=none):dA ws a=6/\cD ws a=[]:=by simp[dA,cD,h,h1]
theorem qK(h:cu ws=0)(h1:jW (aQ ws 128) a=some b)(h2:b.mark=false):dA ws a=6/\cD ws a=[]:=by simp[dA,cD,h,h1,h2]
theorem uS(h:cu ws=0)(h1:jW (aQ ws 128) a=some b)(h2:b.mark=true)(h3:dm ws (eW ws) (fj ws b)=none):dA ws a=50/\cD ws a=[]:=by simp[dA,cD,h,h1,h2,h3]
theorem ym(h:cu ws=0)(h1:jW (aQ ws 128) a=some b)(h2:b.mark=true)(h3:dm ws (eW ws) (fj ws b)=some o):dA ws a=0/\cD ws a=o:=by simp[dA,cD,h,h1,h2,h3]
def oH (ws:List Nat) (a:Int):Int:=if ah ws=0 then dU ws a else ah ws
def bU (ws:List Nat) (a:Int):List Int:=if ah ws=0 then (match jW (aQ ws 128) a with | none=>[] | some b=>fj ws b) else []
def oA (s:Sl):Nat:=s.at_.toNat+s.gen.toNat*4294967296+(if s.used=true then 9223372036854775808 else 0)
def gM (ws:List Nat) (m:List (Int × Int)) (i:Nat):Option (List En):=if (slAt ws i).used=true then (match gn m (slAt ws i).at_.toNat with
 | none=>none
 | some t=>if wd ws (112+i)=oA ⟨(slAt ws i).gen,true,t⟩ then some [] else some [⟨((112+i:Nat):Int),oA ⟨(slAt ws i).gen,true,t⟩⟩]) else some []
def slFix (ws:List Nat) (m:List (Int × Int)):Nat->Option (List En)
 | 0=>some []
 | k+1=>match slFix ws m k with
  | none=>none
  | some o=>(gM ws m k).map (o ++ ·)
theorem xR{m:List (Int × Int)}(h:slFix ws m k=none):∀ {n:Nat},k<=n->slFix ws m n=none:=by
 intro n
 induction n with
 | zero =>
  intro b;have:k=0:=by omega
  subst this;exact h
 | succ n ih =>
  intro b;rcases kq6 n k with a|a
  .have:k=n+1:=by omega
   subst this;exact h
  simp only[slFix,ih a]
theorem rA{m:List (Int × Int)}:∀ {k:Nat} {o:List En},slFix ws m k=some o->o.length<=k:=by
 intro k
 induction k with
 | zero=>intro o h;simp only[slFix,Option.some.injEq] at h;subst h;simp
 | succ k ih =>
  intro o h;simp only[slFix] at h;cases b:slFix ws m k with
  | none=>rw[b] at h;cases h
  | some x =>
   rw[b] at h;cases a:gM ws m k with
   | none=>rw[a] at h;cases h
   | some y =>
    rw[a] at h;simp only[kzy,Option.some.injEq] at h;subst h;have h1:=ih b;have h2:y.length<=1:=by
     unfold gM at a;split at a
     .split at a
      .cases a
      split at a<;>(injection a with a;subst a;simp)
     injection a with a;subst a;simp
    rw[kqu];omega
def dZ (ws:List Nat):Int:=if cu ws=0 then (if slsOk ws=true then (match slFix ws (eW ws) 16 with | none=>50 | some _=>0) else 50) else cu ws
def dL (ws:List Nat):List En:=if dZ ws=0 then (slFix ws (eW ws) 16).getD [] else []
open Go.RowKit
theorem zx(A:Option Addr)(m:List (Int × Int))(c n v:Nat)(w:World)(hn:m.length=n)(hm:n<=1000000)(hv:v<18446744073709551616)(hr:RdM w w.heap.size A m):
 Calls prog 256 #[.slice A n c,.int .u64 (v:Int)] w λe w'=>e=.returned (.tuple #[.int .i64 ((gn m v).getD 0),.bool (gn m v).isSome])/\Below w.heap.size w w':=by
 have g:=hid (λa=>fwTo_c A m c n w.heap.size a w hn hm hr (kqa _));by_cases h:2048<v
 .have H:Hid (gn m v=none):=hid (by simp[gn,h]);have j:decide ((2048:Int)<(v:Int))=true:=by rw[kqn];omega
  have f:decide (2048<v)=true:=by rw[kqn];exact h
  clear hv hr hn hm h;go_enter func256,ntmps256;go_wp2;go_ret2;exact⟨by rw[H.out];rfl,kqk _ _⟩
 have H:Hid (gn m v=ic m (v:Int)):=hid (by simp[gn,h]);have j:decide ((2048:Int)<(v:Int))=false:=by rw[kqc];omega
 have f:decide (2048<v)=false:=by rw[kqc];exact h
 have hw:IntKind.i64.wrap (v:Int)=(v:Int):=kqs _ (by omega);have b:=hid (g.out (v:Int));rw[<-H.out] at b;obtain⟨q,i⟩:=xq (gn m v);rw[i] at b |-;clear hv hr hn hm h i g H;go_enter func256,ntmps256;go_wp2_with fail;refine b.out.mono ?_;rintro e w1 ⟨rfl,d⟩;go_wp2;go_ret2;exact⟨rfl,d⟩
def IB (ws:List Nat) (e:Ending) (w':World):Prop:=∃A c,e=.returned (.tuple #[.slice A (eW ws).length c,.int .i64 (cu ws)])/\RdM w' w'.heap.size A (eW ws)/\(eW ws).length<=c
theorem uN(A:Option Addr)(ws:List Nat)(c n:Nat)(w:World)(hn:ws.length=n)(hm:n<=9223372036854775807)(g:RdW w w.heap.size A ws)(ho:∀x∈ws,x<18446744073709551616):
 Calls prog 255 #[.slice A n c] w λe w'=>IB ws e w'/\Below w.heap.size w w':=by
 have y:=hid g;have b:=hid (mO A ws c n w hn hm g ho);have m:=hid (λW (h:RdW W W.heap.size A ws)=>pS A ws c n 128 128 W hn hm (by omega) (by omega) h ho);unfold yH at m;clear g ho hn hm;by_cases f:ah ws=0
 .have d:Hid (cu ws=bh ws 128 128/\eW ws=iB ws 128 128):=hid (by
   have l:cu ws=bh ws 128 128:=by simp[cu,f]
   refine⟨l,?_⟩;unfold eW;rw[l];split
   .rfl
   rename_i h2;simp[iB,h2])
  rw[f] at b;clear f;go_enter func255,ntmps255;go_wp2_with fail;refine b.out.mono ?_;rintro e z ⟨rfl,a⟩;have j:=hid a;have q:=hid (y.out.up a a.size);clear a;go_wp2_with fail;refine (m.out _ q.out).mono ?_;rintro e w2 ⟨⟨v,u,rfl,k,i⟩,o⟩;have p:=hid (j.out.trans (o.mono j.out.size));have s:=hid k;have t:=hid i;clear o k i;go_wp2;go_ret2;exact⟨⟨v,u,by rw[d.out.1,d.out.2];rfl,by rw[d.out.2];exact s.out,by rw[d.out.2];exact t.out⟩,p.out⟩
 obtain⟨r,g⟩:=xq (ah ws);have d:Hid (cu ws=r/\eW ws=[]):=hid (by
  have l:cu ws=r:=by unfold cu;rw[if_neg f,g]
  exact⟨l,by unfold eW;rw[l,if_neg (by rw[<-g];exact f)]⟩)
 rw[g] at b f;have hrn:(r != 0)=true:=by rw[kqv];exact f
 clear f g;go_enter func255,ntmps255;go_wp2_with fail;refine b.out.mono ?_;rintro e z ⟨rfl,a⟩;go_wp2;go_ret2;exact⟨⟨none,0,by rw[d.out.1,d.out.2];rfl,by rw[d.out.2];exact Rd.nil_,by rw[d.out.2];exact kqa _⟩,a⟩
theorem Hu{a:Nat}(ha:a<4294967296)(hg:g<2147483648):bits BinOp.or .u64 (a:Int) ((g:Int)*4294967296)=((a+g*4294967296:Nat):Int) /\
 bits BinOp.or .u64 ((a+g*4294967296:Nat):Int) 9223372036854775808=((a+g*4294967296+9223372036854775808:Nat):Int):=by
 refine⟨or32 ha (by omega),?_⟩;have h:=u64_or_nat (a+g*4294967296) 9223372036854775808 (by omega) (by omega);have e:(a+g*4294967296) ||| 9223372036854775808=a+g*4294967296+9223372036854775808:=by rw[show (9223372036854775808:Nat)=1*2 ^ 63 by decide,km (i:=63) (by omega)]
 rw[e] at h;exact h
theorem B7{a q:Nat}(hp:a+g*4294967296=p)(hq:p+9223372036854775808=q):oA ⟨(g:Int),true,(a:Int)⟩=q:=by unfold oA;dsimp only;rw[kqj,kqj,if_pos rfl,hp,hq]
theorem wm{a:Nat}(hp:a+g*4294967296=p):oA ⟨(g:Int),false,(a:Int)⟩=p:=by unfold oA;dsimp only;rw[kqj,kqj,if_neg (by simp),hp,kz8]
theorem EM(g a p:Nat)(w:World)(hg:g<2147483648)(ha:a<4294967296)(o1:bits BinOp.or .u64 (a:Int) ((g:Int)*4294967296)=(p:Int)):
 Calls prog 285 #[.agg #[.int .i64 (g:Int),.bool false,.int .i64 (a:Int)]] w λe w'=>e=.returned (.int .u64 (p:Int))/\Below w.heap.size w w':=by have hw1:IntKind.u64.wrap (a:Int)=(a:Int):=kzt _ (by omega);have hw2:IntKind.u64.wrap (g:Int)=(g:Int):=kzt _ (by omega);have hw3:IntKind.u64.wrap ((g:Int)*4294967296)=(g:Int)*4294967296:=kzt _ (by omega);have b:=hid ((kqk w.heap.size w).alloc (kqa _) (.cells #[.int .i64 (g:Int),.bool false,.int .i64 (a:Int)] 52));clear ha hg;go_enter func285,ntmps285;go_wp2;go_ret;exact⟨rfl,b.out⟩
theorem Et(g a p q:Nat)(w:World)(hg:g<2147483648)(ha:a<4294967296)(o1:bits BinOp.or .u64 (a:Int) ((g:Int)*4294967296)=(p:Int))(o2:bits BinOp.or .u64 (p:Int) 9223372036854775808=(q:Int)):
 Calls prog 285 #[.agg #[.int .i64 (g:Int),.bool true,.int .i64 (a:Int)]] w λe w'=>e=.returned (.int .u64 (q:Int))/\Below w.heap.size w w':=by have hw1:IntKind.u64.wrap (a:Int)=(a:Int):=kzt _ (by omega);have hw2:IntKind.u64.wrap (g:Int)=(g:Int):=kzt _ (by omega);have hw3:IntKind.u64.wrap ((g:Int)*4294967296)=(g:Int)*4294967296:=kzt _ (by omega);have b:=hid ((kqk w.heap.size w).alloc (kqa _) (.cells #[.int .i64 (g:Int),.bool true,.int .i64 (a:Int)] 52));clear ha hg;go_enter func285,ntmps285;go_wp2;go_ret;exact⟨rfl,b.out⟩
theorem G9(g a:Nat)(u:Bool)(w:World)(hg:g<2147483648)(ha:a<4294967296):
 Calls prog 285 #[.agg #[.int .i64 (g:Int),.bool u,.int .i64 (a:Int)]] w λe w'=>e=.returned (.int .u64 (oA ⟨(g:Int),u,(a:Int)⟩:Nat))/\Below w.heap.size w w':=by
 obtain⟨b,c⟩:=Hu ha hg;obtain⟨p,d⟩:=xq (a+g*4294967296);rw[d] at b c;obtain⟨q,f⟩:=xq (p+9223372036854775808);rw[f] at c;cases u
 .rw[wm d];exact EM g a p w hg ha b
 rw[B7 d f];exact Et g a p q w hg ha b c
theorem I7(g a:Nat)(u:Bool)(w:World)(hg:g<2147483648)(ha:a<4294967296)(hok:mJ ⟨(g:Int),u,(a:Int)⟩=true):
 Calls prog 257 #[.agg #[.int .i64 (g:Int),.bool u,.int .i64 (a:Int)]] w λe w'=>e=.returned (.tuple #[.int .u64 (oA ⟨(g:Int),u,(a:Int)⟩:Nat),.int .i64 0])/\Below w.heap.size w w':=by have h:=hid (λW=>uu (g:Int) u (a:Int) W (by omega) (by omega));rw[hok] at h;have f:=hid (λW=>G9 g a u W hg ha);have m:=Bx.new w 52 #[.int .i64 (g:Int),.bool u,.int .i64 (a:Int)];have j:=hid m;have l:=hid ((kqk w.heap.size w).alloc (kqa _) (.cells #[.int .i64 (g:Int),.bool u,.int .i64 (a:Int)] 52));obtain⟨V,k⟩:∃V,oA ⟨(g:Int),u,(a:Int)⟩=V:=⟨_,rfl⟩;rw[k] at f |-;clear m k hok hg ha;go_enter func257,ntmps257;go_wp2_with fail;refine (h.out _).mono ?_;rintro e w1 ⟨rfl,b⟩;have d:=j.out.up b j.out.lt;obtain⟨p0,p1,p2,-⟩:=d.c3;have c:=hid (l.out.trans (b.mono l.out.size));clear b d;go_wp2_with fail;refine (f.out _).mono ?_;rintro e w2 ⟨rfl,i⟩;go_wp2;go_ret2;exact⟨rfl,c.out.trans (i.mono c.out.size)⟩
theorem zq(A:Option Addr)(ws:List Nat)(c n:Nat)(a:Int)(w:World)(hn:ws.length=n)(hm:n<=9223372036854775807)(hr:RdW w w.heap.size A ws)(ho:∀x∈ws,x<18446744073709551616):
 Calls prog 258 #[.slice A n c,.int .i64 a] w λe w'=>e=.returned (.tuple #[(yj ws a).val,.int .i64 (dU ws a)])/\Below w.heap.size w w':=by
 have g:=hid (mf A ws c n 128 (w.alloc (.cells #[.int .i64 0,.int .i64 0,.int .i64 0,.int .i64 0,.bool false,.int .u64 0] 55)) hn hm ((hr.alloc (kqa _) _).more (by simp)) ho);unfold qW at g;rw[kqm] at g;have L:=ix ws 128;have HN:Hid (sK (aQ ws 128) a (aQ ws 128).length->yj ws a=mA/\dU ws a=6):=hid λh=>by simp[yj,dU,zK h]
 have HY:Hid (∀k,k<(aQ ws 128).length->sK (aQ ws 128) a k->((gk (aQ ws 128) k).at_==a&&(gk (aQ ws 128) k).kind==1)=true->yj ws a=gk (aQ ws 128) k/\dU ws a=0):=hid λk h1 h2 h3=>by simp[yj,dU,Iw h1 h2 h3]
 obtain⟨l,X⟩:=xq (aQ ws 128);obtain⟨r,O⟩:=xq (cc ws 128);rw[X,O] at g;rw[X] at L HN HY;have H:=rg;clear X O hr ho hn hm;go_enter func258,ntmps258;go_wp2_with fail;refine g.out.mono ?_;rintro e w1 ⟨⟨A1,c1,rfl,J,-⟩,C⟩;have z:=aw C;have M:=z.size;have b0:=hid (Bx.of_new C);have K:=b0.out.lt;have Y:=hid J;have G:=hid z;clear J C z;go_wp2_with fail;go_loopw [17] (λi wr=>∃k:Nat,k<=l.length/\i=.int .i64 k/\Hid (sK l a k)/\Below w1.heap.size w1 wr) (λi _=>l.length-(intOf i).toNat)
 case atStart=>exact⟨0,kqy _,rfl,wW l a,kqk _ _⟩
 obtain⟨k,hk,rfl,F,y⟩:=hrel;have U:=y.size;have q:=hid (b0.out.up y K);by_cases s:k<l.length
 .obtain ⟨b,off,rfl,hbw,q0,Z,q2,q3,q4,q5⟩:=RdB.at_ (Y.out.below y) s;have j:=hid (λh=>wV F.out h);have f:=hid (λh=>HY.out k s F.out h);rw[bP l k s] at j f;obtain⟨x,hx⟩:=xq (l[k]);rw[hx] at q0 Z q2 q3 q4 q5 j f;obtain⟨p,xs,m,t,B,u⟩:=x;dsimp only at q0 Z q2 q3 q4 q5 j;have hlm:(k:Int)<(l.length:Int):=by omega
  clear hx;obtain⟨d1,e1⟩:=xq ((p==a));obtain⟨d2,e2⟩:=xq ((m==1));dsimp only at f;rw[e1,e2] at j f;cases d1
  .have D:=hid (j.out rfl);clear j f e2;go_wp2;go_roundw
   case rel=>exact⟨k+1,by omega,by go_num,D.out,y.alloc U _⟩
   case measure=>simp[intOf];omega
  cases d2
  .have D:=hid (j.out rfl);clear j f;go_wp2;go_roundw
   case rel=>exact⟨k+1,by omega,by go_num,D.out,y.alloc U _⟩
   case measure=>simp[intOf];omega
  have R:=hid (f.out rfl);have o:=hid (Bx.new wr 55 #[.int .i64 p,.int .i64 xs,.int .i64 m,.int .i64 t,.bool B,.int .u64 (u:Int)]);have Q:=hid (y.alloc U (.cells #[.int .i64 p,.int .i64 xs,.int .i64 m,.int .i64 t,.bool B,.int .u64 (u:Int)] 55));have N:=hid (q.out.alloc (.cells #[.int .i64 p,.int .i64 xs,.int .i64 m,.int .i64 t,.bool B,.int .u64 (u:Int)] 55));clear j f;go_upto_region 6 with (fail);obtain⟨wn,P⟩:∃wn,wr.alloc (.cells #[.int .i64 p,.int .i64 xs,.int .i64 m,.int .i64 t,.bool B,.int .u64 (u:Int)] 55)=wn:=⟨_,rfl⟩;rw[P] at o N Q |-;clear P;go_wp2_with (first
   | ((with_reducible refine aN 55 (.tmp 9) ?_);refine kxh rfl _ _ rfl wr.heap.size (by rfl) 55 #[.int .i64 p,.int .i64 xs,.int .i64 m,.int .i64 t,.bool B,.int .u64 (u:Int)] (0,0) _ o.out underlying55 (by rfl) H ?_)
   | ((with_reducible refine ar 55 (.tmp 4) _ ?_);refine am rfl _ _ _ rfl w.heap.size 55 #[.int .i64 0,.int .i64 0,.int .i64 0,.int .i64 0,.bool false,.int .u64 0] #[.int .i64 p,.int .i64 xs,.int .i64 m,.int .i64 t,.bool B,.int .u64 (u:Int)] (by rfl) (by rfl) N.out rfl H (qg _ _ _ _ _ _) ?_;intro w3 S I;have V:=hid S;have T:=hid I;clear S I))
  exact kqo (v:=.tuple #[.agg #[.int .i64 p,.int .i64 xs,.int .i64 m,.int .i64 t,.bool B,.int .u64 (u:Int)],.int .i64 0]) (aX results258 _ V.out rfl rfl) rfl ⟨by rw[R.out.1,R.out.2];rfl,T.out.below (G.out.trans (Q.out.mono M)) (kqa _)⟩
 have R:=hid (HN.out (by have:=F.out;rwa [show k=l.length by omega] at this));have W:=hid (G.out.trans (y.mono M));obtain⟨x0,x1,x2,x3,x4,x5,E,hgl⟩:=q.out.c6;have f0:=E 0;have f1:=E 1;have f2:=E 2;have f3:=E 3;have f4:=E 4;have f5:=E 5;clear E;go_wp2_with fail;exact kqo (v:=.tuple #[.agg #[.int .i64 0,.int .i64 0,.int .i64 0,.int .i64 0,.bool false,.int .u64 0],.int .i64 6]) (aX results258 _ (mx q.out _ _ _ _ _ _) rfl rfl) rfl ⟨by rw[R.out.1,R.out.2];rfl,fI W.out (kqa _) _ _ _ _ _ _⟩
theorem vR(A:Option Addr)(ws:List Nat)(c n t xa:Nat)(xs xk:Int)(xm:Bool)(xn:Nat)(w:World)(hn:ws.length=n)(hm:n<=1000000)(h2:256<=n)(ht:t<8)(hxa:xa<=1000000)(hr:RdW w w.heap.size A ws)(ho:∀x∈ws,x<18446744073709551616):
 Calls prog 259 #[.slice A n c,.agg #[.int .i64 (xa:Int),.int .i64 xs,.int .i64 xk,.int .i64 (t:Int),.bool xm,.int .u64 (xn:Int)]] w λe w'=>(∃A' c',e=.returned (.slice A' (fj ws ⟨(xa:Int),xs,xk,(t:Int),xm,xn⟩).length c')/\RdI w' w'.heap.size A' (fj ws ⟨(xa:Int),xs,xk,(t:Int),xm,xn⟩)/\(fj ws ⟨(xa:Int),xs,xk,(t:Int),xm,xn⟩).length<=c')/\Below w.heap.size w w':=by
 subst hn;have hx:=fM ho (96+2*t);have hy:=fM ho (96+2*t+1);have Y:=hid (λW=>re (wd ws (96+2*t)) (wd ws (96+2*t+1)) W hx hy);unfold Eu at Y;have C:=kB (wd ws (96+2*t)) (wd ws (96+2*t+1));have Kd:fj ws ⟨(xa:Int),xs,xk,(t:Int),xm,xn⟩=rq (bp (wd ws (96+2*t)) (wd ws (96+2*t+1))) (xa:Int) (bp (wd ws (96+2*t)) (wd ws (96+2*t+1))).length:=rfl;rw[Kd];clear Kd;obtain⟨b,f,rfl,hb,B⟩:=RdW.at_ hr (show 96+2*t<ws.length by omega);obtain⟨b',off',e',-,z⟩:=RdW.at_ hr (show 96+2*t+1<ws.length by omega);cases e';rw[<-cA] at B z;obtain⟨x,Z⟩:=xq (wd ws (96+2*t));obtain⟨y,N⟩:=xq (wd ws (96+2*t+1));rw[Z] at B Y C |-;rw[N] at z Y C |-;obtain⟨F,hF⟩:=xq (bp x y);obtain⟨r,Ka⟩:=xq (eN x y);rw[hF,Ka] at Y;rw[hF] at C |-;have Kh:=hid (λj=>rP F (xa:Int) j);have Kg:=hid (λj=>qa F (xa:Int) j);have t0:(0:Int)<=(t:Int):=by omega
 have t8:(t:Int)<8:=by omega
 have w1:IntKind.i64.wrap (2*(t:Int))=2*(t:Int):=kqs _ (by omega);have w2:IntKind.i64.wrap (96+2*(t:Int))=96+2*(t:Int):=kqs _ (by omega);have w3:IntKind.i64.wrap (96+2*(t:Int)+1)=96+2*(t:Int)+1:=kqs _ (by omega);have wa:IntKind.i64.wrap ((xa:Int)+2)=(xa:Int)+2:=kqs _ (by omega);have i1:(0:Int)<=96+2*(t:Int):=by omega
 have i2:(96:Int)+2*(t:Int)<(ws.length:Int):=by omega
 have i3:(0:Int)<=96+2*(t:Int)+1:=by omega
 have i4:(96:Int)+2*(t:Int)+1<(ws.length:Int):=by omega
 have n1:((96:Int)+2*(t:Int)).toNat=96+2*t:=by omega
 have n2:((96:Int)+2*(t:Int)+1).toNat=96+2*t+1:=by omega
 have bx:=Bx.new w 55 #[.int .i64 (xa:Int),.int .i64 xs,.int .i64 xk,.int .i64 (t:Int),.bool xm,.int .u64 (xn:Int)];have o:=(kqk w.heap.size w).alloc (kqa _) (.cells #[.int .i64 (xa:Int),.int .i64 xs,.int .i64 xk,.int .i64 (t:Int),.bool xm,.int .u64 (xn:Int)] 55);replace B:=(o.cell (p:=⟨b,f+(96+2*t),none⟩) hb).trans B;replace z:=(o.cell (p:=⟨b,f+(96+2*t+1),none⟩) hb).trans z;have Ke:(w.alloc (.cells #[.int .i64 (xa:Int),.int .i64 xs,.int .i64 xk,.int .i64 (t:Int),.bool xm,.int .u64 (xn:Int)] 55)).heap.size=w.heap.size+1:=by simp
 obtain⟨i0,hi,Q,S,Kc⟩:=kzw Aj;have HI:=hid hi;have Kp:=hid Q;have Kk:=hid S;have Kf:=hid Kc;clear hi Q S Kc;clear hr hx hy Z N ho ht hF Ka;go_enter func259,ntmps259;go_wp2_with fail;obtain⟨q,U⟩:∃q,w.alloc (.cells #[.int .i64 (xa:Int),.int .i64 xs,.int .i64 xk,.int .i64 (t:Int),.bool xm,.int .u64 (xn:Int)] 55)=q:=⟨_,rfl⟩;rw[U] at B z bx o Ke |-;clear U;have b3:q.cell? ⟨w.heap.size,3,none⟩=some (.int .i64 (t:Int)):=bx.cell 3;have R:b<q.heap.size:=by omega
 have L:w.heap.size<q.heap.size:=by omega
 have BX:=hid bx;have O:=hid o;clear bx o Ke
 go_region_held3 (λX:World=>X.cell? ⟨b,f+(96+2*t),none⟩=some (.int .u64 (x:Int))/\X.cell? ⟨b,f+(96+2*t+1),none⟩=some (.int .u64 (y:Int))/\X.cell? ⟨w.heap.size,3,none⟩=some (.int .i64 (t:Int))) (go_keep)
  (first | (go_at_call 117;refine (Y.out _).mono ?_;rintro e I ⟨⟨A1,c1,rfl,P,-⟩,l⟩;have m0:=(l.cell (p:=⟨b,f+(96+2*t),none⟩) R).trans B;have m1:=(l.cell (p:=⟨b,f+(96+2*t+1),none⟩) R).trans z;have m2:=(l.cell (p:=⟨w.heap.size,3,none⟩) L).trans b3;have Ko:=hid P;have u:Below q.heap.size q I:=(kqk q.heap.size q).drew.trans l;have J:=hid (BX.out.up u L);have T:=hid (O.out.trans (u.mono O.out.size));clear P l u))
 have Km:=T.out.size;clear m0 m1 m2 B z b3;go_wp2_with fail;go_loopw [7,31] (λv i wr=>∃k:Nat,k<=F.length/\i=.int .i64 k/\wr.ownsRow I.heap.size 3 1 v (rq F (xa:Int) k).length ((rq F (xa:Int) k).flatMap cX)/\Below I.heap.size I wr) (λ_ i _=>F.length-(intOf i).toNat)
 case atStart=>exact⟨0,kqy _,rfl,kza _ _ _ _,kqk _ _⟩
 obtain⟨k,hk,rfl,a,H⟩:=hrel;have hz:=H.size;by_cases K:k<F.length
 .obtain ⟨bF,oF,rfl,hbF,y0⟩:=RdY.at_ (show RdY wr I.heap.size A1 F from Rd.below Ko.out H) K;have E:=J.out.up H J.out.lt;have p0:=E.cell 0;have hgr:=E.lt;have d:=hid (Kh.out k);have Kl:=Kg.out k;rw[kql K] at d;obtain⟨D,Eq⟩:=xq (F[k]);obtain⟨m,Kb⟩:∃m,rq F (xa:Int) k=m:=⟨_,rfl⟩;rw[Eq] at y0 d;rw[Kb] at a d Kl;have p0':wr.cell? ⟨w.heap.size,0,none⟩=some (.int .i64 (xa:Int)):=p0;have hki:(k:Int)<(F.length:Int):=by omega
  have hwk:IntKind.i64.wrap ((xa:Int)+2+(k:Int))=(xa:Int)+2+(k:Int):=kqs _ (by omega);clear Eq Kb E p0;by_cases g:D=3
  .have e3:((D:Int)==3)=true:=by rw[kqw];omega
   have e3n:(D==3)=true:=by rw[kqw];exact g
   have HY:=hid (show rq F (xa:Int) (k+1)=m++[(xa:Int)+2+(k:Int)] by rw[d.out,if_pos (by rw[g])]);clear g d;go_wp2_with (at_builtin;refine kze _ rfl _ _ 42 rfl I.heap.size 3 i0 _ 1 8 underlying42 HI.out Kp.out Kk.out Kf.out rfl (by decide) _ _ _ rfl (a.alloc _) ⟨_,0,none⟩ 1 1 [.int .i64 ((xa:Int)+2+(k:Int))] rfl rfl (cI _ _ _) (by simp[Value.oneCell']) (by unfold maxLen;omega) (by omega) (by simp;omega) ?_;intro v1 w6 G Ki _;have Kj:=aE H hz a Ki);go_roundw
   case rel=>exact⟨k+1,by omega,by go_num,by rw[HY.out,kqu,cq];exact G,Kj⟩
   case measure=>simp[intOf];omega
  have e3:((D:Int)==3)=false:=by rw[kqi];omega
  have e3n:(D==3)=false:=by rw[kqi];exact g
  have HY:=hid (show rq F (xa:Int) (k+1)=m by rw[d.out,if_neg (λh=>g (Option.some.inj h)),kzs]);clear g d;go_wp2;go_roundw
  case rel=>exact⟨k+1,by omega,by go_num,by rw[HY.out];exact a,H⟩
  case measure=>simp[intOf];omega
 obtain rfl:k=F.length:=by omega
 obtain⟨A2,c2,rfl,V,s⟩:=kJ a;have M:=hid s;have Kn:=hid V;clear s a V;go_wp2;go_ret;exact⟨⟨A2,c2,rfl,M.out,Kn.out⟩,T.out.trans (H.mono Km)⟩
theorem oe(h:ah ws=0)(ho:jW (aQ ws 128) a=some b):∃(m t:Nat) (xs xk:Int) (xm:Bool) (xn:Nat),a=(m:Int)/\b=⟨(m:Int),xs,xk,(t:Int),xm,xn⟩/\t<8/\fW ws m/\m<ws.length /\
 (fj ws b).length<=8/\∀k (l:k<(fj ws b).length),∃r:Nat,(fj ws b)[k]=(r:Int)/\m<=r/\r<ws.length:=by
 obtain⟨m,s,d,c⟩:=uR h ho;have f:wd ws m/512%128<8:=by have h7:=(bD _).1 (fP c.2.2.2.1);have h5:=c.2.2.2.2.1;have h6:(aq (wd ws m)).typ=((wd ws m/512%128:Nat):Int):=rfl;omega
 have j:r8 ws b=flds ws m:=by rw[d];rfl
 refine⟨m,wd ws m/512%128,(bkAt ws m).size,(bkAt ws m).kind,(bkAt ws m).mark,(bkAt ws m).next,s,d,f,c,c.2.2.1,?_,λk l=>?_⟩
 .have p:=qa (r8 ws b) b.at_ (r8 ws b).length;have h2:=te ws m;unfold fj;rw[j] at p |-;omega
 have o:=kqq l;unfold fj at o;obtain⟨i,n,i2,q⟩:=ky.1 o;rw[j] at n;have g:=tH c n;have e:b.at_=(m:Int):=by rw[d];rfl
 refine⟨m+2+i,?_,by omega,g⟩;have:(fj ws b)[k]=b.at_+2+(i:Int):=q;rw[this,e];omega
def RsRes (ws:List Nat) (a:Int) (e:Ending) (w':World):Prop:=∃A c,e=.returned (.tuple #[.slice A (bU ws a).length c,.int .i64 (oH ws a)])/\RdI w' w'.heap.size A (bU ws a)/\(bU ws a).length<=c
theorem yK(A:Option Addr)(ws:List Nat)(c n:Nat)(a:Int)(w:World)(hn:ws.length=n)(hm:n<=9223372036854775807)(v:RdW w w.heap.size A ws)(ho:∀x∈ws,x<18446744073709551616):
 Calls prog 208 #[.slice A n c,.int .i64 a] w λe w'=>RsRes ws a e w'/\Below w.heap.size w w':=by
 subst hn;have K:=hid v;have o:=hid (mO A ws c ws.length w rfl hm v ho);have f:=hid (λW (h:RdW W W.heap.size A ws)=>zq A ws c ws.length a W rfl hm h ho);have X:=hid ho;clear v ho;by_cases k:ah ws=0
 .rw[k] at o;cases g:jW (aQ ws 128) a with
  | none =>have i:Hid (oH ws a=6/\bU ws a=[]):=hid (by simp[oH,bU,dU,k,g]);rw[show yj ws a=mA by simp[yj,g],show dU ws a=6 by simp[dU,g]] at f;unfold mA Bk.val at f;simp only[kq9] at f;clear k g;go_enter func208,ntmps208;go_wp2_with fail;refine o.out.mono ?_;rintro e Q ⟨rfl,d⟩;have l:=hid d;have u:=hid (K.out.up d d.size);clear d;go_wp2_with fail;refine (f.out _ u.out).mono ?_;rintro e V ⟨rfl,q⟩;have j:=l.out.trans (q.mono l.out.size);go_wp2;go_ret2;exact⟨⟨none,0,by rw[i.out.1,i.out.2];rfl,by rw[i.out.2];exact Rd.nil_,by rw[i.out.2];exact kqa _⟩,j.alloc j.size _⟩
  | some b =>
   obtain⟨m,t,xs,O,N,P,T,G,D,C,I,-,-⟩:=oe k g;subst T;have E:=gX ws (aA k).1;have i:Hid (oH ws (m:Int)=0/\bU ws (m:Int)=fj ws b):=hid (by simp[oH,bU,dU,k,g]);rw[show yj ws (m:Int)=b by simp[yj,g],show dU ws (m:Int)=0 by simp[dU,g]] at f;have y:=hid (λW (h:RdW W W.heap.size A ws)=>vR A ws c ws.length t m xs O N P W rfl (by omega) (by omega) D (by omega) h X.out);rw[<-G] at y;obtain⟨R,M⟩:=xq (fj ws b);rw[M] at y i;rw[G] at f;unfold Bk.val at f;dsimp only at f;clear k g G D C I E M;go_enter func208,ntmps208;go_wp2_with fail;refine o.out.mono ?_;rintro e Q ⟨rfl,d⟩;have l:=hid d;have u:=hid (K.out.up d d.size);clear d;go_wp2_with fail;refine (f.out _ u.out).mono ?_;rintro e V ⟨rfl,q⟩;have j:=l.out.trans (q.mono l.out.size);have p:=hid (j.alloc j.size (.cells #[.int .i64 (m:Int),.int .i64 xs,.int .i64 O,.int .i64 (t:Int),.bool N,.int .u64 (P:Int)] 55));have F:=hid (K.out.up p.out p.out.size);clear q j;go_wp2_with fail;refine (y.out _ F.out).mono ?_;rintro e w3 ⟨⟨S,U,rfl,s,B⟩,z⟩;have J:=hid s;have H:=hid B;have L:=hid (p.out.trans (z.mono p.out.size));clear s B z;go_wp2;go_ret2;exact⟨⟨S,U,by rw[i.out.1,i.out.2];rfl,by rw[i.out.2];exact J.out,by rw[i.out.2];exact H.out⟩,L.out⟩
 obtain⟨r,v⟩:=xq (ah ws);have i:Hid (oH ws a=r/\bU ws a=[]):=hid ⟨by unfold oH;rw[if_neg k,v],by unfold bU;rw[if_neg k]⟩;rw[v] at o k;have hrn:(r != 0)=true:=by rw[kqv];exact k
 clear k v;go_enter func208,ntmps208;go_wp2_with fail;refine o.out.mono ?_;rintro e Q ⟨rfl,d⟩;go_wp2;go_ret2;exact⟨⟨none,0,by rw[i.out.1,i.out.2];rfl,by rw[i.out.2];exact Rd.nil_,by rw[i.out.2];exact kqa _⟩,d⟩
theorem vF(ws:List Nat):(eW ws).length<=2048:=by
 unfold eW;split
 .exact EY ws 128 128
 simp
theorem tG(A:Option Addr)(ws:List Nat)(c n:Nat)(a:Int)(w:World)(hn:ws.length=n)(hm:n<=9223372036854775807)(S:RdW w w.heap.size A ws)(ho:∀x∈ws,x<18446744073709551616):
 Calls prog 209 #[.slice A n c,.int .i64 a] w λe w'=>iu w.heap.size (dA ws a) (cD ws a) e w'/\Below w.heap.size w w':=by
 subst hn;have HR:=hid S;have z:=hid (uN A ws c ws.length w rfl hm S ho);unfold IB at z;have g:=hid (λW (h:RdW W W.heap.size A ws)=>zq A ws c ws.length a W rfl hm h ho);have HO:=hid ho;clear S ho;by_cases I:cu ws=0
 .obtain ⟨Ku,-,-⟩:=dF I;rw[I] at z;have Km:=vF ws;cases l:jW (aQ ws 128) a with
  | none =>have T:=hid (rf I l);rw[show yj ws a=mA by simp[yj,l],show dU ws a=6 by simp[dU,l]] at g;unfold mA Bk.val at g;simp only[kq9] at g;obtain⟨q,hq⟩:=xq ((eW ws).length);rw[hq] at z;clear I l hq Km;go_enter func209,ntmps209;go_wp2_with fail;refine z.out.mono ?_;rintro e w1 ⟨⟨A1,c1,rfl,-,-⟩,d⟩;have E:=hid d;have K:=hid (HR.out.up d d.size);clear d;go_wp2_with fail;refine (g.out _ K.out).mono ?_;rintro e w2 ⟨rfl,F⟩;have C:=E.out.trans (F.mono E.out.size);go_wp2;go_ret2;exact⟨bQ T.out.1 T.out.2,C.alloc C.size _⟩
  | some b =>
   obtain⟨m,t,xs,xk,xm,xn,ea,eb,Kj,Kc,Kb,Ks,L⟩:=oe Ku l;subst ea;have Ki:=gX ws (aA Ku).1;rw[show yj ws (m:Int)=b by simp[yj,l],show dU ws (m:Int)=0 by simp[dU,l]] at g;have O:b.mark=xm:=by rw[eb]
   cases Y:xm with
   | false =>have T:=hid (qK I l (by rw[O,Y]));rw[eb,Y] at g;unfold Bk.val at g;dsimp only at g;obtain⟨q,hq⟩:=xq ((eW ws).length);rw[hq] at z;clear I l eb Kj Kc Kb Ki Ks L hq Km O Y;go_enter func209,ntmps209;go_wp2_with fail;refine z.out.mono ?_;rintro e w1 ⟨⟨A1,c1,rfl,-,-⟩,d⟩;have E:=hid d;have K:=hid (HR.out.up d d.size);clear d;go_wp2_with fail;refine (g.out _ K.out).mono ?_;rintro e w2 ⟨rfl,F⟩;have C:=E.out.trans (F.mono E.out.size);go_wp2;go_ret2;exact⟨bQ T.out.1 T.out.2,C.alloc C.size _⟩
   | true =>
    subst Y;have Kh:=hid (λW (h:RdW W W.heap.size A ws)=>vR A ws c ws.length t m xs xk true xn W rfl (by omega) (by omega) Kj (by omega) h HO.out);rw[<-eb] at Kh;have Kf:=hid (λh3=>uS I l O h3);have Kg:=hid (λo h3=>ym I l O (o:=o) h3);have Ky:=hid (λx y h=>ER I (a:=x) (t:=y) h);have La:=hid (λA1 c1 (v:Nat) W (hv:v<18446744073709551616) (h:RdM W W.heap.size A1 (eW ws))=>zx A1 (eW ws) c1 (eW ws).length v W rfl (by omega) hv h);have Kx:Hid (∀v t,gn (eW ws) v=some t->ic (eW ws) (v:Int)=some t):=hid λv t h=>by
     unfold gn at h;split at h
     .cases h
     exact h
    have Ke:Hid (∀r,fR ws (eW ws) r=if wd ws r=0 then some [] else match gn (eW ws) (wd ws r) with
     | none=>none
     | some t=>if (wd ws r:Int)=t then some [] else some [⟨(r:Int),t.toNat⟩]):=hid λr=>rfl
    have Kq:=hid (λk (hk:k<(fj ws b).length) o h=>lH (ws:=ws) (m:=eW ws) hk (o:=o) h);have Kl:=hid (λk (hk:k<(fj ws b).length) o h h2=>Bi (ws:=ws) (m:=eW ws) hk (o:=o) h h2);have Kn:=hid (λk o (h:dm ws (eW ws) ((fj ws b).take k)=some o)=>nC h);obtain⟨R,hR⟩:=xq (fj ws b);rw[hR] at Kh Kf Kg Kq Kl Kn Ks;have Lo:Hid (∀k (hk:k<R.length),∃r:Nat,R[k]=(r:Int)/\m<=r/\r<ws.length):=hid (by subst hR;exact L);obtain⟨M,hM⟩:=xq (eW ws);rw[hM] at z Kf Kg Ky La Kx Ke Kq Kl Kn Km;rw[eb] at g;unfold Bk.val at g;dsimp only at g;have hlen:=Ki.2.1;obtain⟨i0,hi,Kr,Kt,Kw⟩:=kzw dC;have HI:=hid hi;have Lr:=hid Kr;have Lm:=hid Kt;have Ld:=hid Kw;clear hi Kr Kt Kw;clear I l eb Kj Kc Kb Ki hR L hM O;go_enter func209,ntmps209;go_wp2_with fail;refine z.out.mono ?_;rintro e w1 ⟨⟨A1,c1,rfl,Kv,-⟩,d⟩;have E:=hid d;have K:=hid (HR.out.up d d.size);have Le:=hid Kv;clear d Kv;go_wp2_with fail;refine (g.out _ K.out).mono ?_;rintro e w2 ⟨rfl,F⟩;have C:=E.out.trans (F.mono E.out.size);have Ka:=hid (C.alloc C.size (.cells #[.int .i64 (m:Int),.int .i64 xs,.int .i64 xk,.int .i64 (t:Int),.bool true,.int .u64 (xn:Int)] 55))
    have Lp:=hid (HR.out.up Ka.out Ka.out.size);have Ls:=hid (Rd.more (Rd.alloc (Le.out.up F F.size) (kqa _) (.cells #[.int .i64 (m:Int),.int .i64 xs,.int .i64 xk,.int .i64 (t:Int),.bool true,.int .u64 (xn:Int)] 55)) (show w2.heap.size<=(w2.alloc (.cells #[.int .i64 (m:Int),.int .i64 xs,.int .i64 xk,.int .i64 (t:Int),.bool true,.int .u64 (xn:Int)] 55)).heap.size by simp));clear F C;go_wp2_with fail;refine (Kh.out _ Lp.out).mono ?_;rintro e w3 ⟨⟨A3,c3,rfl,Kd,-⟩,Eq⟩;have Li:=hid Kd;have Q:=hid (Ka.out.trans (Eq.mono Ka.out.size));have Ln:=hid (Ls.out.up Eq Eq.size);have Lk:=hid (HR.out.up Q.out Q.out.size);have Kk:=Q.out.size;clear Kd Eq;go_wp2_with fail;go_loopw [10,42] (λv i wr=>∃(k:Nat) (o:List En),k<=R.length/\i=.int .i64 k/\Hid (dm ws M (R.take k)=some o)/\wr.ownsRow w3.heap.size 89 2 v o.length (o.flatMap En.cells)/\Below w3.heap.size w3 wr) (λ_ i _=>R.length-(intOf i).toNat)
    case atStart=>exact⟨0,[],kqy _,rfl,rfl,kza _ _ _ _,kqk _ _⟩
    obtain⟨k,o,hk,rfl,X,B,Z⟩:=hrel;have hz:=Z.size;have Lg:=Kn.out k o X.out;rw[kq3] at Lg;by_cases V:k<R.length
    .obtain ⟨bR,oR,rfl,hbR,q0⟩:=RdI.at_ (Rd.below Li.out Z) V;obtain⟨r,S,hmr,Lj⟩:=Lo.out k V;obtain⟨bW,oW,rfl,hbW,x0⟩:=RdW.at_ (Rd.below Lk.out Z) Lj;rw[<-cA] at x0;have Lc:=hid (Ln.out.up Z hz);have hv:=fM HO.out r;have f:=hid (Kq.out k V o X.out);have s:=hid (Kl.out k V o X.out);have j:=hid (Ke.out r);rw[S] at q0 f s;rw[kqj] at f s;have Ko:=Kx.out (wd ws r);obtain⟨v,Kz⟩:=xq (wd ws r);rw[Kz] at x0 hv j Ko;have hri:(r:Int)<(ws.length:Int):=by omega
     have hr0:(0:Int)<=(r:Int):=by omega
     have hki:(k:Int)<(R.length:Int):=by omega
     have Lt:=hid hv;have Ll:=hid Ko;clear S Kz hv Ko;by_cases G:v=0
     .have e0:((v:Int)==0)=true:=by rw[kqw];omega
      have e0n:(v==0)=true:=by rw[kqw];exact G
      have HY:=hid (show dm ws M (R.take (k+1))=some o by rw[f.out,j.out,if_pos G];simp);clear G f s j;go_wp2;go_roundw
      case rel=>exact⟨k+1,o,by omega,by go_num,HY.out,B,Z⟩
      case measure=>simp[intOf];omega
     have e0:((v:Int)==0)=false:=by rw[kqi];omega
     have e0n:(v==0)=false:=by rw[kqi];exact G
     rw[if_neg G] at j;have H:=hid (La.out A1 c1 v _ Lt.out Lc.out);cases J:gn M v with
     | none =>rw[J] at H j;have T:=hid (Kf.out (s.out j.out));simp only[kkr,kj0] at H;clear G f s j J;go_wp2_with fail;refine H.out.mono ?_;rintro e w5 ⟨rfl,u⟩;go_wp2;go_ret2;exact⟨bQ T.out.1 T.out.2,Q.out.trans ((Z.trans (u.mono hz)).mono Kk)⟩
     | some tt =>
      obtain⟨N,rfl,ht1,-,ht2,-⟩:=Ky.out (v:Int) tt (Ll.out tt J);rw[J] at H j;simp only[kq8,kkg] at H;have hwt:IntKind.u64.wrap (N:Int)=(N:Int):=kzt _ (by omega);by_cases P:v=N
      .have en:((v:Int) != (N:Int))=false:=by rw[kqr];omega
       have enn:(v != N)=false:=by rw[kqr];exact P
       have HY:=hid (show dm ws M (R.take (k+1))=some o by rw[f.out,j.out];simp[P]);clear G f s j J P;go_wp2_with fail;refine H.out.mono ?_;rintro e w5 ⟨rfl,u⟩;have x5:=(u.cell (p:=⟨bW,oW+r,none⟩) (by show bW<wr.heap.size;omega)).trans x0;have D:=hid (ai B u (kqa _));have U:=hid (Z.trans (u.mono hz));clear u;go_wp2;go_roundw
       case rel=>exact⟨k+1,o,by omega,by go_num,HY.out,D.out,U.out⟩
       case measure=>simp[intOf];omega
      have en:((v:Int) != (N:Int))=true:=by rw[kqv];omega
      have enn:(v != N)=true:=by rw[kqv];exact P
      have HY:=hid (show dm ws M (R.take (k+1))=some (o++[⟨(r:Int),N⟩]) by
       rw[f.out,j.out];have:¬ ((v:Int)=(N:Int)):=by omega
       simp[this])
      clear G f s j J P;go_wp2_with fail;refine H.out.mono ?_;rintro e w5 ⟨rfl,u⟩;have x5:=(u.cell (p:=⟨bW,oW+r,none⟩) (by show bW<wr.heap.size;omega)).trans x0;have D:=ai B u (kqa _);have U:=Z.trans (u.mono hz);have Lq:=U.size;clear u;go_wp2_with (at_builtin;refine kze _ rfl _ _ 26 rfl w3.heap.size 89 i0 _ 2 16 underlying26 HI.out Lr.out Lm.out Ld.out rfl (by decide) _ _ _ rfl (D.alloc _) ⟨_,0,none⟩ 1 1 [.int .i64 (r:Int),.int .u64 (N:Int)] rfl rfl (cI _ _ _) (by simp[Value.oneCell']) (by unfold maxLen;omega) (by omega) (by simp;omega) ?_;intro v1 w6 Kp Lf _;have Lh:=aE U Lq D Lf);go_roundw
      case rel=>exact⟨k+1,o++[(⟨(r:Int),N⟩:En)],by omega,by go_num,HY.out,by rw[kqu,cq];exact Kp,Lh⟩
      case measure=>simp[intOf];omega
    obtain rfl:k=R.length:=by omega
    have HV:=hid (Kg.out o (by have:=X.out;rwa [kq5 (kqa _)] at this));obtain⟨A2,c2,rfl⟩:=aO B;have Lb:=hid (ao B Kk);clear B;go_wp2;go_ret2;exact⟨⟨A2,c2,by rw[HV.out.1,HV.out.2];rfl,by rw[HV.out.2];exact Lb.out⟩,Q.out.trans (Z.mono Kk)⟩
 obtain⟨r,S⟩:=xq (cu ws);have T:=hid (vj (a:=a) S (by rw[<-S];exact I));rw[S] at z I;have hrn:(r != 0)=true:=by rw[kqv];exact I
 obtain⟨q,hq⟩:=xq ((eW ws).length);rw[hq] at z;clear I S hq;go_enter func209,ntmps209;go_wp2_with fail;refine z.out.mono ?_;rintro e w1 ⟨⟨A1,c1,rfl,-,-⟩,d⟩;go_wp2;go_ret2;exact⟨bQ T.out.1 T.out.2,d⟩
theorem qS(h1:dZ ws=r)(h0:r≠0):dL ws=[]:=by unfold dL;rw[if_neg (by rw[h1];exact h0)]
theorem fs_err(h:cu ws=r)(h0:r≠0):dZ ws=r:=by subst h;simp[dZ,h0]
theorem fs_sl(h:cu ws=0)(h1:slsOk ws=false):dZ ws=50:=by simp[dZ,h,h1]
theorem Gx(h:cu ws=0)(h1:slsOk ws=true)(h2:slFix ws (eW ws) 16=none):dZ ws=50:=by simp[dZ,h,h1,h2]
theorem Js(h:cu ws=0)(h1:slsOk ws=true)(h2:slFix ws (eW ws) 16=some o):dZ ws=0/\dL ws=o:=by simp[dL,dZ,h,h1,h2]
theorem xS{m:List (Int × Int)}(h:slFix ws m k=some o):slFix ws m (k+1)=(gM ws m k).map (o ++ ·):=by simp only[slFix,h]
theorem av{w:World}{H n:Nat}{e:TypeId}{sz:Nat}{v:Value}{xs:List Value}(h:w.ownsRow H e sz v n xs){p:Addr}(hp:v.ownBlock≠some p.block)(u:Value):(w.setCell p u).ownsRow H e sz v n xs:=by
 refine⟨h.1,?_⟩;rcases h.2 with c|⟨d,b,a,c,f,g,i⟩
 .exact .inl c
 subst c;refine .inr ⟨d,b,a,rfl,f,?_,i⟩;exact (kkz w p u d (λe=>hp (by simp[Value.ownBlock,e]))).trans g
theorem C7{a:Nat}(hg:g<2147483648)(ha:a<4294967296)(u:Bool):oA ⟨(g:Int),u,(a:Int)⟩<18446744073709551616:=by unfold oA;dsimp only;rw[kqj,kqj];split<;>omega
theorem wG(A:Option Addr)(ws:List Nat)(c n:Nat)(w:World)(hn:ws.length=n)(hm:n<=9223372036854775807)(U:RdW w w.heap.size A ws)(ho:∀x∈ws,x<18446744073709551616):
 Calls prog 207 #[.slice A n c] w λe w'=>iu w.heap.size (dZ ws) (dL ws) e w'/\Below w.heap.size w w':=by
 subst hn;have HR:=hid U;have z:=hid (uN A ws c ws.length w rfl hm U ho);unfold IB at z;have I:=hid (λW (h:RdW W W.heap.size A ws)=>Gi A ws c ws.length W rfl hm h ho);unfold JE at I;have HO:=hid ho;clear U ho;by_cases F:cu ws=0
 .obtain ⟨Kd,-,-⟩:=dF F;have Y:=(aA Kd).1;have N:=gX ws Y;rw[F] at z;have Kr:=vF ws;cases C:slsOk ws with
  | false =>
   have he:=lZ Y C;have hq:fd ws=[]:=by simp[fd,he]
   rw[he,hq] at I;have R:=hid (fs_sl F C);obtain⟨q,hq⟩:=xq ((eW ws).length);rw[hq] at z;clear F Kd Y N C he hq Kr;go_enter func207,ntmps207;go_wp2_with fail;refine z.out.mono ?_;rintro e w1 ⟨⟨A1,c1,rfl,-,-⟩,j⟩;have H:=hid j;have Ka:=hid (HR.out.up j j.size);clear j;go_wp2_with fail;refine (I.out _ Ka.out).mono ?_;rintro e w2 ⟨⟨A2,c2,rfl,-,-⟩,Lv⟩;go_wp2;go_ret2;exact⟨bQ R.out (qS R.out (by omega)),H.out.trans (Lv.mono H.out.size)⟩
  | true =>
   obtain⟨g1,g2⟩:=jw Y C;rw[g1,g2,fg] at I;have Lh:=hid ((cU ws).1 C);have Kg:=hid (λh=>Gx F C h);have Ki:=hid (λo h=>Js F C (o:=o) h);have Kx:=hid (λx y h=>ER F (a:=x) (t:=y) h);have Lf:=hid (λA1 c1 (v:Nat) W (hv:v<18446744073709551616) (h:RdM W W.heap.size A1 (eW ws))=>zx A1 (eW ws) c1 (eW ws).length v W rfl (by omega) hv h);have Kw:Hid (∀v t,gn (eW ws) v=some t->ic (eW ws) (v:Int)=some t):=hid λv t h=>by
    unfold gn at h;split at h
    .cases h
    exact h
   have X:Hid (∀i,gM ws (eW ws) i=if (slAt ws i).used=true then (match gn (eW ws) (slAt ws i).at_.toNat with
    | none=>none
    | some t=>if wd ws (112+i)=oA ⟨(slAt ws i).gen,true,t⟩ then some [] else some [⟨((112+i:Nat):Int),oA ⟨(slAt ws i).gen,true,t⟩⟩]) else some []):=hid λi=>rfl
   have Le:=hid (λk o (h:slFix ws (eW ws) k=some o)=>xS h);have Ld:=hid (λk (h:slFix ws (eW ws) (k+1)=none) (h2:k+1<=16)=>xR h h2);have La:=hid (λk o (h:slFix ws (eW ws) k=some o)=>rA h);obtain⟨M,hM⟩:=xq (eW ws);rw[hM] at z Kg Ki Kx Lf Kw X Le Ld La Kr;have hlen:=N.1;have hlen2:=N.2.1;obtain⟨i0,hi,Km,Ko,Ku⟩:=kzw dC;have HI:=hid hi;have Mf:=hid Km;have Lt:=hid Ko;have Lk:=hid Ku;clear hi Km Ko Ku;clear F Kd Y N C g1 g2 hM;go_enter func207,ntmps207;go_wp2_with fail;refine z.out.mono ?_;rintro e w1 ⟨⟨A1,c1,rfl,Kt,-⟩,j⟩;have H:=hid j;have Ka:=hid (HR.out.up j j.size);have Ln:=hid Kt;clear j Kt;go_wp2_with fail;refine (I.out _ Ka.out).mono ?_;rintro e w3 ⟨⟨A3,c3,rfl,Kf,-⟩,Q⟩;have J:=hid (H.out.trans (Q.mono H.out.size));have Ly:=hid Kf;have Lu:=hid (Ln.out.up Q Q.size);have Ls:=hid (HR.out.up J.out J.out.size);have Kc:=J.out.size;clear Kf Q;go_wp2_with fail;go_loopw [8,36] (λv i wr=>∃(k:Nat) (o:List En),k<=16/\i=.int .i64 k/\Hid (slFix ws M k=some o)/\wr.ownsRow w3.heap.size 89 2 v o.length (o.flatMap En.cells)/\Below w3.heap.size w3 wr) (λ_ i _=>16-(intOf i).toNat)
   case atStart=>exact⟨0,[],kqy _,rfl,rfl,kza _ _ _ _,kqk _ _⟩
   obtain⟨k,o,hk,rfl,Kb,l,hB⟩:=hrel;have hz:=hB.size;have hol:=La.out k o Kb.out;by_cases Kh:k<16
   .obtain ⟨bS,oS,rfl,hbS,q0,q1,q2⟩:=RdS.at_ (Rd.below Ly.out hB) (show k<(slL ws).length by rw[fg];exact Kh);rw[nz] at q0 q1 q2;obtain⟨bW,oW,rfl,hbW,x0⟩:=RdW.at_ (Rd.below Ls.out hB) (show 112+k<ws.length by omega);rw[<-cA] at x0;have Li:=hid (Lu.out.up hB hz);have Eq:=Lh.out k Kh;have f:=hid (Le.out k o Kb.out);have B:=hid (λh=>Ld.out k h (by omega));have d:=hid (X.out k);obtain⟨r1,r2,r3,r4⟩:=gF (wd ws (112+k));have Lb:slAt ws k=dJ (wd ws (112+k)):=rfl;rw[<-Lb] at r1 r2 r3 r4;have Kj:=fM HO.out (112+k);obtain⟨x,hx⟩:=xq (wd ws (112+k));rw[hx] at x0 d Kj;obtain⟨s,Y⟩:=xq (slAt ws k);rw[Y] at q0 q1 q2 d r1 r2 r3 r4 Eq;obtain⟨sg,su,sa⟩:=s;dsimp only at q0 q1 q2 d r1 r2 r3 r4;obtain⟨g,rfl⟩:=kq2 r1;obtain⟨u,rfl⟩:=kq2 r3;rw[kqj] at d;have hki:(k:Int)<16:=by omega
    have hk0:(0:Int)<=(k:Int):=by omega
    have hw1:IntKind.i64.wrap (112+(k:Int))=112+(k:Int):=kqs _ (by omega);have i1:(0:Int)<=112+(k:Int):=by omega
    have i2:(112:Int)+(k:Int)<(ws.length:Int):=by omega
    have n1:((112:Int)+(k:Int)).toNat=112+k:=by omega
    have S:g<2147483648:=by omega
    have Lm:=hid Eq;clear hx Y Lb r1 r2 r3 r4 Eq Kj;cases su
    .have HY:=hid (show slFix ws M (k+1)=some o by rw[f.out,d.out,if_neg (by simp)];simp);clear f B d;go_wp2;go_roundw
     case rel=>exact⟨k+1,o,by omega,by go_num,HY.out,l.alloc _,hB.alloc hz _⟩
     case measure=>simp[intOf];omega
    obtain⟨Lo,Md,Mh⟩:=CU Lm.out rfl;dsimp only at Lo Md Mh;rw[if_pos rfl] at d;have hwu:IntKind.u64.wrap (u:Int)=(u:Int):=kzt _ (by omega);have Kk:=hB.alloc hz (.cells #[.int .i64 (g:Int),.bool true,.int .i64 (u:Int)] 52);have K:=hid Kk;have Kq:=hid (Rd.more (Rd.alloc Li.out (kqa _) (.cells #[.int .i64 (g:Int),.bool true,.int .i64 (u:Int)] 52)) (show wr.heap.size<=(wr.alloc (.cells #[.int .i64 (g:Int),.bool true,.int .i64 (u:Int)] 52)).heap.size by simp));have BN:=hid (Bx.new wr 52 #[.int .i64 (g:Int),.bool true,.int .i64 (u:Int)]);have Z:=hid (l.alloc (.cells #[.int .i64 (g:Int),.bool true,.int .i64 (u:Int)] 52));have Mc:=hid (λb h=>(l.lt b h).2);have x1:=(kzk wr (.cells #[.int .i64 (g:Int),.bool true,.int .i64 (u:Int)] 52) ⟨bW,oW+(112+k),none⟩ (by show bW<wr.heap.size;omega)).trans x0;have Kl:=hid x1;have E:=hid (Lf.out A1 c1 u _ (by omega) Kq.out);have Kv:(wr.alloc (.cells #[.int .i64 (g:Int),.bool true,.int .i64 (u:Int)] 52)).heap.size=wr.heap.size+1:=by simp
    clear Kk x1;go_upto_region 14 with (fail);obtain⟨wn,Ks⟩:∃wn,wr.alloc (.cells #[.int .i64 (g:Int),.bool true,.int .i64 (u:Int)] 52)=wn:=⟨_,rfl⟩;rw[Ks] at K Kq BN Z E Kl Kv |-;clear Ks x0 l;obtain⟨p0,p1,p2,f0,f1,f2,Lq⟩:=BN.out.c3;cases L:gn M u with
    | none =>rw[L] at E d;have R:=hid (Kg.out (B.out (by rw[f.out,d.out];rfl)));simp only[kkr,kj0] at E;clear f B d L;go_wp2_with fail;refine E.out.mono ?_;rintro e w5 ⟨rfl,D⟩;have Lj:=K.out.trans (D.mono K.out.size);go_wp2;go_ret2;exact⟨bQ R.out (qS R.out (by omega)),J.out.trans (Lj.mono Kc)⟩
    | some tt =>
     obtain⟨T,rfl,ht1,-,ht2,-⟩:=Kx.out (u:Int) tt (Kw.out u tt L);rw[L] at E d;simp only[kq8,kkg] at E;have Ky:mJ ⟨(g:Int),true,(T:Int)⟩=true:=by unfold mJ;rw[if_pos rfl];simp only[kqt,kzc];omega
     have Kz:=hid (λW=>I7 g T true W S (by omega) Ky);have Ll:=C7 (g:=g) (a:=T) S (by omega) true;obtain⟨V,hV⟩:∃V,oA ⟨(g:Int),true,(T:Int)⟩=V:=⟨_,rfl⟩;dsimp only at d;rw[hV] at Kz d;clear Ky hV Ll L;go_wp2_with fail;refine E.out.mono ?_;rintro e w5 ⟨rfl,D⟩;have bn5:=BN.out.up D Lq;have BN5:=hid bn5;have Kp:=hid (K.out.trans (D.mono K.out.size));have Lx:=hid (ai Z.out D (kqa _));have x5:=(D.cell (p:=⟨bW,oW+(112+k),none⟩) (by show bW<wn.heap.size;omega)).trans Kl.out;have Lz:=hid x5;obtain⟨p0,p1,p2,f0,f1,f2,hg5⟩:=bn5.c3;clear D bn5 x5;go_wp2_with fail;have Lc:=hid (Kp.out.setCell (p:=⟨wr.heap.size,2,none⟩) hz (.int .i64 (T:Int)));have Mi:=hid (av Lx.out (p:=⟨wr.heap.size,2,none⟩) (λh=>by have h9:=Mc.out _ h;exact absurd h9 (Nat.lt_irrefl _)) (.int .i64 (T:Int)));have x6:(w5.setCell ⟨wr.heap.size,2,none⟩ (.int .i64 (T:Int))).cell? ⟨bW,oW+(112+k),none⟩=some (.int .u64 (x:Int)):=(kj2 w5 _ _ _ (λe2=>by injection e2 with e3 _ _;omega)).trans Lz.out;have Lr:=hid x6;have Kn:bW<(w5.setCell ⟨wr.heap.size,2,none⟩ (.int .i64 (T:Int))).heap.size:=by rw[kz6];have:=Kp.out.size;omega
     clear x6;refine (Kz.out _).mono ?_;rintro e w7 ⟨rfl,O⟩;have x7:=(O.cell (p:=⟨bW,oW+(112+k),none⟩) Kn).trans Lr.out;have m:=ai Mi.out O (kqa _);have P:=Lc.out.trans (O.mono Lc.out.size);have Me:=P.size;clear O Kn;by_cases G:x=V
     .have en:((x:Int) != (V:Int))=false:=by rw[kqr];omega
      have enn:(x != V)=false:=by rw[kqr];exact G
      have HY:=hid (show slFix ws M (k+1)=some o by rw[f.out,d.out];simp[G]);have Mb:=hid m;have Lw:=hid P;clear f B d G m P;go_wp2;go_roundw
      case rel=>exact⟨k+1,o,by omega,by go_num,HY.out,Mb.out,Lw.out⟩
      case measure=>simp[intOf];omega
     have en:((x:Int) != (V:Int))=true:=by rw[kqv];omega
     have enn:(x != V)=true:=by rw[kqv];exact G
     have HY:=hid (show slFix ws M (k+1)=some (o++[⟨112+(k:Int),V⟩]) by rw[f.out,d.out];simp[G]);clear f B d G;go_wp2_with (at_builtin;refine kze _ rfl _ _ 26 rfl w3.heap.size 89 i0 _ 2 16 underlying26 HI.out Mf.out Lt.out Lk.out rfl (by decide) _ _ _ rfl (m.alloc _) ⟨_,0,none⟩ 1 1 [.int .i64 (112+(k:Int)),.int .u64 (V:Int)] rfl rfl (cI _ _ _) (by simp[Value.oneCell']) (by unfold maxLen;omega) (by omega) (by simp;omega) ?_;intro v1 w8 Ke Lp _;have Mg:=aE P Me m Lp);go_roundw
     case rel=>exact⟨k+1,o++[(⟨112+(k:Int),V⟩:En)],by omega,by go_num,HY.out,by rw[kqu,cq];exact Ke,Mg⟩
     case measure=>simp[intOf];omega
   obtain rfl:k=16:=by omega
   have HV:=hid (Ki.out o Kb.out);obtain⟨A2,c2,rfl⟩:=aO l;have Lg:=hid (ao l Kc);clear l;go_wp2;go_ret2;exact⟨⟨A2,c2,by rw[HV.out.1,HV.out.2];rfl,by rw[HV.out.2];exact Lg.out⟩,J.out.trans (hB.mono Kc)⟩
 obtain⟨r,U⟩:=xq (cu ws);have R:=hid (fs_err U (by rw[<-U];exact F));rw[U] at z F;have hrn:(r != 0)=true:=by rw[kqv];exact F
 have Ma:=hid F;obtain⟨q,hq⟩:=xq ((eW ws).length);rw[hq] at z;clear F U hq;go_enter func207,ntmps207;go_wp2_with fail;refine z.out.mono ?_;rintro e w1 ⟨⟨A1,c1,rfl,-,-⟩,j⟩;go_wp2;go_ret2;exact⟨bQ R.out (qS R.out Ma.out),j⟩
theorem DN{a:Nat}(hg:g<2147483648)(ha:a<4294967296):dJ (oA ⟨(g:Int),true,(a:Int)⟩)=⟨(g:Int),true,(a:Int)⟩:=by
 unfold oA dJ;dsimp only;rw[kqj,kqj,if_pos rfl];have d:(a+g*4294967296+9223372036854775808)/4294967296%2147483648=g:=by omega
 have c:(a+g*4294967296+9223372036854775808)/9223372036854775808=1:=by omega
 have b:(a+g*4294967296+9223372036854775808)%4294967296=a:=by omega
 rw[d,c,b];rfl
def nwS (ws:List Nat) (M:List (Int × Int)) (i:Nat):Sl:=if (slAt ws i).used=true then ⟨(slAt ws i).gen,true,(ic M (slAt ws i).at_).getD 0⟩ else slAt ws i
theorem CF{v:Nat}(h:j<ws.length)(i:Nat):wd (ak ws [⟨(j:Int),v⟩]) i=if i=j then v else wd ws i:=by
 simp only[ak];rw[if_pos (by omega),kqj];unfold wd;rw[kxg];by_cases e:j=i
 .subst e;simp[h]
 rw[if_neg e,if_neg (λh=>e h.symm)]
theorem zf{M:List (Int × Int)}(hw:256<=ws.length)(hM:∀a t,ic M a=some t->∃n:Nat,t=(n:Int)/\n<2048):∀k,k<=16->∀o,slFix ws M k=some o ->
 (∀e∈o,∃i,i<k/\e.a=((112+i:Nat):Int)/\e.v<18446744073709551616)/\o.Pairwise (λa b=>a.a<b.a)/\(∀i,i<k->slAt (ak ws o) i=nwS ws M i)/\(∀i,i<k->(slAt ws i).used=true->(ic M (slAt ws i).at_).isSome=true):=by
 intro k
 induction k with
 | zero =>intro _ o h;simp only[slFix,Option.some.injEq] at h;subst h;exact⟨λe f=>(by cases f),List.Pairwise.nil,λi h=>absurd h (by omega),λi h=>absurd h (by omega)⟩
 | succ k ih =>
  intro hk o h;simp only[slFix] at h;cases x:slFix ws M k with
  | none=>rw[x] at h;cases h
  | some o1 =>
  rw[x] at h;obtain⟨u,H,F,L⟩:=ih (by omega) o1 x;have r:wd (ak ws o1) (112+k)=wd ws (112+k):=aU o1 ws _ λe f=>by
   obtain⟨i,h1,P,-⟩:=u e f;rw[P];omega
  have j:∀(G:slAt ws k=nwS ws M k) (I:(slAt ws k).used=true->(ic M (slAt ws k).at_).isSome=true),(∀e∈o1,∃i,i<k+1/\e.a=((112+i:Nat):Int)/\e.v<18446744073709551616)/\o1.Pairwise (λa b=>a.a<b.a)/\(∀i,i<k+1->slAt (ak ws o1) i=nwS ws M i)/\(∀i,i<k+1->(slAt ws i).used=true->(ic M (slAt ws i).at_).isSome=true):=by
   intro G I;refine⟨λe f=>?_,H,λi C=>?_,λi C=>?_⟩
   .obtain ⟨i,J,q,A⟩:=u e f;exact⟨i,by omega,q,A⟩
   .rcases kq6 i k with d|d
    .exact F i d
    have:i=k:=by omega
    subst this;rw[<-G];unfold slAt;rw[r]
   rcases kq6 i k with d|d
   .exact L i d
   have:i=k:=by omega
   subst this;exact I
  cases c:gM ws M k with
  | none=>rw[c] at h;cases h
  | some y =>
   rw[c] at h;simp only[kzy,Option.some.injEq] at h;subst h;unfold gM at c;split at c
   .rename_i hu;obtain⟨E,Q,K,r4⟩:=gF (wd ws (112+k))
    change 0<=(slAt ws k).gen at E
    change (slAt ws k).gen<=_ at Q
    change 0<=(slAt ws k).at_ at K
    obtain⟨g,N⟩:=kq2 E;cases l:gn M (slAt ws k).at_.toNat with
    | none=>rw[l] at c;cases c
    | some t =>
     rw[l] at c;have z:ic M (slAt ws k).at_=some t:=by
      unfold gn at l;split at l
      .cases l
      rw[kj9 K] at l;exact l
     obtain⟨n,rfl,hn⟩:=hM _ _ z;have m:nwS ws M k=⟨(g:Int),true,(n:Int)⟩:=by unfold nwS;rw[if_pos hu,z,N];rfl
     have s:=DN (g:=g) (a:=n) (by omega) (by omega);have B:=C7 (g:=g) (a:=n) (by omega) (by omega) true;have p:(slAt ws k).used=true->(ic M (slAt ws k).at_).isSome=true:=λ_=>by rw[z];rfl
     dsimp only at c;rw[N] at c;by_cases f:wd ws (112+k)=oA ⟨(g:Int),true,(n:Int)⟩
     .rw[if_pos f] at c;injection c with c;subst c;rw[kzs];exact j (by rw[m,<-s,<-f];rfl) p
     rw[if_neg f] at c;injection c with c;subst c;refine⟨λe f=>?_,?_,λi C=>?_,λi C=>?_⟩
     .rcases kz0.1 f with d|d
      .obtain ⟨i,J,q,A⟩:=u e d;exact⟨i,by omega,q,A⟩
      simp only[kq1] at d;subst d;exact⟨k,by omega,rfl,B⟩
     .rw[kvj];refine⟨H,by simp,λa O b D=>?_⟩;simp only[kq1] at D;subst D;obtain⟨i,J,q,-⟩:=u a O;rw[q];dsimp only;omega
     .have w:112+k<(ak ws o1).length:=by rw[ax];omega
      unfold slAt;rw[eK,CF w];split
      .rename_i h6;have:i=k:=by omega
       subst this;rw[s,m]
      exact F i (by omega)
     rcases kq6 i k with d|d
     .exact L i d
     have:i=k:=by omega
     subst this;exact p
   rename_i hu;injection c with c;subst c;rw[kzs];exact j (by unfold nwS;rw[if_neg hu]) (λh=>absurd h hu)
theorem iQ(h:dZ ws=0):256<=ws.length/\ah ws=0/\bh ws 128 128=0/\dI ws=0/\fd ws=slL ws/\dI (ak ws (dL ws))=0/\fd (ak ws (dL ws))=slL (ak ws (dL ws)) /\
 (∀e∈dL ws,(112<=e.a/\e.a<128)/\e.v<18446744073709551616)/\(dL ws).Pairwise (λa b=>a.a<b.a)/\(dL ws).length<=16 /\
 (∀i,i<16->slAt (ak ws (dL ws)) i=nwS ws (iB ws 128 128) i)/\(∀i,i<16->(slAt ws i).used=true->(ic (iB ws 128 128) (slAt ws i).at_).isSome=true):=by
 have f:cu ws=0:=by
  by_cases q:cu ws=0
  .exact q
  unfold dZ at h;rw[if_neg q] at h;exact absurd h q
 have k:slsOk ws=true:=by
  cases m:slsOk ws with
  | true=>rfl
  | false=>rw[fs_sl f m] at h;cases h
 obtain⟨o,u⟩:∃o,slFix ws (eW ws) 16=some o:=by
  cases m:slFix ws (eW ws) 16 with
  | some o=>exact⟨o,rfl⟩
  | none=>rw[Gx f k m] at h;cases h
 obtain⟨e1,y⟩:=Js f k u;obtain⟨x,E,F⟩:=dF f;have w:=(aA x).1;have hbd:=gX ws w;have c:=λa t (d:ic (eW ws) a=some t)=>ER f d;have g:=rA u;obtain⟨H,G,r,p⟩:=zf (by omega) (λa t d=>by obtain⟨n,q1,-,-,q4,-⟩:=c a t d;exact⟨n,q1,q4⟩) 16 (kqa _) o u;rw[F] at r p c;rw[y];obtain⟨J,z⟩:=jw w k;have l:slsOk (ak ws o)=true:=(cU _).2 λi s=>by
  rw[r i s];have j:=(cU ws).1 k i s;unfold nwS;split
  .rename_i hu;obtain⟨t,d⟩:=Option.isSome_iff_exists.1 (p i s hu);obtain⟨n,rfl,n1,-,n2,-⟩:=c _ _ d;obtain⟨u1,-,-⟩:=CU j hu;rw[d];unfold mJ;rw[if_pos rfl];simp only[kqt,kzc,kq8];omega
  exact j
 obtain⟨I,A⟩:=jw (ws:=ak ws o) (by rw[ax];exact w) l;refine⟨by omega,x,E,J,z,I,A,λe D=>?_,G,g,r,p⟩;obtain⟨i,i1,C,B⟩:=H e D;exact⟨by rw[C];omega,B⟩
theorem zb(F:List Nat)(a:Int)(j:Nat):(rq F a j).Pairwise (· < ·):=by
 induction j with
 | zero=>exact List.Pairwise.nil
 | succ j ih =>
  rw[rP,kvj];refine⟨ih,by split<;>simp,λx c y b=>?_⟩;obtain⟨i,i1,-,i3⟩:=ky.1 c;split at b
  .simp only[kq1] at b;omega
  cases b
def Ds (ws x:List Nat) (M:List (Int × Int)) (r:Nat):Prop:=(wd ws r=0/\wd x r=0)\/(0<wd ws r/\∃t m:Nat,ic M (wd ws r:Int)=some (t:Int)/\wd x r=t/\t<2048/\wd ws r=m/\m<ws.length)
theorem Ap{M:List (Int × Int)}{f:Nat->Nat}(hM:∀a t,ic M a=some t->∃n:Nat,t=(n:Int)/\n<2048/\∃m:Nat,a=(m:Int)/\m<ws.length)(hl:∀i (u:i<l.length),l[i]=(f i:Int))(hf:∀i,i<l.length->f i<ws.length)(u:∀i j,i<j->j<l.length->f i<f j):∀k,k<=l.length->∀o,dm ws M (l.take k)=some o ->
 (∀e∈o,∃i,i<k/\e.a=(f i:Int)/\wd ws (f i)≠e.v/\e.v<2048)/\o.Pairwise (λa b=>a.a<b.a)/\(∀i,i<k->Ds ws (ak ws o) M (f i)):=by
 intro k
 induction k with
 | zero =>intro _ o h;simp only[List.take_zero,dm,Option.some.injEq] at h;subst h;exact⟨λe g=>(by cases g),List.Pairwise.nil,λi h=>absurd h (by omega)⟩
 | succ k ih =>
  intro hk o h;have c:k<l.length:=by omega
  cases A:dm ws M (l.take k) with
  | none =>rw[kqp c,jm,A] at h;cases h
  | some o1 =>
  rw[lH c A,hl k c,kqj] at h;obtain⟨x,J,I⟩:=ih (by omega) o1 A;have q:wd (ak ws o1) (f k)=wd ws (f k):=aU o1 ws _ λe g=>by
   obtain⟨i,K,O,-⟩:=x e g;have:=u i k K c;rw[O];omega
  have p:Ds ws (ak ws o1) M (f k)->(∀e∈o1,∃i,i<k+1/\e.a=(f i:Int)/\wd ws (f i)≠e.v/\e.v<2048)/\o1.Pairwise (λa b=>a.a<b.a)/\(∀i,i<k+1->Ds ws (ak ws o1) M (f i)):=by
   intro N;refine⟨λe g=>?_,J,λi u=>?_⟩
   .obtain ⟨i,G,w,D,B⟩:=x e g;exact⟨i,by omega,w,D,B⟩
   rcases kq6 i k with d|d
   .exact I i d
   have:i=k:=by omega
   subst this;exact N
  unfold fR at h;by_cases y:wd ws (f k)=0
  .rw[if_pos y] at h;simp only[kzy,Option.some.injEq,kzs] at h;subst h;exact p (.inl ⟨y,by rw[q,y]⟩)
  rw[if_neg y] at h;cases r:gn M (wd ws (f k)) with
  | none=>rw[r] at h;cases h
  | some t =>
   rw[r] at h;have C:ic M (wd ws (f k):Int)=some t:=by
    unfold gn at r;split at r
    .cases r
    exact r
   obtain⟨n,rfl,E,m,em,s⟩:=hM _ _ C;dsimp only at h;by_cases g:(wd ws (f k):Int)=(n:Int)
   .rw[if_pos g] at h;simp only[kzy,Option.some.injEq,kzs] at h;subst h;exact p (.inr ⟨by omega,n,m,C,by rw[q];omega,E,by omega,s⟩)
   rw[if_neg g] at h;simp only[kzy,Option.some.injEq] at h;subst h;rw[kqj];have z:f k<(ak ws o1).length:=by rw[ax];exact hf k c
   refine⟨λe F=>?_,?_,λi hi2=>?_⟩
   .rcases kz0.1 F with d|d
    .obtain ⟨i,G,w,D,B⟩:=x e d;exact⟨i,by omega,w,D,B⟩
    simp only[kq1] at d;subst d;exact⟨k,by omega,rfl,by dsimp only;omega,E⟩
   .rw[kvj];refine⟨J,by simp,λa L b H=>?_⟩;simp only[kq1] at H;subst H;obtain⟨i,G,w,-⟩:=x a L;have:=u i k G c;rw[w];dsimp only;omega
   unfold Ds;rw[eK,CF z];rcases kq6 i k with d|d
   .have:=u i k d c;rw[if_neg (by omega)];exact I i d
   have:i=k:=by omega
   subst this;rw[if_pos rfl];exact .inr ⟨by omega,n,m,C,rfl,E,by omega,s⟩
theorem gN(h:dA ws a=0):∃f:Nat->Nat,(256<=ws.length/\ws.length<=2048)/\bh ws 128 128=0/\oH ws a=0/\(bU ws a).length<=8/\(cD ws a).length<=8 /\
 (∀i (c:i<(bU ws a).length),(bU ws a)[i]=(f i:Int)/\a<=(f i:Int)/\f i<ws.length/\Ds ws (ak ws (cD ws a)) (iB ws 128 128) (f i)) /\
 (∀j,(∀i,i<(bU ws a).length->f i≠j)->wd (ak ws (cD ws a)) j=wd ws j) /\
 (∀e∈cD ws a,∃r:Nat,e.a=(r:Int)/\r<ws.length/\wd ws r≠e.v/\e.v<2048)/\(cD ws a).Pairwise (λa b=>a.a<b.a):=by
 have q:cu ws=0:=by
  by_cases w:cu ws=0
  .exact w
  rw[(vj rfl w).1] at h;exact absurd h w
 obtain⟨z,U,W⟩:=dF q;cases l:jW (aQ ws 128) a with
 | none=>rw[(rf q l).1] at h;cases h
 | some b =>
  cases k:b.mark with
  | false=>rw[(qK q l k).1] at h;cases h
  | true =>
   cases A:dm ws (eW ws) (fj ws b) with
   | none=>rw[(uS q l k A).1] at h;cases h
   | some o =>
    have V:=(ym q l k A).2;have S:bU ws a=fj ws b:=by simp[bU,z,l]
    have ee:oH ws a=0:=by simp[oH,z,dU,l]
    obtain⟨m,t,xs,xk,xm,xn,O,eb,ht8,hobj,hmlt,D,d⟩:=oe z l;have hbd:=gX ws (aA z).1;have hp:(fj ws b).Pairwise (· < ·):=zb _ _ _;have E:=kzd.1 hp;have g:∀i (c:i<(fj ws b).length),(fj ws b)[i]=((((fj ws b)[i]?.getD 0).toNat:Nat):Int):=λi c=>by
     obtain⟨r,B,-,-⟩:=d i c;rw[kql c,kq8,B,kqj]
    have hlo:=nC A;have H:=λx y (J:ic (eW ws) x=some y)=>ER q J;have P:∀x y,ic (eW ws) x=some y->∃n:Nat,y=(n:Int)/\n<2048/\∃m:Nat,x=(m:Int)/\m<ws.length:=λx y J=>by
     obtain⟨n,N,-,-,L,m,M,-,Y⟩:=H x y J;exact⟨n,N,L,m,M,Y⟩
    have p:∀i,i<(fj ws b).length->((fj ws b)[i]?.getD 0).toNat<ws.length:=λi c=>by
     obtain⟨r,B,-,T⟩:=d i c;rw[kql c,kq8,B,kqj];exact T
    have s:∀i j,i<j->j<(fj ws b).length->((fj ws b)[i]?.getD 0).toNat<((fj ws b)[j]?.getD 0).toNat:=λi j F u=>by
     have w:=E i j (by omega) u F;have h2:=g i (by omega);have h3:=g j u;omega
    obtain⟨K,X,R⟩:=Ap P g p s _ (kqa _) o (by rw[kzl];exact A);rw[V,S];rw[<-W];refine⟨λi=>((fj ws b)[i]?.getD 0).toNat,by omega,U,ee,D,by omega,λi c=>⟨g i c,?_,p i c,R i c⟩,λj u=>?_,λe G=>?_,X⟩
    .obtain ⟨r,B,e2,-⟩:=d i c;have:=g i c;rw[O];show (m:Int)<=((((fj ws b)[i]?.getD 0).toNat:Nat):Int);omega
    .refine aU o ws j λe G=>?_;obtain⟨i,I,C,-⟩:=K e G;have:=u i I;dsimp only at this;rw[C];omega
    obtain⟨i,I,C,Z,Q⟩:=K e G;exact⟨_,C,p i I,Z,Q⟩
end Go.Proofs.YtpcajamacpbjcaaGreat
