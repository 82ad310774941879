/- Texts laid together: FixP Fix Fix2 Fix3 Fix4 FxSP FxOP. -/
import Derived.Test.YtpcajamacpbjcaaGreatZKRch
import Derived.Test.YtpcajamacpbjcaaGreatZKMove
import Derived.Test.YtpcajamacpbjcaaGreatZKHeap
set_option maxHeartbeats 16000000
set_option maxRecDepth 100000
set_option linter.all false
namespace Go.Proofs.YtpcajamacpbjcaaGreat
open Lib (hid)
variable {b:Bk}{a r:Int}{o:List En}{l:List Int}{ws:List Nat}{g j k p:Nat}
open Go.Proofs.Tryz
def cg (ws:List Nat):Int:=if ah ws=0 then aW ws 128 128 else ah ws
def eT (ws:List Nat):List (Int × Int):=if cg ws=0 then ia ws 128 128 else []
theorem dQ(h:cg ws=0):ah ws=0/\aW ws 128 128=0/\eT ws=ia ws 128 128:=by
 have a:ah ws=0/\aW ws 128 128=0:=by
  unfold cg at h;split at h
  .rename_i a;exact⟨a,h⟩
  rename_i a;exact absurd h a
 exact⟨a.1,a.2,by simp[eT,h]⟩
theorem pN:∀ {l:List (Int × Int)} {a t:Int},gM l a=some t->(a,t)∈l:=by
 intro l
 induction l with
 | nil=>intro a t h;cases h
 | cons m l ih =>
  intro a t h;simp only[gM] at h;split at h
  .rename_i e;injection h with h;rw[<-e,<-h];simp
  exact kx2 _ (ih h)
theorem Cr(h:cg ws=0){t:Int}(ht:gM (eT ws) a=some t):∃n:Nat,t=(n:Int)/\128<=n/\n<ws.length/\n<2048/\∃m:Nat,a=(m:Int)/\128<=m/\m<ws.length:=by
 obtain⟨h1,k,u⟩:=dQ h;rw[u] at ht;obtain⟨p,e⟩:=kjt.1 (pN ht);have c:=(kq7.1 e).1;obtain⟨m,n,i,s,g3,-,-,-⟩:=vz k c;obtain⟨y,i2,l,r,i4,w⟩:=bQ k;have hb:=mr y;have d:blocks ws 128=some l:=r;have g:=nY (ws:=ws) (by omega) d (by omega) (by omega) (by omega);have b:(128:Int)<=nB l:=by
  unfold nB;split
  .omega
  rename_i hl;obtain⟨a0,v,-,e1,-⟩:=b9 _ _ d (by omega) 0 (by omega);rw[bM l 0 (by omega),v,ab];omega
 obtain⟨z,x,q⟩:=uT g b;rw[e] at i;injection i with i;injection i with g4 g5;rw[w] at c e;have e:=(kq7.1 e).2;have f:=(z p c).1;rw[e] at f;have hge:(128:Int)<=t:=by
  rcases kjr p with j|j
  .subst j;have:=q c;rw[e] at this;dsimp only at this;omega
  have o:=(x 0 p c j).1;have h6:=q (by omega);rw[e] at o;dsimp only at o;omega
 dsimp only at f;exact⟨n,g5,by omega,by omega,by omega,m,g4,s,by omega⟩
def gn (m:List (Int × Int)) (v:Nat):Option Int:=if 2048<v then none else gM m (v:Int)
def jS (l:List Bk) (a:Int):Option Bk:=l.find? λb=>b.at_==a&&b.kind==1
def qV (l:List Bk) (a:Int) (k:Nat):Prop:=∀j,j<k->((gk l j).at_==a&&(gk l j).kind==1)=false
theorem wB(l:List Bk)(a:Int):qV l a 0:=λj h=>absurd h (by omega)
theorem vk{l:List Bk}(h:qV l a k)(h2:((gk l k).at_==a&&(gk l k).kind==1)=false):qV l a (k+1):=λj hj=>by
 rcases kq6 j k with b|b
 .exact h j b
 .have:j=k:=by omega
  subst this;exact h2
theorem y7:∀ {l:List Bk} {a:Int},qV l a l.length->jS l a=none:=by
 intro l
 induction l with
 | nil=>intro a _;rfl
 | cons b l ih =>intro a h;have c:(b.at_==a&&b.kind==1)=false:=h 0 (by simp);unfold jS;rw[List.find?_cons,c];exact ih λj d=>by have:=h (j+1) (by simpa using d);rwa [ix] at this
theorem Fw:∀ {l:List Bk} {a:Int} {k:Nat},k<l.length->qV l a k->((gk l k).at_==a&&(gk l k).kind==1)=true->jS l a=some (gk l k):=by
 intro l
 induction l with
 | nil=>intro a k h;simp at h
 | cons b l ih =>
  intro a k d h c;cases k with
  | zero =>rw[ns] at c |-;unfold jS;rw[List.find?_cons,c]
  | succ k =>have e:(b.at_==a&&b.kind==1)=false:=h 0 (by omega);unfold jS;rw[List.find?_cons,e];rw[ix] at c |-;exact ih (by simpa using d) (λj hj=>by have:=h (j+1) (by omega);rwa [ix] at this) c
def wT (ws:List Nat) (a:Int):Bk:=(jS (aJ ws 128) a).getD nE
def dG (ws:List Nat) (a:Int):Int:=if (jS (aJ ws 128) a).isSome then 0 else 6
theorem jk{l:List Bk}(h:jS l a=some b):b∈l/\b.at_=a/\b.kind=1:=by unfold jS at h;have c:=List.find?_some h;simp only[kqo,kqw] at c;exact⟨List.mem_of_find?_eq_some h,c.1,c.2⟩
def ry (F:List Nat) (a:Int) (j:Nat):List Int:=(List.range j).filterMap λ(i:Nat)=>if F[i]? = some 3 then some (a+2+(i:Int)) else none
theorem rb(F:List Nat)(a:Int)(j:Nat):ry F a (j+1)=ry F a j++(if F[j]? = some 3 then [a+2+(j:Int)] else []):=by unfold ry;rw[kva,kk2];congr 1;simp only[kvb,kvl];split<;>simp_all
theorem uI(F:List Nat)(a:Int)(j:Nat):(ry F a j).length<=j:=by unfold ry;have:=kkl (λ(i:Nat)=>if F[i]? = some 3 then some (a+2+(i:Int)) else none) (List.range j);rwa [kkx] at this
theorem kt{F:List Nat}{x:Int}:x∈ry F a j↔∃i,i<j/\F[i]? = some 3/\x=a+2+(i:Int):=by
 unfold ry;rw[kjs];constructor
 .rintro ⟨i,c,b⟩;split at b
  .rename_i d;injection b with b;exact⟨i,kzn.1 c,d,b.symm⟩
  cases b
 rintro ⟨i,c,b,d⟩;exact⟨i,kzn.2 c,by rw[if_pos b,d]⟩
def t4 (ws:List Nat) (b:Bk):List Nat:=bB (wd ws (tyA b)) (wd ws (tyA b+1))
def fv (ws:List Nat) (b:Bk):List Int:=ry (t4 ws b) b.at_ (t4 ws b).length
theorem zx(h:ah ws=0)(ho:jS (aJ ws 128) a=some b):∃m:Nat,a=(m:Int)/\b=bkAt ws m/\fT ws m:=by obtain⟨c,f,g⟩:=jk ho;rw[(ga h).2.1] at c;obtain⟨k,e,rfl⟩:=kq2 c;obtain⟨m,d,i⟩:=oh h e g;exact⟨m,by rw[<-f,d];rfl,d,i⟩
def fI (ws:List Nat) (m:List (Int × Int)) (r:Nat):Option (List En):=if wd ws r=0 then some [] else match gn m (wd ws r) with
 | none=>none
 | some t=>if (wd ws r:Int)=t then some [] else some [⟨(r:Int),t.toNat⟩]
def cX (ws:List Nat) (m:List (Int × Int)):List Int->Option (List En)
 | []=>some []
 | r::l=>match fI ws m r.toNat with
  | none=>none
  | some x=>(cX ws m l).map (x ++ ·)
theorem jg(ws:List Nat)(m:List (Int × Int))(a b:List Int):cX ws m (a++b)=match cX ws m a with
 | none=>none
 | some x=>(cX ws m b).map (x ++ ·):=by
 induction a with
 | nil=>simp[cX]
 | cons r a ih =>
  simp only[kzg,cX];cases fI ws m r.toNat with
  | none=>rfl
  | some x =>
   rw[ih];cases cX ws m a with
   | none=>rfl
   | some y =>
    cases cX ws m b with
    | none=>rfl
    | some z=>simp
theorem lI{m:List (Int × Int)}(hk:k<l.length)(h:cX ws m (l.take k)=some o):cX ws m (l.take (k+1))=(fI ws m l[k].toNat).map (o ++ ·):=by rw[kqn hk,jg,h];simp only[cX];cases fI ws m l[k].toNat<;>simp
theorem AI{m:List (Int × Int)}(hk:k<l.length)(h:cX ws m (l.take k)=some o)(h2:fI ws m l[k].toNat=none):cX ws m l=none:=by
 conv=>lhs;rw[<-kz9 (k+1) l]
 rw[jg,lI hk h,h2];rfl
theorem rh{m:List (Int × Int)}:∀ {l:List Int} {o:List En},cX ws m l=some o->o.length<=l.length:=by
 intro l
 induction l with
 | nil=>intro o h;simp only[cX,Option.some.injEq] at h;subst h;simp
 | cons r l ih =>
  intro o h;simp only[cX] at h;cases a:fI ws m r.toNat with
  | none=>rw[a] at h;cases h
  | some x =>
   rw[a] at h;cases b:cX ws m l with
   | none=>rw[b] at h;cases h
   | some y =>
    rw[b] at h;simp only[kzt,Option.some.injEq] at h;subst h;have h1:=ih b;have h2:x.length<=1:=by
     unfold fI at a;split at a
     .injection a with a;subst a;simp
     split at a
     .cases a
     split at a<;>(injection a with a;subst a;simp)
    rw[kqs,kq1];omega
def dp (ws:List Nat) (a:Int):Int:=if cg ws=0 then (match jS (aJ ws 128) a with
 | none=>6
 | some b=>if b.mark=true then (match cX ws (eT ws) (fv ws b) with | none=>50 | some _=>0) else 6) else cg ws
def cr (ws:List Nat) (a:Int):List En:=if cg ws=0 then (match jS (aJ ws 128) a with
 | none=>[]
 | some b=>if b.mark=true then (cX ws (eT ws) (fv ws b)).getD [] else []) else []
theorem xP(h:cg ws=r)(h0:r≠0):dp ws a=r/\cr ws a=[]:=by subst h;simp[dp,cr,h0]
theorem sA(h:cg ws=0)(h1:jS (aJ ws 128) a=none):dp ws a=6/\cr ws a=[]:=by simp[dp,cr,h,h1]
theorem rU(h:cg ws=0)(h1:jS (aJ ws 128) a=some b)(h2:b.mark=false):dp ws a=6/\cr ws a=[]:=by simp[dp,cr,h,h1,h2]
theorem zr(h:cg ws=0)(h1:jS (aJ ws 128) a=some b)(h2:b.mark=true)(h3:cX ws (eT ws) (fv ws b)=none):dp ws a=50/\cr ws a=[]:=by simp[dp,cr,h,h1,h2,h3]
theorem AK(h:cg ws=0)(h1:jS (aJ ws 128) a=some b)(h2:b.mark=true)(h3:cX ws (eT ws) (fv ws b)=some o):dp ws a=0/\cr ws a=o:=by simp[dp,cr,h,h1,h2,h3]
def nO (ws:List Nat) (a:Int):Int:=if ah ws=0 then dG ws a else ah ws
def bH (ws:List Nat) (a:Int):List Int:=if ah ws=0 then (match jS (aJ ws 128) a with | none=>[] | some b=>fv ws b) else []
def nH (s:Sl):Nat:=s.at_.toNat+s.gen.toNat*4294967296+(if s.used=true then 9223372036854775808 else 0)
def gy (ws:List Nat) (m:List (Int × Int)) (i:Nat):Option (List En):=if (slAt ws i).used=true then (match gn m (slAt ws i).at_.toNat with
 | none=>none
 | some t=>if wd ws (112+i)=nH ⟨(slAt ws i).gen,true,t⟩ then some [] else some [⟨((112+i:Nat):Int),nH ⟨(slAt ws i).gen,true,t⟩⟩]) else some []
def slFix (ws:List Nat) (m:List (Int × Int)):Nat->Option (List En)
 | 0=>some []
 | k+1=>match slFix ws m k with
  | none=>none
  | some o=>(gy ws m k).map (o ++ ·)
theorem wK{m:List (Int × Int)}(h:slFix ws m k=none):∀ {n:Nat},k<=n->slFix ws m n=none:=by
 intro n
 induction n with
 | zero =>
  intro b;have:k=0:=by omega
  subst this;exact h
 | succ n ih =>
  intro b;rcases kq6 n k with a|a
  .have:k=n+1:=by omega
   subst this;exact h
  simp only[slFix,ih a]
theorem qB{m:List (Int × Int)}:∀ {k:Nat} {o:List En},slFix ws m k=some o->o.length<=k:=by
 intro k
 induction k with
 | zero=>intro o h;simp only[slFix,Option.some.injEq] at h;subst h;simp
 | succ k ih =>
  intro o h;simp only[slFix] at h;cases b:slFix ws m k with
  | none=>rw[b] at h;cases h
  | some x =>
   rw[b] at h;cases a:gy ws m k with
   | none=>rw[a] at h;cases h
   | some y =>
    rw[a] at h;simp only[kzt,Option.some.injEq] at h;subst h;have h1:=ih b;have h2:y.length<=1:=by
     unfold gy at a;split at a
     .split at a
      .cases a
      split at a<;>(injection a with a;subst a;simp)
     injection a with a;subst a;simp
    rw[kqs];omega
def ei (ws:List Nat):Int:=if cg ws=0 then (if slsOk ws=true then (match slFix ws (eT ws) 16 with | none=>50 | some _=>0) else 50) else cg ws
def dK (ws:List Nat):List En:=if ei ws=0 then (slFix ws (eT ws) 16).getD [] else []
open Go.RowKit
theorem AB(A:Option Addr)(m:List (Int × Int))(c n v:Nat)(w:World)(hn:m.length=n)(hm:n<=1000000)(hv:v<18446744073709551616)(hr:RdM w w.heap.size A m):
 Calls prog 256 #[.slice A n c,.int .u64 (v:Int)] w λe w'=>e=.returned (.tuple #[.int .i64 ((gn m v).getD 0),.bool (gn m v).isSome])/\Below w.heap.size w w':=by
 have i:=hid (λa=>fwTo_c A m c n w.heap.size a w hn hm hr (kqa _));by_cases h:2048<v
 .have H:Hid (gn m v=none):=hid (by simp[gn,h]);have j:decide ((2048:Int)<(v:Int))=true:=by rw[kq0];omega
  have d:decide (2048<v)=true:=by rw[kq0];exact h
  clear hv hr hn hm h;go_enter func256,ntmps256;go_wp2;go_ret2;exact⟨by rw[H.out];rfl,kqk _ _⟩
 have H:Hid (gn m v=gM m (v:Int)):=hid (by simp[gn,h]);have j:decide ((2048:Int)<(v:Int))=false:=by rw[kqh];omega
 have d:decide (2048<v)=false:=by rw[kqh];exact h
 have hw:IntKind.i64.wrap (v:Int)=(v:Int):=kqv _ (by omega);have b:=hid (i.out (v:Int));rw[<-H.out] at b;obtain⟨q,g⟩:=xq (gn m v);rw[g] at b |-;clear hv hr hn hm h g i H;go_enter func256,ntmps256;go_wp2_with fail;refine b.out.mono ?_;rintro e w1 ⟨rfl,f⟩;go_wp2;go_ret2;exact⟨rfl,f⟩
def Fz (ws:List Nat) (e:Ending) (w':World):Prop:=∃A c,e=.returned (.tuple #[.slice A (eT ws).length c,.int .i64 (cg ws)])/\RdM w' w'.heap.size A (eT ws)/\(eT ws).length<=c
theorem uN(A:Option Addr)(ws:List Nat)(c n:Nat)(w:World)(hn:ws.length=n)(hm:n<=9223372036854775807)(f:RdW w w.heap.size A ws)(ho:∀x∈ws,x<18446744073709551616):
 Calls prog 255 #[.slice A n c] w λe w'=>Fz ws e w'/\Below w.heap.size w w':=by
 have z:=hid f;have d:=hid (my A ws c n w hn hm f ho);have l:=hid (λW (h:RdW W W.heap.size A ws)=>pE A ws c n 128 128 W hn hm (by omega) (by omega) h ho);unfold vT at l;clear f ho hn hm;by_cases g:ah ws=0
 .have b:Hid (cg ws=aW ws 128 128/\eT ws=ia ws 128 128):=hid (by
   have o:cg ws=aW ws 128 128:=by simp[cg,g]
   refine⟨o,?_⟩;unfold eT;rw[o];split
   .rfl
   rename_i h2;simp[ia,h2])
  rw[g] at d;clear g;go_enter func255,ntmps255;go_wp2_with fail;refine d.out.mono ?_;rintro e y ⟨rfl,a⟩;have k:=hid a;have t:=hid (z.out.up a a.size);clear a;go_wp2_with fail;refine (l.out _ t.out).mono ?_;rintro e w2 ⟨⟨u,v,rfl,m,i⟩,j⟩;have q:=hid (k.out.trans (j.mono k.out.size));have s:=hid m;have p:=hid i;clear j m i;go_wp2;go_ret2;exact⟨⟨u,v,by rw[b.out.1,b.out.2];rfl,by rw[b.out.2];exact s.out,by rw[b.out.2];exact p.out⟩,q.out⟩
 obtain⟨r,f⟩:=xq (ah ws);have b:Hid (cg ws=r/\eT ws=[]):=hid (by
  have o:cg ws=r:=by unfold cg;rw[if_neg g,f]
  exact⟨o,by unfold eT;rw[o,if_neg (by rw[<-f];exact g)]⟩)
 rw[f] at d g;have hrn:(r != 0)=true:=by rw[kqu];exact g
 clear g f;go_enter func255,ntmps255;go_wp2_with fail;refine d.out.mono ?_;rintro e y ⟨rfl,a⟩;go_wp2;go_ret2;exact⟨⟨none,0,by rw[b.out.1,b.out.2];rfl,by rw[b.out.2];exact Rd.nil_,by rw[b.out.2];exact kqa _⟩,a⟩
theorem Gi{a:Nat}(ha:a<4294967296)(hg:g<2147483648):bits BinOp.or .u64 (a:Int) ((g:Int)*4294967296)=((a+g*4294967296:Nat):Int) /\
 bits BinOp.or .u64 ((a+g*4294967296:Nat):Int) 9223372036854775808=((a+g*4294967296+9223372036854775808:Nat):Int):=by
 refine⟨or32 ha (by omega),?_⟩;have h:=u64_or_nat (a+g*4294967296) 9223372036854775808 (by omega) (by omega);have e:(a+g*4294967296) ||| 9223372036854775808=a+g*4294967296+9223372036854775808:=by rw[show (9223372036854775808:Nat)=1*2 ^ 63 by decide,j9 (i:=63) (by omega)]
 rw[e] at h;exact h
theorem yw{a q:Nat}(hp:a+g*4294967296=p)(hq:p+9223372036854775808=q):nH ⟨(g:Int),true,(a:Int)⟩=q:=by unfold nH;dsimp only;rw[kqi,kqi,if_pos rfl,hp,hq]
theorem vY{a:Nat}(hp:a+g*4294967296=p):nH ⟨(g:Int),false,(a:Int)⟩=p:=by unfold nH;dsimp only;rw[kqi,kqi,if_neg (by simp),hp,kz8]
theorem CB(g a p:Nat)(w:World)(hg:g<2147483648)(ha:a<4294967296)(o1:bits BinOp.or .u64 (a:Int) ((g:Int)*4294967296)=(p:Int)):
 Calls prog 285 #[.agg #[.int .i64 (g:Int),.bool false,.int .i64 (a:Int)]] w λe w'=>e=.returned (.int .u64 (p:Int))/\Below w.heap.size w w':=by have hw1:IntKind.u64.wrap (a:Int)=(a:Int):=kz0 _ (by omega);have hw2:IntKind.u64.wrap (g:Int)=(g:Int):=kz0 _ (by omega);have hw3:IntKind.u64.wrap ((g:Int)*4294967296)=(g:Int)*4294967296:=kz0 _ (by omega);have b:=hid ((kqk w.heap.size w).alloc (kqa _) (.cells #[.int .i64 (g:Int),.bool false,.int .i64 (a:Int)] 52));clear ha hg;go_enter func285,ntmps285;go_wp2;go_ret;exact⟨rfl,b.out⟩
theorem B9(g a p q:Nat)(w:World)(hg:g<2147483648)(ha:a<4294967296)(o1:bits BinOp.or .u64 (a:Int) ((g:Int)*4294967296)=(p:Int))(o2:bits BinOp.or .u64 (p:Int) 9223372036854775808=(q:Int)):
 Calls prog 285 #[.agg #[.int .i64 (g:Int),.bool true,.int .i64 (a:Int)]] w λe w'=>e=.returned (.int .u64 (q:Int))/\Below w.heap.size w w':=by have hw1:IntKind.u64.wrap (a:Int)=(a:Int):=kz0 _ (by omega);have hw2:IntKind.u64.wrap (g:Int)=(g:Int):=kz0 _ (by omega);have hw3:IntKind.u64.wrap ((g:Int)*4294967296)=(g:Int)*4294967296:=kz0 _ (by omega);have b:=hid ((kqk w.heap.size w).alloc (kqa _) (.cells #[.int .i64 (g:Int),.bool true,.int .i64 (a:Int)] 52));clear ha hg;go_enter func285,ntmps285;go_wp2;go_ret;exact⟨rfl,b.out⟩
theorem Gb(g a:Nat)(u:Bool)(w:World)(hg:g<2147483648)(ha:a<4294967296):
 Calls prog 285 #[.agg #[.int .i64 (g:Int),.bool u,.int .i64 (a:Int)]] w λe w'=>e=.returned (.int .u64 (nH ⟨(g:Int),u,(a:Int)⟩:Nat))/\Below w.heap.size w w':=by
 obtain⟨d,b⟩:=Gi ha hg;obtain⟨p,c⟩:=xq (a+g*4294967296);rw[c] at d b;obtain⟨q,f⟩:=xq (p+9223372036854775808);rw[f] at b;cases u
 .rw[vY c];exact CB g a p w hg ha d
 rw[yw c f];exact B9 g a p q w hg ha d b
theorem F4(g a:Nat)(u:Bool)(w:World)(hg:g<2147483648)(ha:a<4294967296)(hok:nJ ⟨(g:Int),u,(a:Int)⟩=true):
 Calls prog 257 #[.agg #[.int .i64 (g:Int),.bool u,.int .i64 (a:Int)]] w λe w'=>e=.returned (.tuple #[.int .u64 (nH ⟨(g:Int),u,(a:Int)⟩:Nat),.int .i64 0])/\Below w.heap.size w w':=by have d:=hid (λW=>uO (g:Int) u (a:Int) W (by omega) (by omega));rw[hok] at d;have f:=hid (λW=>Gb g a u W hg ha);have m:=Bx.new w 52 #[.int .i64 (g:Int),.bool u,.int .i64 (a:Int)];have l:=hid m;have j:=hid ((kqk w.heap.size w).alloc (kqa _) (.cells #[.int .i64 (g:Int),.bool u,.int .i64 (a:Int)] 52));obtain⟨V,k⟩:∃V,nH ⟨(g:Int),u,(a:Int)⟩=V:=⟨_,rfl⟩;rw[k] at f |-;clear m k hok hg ha;go_enter func257,ntmps257;go_wp2_with fail;refine (d.out _).mono ?_;rintro e w1 ⟨rfl,b⟩;have h:=l.out.up b l.out.lt;obtain⟨p0,p1,p2,-⟩:=h.c3;have c:=hid (j.out.trans (b.mono j.out.size));clear b h;go_wp2_with fail;refine (f.out _).mono ?_;rintro e w2 ⟨rfl,i⟩;go_wp2;go_ret2;exact⟨rfl,c.out.trans (i.mono c.out.size)⟩
theorem z6(A:Option Addr)(ws:List Nat)(c n:Nat)(a:Int)(w:World)(hn:ws.length=n)(hm:n<=9223372036854775807)(hr:RdW w w.heap.size A ws)(ho:∀x∈ws,x<18446744073709551616):
 Calls prog 258 #[.slice A n c,.int .i64 a] w λe w'=>e=.returned (.tuple #[(wT ws a).val,.int .i64 (dG ws a)])/\Below w.heap.size w w':=by
 have j:=hid (lR A ws c n 128 (w.alloc (.cells #[.int .i64 0,.int .i64 0,.int .i64 0,.int .i64 0,.bool false,.int .u64 0] 55)) hn hm ((hr.alloc (kqa _) _).more (by simp)) ho);unfold pp at j;rw[kqm] at j;have P:=iq ws 128;have HN:Hid (qV (aJ ws 128) a (aJ ws 128).length->wT ws a=nE/\dG ws a=6):=hid λh=>by simp[wT,dG,y7 h]
 have HY:Hid (∀k,k<(aJ ws 128).length->qV (aJ ws 128) a k->((gk (aJ ws 128) k).at_==a&&(gk (aJ ws 128) k).kind==1)=true->wT ws a=gk (aJ ws 128) k/\dG ws a=0):=hid λk h1 h2 h3=>by simp[wT,dG,Fw h1 h2 h3]
 obtain⟨l,X⟩:=xq (aJ ws 128);obtain⟨r,S⟩:=xq (bJ ws 128);rw[X,S] at j;rw[X] at P HN HY;have L:=oX;clear X S hr ho hn hm;go_enter func258,ntmps258;go_wp2_with fail;refine j.out.mono ?_;rintro e w1 ⟨⟨A1,c1,rfl,H,-⟩,D⟩;have F:=ax D;have J:=F.size;have b0:=hid (Bx.of_new D);have G:=b0.out.lt;have W:=hid H;have Q:=hid F;clear H D F;go_wp2_with fail;go_loopw [17] (λi wr=>∃k:Nat,k<=l.length/\i=.int .i64 k/\Hid (qV l a k)/\Below w1.heap.size w1 wr) (λi _=>l.length-(intOf i).toNat)
 case atStart=>exact⟨0,kqy _,rfl,wB l a,kqk _ _⟩
 obtain⟨k,hk,rfl,s,u⟩:=hrel;have Y:=u.size;have E:=hid (b0.out.up u G);by_cases t:k<l.length
 .obtain ⟨b,off,rfl,hbw,q0,q1,q2,q3,q4,Z⟩:=RdB.at_ (W.out.below u) t;have g:=hid (λh=>vk s.out h);have f:=hid (λh=>HY.out k t s.out h);rw[bM l k t] at g f;obtain⟨x,hx⟩:=xq (l[k]);rw[hx] at q0 q1 q2 q3 q4 Z g f;obtain⟨m,xs,p,C,y,q⟩:=x;dsimp only at q0 q1 q2 q3 q4 Z g;have hlm:(k:Int)<(l.length:Int):=by omega
  clear hx;obtain⟨d1,e1⟩:=xq ((m==a));obtain⟨d2,e2⟩:=xq ((p==1));dsimp only at f;rw[e1,e2] at g f;cases d1
  .have z:=hid (g.out rfl);clear g f e2;go_wp2;go_roundw
   case rel=>exact⟨k+1,by omega,by go_num,z.out,u.alloc Y _⟩
   case measure=>simp[intOf];omega
  cases d2
  .have z:=hid (g.out rfl);clear g f;go_wp2;go_roundw
   case rel=>exact⟨k+1,by omega,by go_num,z.out,u.alloc Y _⟩
   case measure=>simp[intOf];omega
  have R:=hid (f.out rfl);have o:=hid (Bx.new wr 55 #[.int .i64 m,.int .i64 xs,.int .i64 p,.int .i64 C,.bool y,.int .u64 (q:Int)]);have O:=hid (u.alloc Y (.cells #[.int .i64 m,.int .i64 xs,.int .i64 p,.int .i64 C,.bool y,.int .u64 (q:Int)] 55));have I:=hid (E.out.alloc (.cells #[.int .i64 m,.int .i64 xs,.int .i64 p,.int .i64 C,.bool y,.int .u64 (q:Int)] 55));clear g f;go_upto_region 6 with (fail);obtain⟨wn,K⟩:∃wn,wr.alloc (.cells #[.int .i64 m,.int .i64 xs,.int .i64 p,.int .i64 C,.bool y,.int .u64 (q:Int)] 55)=wn:=⟨_,rfl⟩;rw[K] at o I O |-;clear K;go_wp2_with (first
   | ((with_reducible refine aH 55 (.tmp 9) ?_);refine kxc rfl _ _ rfl wr.heap.size (by rfl) 55 #[.int .i64 m,.int .i64 xs,.int .i64 p,.int .i64 C,.bool y,.int .u64 (q:Int)] (0,0) _ o.out underlying55 (by rfl) L ?_)
   | ((with_reducible refine aq 55 (.tmp 4) _ ?_);refine ai rfl _ _ _ rfl w.heap.size 55 #[.int .i64 0,.int .i64 0,.int .i64 0,.int .i64 0,.bool false,.int .u64 0] #[.int .i64 m,.int .i64 xs,.int .i64 p,.int .i64 C,.bool y,.int .u64 (q:Int)] (by rfl) (by rfl) I.out rfl L (oP _ _ _ _ _ _) ?_;intro w3 M N;have U:=hid M;have V:=hid N;clear M N))
  exact kqr (v:=.tuple #[.agg #[.int .i64 m,.int .i64 xs,.int .i64 p,.int .i64 C,.bool y,.int .u64 (q:Int)],.int .i64 0]) (bP results258 _ U.out rfl rfl) rfl ⟨by rw[R.out.1,R.out.2];rfl,V.out.below (Q.out.trans (O.out.mono J)) (kqa _)⟩
 have R:=hid (HN.out (by have:=s.out;rwa [show k=l.length by omega] at this));have T:=hid (Q.out.trans (u.mono J));obtain⟨x0,x1,x2,x3,x4,x5,B,hgl⟩:=E.out.c6;have f0:=B 0;have f1:=B 1;have f2:=B 2;have f3:=B 3;have f4:=B 4;have f5:=B 5;clear B;go_wp2_with fail;exact kqr (v:=.tuple #[.agg #[.int .i64 0,.int .i64 0,.int .i64 0,.int .i64 0,.bool false,.int .u64 0],.int .i64 6]) (bP results258 _ (qF E.out _ _ _ _ _ _) rfl rfl) rfl ⟨by rw[R.out.1,R.out.2];rfl,jc T.out (kqa _) _ _ _ _ _ _⟩
theorem tp(A:Option Addr)(ws:List Nat)(c n t xa:Nat)(xs xk:Int)(xm:Bool)(xn:Nat)(w:World)(hn:ws.length=n)(hm:n<=1000000)(h2:256<=n)(ht:t<8)(hxa:xa<=1000000)(hr:RdW w w.heap.size A ws)(ho:∀x∈ws,x<18446744073709551616):
 Calls prog 259 #[.slice A n c,.agg #[.int .i64 (xa:Int),.int .i64 xs,.int .i64 xk,.int .i64 (t:Int),.bool xm,.int .u64 (xn:Int)]] w λe w'=>(∃A' c',e=.returned (.slice A' (fv ws ⟨(xa:Int),xs,xk,(t:Int),xm,xn⟩).length c')/\RdI w' w'.heap.size A' (fv ws ⟨(xa:Int),xs,xk,(t:Int),xm,xn⟩)/\(fv ws ⟨(xa:Int),xs,xk,(t:Int),xm,xn⟩).length<=c')/\Below w.heap.size w w':=by
 subst hn;have hx:=gu ho (96+2*t);have hy:=gu ho (96+2*t+1);have HC:=hid (λW=>pA (wd ws (96+2*t)) (wd ws (96+2*t+1)) W hx hy);unfold D6 at HC;have E:=mx (wd ws (96+2*t)) (wd ws (96+2*t+1));have L:fv ws ⟨(xa:Int),xs,xk,(t:Int),xm,xn⟩=ry (bB (wd ws (96+2*t)) (wd ws (96+2*t+1))) (xa:Int) (bB (wd ws (96+2*t)) (wd ws (96+2*t+1))).length:=rfl;rw[L];clear L;obtain⟨b,f,rfl,hb,C⟩:=RdW.at_ hr (show 96+2*t<ws.length by omega);obtain⟨b',off',e',-,D⟩:=RdW.at_ hr (show 96+2*t+1<ws.length by omega);cases e';rw[<-d7] at C D;obtain⟨x,T⟩:=xq (wd ws (96+2*t));obtain⟨y,Eq⟩:=xq (wd ws (96+2*t+1));rw[T] at C HC E |-;rw[Eq] at D HC E |-;obtain⟨F,hF⟩:=xq (bB x y);obtain⟨r,Jd⟩:=xq (gI x y);rw[hF,Jd] at HC;rw[hF] at E |-;have Jf:=hid (λj=>rb F (xa:Int) j);have Je:=hid (λj=>uI F (xa:Int) j);have t0:(0:Int)<=(t:Int):=by omega
 have t8:(t:Int)<8:=by omega
 have w1:IntKind.i64.wrap (2*(t:Int))=2*(t:Int):=kqv _ (by omega);have w2:IntKind.i64.wrap (96+2*(t:Int))=96+2*(t:Int):=kqv _ (by omega);have w3:IntKind.i64.wrap (96+2*(t:Int)+1)=96+2*(t:Int)+1:=kqv _ (by omega);have wa:IntKind.i64.wrap ((xa:Int)+2)=(xa:Int)+2:=kqv _ (by omega);have i1:(0:Int)<=96+2*(t:Int):=by omega
 have i2:(96:Int)+2*(t:Int)<(ws.length:Int):=by omega
 have i3:(0:Int)<=96+2*(t:Int)+1:=by omega
 have i4:(96:Int)+2*(t:Int)+1<(ws.length:Int):=by omega
 have n1:((96:Int)+2*(t:Int)).toNat=96+2*t:=by omega
 have n2:((96:Int)+2*(t:Int)+1).toNat=96+2*t+1:=by omega
 have bx:=Bx.new w 55 #[.int .i64 (xa:Int),.int .i64 xs,.int .i64 xk,.int .i64 (t:Int),.bool xm,.int .u64 (xn:Int)];have o:=(kqk w.heap.size w).alloc (kqa _) (.cells #[.int .i64 (xa:Int),.int .i64 xs,.int .i64 xk,.int .i64 (t:Int),.bool xm,.int .u64 (xn:Int)] 55);replace C:=(o.cell (p:=⟨b,f+(96+2*t),none⟩) hb).trans C;replace D:=(o.cell (p:=⟨b,f+(96+2*t+1),none⟩) hb).trans D;have U:(w.alloc (.cells #[.int .i64 (xa:Int),.int .i64 xs,.int .i64 xk,.int .i64 (t:Int),.bool xm,.int .u64 (xn:Int)] 55)).heap.size=w.heap.size+1:=by simp
 obtain⟨i0,hi,P,R,K⟩:=kzw yj;have HI:=hid hi;have Jj:=hid P;have Jg:=hid R;have Ji:=hid K;clear hi P R K;clear hr hx hy T Eq ho ht hF Jd;go_enter func259,ntmps259;go_wp2_with fail;obtain⟨q,Jb⟩:∃q,w.alloc (.cells #[.int .i64 (xa:Int),.int .i64 xs,.int .i64 xk,.int .i64 (t:Int),.bool xm,.int .u64 (xn:Int)] 55)=q:=⟨_,rfl⟩;rw[Jb] at C D bx o U |-;clear Jb;have b3:q.cell? ⟨w.heap.size,3,none⟩=some (.int .i64 (t:Int)):=bx.cell 3;have Y:b<q.heap.size:=by omega
 have Z:w.heap.size<q.heap.size:=by omega
 have BX:=hid bx;have M:=hid o;clear bx o U
 go_region_held3 (λX:World=>X.cell? ⟨b,f+(96+2*t),none⟩=some (.int .u64 (x:Int))/\X.cell? ⟨b,f+(96+2*t+1),none⟩=some (.int .u64 (y:Int))/\X.cell? ⟨w.heap.size,3,none⟩=some (.int .i64 (t:Int))) (go_keep)
  (first | (go_at_call 117;refine (HC.out _).mono ?_;rintro e I ⟨⟨A1,c1,rfl,O,-⟩,l⟩;have m0:=(l.cell (p:=⟨b,f+(96+2*t),none⟩) Y).trans C;have m1:=(l.cell (p:=⟨b,f+(96+2*t+1),none⟩) Y).trans D;have m2:=(l.cell (p:=⟨w.heap.size,3,none⟩) Z).trans b3;have Jh:=hid O;have u:Below q.heap.size q I:=(kqk q.heap.size q).drew.trans l;have V:=hid (BX.out.up u Z);have Jc:=hid (M.out.trans (u.mono M.out.size));clear O l u))
 have Jk:=Jc.out.size;clear m0 m1 m2 C D b3;go_wp2_with fail;go_loopw [7,31] (λv i wr=>∃k:Nat,k<=F.length/\i=.int .i64 k/\wr.ownsRow I.heap.size 3 1 v (ry F (xa:Int) k).length ((ry F (xa:Int) k).flatMap cE)/\Below I.heap.size I wr) (λ_ i _=>F.length-(intOf i).toNat)
 case atStart=>exact⟨0,kqy _,rfl,kza _ _ _ _,kqk _ _⟩
 obtain⟨k,hk,rfl,a,H⟩:=hrel;have hz:=H.size;by_cases S:k<F.length
 .obtain ⟨bF,oF,rfl,hbF,y0⟩:=RdY.at_ (show RdY wr I.heap.size A1 F from Rd.below Jh.out H) S;have G:=V.out.up H V.out.lt;have p0:=G.cell 0;have hgr:=G.lt;have d:=hid (Jf.out k);have Jp:=Je.out k;rw[kql S] at d;obtain⟨z,Ja⟩:=xq (F[k]);obtain⟨m,N⟩:∃m,ry F (xa:Int) k=m:=⟨_,rfl⟩;rw[Ja] at y0 d;rw[N] at a d Jp;have p0':wr.cell? ⟨w.heap.size,0,none⟩=some (.int .i64 (xa:Int)):=p0;have hki:(k:Int)<(F.length:Int):=by omega
  have hwk:IntKind.i64.wrap ((xa:Int)+2+(k:Int))=(xa:Int)+2+(k:Int):=kqv _ (by omega);clear Ja N G p0;by_cases g:z=3
  .have e3:((z:Int)==3)=true:=by rw[kqw];omega
   have e3n:(z==3)=true:=by rw[kqw];exact g
   have HY:=hid (show ry F (xa:Int) (k+1)=m++[(xa:Int)+2+(k:Int)] by rw[d.out,if_pos (by rw[g])]);clear g d;go_wp2_with (at_builtin;refine kzk _ rfl _ _ 42 rfl I.heap.size 3 i0 _ 1 8 underlying42 HI.out Jj.out Jg.out Ji.out rfl (by decide) _ _ _ rfl (a.alloc _) ⟨_,0,none⟩ 1 1 [.int .i64 ((xa:Int)+2+(k:Int))] rfl rfl (dd _ _ _) (by simp[Value.oneCell']) (by unfold maxLen;omega) (by omega) (by simp;omega) ?_;intro v1 w6 B Jl _;have Jm:=aO H hz a Jl);go_roundw
   case rel=>exact⟨k+1,by omega,by go_num,by rw[HY.out,kqs,cP];exact B,Jm⟩
   case measure=>simp[intOf];omega
  have e3:((z:Int)==3)=false:=by rw[kqj];omega
  have e3n:(z==3)=false:=by rw[kqj];exact g
  have HY:=hid (show ry F (xa:Int) (k+1)=m by rw[d.out,if_neg (λh=>g (Option.some.inj h)),kzr]);clear g d;go_wp2;go_roundw
  case rel=>exact⟨k+1,by omega,by go_num,by rw[HY.out];exact a,H⟩
  case measure=>simp[intOf];omega
 obtain rfl:k=F.length:=by omega
 obtain⟨A2,c2,rfl,Q,s⟩:=kG a;have J:=hid s;have Jo:=hid Q;clear s a Q;go_wp2;go_ret;exact⟨⟨A2,c2,rfl,J.out,Jo.out⟩,Jc.out.trans (H.mono Jk)⟩
theorem nz(h:ah ws=0)(ho:jS (aJ ws 128) a=some b):∃(m t:Nat) (xs xk:Int) (xm:Bool) (xn:Nat),a=(m:Int)/\b=⟨(m:Int),xs,xk,(t:Int),xm,xn⟩/\t<8/\fT ws m/\m<ws.length /\
 (fv ws b).length<=8/\∀k (j:k<(fv ws b).length),∃r:Nat,(fv ws b)[k]=(r:Int)/\m<=r/\r<ws.length:=by
 obtain⟨m,q,f,c⟩:=zx h ho;have g:wd ws m/512%128<8:=by have h7:=(bt _).1 (fE c.2.2.2.1);have h5:=c.2.2.2.2.1;have h6:(ar (wd ws m)).typ=((wd ws m/512%128:Nat):Int):=rfl;omega
 have l:t4 ws b=flds ws m:=by rw[f];rfl
 refine⟨m,wd ws m/512%128,(bkAt ws m).size,(bkAt ws m).kind,(bkAt ws m).mark,(bkAt ws m).next,q,f,g,c,c.2.2.1,?_,λk j=>?_⟩
 .have s:=uI (t4 ws b) b.at_ (t4 ws b).length;have h2:=xE ws m;unfold fv;rw[l] at s |-;omega
 have n:=kqp j;unfold fv at n;obtain⟨i,o,i2,p⟩:=kt.1 n;rw[l] at o;have d:=r8 c o;have e:b.at_=(m:Int):=by rw[f];rfl
 refine⟨m+2+i,?_,by omega,d⟩;have:(fv ws b)[k]=b.at_+2+(i:Int):=p;rw[this,e];omega
def RsRes (ws:List Nat) (a:Int) (e:Ending) (w':World):Prop:=∃A c,e=.returned (.tuple #[.slice A (bH ws a).length c,.int .i64 (nO ws a)])/\RdI w' w'.heap.size A (bH ws a)/\(bH ws a).length<=c
theorem u6(A:Option Addr)(ws:List Nat)(c n:Nat)(a:Int)(w:World)(hn:ws.length=n)(hm:n<=9223372036854775807)(u:RdW w w.heap.size A ws)(ho:∀x∈ws,x<18446744073709551616):
 Calls prog 208 #[.slice A n c,.int .i64 a] w λe w'=>RsRes ws a e w'/\Below w.heap.size w w':=by
 subst hn;have K:=hid u;have l:=hid (my A ws c ws.length w rfl hm u ho);have f:=hid (λW (h:RdW W W.heap.size A ws)=>z6 A ws c ws.length a W rfl hm h ho);have T:=hid ho;clear u ho;by_cases k:ah ws=0
 .rw[k] at l;cases g:jS (aJ ws 128) a with
  | none =>have i:Hid (nO ws a=6/\bH ws a=[]):=hid (by simp[nO,bH,dG,k,g]);rw[show wT ws a=nE by simp[wT,g],show dG ws a=6 by simp[dG,g]] at f;unfold nE Bk.val at f;simp only[kq9] at f;clear k g;go_enter func208,ntmps208;go_wp2_with fail;refine l.out.mono ?_;rintro e N ⟨rfl,d⟩;have o:=hid d;have v:=hid (K.out.up d d.size);clear d;go_wp2_with fail;refine (f.out _ v.out).mono ?_;rintro e U ⟨rfl,p⟩;have j:=o.out.trans (p.mono o.out.size);go_wp2;go_ret2;exact⟨⟨none,0,by rw[i.out.1,i.out.2];rfl,by rw[i.out.2];exact Rd.nil_,by rw[i.out.2];exact kqa _⟩,j.alloc j.size _⟩
  | some b =>
   obtain⟨m,t,xs,O,Q,M,V,H,C,B,L,-,-⟩:=nz k g;subst V;have G:=gJ ws (ay k).1;have i:Hid (nO ws (m:Int)=0/\bH ws (m:Int)=fv ws b):=hid (by simp[nO,bH,dG,k,g]);rw[show wT ws (m:Int)=b by simp[wT,g],show dG ws (m:Int)=0 by simp[dG,g]] at f;have y:=hid (λW (h:RdW W W.heap.size A ws)=>tp A ws c ws.length t m xs O Q M W rfl (by omega) (by omega) C (by omega) h T.out);rw[<-H] at y;obtain⟨R,P⟩:=xq (fv ws b);rw[P] at y i;rw[H] at f;unfold Bk.val at f;dsimp only at f;clear k g H C B L G P;go_enter func208,ntmps208;go_wp2_with fail;refine l.out.mono ?_;rintro e N ⟨rfl,d⟩;have o:=hid d;have v:=hid (K.out.up d d.size);clear d;go_wp2_with fail;refine (f.out _ v.out).mono ?_;rintro e U ⟨rfl,p⟩;have j:=o.out.trans (p.mono o.out.size);have q:=hid (j.alloc j.size (.cells #[.int .i64 (m:Int),.int .i64 xs,.int .i64 O,.int .i64 (t:Int),.bool Q,.int .u64 (M:Int)] 55));have J:=hid (K.out.up q.out q.out.size);clear p j;go_wp2_with fail;refine (y.out _ J.out).mono ?_;rintro e w3 ⟨⟨X,S,rfl,s,D⟩,z⟩;have F:=hid s;have E:=hid D;have I:=hid (q.out.trans (z.mono q.out.size));clear s D z;go_wp2;go_ret2;exact⟨⟨X,S,by rw[i.out.1,i.out.2];rfl,by rw[i.out.2];exact F.out,by rw[i.out.2];exact E.out⟩,I.out⟩
 obtain⟨r,u⟩:=xq (ah ws);have i:Hid (nO ws a=r/\bH ws a=[]):=hid ⟨by unfold nO;rw[if_neg k,u],by unfold bH;rw[if_neg k]⟩;rw[u] at l k;have hrn:(r != 0)=true:=by rw[kqu];exact k
 clear k u;go_enter func208,ntmps208;go_wp2_with fail;refine l.out.mono ?_;rintro e N ⟨rfl,d⟩;go_wp2;go_ret2;exact⟨⟨none,0,by rw[i.out.1,i.out.2];rfl,by rw[i.out.2];exact Rd.nil_,by rw[i.out.2];exact kqa _⟩,d⟩
theorem tQ(ws:List Nat):(eT ws).length<=2048:=by
 unfold eT;split
 .exact BY ws 128 128
 simp
theorem rP(A:Option Addr)(ws:List Nat)(c n:Nat)(a:Int)(w:World)(hn:ws.length=n)(hm:n<=9223372036854775807)(O:RdW w w.heap.size A ws)(ho:∀x∈ws,x<18446744073709551616):
 Calls prog 209 #[.slice A n c,.int .i64 a] w λe w'=>gp w.heap.size (dp ws a) (cr ws a) e w'/\Below w.heap.size w w':=by
 subst hn;have HR:=hid O;have u:=hid (uN A ws c ws.length w rfl hm O ho);unfold Fz at u;have g:=hid (λW (h:RdW W W.heap.size A ws)=>z6 A ws c ws.length a W rfl hm h ho);have HO:=hid ho;clear O ho;by_cases I:cg ws=0
 .obtain ⟨Jv,-,-⟩:=dQ I;rw[I] at u;have Jp:=tQ ws;cases l:jS (aJ ws 128) a with
  | none =>have S:=hid (sA I l);rw[show wT ws a=nE by simp[wT,l],show dG ws a=6 by simp[dG,l]] at g;unfold nE Bk.val at g;simp only[kq9] at g;obtain⟨q,hq⟩:=xq ((eT ws).length);rw[hq] at u;clear I l hq Jp;go_enter func209,ntmps209;go_wp2_with fail;refine u.out.mono ?_;rintro e w1 ⟨⟨A1,c1,rfl,-,-⟩,d⟩;have G:=hid d;have N:=hid (HR.out.up d d.size);clear d;go_wp2_with fail;refine (g.out _ N.out).mono ?_;rintro e w2 ⟨rfl,F⟩;have D:=G.out.trans (F.mono G.out.size);go_wp2;go_ret2;exact⟨bE S.out.1 S.out.2,D.alloc D.size _⟩
  | some b =>
   obtain⟨m,t,xs,xk,xm,xn,ea,eb,Ji,Ja,Jd,Kc,L⟩:=nz Jv l;subst ea;have Jl:=gJ ws (ay Jv).1;rw[show wT ws (m:Int)=b by simp[wT,l],show dG ws (m:Int)=0 by simp[dG,l]] at g;have T:b.mark=xm:=by rw[eb]
   cases V:xm with
   | false =>have S:=hid (rU I l (by rw[T,V]));rw[eb,V] at g;unfold Bk.val at g;dsimp only at g;obtain⟨q,hq⟩:=xq ((eT ws).length);rw[hq] at u;clear I l eb Ji Ja Jd Jl Kc L hq Jp T V;go_enter func209,ntmps209;go_wp2_with fail;refine u.out.mono ?_;rintro e w1 ⟨⟨A1,c1,rfl,-,-⟩,d⟩;have G:=hid d;have N:=hid (HR.out.up d d.size);clear d;go_wp2_with fail;refine (g.out _ N.out).mono ?_;rintro e w2 ⟨rfl,F⟩;have D:=G.out.trans (F.mono G.out.size);go_wp2;go_ret2;exact⟨bE S.out.1 S.out.2,D.alloc D.size _⟩
   | true =>
    subst V;have Jj:=hid (λW (h:RdW W W.heap.size A ws)=>tp A ws c ws.length t m xs xk true xn W rfl (by omega) (by omega) Ji (by omega) h HO.out);rw[<-eb] at Jj;have Jm:=hid (λh3=>zr I l T h3);have Jk:=hid (λo h3=>AK I l T (o:=o) h3);have Jz:=hid (λx y h=>Cr I (a:=x) (t:=y) h);have Js:=hid (λA1 c1 (v:Nat) W (hv:v<18446744073709551616) (h:RdM W W.heap.size A1 (eT ws))=>AB A1 (eT ws) c1 (eT ws).length v W rfl (by omega) hv h);have Ka:Hid (∀v t,gn (eT ws) v=some t->gM (eT ws) (v:Int)=some t):=hid λv t h=>by
     unfold gn at h;split at h
     .cases h
     exact h
    have Jc:Hid (∀r,fI ws (eT ws) r=if wd ws r=0 then some [] else match gn (eT ws) (wd ws r) with
     | none=>none
     | some t=>if (wd ws r:Int)=t then some [] else some [⟨(r:Int),t.toNat⟩]):=hid λr=>rfl
    have Je:=hid (λk (hk:k<(fv ws b).length) o h=>lI (ws:=ws) (m:=eT ws) hk (o:=o) h);have Jq:=hid (λk (hk:k<(fv ws b).length) o h h2=>AI (ws:=ws) (m:=eT ws) hk (o:=o) h h2);have Jo:=hid (λk o (h:cX ws (eT ws) ((fv ws b).take k)=some o)=>rh h);obtain⟨R,hR⟩:=xq (fv ws b);rw[hR] at Jj Jm Jk Je Jq Jo Kc;have Kf:Hid (∀k (hk:k<R.length),∃r:Nat,R[k]=(r:Int)/\m<=r/\r<ws.length):=hid (by subst hR;exact L);obtain⟨M,hM⟩:=xq (eT ws);rw[hM] at u Jm Jk Jz Js Ka Jc Je Jq Jo Jp;rw[eb] at g;unfold Bk.val at g;dsimp only at g;have hlen:=Jl.2.1;obtain⟨i0,hi,Jt,Ju,Jr⟩:=kzw dg;have HI:=hid hi;have Kp:=hid Jt;have Ki:=hid Ju;have Kn:=hid Jr;clear hi Jt Ju Jr;clear I l eb Ji Ja Jd Jl hR L hM T;go_enter func209,ntmps209;go_wp2_with fail;refine u.out.mono ?_;rintro e w1 ⟨⟨A1,c1,rfl,Jy,-⟩,d⟩;have G:=hid d;have N:=hid (HR.out.up d d.size);have Km:=hid Jy;clear d Jy;go_wp2_with fail;refine (g.out _ N.out).mono ?_;rintro e w2 ⟨rfl,F⟩;have D:=G.out.trans (F.mono G.out.size);have Eq:=hid (D.alloc D.size (.cells #[.int .i64 (m:Int),.int .i64 xs,.int .i64 xk,.int .i64 (t:Int),.bool true,.int .u64 (xn:Int)] 55))
    have Kk:=hid (HR.out.up Eq.out Eq.out.size);have Kg:=hid (Rd.more (Rd.alloc (Km.out.up F F.size) (kqa _) (.cells #[.int .i64 (m:Int),.int .i64 xs,.int .i64 xk,.int .i64 (t:Int),.bool true,.int .u64 (xn:Int)] 55)) (show w2.heap.size<=(w2.alloc (.cells #[.int .i64 (m:Int),.int .i64 xs,.int .i64 xk,.int .i64 (t:Int),.bool true,.int .u64 (xn:Int)] 55)).heap.size by simp));clear F D;go_wp2_with fail;refine (Jj.out _ Kk.out).mono ?_;rintro e w3 ⟨⟨A3,c3,rfl,Jb,-⟩,Z⟩;have Ke:=hid Jb;have K:=hid (Eq.out.trans (Z.mono Eq.out.size));have Kl:=hid (Kg.out.up Z Z.size);have Kj:=hid (HR.out.up K.out K.out.size);have Jg:=K.out.size;clear Jb Z;go_wp2_with fail;go_loopw [10,42] (λv i wr=>∃(k:Nat) (o:List En),k<=R.length/\i=.int .i64 k/\Hid (cX ws M (R.take k)=some o)/\wr.ownsRow w3.heap.size 89 2 v o.length (o.flatMap En.cells)/\Below w3.heap.size w3 wr) (λ_ i _=>R.length-(intOf i).toNat)
    case atStart=>exact⟨0,[],kqy _,rfl,rfl,kza _ _ _ _,kqk _ _⟩
    obtain⟨k,o,hk,rfl,U,B,hB⟩:=hrel;have hz:=hB.size;have Kd:=Jo.out k o U.out;rw[kq3] at Kd;by_cases Y:k<R.length
    .obtain ⟨bR,oR,rfl,hbR,q0⟩:=RdI.at_ (Rd.below Ke.out hB) Y;obtain⟨r,O,hmr,Ko⟩:=Kf.out k Y;obtain⟨bW,oW,rfl,hbW,x0⟩:=RdW.at_ (Rd.below Kj.out hB) Ko;rw[<-d7] at x0;have Kt:=hid (Kl.out.up hB hz);have hv:=gu HO.out r;have f:=hid (Je.out k Y o U.out);have s:=hid (Jq.out k Y o U.out);have j:=hid (Jc.out r);rw[O] at q0 f s;rw[kqi] at f s;have Jf:=Ka.out (wd ws r);obtain⟨v,Kb⟩:=xq (wd ws r);rw[Kb] at x0 hv j Jf;have hri:(r:Int)<(ws.length:Int):=by omega
     have hr0:(0:Int)<=(r:Int):=by omega
     have hki:(k:Int)<(R.length:Int):=by omega
     have Ks:=hid hv;have Kh:=hid Jf;clear O Kb hv Jf;by_cases E:v=0
     .have e0:((v:Int)==0)=true:=by rw[kqw];omega
      have e0n:(v==0)=true:=by rw[kqw];exact E
      have HY:=hid (show cX ws M (R.take (k+1))=some o by rw[f.out,j.out,if_pos E];simp);clear E f s j;go_wp2;go_roundw
      case rel=>exact⟨k+1,o,by omega,by go_num,HY.out,B,hB⟩
      case measure=>simp[intOf];omega
     have e0:((v:Int)==0)=false:=by rw[kqj];omega
     have e0n:(v==0)=false:=by rw[kqj];exact E
     rw[if_neg E] at j;have H:=hid (Js.out A1 c1 v _ Ks.out Kt.out);cases J:gn M v with
     | none =>rw[J] at H j;have S:=hid (Jm.out (s.out j.out));simp only[Option.getD_none,kkp] at H;clear E f s j J;go_wp2_with fail;refine H.out.mono ?_;rintro e w5 ⟨rfl,z⟩;go_wp2;go_ret2;exact⟨bE S.out.1 S.out.2,K.out.trans ((hB.trans (z.mono hz)).mono Jg)⟩
     | some tt =>
      obtain⟨Q,rfl,ht1,-,ht2,-⟩:=Jz.out (v:Int) tt (Kh.out tt J);rw[J] at H j;simp only[kq8,kvm] at H;have hwt:IntKind.u64.wrap (Q:Int)=(Q:Int):=kz0 _ (by omega);by_cases P:v=Q
      .have en:((v:Int) != (Q:Int))=false:=by rw[kqq];omega
       have enn:(v != Q)=false:=by rw[kqq];exact P
       have HY:=hid (show cX ws M (R.take (k+1))=some o by rw[f.out,j.out];simp[P]);clear E f s j J P;go_wp2_with fail;refine H.out.mono ?_;rintro e w5 ⟨rfl,z⟩;have x5:=(z.cell (p:=⟨bW,oW+r,none⟩) (by show bW<wr.heap.size;omega)).trans x0;have C:=hid (ak B z (kqa _));have X:=hid (hB.trans (z.mono hz));clear z;go_wp2;go_roundw
       case rel=>exact⟨k+1,o,by omega,by go_num,HY.out,C.out,X.out⟩
       case measure=>simp[intOf];omega
      have en:((v:Int) != (Q:Int))=true:=by rw[kqu];omega
      have enn:(v != Q)=true:=by rw[kqu];exact P
      have HY:=hid (show cX ws M (R.take (k+1))=some (o++[⟨(r:Int),Q⟩]) by
       rw[f.out,j.out];have:¬ ((v:Int)=(Q:Int)):=by omega
       simp[this])
      clear E f s j J P;go_wp2_with fail;refine H.out.mono ?_;rintro e w5 ⟨rfl,z⟩;have x5:=(z.cell (p:=⟨bW,oW+r,none⟩) (by show bW<wr.heap.size;omega)).trans x0;have C:=ak B z (kqa _);have X:=hB.trans (z.mono hz);have Kq:=X.size;clear z;go_wp2_with (at_builtin;refine kzk _ rfl _ _ 26 rfl w3.heap.size 89 i0 _ 2 16 underlying26 HI.out Kp.out Ki.out Kn.out rfl (by decide) _ _ _ rfl (C.alloc _) ⟨_,0,none⟩ 1 1 [.int .i64 (r:Int),.int .u64 (Q:Int)] rfl rfl (dd _ _ _) (by simp[Value.oneCell']) (by unfold maxLen;omega) (by omega) (by simp;omega) ?_;intro v1 w6 Jh Kr _;have Ku:=aO X Kq C Kr);go_roundw
      case rel=>exact⟨k+1,o++[(⟨(r:Int),Q⟩:En)],by omega,by go_num,HY.out,by rw[kqs,cP];exact Jh,Ku⟩
      case measure=>simp[intOf];omega
    obtain rfl:k=R.length:=by omega
    have HV:=hid (Jk.out o (by have:=U.out;rwa [kq5 (kqa _)] at this));obtain⟨A2,c2,rfl⟩:=aS B;have Jw:=hid (am B Jg);clear B;go_wp2;go_ret2;exact⟨⟨A2,c2,by rw[HV.out.1,HV.out.2];rfl,by rw[HV.out.2];exact Jw.out⟩,K.out.trans (hB.mono Jg)⟩
 obtain⟨r,O⟩:=xq (cg ws);have S:=hid (xP (a:=a) O (by rw[<-O];exact I));rw[O] at u I;have hrn:(r != 0)=true:=by rw[kqu];exact I
 obtain⟨q,hq⟩:=xq ((eT ws).length);rw[hq] at u;clear I O hq;go_enter func209,ntmps209;go_wp2_with fail;refine u.out.mono ?_;rintro e w1 ⟨⟨A1,c1,rfl,-,-⟩,d⟩;go_wp2;go_ret2;exact⟨bE S.out.1 S.out.2,d⟩
theorem pW(h1:ei ws=r)(h0:r≠0):dK ws=[]:=by unfold dK;rw[if_neg (by rw[h1];exact h0)]
theorem fs_err(h:cg ws=r)(h0:r≠0):ei ws=r:=by subst h;simp[ei,h0]
theorem fs_sl(h:cg ws=0)(h1:slsOk ws=false):ei ws=50:=by simp[ei,h,h1]
theorem EF(h:cg ws=0)(h1:slsOk ws=true)(h2:slFix ws (eT ws) 16=none):ei ws=50:=by simp[ei,h,h1,h2]
theorem Hi(h:cg ws=0)(h1:slsOk ws=true)(h2:slFix ws (eT ws) 16=some o):ei ws=0/\dK ws=o:=by simp[dK,ei,h,h1,h2]
theorem wy{m:List (Int × Int)}(h:slFix ws m k=some o):slFix ws m (k+1)=(gy ws m k).map (o ++ ·):=by simp only[slFix,h]
theorem au{w:World}{H n:Nat}{e:TypeId}{sz:Nat}{v:Value}{xs:List Value}(h:w.ownsRow H e sz v n xs){p:Addr}(hp:v.ownBlock≠some p.block)(u:Value):(w.setCell p u).ownsRow H e sz v n xs:=by
 refine⟨h.1,?_⟩;rcases h.2 with b|⟨d,c,a,b,f,g,i⟩
 .exact .inl b
 subst b;refine .inr ⟨d,c,a,rfl,f,?_,i⟩;exact (kkm w p u d (λe=>hp (by simp[Value.ownBlock,e]))).trans g
theorem xj{a:Nat}(hg:g<2147483648)(ha:a<4294967296)(u:Bool):nH ⟨(g:Int),u,(a:Int)⟩<18446744073709551616:=by unfold nH;dsimp only;rw[kqi,kqi];split<;>omega
theorem va(A:Option Addr)(ws:List Nat)(c n:Nat)(w:World)(hn:ws.length=n)(hm:n<=9223372036854775807)(T:RdW w w.heap.size A ws)(ho:∀x∈ws,x<18446744073709551616):
 Calls prog 207 #[.slice A n c] w λe w'=>gp w.heap.size (ei ws) (dK ws) e w'/\Below w.heap.size w w':=by
 subst hn;have HR:=hid T;have z:=hid (uN A ws c ws.length w rfl hm T ho);unfold Fz at z;have L:=hid (λW (h:RdW W W.heap.size A ws)=>ER A ws c ws.length W rfl hm h ho);unfold Hr at L;have HO:=hid ho;clear T ho;by_cases F:cg ws=0
 .obtain ⟨Jc,-,-⟩:=dQ F;have X:=(ay Jc).1;have Q:=gJ ws X;rw[F] at z;have Ki:=tQ ws;cases B:slsOk ws with
  | false =>
   have he:=lA X B;have hq:eW ws=[]:=by simp[eW,he]
   rw[he,hq] at L;have Y:=hid (fs_sl F B);obtain⟨q,hq⟩:=xq ((eT ws).length);rw[hq] at z;clear F Jc X Q B he hq Ki;go_enter func207,ntmps207;go_wp2_with fail;refine z.out.mono ?_;rintro e w1 ⟨⟨A1,c1,rfl,-,-⟩,l⟩;have J:=hid l;have Ja:=hid (HR.out.up l l.size);clear l;go_wp2_with fail;refine (L.out _ Ja.out).mono ?_;rintro e w2 ⟨⟨A2,c2,rfl,-,-⟩,Kr⟩;go_wp2;go_ret2;exact⟨bE Y.out (pW Y.out (by omega)),J.out.trans (Kr.mono J.out.size)⟩
  | true =>
   obtain⟨g1,g2⟩:=i9 X B;rw[g1,g2,gH] at L;have Ky:=hid ((cO ws).1 B);have Kg:=hid (λh=>EF F B h);have Jz:=hid (λo h=>Hi F B (o:=o) h);have Jw:=hid (λx y h=>Cr F (a:=x) (t:=y) h);have Jh:=hid (λA1 c1 (v:Nat) W (hv:v<18446744073709551616) (h:RdM W W.heap.size A1 (eT ws))=>AB A1 (eT ws) c1 (eT ws).length v W rfl (by omega) hv h);have Ka:Hid (∀v t,gn (eT ws) v=some t->gM (eT ws) (v:Int)=some t):=hid λv t h=>by
    unfold gn at h;split at h
    .cases h
    exact h
   have Z:Hid (∀i,gy ws (eT ws) i=if (slAt ws i).used=true then (match gn (eT ws) (slAt ws i).at_.toNat with
    | none=>none
    | some t=>if wd ws (112+i)=nH ⟨(slAt ws i).gen,true,t⟩ then some [] else some [⟨((112+i:Nat):Int),nH ⟨(slAt ws i).gen,true,t⟩⟩]) else some []):=hid λi=>rfl
   have Ji:=hid (λk o (h:slFix ws (eT ws) k=some o)=>wy h);have Jv:=hid (λk (h:slFix ws (eT ws) (k+1)=none) (h2:k+1<=16)=>wK h h2);have Kh:=hid (λk o (h:slFix ws (eT ws) k=some o)=>qB h);obtain⟨M,hM⟩:=xq (eT ws);rw[hM] at z Kg Jz Jw Jh Ka Z Ji Jv Kh Ki;have hlen:=Q.1;have hlen2:=Q.2.1;obtain⟨i0,hi,Jj,Jl,Jf⟩:=kzw dg;have HI:=hid hi;have Kz:=hid Jj;have Km:=hid Jl;have Kx:=hid Jf;clear hi Jj Jl Jf;clear F Jc X Q B g1 g2 hM;go_enter func207,ntmps207;go_wp2_with fail;refine z.out.mono ?_;rintro e w1 ⟨⟨A1,c1,rfl,Jt,-⟩,l⟩;have J:=hid l;have Ja:=hid (HR.out.up l l.size);have Kv:=hid Jt;clear l Jt;go_wp2_with fail;refine (L.out _ Ja.out).mono ?_;rintro e w3 ⟨⟨A3,c3,rfl,Jg,-⟩,N⟩;have I:=hid (J.out.trans (N.mono J.out.size));have Kk:=hid Jg;have Kt:=hid (Kv.out.up N N.size);have Kp:=hid (HR.out.up I.out I.out.size);have Jb:=I.out.size;clear Jg N;go_wp2_with fail;go_loopw [8,36] (λv i wr=>∃(k:Nat) (o:List En),k<=16/\i=.int .i64 k/\Hid (slFix ws M k=some o)/\wr.ownsRow w3.heap.size 89 2 v o.length (o.flatMap En.cells)/\Below w3.heap.size w3 wr) (λ_ i _=>16-(intOf i).toNat)
   case atStart=>exact⟨0,[],kqy _,rfl,rfl,kza _ _ _ _,kqk _ _⟩
   obtain⟨k,o,hk,rfl,Eq,j,hB⟩:=hrel;have hz:=hB.size;have hol:=Kh.out k o Eq.out;by_cases Jp:k<16
   .obtain ⟨bS,oS,rfl,hbS,q0,q1,q2⟩:=RdS.at_ (Rd.below Kk.out hB) (show k<(slL ws).length by rw[gH];exact Jp);rw[sC] at q0 q1 q2;obtain⟨bW,oW,rfl,hbW,x0⟩:=RdW.at_ (Rd.below Kp.out hB) (show 112+k<ws.length by omega);rw[<-d7] at x0;have Lg:=hid (Kt.out.up hB hz);have Je:=Ky.out k Jp;have f:=hid (Ji.out k o Eq.out);have C:=hid (λh=>Jv.out k h (by omega));have d:=hid (Z.out k);obtain⟨r1,r2,r3,r4⟩:=lg (wd ws (112+k));have Jy:slAt ws k=fk (wd ws (112+k)):=rfl;rw[<-Jy] at r1 r2 r3 r4;have Kc:=gu HO.out (112+k);obtain⟨x,hx⟩:=xq (wd ws (112+k));rw[hx] at x0 d Kc;obtain⟨s,X⟩:=xq (slAt ws k);rw[X] at q0 q1 q2 d r1 r2 r3 r4 Je;obtain⟨sg,su,sa⟩:=s;dsimp only at q0 q1 q2 d r1 r2 r3 r4;obtain⟨g,rfl⟩:=kqz r1;obtain⟨u,rfl⟩:=kqz r3;rw[kqi] at d;have hki:(k:Int)<16:=by omega
    have hk0:(0:Int)<=(k:Int):=by omega
    have hw1:IntKind.i64.wrap (112+(k:Int))=112+(k:Int):=kqv _ (by omega);have i1:(0:Int)<=112+(k:Int):=by omega
    have i2:(112:Int)+(k:Int)<(ws.length:Int):=by omega
    have n1:((112:Int)+(k:Int)).toNat=112+k:=by omega
    have R:g<2147483648:=by omega
    have Lc:=hid Je;clear hx X Jy r1 r2 r3 r4 Je Kc;cases su
    .have HY:=hid (show slFix ws M (k+1)=some o by rw[f.out,d.out,if_neg (by simp)];simp);clear f C d;go_wp2;go_roundw
     case rel=>exact⟨k+1,o,by omega,by go_num,HY.out,j.alloc _,hB.alloc hz _⟩
     case measure=>simp[intOf];omega
    obtain⟨Ks,Ku,Lf⟩:=yL Lc.out rfl;dsimp only at Ks Ku Lf;rw[if_pos rfl] at d;have hwu:IntKind.u64.wrap (u:Int)=(u:Int):=kz0 _ (by omega);have Ke:=hB.alloc hz (.cells #[.int .i64 (g:Int),.bool true,.int .i64 (u:Int)] 52);have K:=hid Ke;have Kf:=hid (Rd.more (Rd.alloc Lg.out (kqa _) (.cells #[.int .i64 (g:Int),.bool true,.int .i64 (u:Int)] 52)) (show wr.heap.size<=(wr.alloc (.cells #[.int .i64 (g:Int),.bool true,.int .i64 (u:Int)] 52)).heap.size by simp));have BN:=hid (Bx.new wr 52 #[.int .i64 (g:Int),.bool true,.int .i64 (u:Int)]);have S:=hid (j.alloc (.cells #[.int .i64 (g:Int),.bool true,.int .i64 (u:Int)] 52));have Kw:=hid (λb h=>(j.lt b h).2);have x1:=(kzh wr (.cells #[.int .i64 (g:Int),.bool true,.int .i64 (u:Int)] 52) ⟨bW,oW+(112+k),none⟩ (by show bW<wr.heap.size;omega)).trans x0;have Ju:=hid x1;have D:=hid (Jh.out A1 c1 u _ (by omega) Kf.out);have Jm:(wr.alloc (.cells #[.int .i64 (g:Int),.bool true,.int .i64 (u:Int)] 52)).heap.size=wr.heap.size+1:=by simp
    clear Ke x1;go_upto_region 14 with (fail);obtain⟨wn,Jo⟩:∃wn,wr.alloc (.cells #[.int .i64 (g:Int),.bool true,.int .i64 (u:Int)] 52)=wn:=⟨_,rfl⟩;rw[Jo] at K Kf BN S D Ju Jm |-;clear Jo x0 j;obtain⟨p0,p1,p2,f0,f1,f2,Ko⟩:=BN.out.c3;cases H:gn M u with
    | none =>rw[H] at D d;have Y:=hid (Kg.out (C.out (by rw[f.out,d.out];rfl)));simp only[Option.getD_none,kkp] at D;clear f C d H;go_wp2_with fail;refine D.out.mono ?_;rintro e w5 ⟨rfl,E⟩;have Kl:=K.out.trans (E.mono K.out.size);go_wp2;go_ret2;exact⟨bE Y.out (pW Y.out (by omega)),I.out.trans (Kl.mono Jb)⟩
    | some tt =>
     obtain⟨U,rfl,ht1,-,ht2,-⟩:=Jw.out (u:Int) tt (Ka.out u tt H);rw[H] at D d;simp only[kq8,kvm] at D;have Jr:nJ ⟨(g:Int),true,(U:Int)⟩=true:=by unfold nJ;rw[if_pos rfl];simp only[kqo,kzc];omega
     have Kb:=hid (λW=>F4 g U true W R (by omega) Jr);have Kj:=xj (g:=g) (a:=U) R (by omega) true;obtain⟨V,hV⟩:∃V,nH ⟨(g:Int),true,(U:Int)⟩=V:=⟨_,rfl⟩;dsimp only at d;rw[hV] at Kb d;clear Jr hV Kj H;go_wp2_with fail;refine D.out.mono ?_;rintro e w5 ⟨rfl,E⟩;have bn5:=BN.out.up E Ko;have BN5:=hid bn5;have Kd:=hid (K.out.trans (E.mono K.out.size));have Lk:=hid (ak S.out E (kqa _));have x5:=(E.cell (p:=⟨bW,oW+(112+k),none⟩) (by show bW<wn.heap.size;omega)).trans Ju.out;have Ld:=hid x5;obtain⟨p0,p1,p2,f0,f1,f2,hg5⟩:=bn5.c3;clear E bn5 x5;go_wp2_with fail;have Jk:=hid (Kd.out.setCell (p:=⟨wr.heap.size,2,none⟩) hz (.int .i64 (U:Int)));have La:=hid (au Lk.out (p:=⟨wr.heap.size,2,none⟩) (λh=>by have h9:=Kw.out _ h;exact absurd h9 (Nat.lt_irrefl _)) (.int .i64 (U:Int)));have x6:(w5.setCell ⟨wr.heap.size,2,none⟩ (.int .i64 (U:Int))).cell? ⟨bW,oW+(112+k),none⟩=some (.int .u64 (x:Int)):=(kju w5 _ _ _ (λe2=>by injection e2 with e3 _ _;omega)).trans Ld.out;have Kq:=hid x6;have Jq:bW<(w5.setCell ⟨wr.heap.size,2,none⟩ (.int .i64 (U:Int))).heap.size:=by rw[kz6];have:=Kd.out.size;omega
     clear x6;refine (Kb.out _).mono ?_;rintro e w7 ⟨rfl,P⟩;have x7:=(P.cell (p:=⟨bW,oW+(112+k),none⟩) Jq).trans Kq.out;have m:=ak La.out P (kqa _);have O:=Jk.out.trans (P.mono Jk.out.size);have Li:=O.size;clear P Jq;by_cases G:x=V
     .have en:((x:Int) != (V:Int))=false:=by rw[kqq];omega
      have enn:(x != V)=false:=by rw[kqq];exact G
      have HY:=hid (show slFix ws M (k+1)=some o by rw[f.out,d.out];simp[G]);have Lh:=hid m;have Kn:=hid O;clear f C d G m O;go_wp2;go_roundw
      case rel=>exact⟨k+1,o,by omega,by go_num,HY.out,Lh.out,Kn.out⟩
      case measure=>simp[intOf];omega
     have en:((x:Int) != (V:Int))=true:=by rw[kqu];omega
     have enn:(x != V)=true:=by rw[kqu];exact G
     have HY:=hid (show slFix ws M (k+1)=some (o++[⟨112+(k:Int),V⟩]) by rw[f.out,d.out];simp[G]);clear f C d G;go_wp2_with (at_builtin;refine kzk _ rfl _ _ 26 rfl w3.heap.size 89 i0 _ 2 16 underlying26 HI.out Kz.out Km.out Kx.out rfl (by decide) _ _ _ rfl (m.alloc _) ⟨_,0,none⟩ 1 1 [.int .i64 (112+(k:Int)),.int .u64 (V:Int)] rfl rfl (dd _ _ _) (by simp[Value.oneCell']) (by unfold maxLen;omega) (by omega) (by simp;omega) ?_;intro v1 w8 Jd Lb _;have Lj:=aO O Li m Lb);go_roundw
     case rel=>exact⟨k+1,o++[(⟨112+(k:Int),V⟩:En)],by omega,by go_num,HY.out,by rw[kqs,cP];exact Jd,Lj⟩
     case measure=>simp[intOf];omega
   obtain rfl:k=16:=by omega
   have HV:=hid (Jz.out o Eq.out);obtain⟨A2,c2,rfl⟩:=aS j;have Js:=hid (am j Jb);clear j;go_wp2;go_ret2;exact⟨⟨A2,c2,by rw[HV.out.1,HV.out.2];rfl,by rw[HV.out.2];exact Js.out⟩,I.out.trans (hB.mono Jb)⟩
 obtain⟨r,T⟩:=xq (cg ws);have Y:=hid (fs_err T (by rw[<-T];exact F));rw[T] at z F;have hrn:(r != 0)=true:=by rw[kqu];exact F
 have Le:=hid F;obtain⟨q,hq⟩:=xq ((eT ws).length);rw[hq] at z;clear F T hq;go_enter func207,ntmps207;go_wp2_with fail;refine z.out.mono ?_;rintro e w1 ⟨⟨A1,c1,rfl,-,-⟩,l⟩;go_wp2;go_ret2;exact⟨bE Y.out (pW Y.out Le.out),l⟩
theorem CU{a:Nat}(hg:g<2147483648)(ha:a<4294967296):fk (nH ⟨(g:Int),true,(a:Int)⟩)=⟨(g:Int),true,(a:Int)⟩:=by
 unfold nH fk;dsimp only;rw[kqi,kqi,if_pos rfl];have b:(a+g*4294967296+9223372036854775808)/4294967296%2147483648=g:=by omega
 have c:(a+g*4294967296+9223372036854775808)/9223372036854775808=1:=by omega
 have d:(a+g*4294967296+9223372036854775808)%4294967296=a:=by omega
 rw[b,c,d];rfl
def nwS (ws:List Nat) (M:List (Int × Int)) (i:Nat):Sl:=if (slAt ws i).used=true then ⟨(slAt ws i).gen,true,(gM M (slAt ws i).at_).getD 0⟩ else slAt ws i
theorem Aj{v:Nat}(h:j<ws.length)(i:Nat):wd (aj ws [⟨(j:Int),v⟩]) i=if i=j then v else wd ws i:=by
 simp only[aj];rw[if_pos (by omega),kqi];unfold wd;rw[kxb];by_cases e:j=i
 .subst e;simp[h]
 rw[if_neg e,if_neg (λh=>e h.symm)]
theorem zB{M:List (Int × Int)}(hw:256<=ws.length)(hM:∀a t,gM M a=some t->∃n:Nat,t=(n:Int)/\n<2048):∀k,k<=16->∀o,slFix ws M k=some o ->
 (∀e∈o,∃i,i<k/\e.a=((112+i:Nat):Int)/\e.v<18446744073709551616)/\o.Pairwise (λa b=>a.a<b.a)/\(∀i,i<k->slAt (aj ws o) i=nwS ws M i)/\(∀i,i<k->(slAt ws i).used=true->(gM M (slAt ws i).at_).isSome=true):=by
 intro k
 induction k with
 | zero =>intro _ o h;simp only[slFix,Option.some.injEq] at h;subst h;exact⟨λe f=>(by cases f),List.Pairwise.nil,λi h=>absurd h (by omega),λi h=>absurd h (by omega)⟩
 | succ k ih =>
  intro hk o h;simp only[slFix] at h;cases x:slFix ws M k with
  | none=>rw[x] at h;cases h
  | some o1 =>
  rw[x] at h;obtain⟨u,K,D,G⟩:=ih (by omega) o1 x;have s:wd (aj ws o1) (112+k)=wd ws (112+k):=aQ o1 ws _ λe f=>by
   obtain⟨i,h1,P,-⟩:=u e f;rw[P];omega
  have j:∀(H:slAt ws k=nwS ws M k) (N:(slAt ws k).used=true->(gM M (slAt ws k).at_).isSome=true),(∀e∈o1,∃i,i<k+1/\e.a=((112+i:Nat):Int)/\e.v<18446744073709551616)/\o1.Pairwise (λa b=>a.a<b.a)/\(∀i,i<k+1->slAt (aj ws o1) i=nwS ws M i)/\(∀i,i<k+1->(slAt ws i).used=true->(gM M (slAt ws i).at_).isSome=true):=by
   intro H N;refine⟨λe f=>?_,K,λi A=>?_,λi A=>?_⟩
   .obtain ⟨i,I,m,C⟩:=u e f;exact⟨i,by omega,m,C⟩
   .rcases kq6 i k with d|d
    .exact D i d
    have:i=k:=by omega
    subst this;rw[<-H];unfold slAt;rw[s]
   rcases kq6 i k with d|d
   .exact G i d
   have:i=k:=by omega
   subst this;exact N
  cases c:gy ws M k with
  | none=>rw[c] at h;cases h
  | some y =>
   rw[c] at h;simp only[kzt,Option.some.injEq] at h;subst h;unfold gy at c;split at c
   .rename_i hu;obtain⟨J,Q,E,r4⟩:=lg (wd ws (112+k))
    change 0<=(slAt ws k).gen at J
    change (slAt ws k).gen<=_ at Q
    change 0<=(slAt ws k).at_ at E
    obtain⟨g,L⟩:=kqz J;cases l:gn M (slAt ws k).at_.toNat with
    | none=>rw[l] at c;cases c
    | some t =>
     rw[l] at c;have z:gM M (slAt ws k).at_=some t:=by
      unfold gn at l;split at l
      .cases l
      rw[kkg E] at l;exact l
     obtain⟨n,rfl,hn⟩:=hM _ _ z;have q:nwS ws M k=⟨(g:Int),true,(n:Int)⟩:=by unfold nwS;rw[if_pos hu,z,L];rfl
     have r:=CU (g:=g) (a:=n) (by omega) (by omega);have w:=xj (g:=g) (a:=n) (by omega) (by omega) true;have p:(slAt ws k).used=true->(gM M (slAt ws k).at_).isSome=true:=λ_=>by rw[z];rfl
     dsimp only at c;rw[L] at c;by_cases f:wd ws (112+k)=nH ⟨(g:Int),true,(n:Int)⟩
     .rw[if_pos f] at c;injection c with c;subst c;rw[kzr];exact j (by rw[q,<-r,<-f];rfl) p
     rw[if_neg f] at c;injection c with c;subst c;refine⟨λe f=>?_,?_,λi A=>?_,λi A=>?_⟩
     .rcases kzu.1 f with d|d
      .obtain ⟨i,I,m,C⟩:=u e d;exact⟨i,by omega,m,C⟩
      simp only[kqx] at d;subst d;exact⟨k,by omega,rfl,w⟩
     .rw[kk7];refine⟨K,by simp,λa O b F=>?_⟩;simp only[kqx] at F;subst F;obtain⟨i,I,m,-⟩:=u a O;rw[m];dsimp only;omega
     .have B:112+k<(aj ws o1).length:=by rw[av];omega
      unfold slAt;rw[eI,Aj B];split
      .rename_i h6;have:i=k:=by omega
       subst this;rw[r,q]
      exact D i (by omega)
     rcases kq6 i k with d|d
     .exact G i d
     have:i=k:=by omega
     subst this;exact p
   rename_i hu;injection c with c;subst c;rw[kzr];exact j (by unfold nwS;rw[if_neg hu]) (λh=>absurd h hu)
theorem jE(h:ei ws=0):256<=ws.length/\ah ws=0/\aW ws 128 128=0/\dt ws=0/\eW ws=slL ws/\dt (aj ws (dK ws))=0/\eW (aj ws (dK ws))=slL (aj ws (dK ws)) /\
 (∀e∈dK ws,(112<=e.a/\e.a<128)/\e.v<18446744073709551616)/\(dK ws).Pairwise (λa b=>a.a<b.a)/\(dK ws).length<=16 /\
 (∀i,i<16->slAt (aj ws (dK ws)) i=nwS ws (ia ws 128 128) i)/\(∀i,i<16->(slAt ws i).used=true->(gM (ia ws 128 128) (slAt ws i).at_).isSome=true):=by
 have j:cg ws=0:=by
  by_cases p:cg ws=0
  .exact p
  unfold ei at h;rw[if_neg p] at h;exact absurd h p
 have k:slsOk ws=true:=by
  cases l:slsOk ws with
  | true=>rfl
  | false=>rw[fs_sl j l] at h;cases h
 obtain⟨o,s⟩:∃o,slFix ws (eT ws) 16=some o:=by
  cases l:slFix ws (eT ws) 16 with
  | some o=>exact⟨o,rfl⟩
  | none=>rw[EF j k l] at h;cases h
 obtain⟨e1,F⟩:=Hi j k s;obtain⟨x,B,I⟩:=dQ j;have u:=(ay x).1;have hbd:=gJ ws u;have c:=λa t (d:gM (eT ws) a=some t)=>Cr j d;have g:=qB s;obtain⟨C,A,w,r⟩:=zB (by omega) (λa t d=>by obtain⟨n,q1,-,-,q4,-⟩:=c a t d;exact⟨n,q1,q4⟩) 16 (kqa _) o s;rw[I] at w r c;rw[F];obtain⟨J,H⟩:=i9 u k;have q:slsOk (aj ws o)=true:=(cO _).2 λi m=>by
  rw[w i m];have f:=(cO ws).1 k i m;unfold nwS;split
  .rename_i hu;obtain⟨t,d⟩:=Option.isSome_iff_exists.1 (r i m hu);obtain⟨n,rfl,n1,-,n2,-⟩:=c _ _ d;obtain⟨u1,-,-⟩:=yL f hu;rw[d];unfold nJ;rw[if_pos rfl];simp only[kqo,kzc,kq8];omega
  exact f
 obtain⟨D,z⟩:=i9 (ws:=aj ws o) (by rw[av];exact u) q;refine⟨by omega,x,B,J,H,D,z,λe E=>?_,A,g,w,r⟩;obtain⟨i,i1,G,y⟩:=C e E;exact⟨by rw[G];omega,y⟩
theorem yW(F:List Nat)(a:Int)(j:Nat):(ry F a j).Pairwise (· < ·):=by
 induction j with
 | zero=>exact List.Pairwise.nil
 | succ j ih =>
  rw[rb,kk7];refine⟨ih,by split<;>simp,λx c y b=>?_⟩;obtain⟨i,i1,-,i3⟩:=kt.1 c;split at b
  .simp only[kqx] at b;omega
  cases b
def BG (ws x:List Nat) (M:List (Int × Int)) (r:Nat):Prop:=(wd ws r=0/\wd x r=0)\/(0<wd ws r/\∃t m:Nat,gM M (wd ws r:Int)=some (t:Int)/\wd x r=t/\t<2048/\wd ws r=m/\m<ws.length)
theorem yT{M:List (Int × Int)}{f:Nat->Nat}(hM:∀a t,gM M a=some t->∃n:Nat,t=(n:Int)/\n<2048/\∃m:Nat,a=(m:Int)/\m<ws.length)(hl:∀i (w:i<l.length),l[i]=(f i:Int))(hf:∀i,i<l.length->f i<ws.length)(w:∀i j,i<j->j<l.length->f i<f j):∀k,k<=l.length->∀o,cX ws M (l.take k)=some o ->
 (∀e∈o,∃i,i<k/\e.a=(f i:Int)/\wd ws (f i)≠e.v/\e.v<2048)/\o.Pairwise (λa b=>a.a<b.a)/\(∀i,i<k->BG ws (aj ws o) M (f i)):=by
 intro k
 induction k with
 | zero =>intro _ o h;simp only[List.take_zero,cX,Option.some.injEq] at h;subst h;exact⟨λe q=>(by cases q),List.Pairwise.nil,λi h=>absurd h (by omega)⟩
 | succ k ih =>
  intro hk o h;have c:k<l.length:=by omega
  cases z:cX ws M (l.take k) with
  | none =>rw[kqn c,jg,z] at h;cases h
  | some o1 =>
  rw[lI c z,hl k c,kqi] at h;obtain⟨y,J,H⟩:=ih (by omega) o1 z;have p:wd (aj ws o1) (f k)=wd ws (f k):=aQ o1 ws _ λe q=>by
   obtain⟨i,O,L,-⟩:=y e q;have:=w i k O c;rw[L];omega
  have g:BG ws (aj ws o1) M (f k)->(∀e∈o1,∃i,i<k+1/\e.a=(f i:Int)/\wd ws (f i)≠e.v/\e.v<2048)/\o1.Pairwise (λa b=>a.a<b.a)/\(∀i,i<k+1->BG ws (aj ws o1) M (f i)):=by
   intro N;refine⟨λe q=>?_,J,λi w=>?_⟩
   .obtain ⟨i,B,s,G,D⟩:=y e q;exact⟨i,by omega,s,G,D⟩
   rcases kq6 i k with d|d
   .exact H i d
   have:i=k:=by omega
   subst this;exact N
  unfold fI at h;by_cases x:wd ws (f k)=0
  .rw[if_pos x] at h;simp only[kzt,Option.some.injEq,kzr] at h;subst h;exact g (.inl ⟨x,by rw[p,x]⟩)
  rw[if_neg x] at h;cases r:gn M (wd ws (f k)) with
  | none=>rw[r] at h;cases h
  | some t =>
   rw[r] at h;have A:gM M (wd ws (f k):Int)=some t:=by
    unfold gn at r;split at r
    .cases r
    exact r
   obtain⟨n,rfl,E,m,em,u⟩:=hM _ _ A;dsimp only at h;by_cases q:(wd ws (f k):Int)=(n:Int)
   .rw[if_pos q] at h;simp only[kzt,Option.some.injEq,kzr] at h;subst h;exact g (.inr ⟨by omega,n,m,A,by rw[p];omega,E,by omega,u⟩)
   rw[if_neg q] at h;simp only[kzt,Option.some.injEq] at h;subst h;rw[kqi];have C:f k<(aj ws o1).length:=by rw[av];exact hf k c
   refine⟨λe F=>?_,?_,λi hi2=>?_⟩
   .rcases kzu.1 F with d|d
    .obtain ⟨i,B,s,G,D⟩:=y e d;exact⟨i,by omega,s,G,D⟩
    simp only[kqx] at d;subst d;exact⟨k,by omega,rfl,by dsimp only;omega,E⟩
   .rw[kk7];refine⟨J,by simp,λa K b I=>?_⟩;simp only[kqx] at I;subst I;obtain⟨i,B,s,-⟩:=y a K;have:=w i k B c;rw[s];dsimp only;omega
   unfold BG;rw[eI,Aj C];rcases kq6 i k with d|d
   .have:=w i k d c;rw[if_neg (by omega)];exact H i d
   have:i=k:=by omega
   subst this;rw[if_pos rfl];exact .inr ⟨by omega,n,m,A,rfl,E,by omega,u⟩
theorem iz(h:dp ws a=0):∃f:Nat->Nat,(256<=ws.length/\ws.length<=2048)/\aW ws 128 128=0/\nO ws a=0/\(bH ws a).length<=8/\(cr ws a).length<=8 /\
 (∀i (c:i<(bH ws a).length),(bH ws a)[i]=(f i:Int)/\a<=(f i:Int)/\f i<ws.length/\BG ws (aj ws (cr ws a)) (ia ws 128 128) (f i)) /\
 (∀j,(∀i,i<(bH ws a).length->f i≠j)->wd (aj ws (cr ws a)) j=wd ws j) /\
 (∀e∈cr ws a,∃r:Nat,e.a=(r:Int)/\r<ws.length/\wd ws r≠e.v/\e.v<2048)/\(cr ws a).Pairwise (λa b=>a.a<b.a):=by
 have q:cg ws=0:=by
  by_cases z:cg ws=0
  .exact z
  rw[(xP rfl z).1] at h;exact absurd h z
 obtain⟨B,N,W⟩:=dQ q;cases k:jS (aJ ws 128) a with
 | none=>rw[(sA q k).1] at h;cases h
 | some b =>
  cases l:b.mark with
  | false=>rw[(rU q k l).1] at h;cases h
  | true =>
   cases A:cX ws (eT ws) (fv ws b) with
   | none=>rw[(zr q k l A).1] at h;cases h
   | some o =>
    have U:=(AK q k l A).2;have P:bH ws a=fv ws b:=by simp[bH,B,k]
    have ee:nO ws a=0:=by simp[nO,B,dG,k]
    obtain⟨m,t,xs,xk,xm,xn,ea,eb,ht8,hobj,hmlt,I,d⟩:=nz B k;have hbd:=gJ ws (ay B).1;have Q:(fv ws b).Pairwise (· < ·):=yW _ _ _;have D:=kze.1 Q;have g:∀i (c:i<(fv ws b).length),(fv ws b)[i]=((((fv ws b)[i]?.getD 0).toNat:Nat):Int):=λi c=>by
     obtain⟨r,u,-,-⟩:=d i c;rw[kql c,kq8,u,kqi]
    have hlo:=rh A;have C:=λx y (E:gM (eT ws) x=some y)=>Cr q E;have X:∀x y,gM (eT ws) x=some y->∃n:Nat,y=(n:Int)/\n<2048/\∃m:Nat,x=(m:Int)/\m<ws.length:=λx y E=>by
     obtain⟨n,T,-,-,S,m,V,-,Y⟩:=C x y E;exact⟨n,T,S,m,V,Y⟩
    have p:∀i,i<(fv ws b).length->((fv ws b)[i]?.getD 0).toNat<ws.length:=λi c=>by
     obtain⟨r,u,-,O⟩:=d i c;rw[kql c,kq8,u,kqi];exact O
    have s:∀i j,i<j->j<(fv ws b).length->((fv ws b)[i]?.getD 0).toNat<((fv ws b)[j]?.getD 0).toNat:=λi j G w=>by
     have z:=D i j (by omega) w G;have h2:=g i (by omega);have h3:=g j w;omega
    obtain⟨K,M,Z⟩:=yT X g p s _ (kqa _) o (by rw[kzf];exact A);rw[U,P];rw[<-W];refine⟨λi=>((fv ws b)[i]?.getD 0).toNat,by omega,N,ee,I,by omega,λi c=>⟨g i c,?_,p i c,Z i c⟩,λj w=>?_,λe F=>?_,M⟩
    .obtain ⟨r,u,e2,-⟩:=d i c;have:=g i c;rw[ea];show (m:Int)<=((((fv ws b)[i]?.getD 0).toNat:Nat):Int);omega
    .refine aQ o ws j λe F=>?_;obtain⟨i,J,H,-⟩:=K e F;have:=w i J;dsimp only at this;rw[H];omega
    obtain⟨i,J,H,R,L⟩:=K e F;exact⟨_,H,p i J,R,L⟩
end Go.Proofs.YtpcajamacpbjcaaGreat
