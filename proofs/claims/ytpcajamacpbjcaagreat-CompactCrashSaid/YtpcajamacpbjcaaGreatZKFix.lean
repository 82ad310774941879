/- Texts laid together: FixP Fix Fix2 Fix3 Fix4 FxSP FxOP. -/
import Derived.Test.YtpcajamacpbjcaaGreatZKRch
import Derived.Test.YtpcajamacpbjcaaGreatZKMove
import Derived.Test.YtpcajamacpbjcaaGreatZKHeap
set_option maxHeartbeats 16000000
set_option maxRecDepth 100000
set_option linter.all false
namespace Go.Proofs.YtpcajamacpbjcaaGreat
open Lib (hid)
variable {b:Bk}{a r:Int}{o:List En}{l:List Int}{ws:List Nat}{g j k p:Nat}
open Go.Proofs.Tryz
def cm (ws:List Nat):Int:=if ah ws=0 then aW ws 128 128 else ah ws
def eV (ws:List Nat):List (Int × Int):=if cm ws=0 then ic ws 128 128 else []
theorem dY(h:cm ws=0):ah ws=0/\aW ws 128 128=0/\eV ws=ic ws 128 128:=by
 have a:ah ws=0/\aW ws 128 128=0:=by
  unfold cm at h;split at h
  .rename_i a;exact⟨a,h⟩
  rename_i a;exact absurd h a
 exact⟨a.1,a.2,by simp[eV,h]⟩
theorem qo:∀ {l:List (Int × Int)} {a t:Int},gN l a=some t->(a,t)∈l:=by
 intro l
 induction l with
 | nil=>intro a t h;cases h
 | cons m l ih =>
  intro a t h;simp only[gN] at h;split at h
  .rename_i e;injection h with h;rw[<-e,<-h];simp
  exact kjb _ (ih h)
theorem EH(h:cm ws=0){t:Int}(ht:gN (eV ws) a=some t):∃n:Nat,t=(n:Int)/\128<=n/\n<ws.length/\n<2048/\∃m:Nat,a=(m:Int)/\128<=m/\m<ws.length:=by
 obtain⟨h1,k,u⟩:=dY h;rw[u] at ht;obtain⟨p,e⟩:=kj0.1 (qo ht);have g:=(kza.1 e).1;obtain⟨m,n,i,z,g3,-,-,-⟩:=vR k g;obtain⟨s,i2,l,r,i4,y⟩:=bY k;have hb:=mE s;have c:blocks ws 128=some l:=r;have d:=oP (ws:=ws) (by omega) c (by omega) (by omega) (by omega);have b:(128:Int)<=nO l:=by
  unfold nO;split
  .omega
  rename_i hl;obtain⟨a0,v,-,e1,-⟩:=b9 _ _ c (by omega) 0 (by omega);rw[bN l 0 (by omega),v,ae];omega
 obtain⟨x,w,o⟩:=vK d b;rw[e] at i;injection i with i;injection i with g4 g5;rw[y] at g e;have e:=(kza.1 e).2;have f:=(x p g).1;rw[e] at f;have hge:(128:Int)<=t:=by
  rcases kx6 p with j|j
  .subst j;have:=o g;rw[e] at this;dsimp only at this;omega
  have q:=(w 0 p g j).1;have h6:=o (by omega);rw[e] at q;dsimp only at q;omega
 dsimp only at f;exact⟨n,g5,by omega,by omega,by omega,m,g4,z,by omega⟩
def ge (m:List (Int × Int)) (v:Nat):Option Int:=if 2048<v then none else gN m (v:Int)
def jQ (l:List Bk) (a:Int):Option Bk:=l.find? λb=>b.at_==a&&b.kind==1
def qI (l:List Bk) (a:Int) (k:Nat):Prop:=∀j,j<k->((gk l j).at_==a&&(gk l j).kind==1)=false
theorem wG(l:List Bk)(a:Int):qI l a 0:=λj h=>absurd h (by omega)
theorem vO{l:List Bk}(h:qI l a k)(h2:((gk l k).at_==a&&(gk l k).kind==1)=false):qI l a (k+1):=λj hj=>by
 rcases kq6 j k with b|b
 .exact h j b
 .have:j=k:=by omega
  subst this;exact h2
theorem AA:∀ {l:List Bk} {a:Int},qI l a l.length->jQ l a=none:=by
 intro l
 induction l with
 | nil=>intro a _;rfl
 | cons b l ih =>intro a h;have c:(b.at_==a&&b.kind==1)=false:=h 0 (by simp);unfold jQ;rw[List.find?_cons,c];exact ih λj d=>by have:=h (j+1) (by simpa using d);rwa [iH] at this
theorem H4:∀ {l:List Bk} {a:Int} {k:Nat},k<l.length->qI l a k->((gk l k).at_==a&&(gk l k).kind==1)=true->jQ l a=some (gk l k):=by
 intro l
 induction l with
 | nil=>intro a k h;simp at h
 | cons b l ih =>
  intro a k e h c;cases k with
  | zero =>rw[nh] at c |-;unfold jQ;rw[List.find?_cons,c]
  | succ k =>have d:(b.at_==a&&b.kind==1)=false:=h 0 (by omega);unfold jQ;rw[List.find?_cons,d];rw[iH] at c |-;exact ih (by simpa using e) (λj hj=>by have:=h (j+1) (by omega);rwa [iH] at this) c
def vX (ws:List Nat) (a:Int):Bk:=(jQ (aN ws 128) a).getD mf
def dL (ws:List Nat) (a:Int):Int:=if (jQ (aN ws 128) a).isSome then 0 else 6
theorem jm{l:List Bk}(h:jQ l a=some b):b∈l/\b.at_=a/\b.kind=1:=by unfold jQ at h;have c:=List.find?_some h;simp only[kqt,kqw] at c;exact⟨List.mem_of_find?_eq_some h,c.1,c.2⟩
def ra (F:List Nat) (a:Int) (j:Nat):List Int:=(List.range j).filterMap λ(i:Nat)=>if F[i]? = some 3 then some (a+2+(i:Int)) else none
theorem qS(F:List Nat)(a:Int)(j:Nat):ra F a (j+1)=ra F a j++(if F[j]? = some 3 then [a+2+(j:Int)] else []):=by unfold ra;rw[kkv,kk6];congr 1;simp only[kvh,kvo];split<;>simp_all
theorem uG(F:List Nat)(a:Int)(j:Nat):(ra F a j).length<=j:=by unfold ra;have:=kkp (λ(i:Nat)=>if F[i]? = some 3 then some (a+2+(i:Int)) else none) (List.range j);rwa [kkg] at this
theorem k8{F:List Nat}{x:Int}:x∈ra F a j↔∃i,i<j/\F[i]? = some 3/\x=a+2+(i:Int):=by
 unfold ra;rw[kjz];constructor
 .rintro ⟨i,d,b⟩;split at b
  .rename_i c;injection b with b;exact⟨i,kzh.1 d,c,b.symm⟩
  cases b
 rintro ⟨i,d,b,c⟩;exact⟨i,kzh.2 d,by rw[if_pos b,c]⟩
def vj (ws:List Nat) (b:Bk):List Nat:=a8 (wd ws (tyA b)) (wd ws (tyA b+1))
def fu (ws:List Nat) (b:Bk):List Int:=ra (vj ws b) b.at_ (vj ws b).length
theorem BM(h:ah ws=0)(ho:jQ (aN ws 128) a=some b):∃m:Nat,a=(m:Int)/\b=bkAt ws m/\fQ ws m:=by obtain⟨d,e,i⟩:=jm ho;rw[(gj h).2.1] at d;obtain⟨k,g,rfl⟩:=kqz d;obtain⟨m,c,f⟩:=ol h g i;exact⟨m,by rw[<-e,c];rfl,c,f⟩
def fI (ws:List Nat) (m:List (Int × Int)) (r:Nat):Option (List En):=if wd ws r=0 then some [] else match ge m (wd ws r) with
 | none=>none
 | some t=>if (wd ws r:Int)=t then some [] else some [⟨(r:Int),t.toNat⟩]
def di (ws:List Nat) (m:List (Int × Int)):List Int->Option (List En)
 | []=>some []
 | r::l=>match fI ws m r.toNat with
  | none=>none
  | some x=>(di ws m l).map (x ++ ·)
theorem jc(ws:List Nat)(m:List (Int × Int))(a b:List Int):di ws m (a++b)=match di ws m a with
 | none=>none
 | some x=>(di ws m b).map (x ++ ·):=by
 induction a with
 | nil=>simp[di]
 | cons r a ih =>
  simp only[kzq,di];cases fI ws m r.toNat with
  | none=>rfl
  | some x =>
   rw[ih];cases di ws m a with
   | none=>rfl
   | some y =>
    cases di ws m b with
    | none=>rfl
    | some z=>simp
theorem ly{m:List (Int × Int)}(hk:k<l.length)(h:di ws m (l.take k)=some o):di ws m (l.take (k+1))=(fI ws m l[k].toNat).map (o ++ ·):=by rw[kqo hk,jc,h];simp only[di];cases fI ws m l[k].toNat<;>simp
theorem Cd{m:List (Int × Int)}(hk:k<l.length)(h:di ws m (l.take k)=some o)(h2:fI ws m l[k].toNat=none):di ws m l=none:=by
 conv=>lhs;rw[<-kxg (k+1) l]
 rw[jc,ly hk h,h2];rfl
theorem rK{m:List (Int × Int)}:∀ {l:List Int} {o:List En},di ws m l=some o->o.length<=l.length:=by
 intro l
 induction l with
 | nil=>intro o h;simp only[di,Option.some.injEq] at h;subst h;simp
 | cons r l ih =>
  intro o h;simp only[di] at h;cases a:fI ws m r.toNat with
  | none=>rw[a] at h;cases h
  | some x =>
   rw[a] at h;cases b:di ws m l with
   | none=>rw[b] at h;cases h
   | some y =>
    rw[b] at h;simp only[kzz,Option.some.injEq] at h;subst h;have h1:=ih b;have h2:x.length<=1:=by
     unfold fI at a;split at a
     .injection a with a;subst a;simp
     split at a
     .cases a
     split at a<;>(injection a with a;subst a;simp)
    rw[kqu,kq2];omega
def dt (ws:List Nat) (a:Int):Int:=if cm ws=0 then (match jQ (aN ws 128) a with
 | none=>6
 | some b=>if b.mark=true then (match di ws (eV ws) (fu ws b) with | none=>50 | some _=>0) else 6) else cm ws
def cD (ws:List Nat) (a:Int):List En:=if cm ws=0 then (match jQ (aN ws 128) a with
 | none=>[]
 | some b=>if b.mark=true then (di ws (eV ws) (fu ws b)).getD [] else []) else []
theorem yX(h:cm ws=r)(h0:r≠0):dt ws a=r/\cD ws a=[]:=by subst h;simp[dt,cD,h0]
theorem tz(h:cm ws=0)(h1:jQ (aN ws 128) a=none):dt ws a=6/\cD ws a=[]:=by simp[dt,cD,h,h1]
theorem tv(h:cm ws=0)(h1:jQ (aN ws 128) a=some b)(h2:b.mark=false):dt ws a=6/\cD ws a=[]:=by simp[dt,cD,h,h1,h2]
theorem yw(h:cm ws=0)(h1:jQ (aN ws 128) a=some b)(h2:b.mark=true)(h3:di ws (eV ws) (fu ws b)=none):dt ws a=50/\cD ws a=[]:=by simp[dt,cD,h,h1,h2,h3]
theorem Cl(h:cm ws=0)(h1:jQ (aN ws 128) a=some b)(h2:b.mark=true)(h3:di ws (eV ws) (fu ws b)=some o):dt ws a=0/\cD ws a=o:=by simp[dt,cD,h,h1,h2,h3]
def nT (ws:List Nat) (a:Int):Int:=if ah ws=0 then dL ws a else ah ws
def bM (ws:List Nat) (a:Int):List Int:=if ah ws=0 then (match jQ (aN ws 128) a with | none=>[] | some b=>fu ws b) else []
def nV (s:Sl):Nat:=s.at_.toNat+s.gen.toNat*4294967296+(if s.used=true then 9223372036854775808 else 0)
def gx (ws:List Nat) (m:List (Int × Int)) (i:Nat):Option (List En):=if (slAt ws i).used=true then (match ge m (slAt ws i).at_.toNat with
 | none=>none
 | some t=>if wd ws (112+i)=nV ⟨(slAt ws i).gen,true,t⟩ then some [] else some [⟨((112+i:Nat):Int),nV ⟨(slAt ws i).gen,true,t⟩⟩]) else some []
def slFix (ws:List Nat) (m:List (Int × Int)):Nat->Option (List En)
 | 0=>some []
 | k+1=>match slFix ws m k with
  | none=>none
  | some o=>(gx ws m k).map (o ++ ·)
theorem wh{m:List (Int × Int)}(h:slFix ws m k=none):∀ {n:Nat},k<=n->slFix ws m n=none:=by
 intro n
 induction n with
 | zero =>
  intro b;have:k=0:=by omega
  subst this;exact h
 | succ n ih =>
  intro b;rcases kq6 n k with a|a
  .have:k=n+1:=by omega
   subst this;exact h
  simp only[slFix,ih a]
theorem qQ{m:List (Int × Int)}:∀ {k:Nat} {o:List En},slFix ws m k=some o->o.length<=k:=by
 intro k
 induction k with
 | zero=>intro o h;simp only[slFix,Option.some.injEq] at h;subst h;simp
 | succ k ih =>
  intro o h;simp only[slFix] at h;cases b:slFix ws m k with
  | none=>rw[b] at h;cases h
  | some x =>
   rw[b] at h;cases a:gx ws m k with
   | none=>rw[a] at h;cases h
   | some y =>
    rw[a] at h;simp only[kzz,Option.some.injEq] at h;subst h;have h1:=ih b;have h2:y.length<=1:=by
     unfold gx at a;split at a
     .split at a
      .cases a
      split at a<;>(injection a with a;subst a;simp)
     injection a with a;subst a;simp
    rw[kqu];omega
def ep (ws:List Nat):Int:=if cm ws=0 then (if slsOk ws=true then (match slFix ws (eV ws) 16 with | none=>50 | some _=>0) else 50) else cm ws
def dV (ws:List Nat):List En:=if ep ws=0 then (slFix ws (eV ws) 16).getD [] else []
open Go.RowKit
theorem yW(A:Option Addr)(m:List (Int × Int))(c n v:Nat)(w:World)(hn:m.length=n)(hm:n<=1000000)(hv:v<18446744073709551616)(hr:RdM w w.heap.size A m):
 Calls prog 256 #[.slice A n c,.int .u64 (v:Int)] w λe w'=>e=.returned (.tuple #[.int .i64 ((ge m v).getD 0),.bool (ge m v).isSome])/\Below w.heap.size w w':=by
 have g:=hid (λa=>fwTo_c A m c n w.heap.size a w hn hm hr (kqd _));by_cases h:2048<v
 .have H:Hid (ge m v=none):=hid (by simp[ge,h]);have j:decide ((2048:Int)<(v:Int))=true:=by rw[kqn];omega
  have f:decide (2048<v)=true:=by rw[kqn];exact h
  clear hv hr hn hm h;go_enter func256,ntmps256;go_wp2;go_ret2;exact⟨by rw[H.out];rfl,kql _ _⟩
 have H:Hid (ge m v=gN m (v:Int)):=hid (by simp[ge,h]);have j:decide ((2048:Int)<(v:Int))=false:=by rw[kqh];omega
 have f:decide (2048<v)=false:=by rw[kqh];exact h
 have hw:IntKind.i64.wrap (v:Int)=(v:Int):=kqs _ (by omega);have b:=hid (g.out (v:Int));rw[<-H.out] at b;obtain⟨q,i⟩:=xq (ge m v);rw[i] at b |-;clear hv hr hn hm h i g H;go_enter func256,ntmps256;go_wp2_with fail;refine b.out.mono ?_;rintro e w1 ⟨rfl,d⟩;go_wp2;go_ret2;exact⟨rfl,d⟩
def GT (ws:List Nat) (e:Ending) (w':World):Prop:=∃A c,e=.returned (.tuple #[.slice A (eV ws).length c,.int .i64 (cm ws)])/\RdM w' w'.heap.size A (eV ws)/\(eV ws).length<=c
theorem ug(A:Option Addr)(ws:List Nat)(c n:Nat)(w:World)(hn:ws.length=n)(hm:n<=9223372036854775807)(f:RdW w w.heap.size A ws)(ho:∀x∈ws,x<18446744073709551616):
 Calls prog 255 #[.slice A n c] w λe w'=>GT ws e w'/\Below w.heap.size w w':=by
 have u:=hid f;have d:=hid (mt A ws c n w hn hm f ho);have l:=hid (λW (h:RdW W W.heap.size A ws)=>pN A ws c n 128 128 W hn hm (by omega) (by omega) h ho);unfold vD at l;clear f ho hn hm;by_cases g:ah ws=0
 .have b:Hid (cm ws=aW ws 128 128/\eV ws=ic ws 128 128):=hid (by
   have i:cm ws=aW ws 128 128:=by simp[cm,g]
   refine⟨i,?_⟩;unfold eV;rw[i];split
   .rfl
   rename_i h2;simp[ic,h2])
  rw[g] at d;clear g;go_enter func255,ntmps255;go_wp2_with fail;refine d.out.mono ?_;rintro e y ⟨rfl,a⟩;have k:=hid a;have q:=hid (u.out.up a a.size);clear a;go_wp2_with fail;refine (l.out _ q.out).mono ?_;rintro e w2 ⟨⟨v,z,rfl,j,o⟩,m⟩;have s:=hid (k.out.trans (m.mono k.out.size));have p:=hid j;have t:=hid o;clear m j o;go_wp2;go_ret2;exact⟨⟨v,z,by rw[b.out.1,b.out.2];rfl,by rw[b.out.2];exact p.out,by rw[b.out.2];exact t.out⟩,s.out⟩
 obtain⟨r,f⟩:=xq (ah ws);have b:Hid (cm ws=r/\eV ws=[]):=hid (by
  have i:cm ws=r:=by unfold cm;rw[if_neg g,f]
  exact⟨i,by unfold eV;rw[i,if_neg (by rw[<-f];exact g)]⟩)
 rw[f] at d g;have hrn:(r != 0)=true:=by rw[kqv];exact g
 clear g f;go_enter func255,ntmps255;go_wp2_with fail;refine d.out.mono ?_;rintro e y ⟨rfl,a⟩;go_wp2;go_ret2;exact⟨⟨none,0,by rw[b.out.1,b.out.2];rfl,by rw[b.out.2];exact Rd.nil_,by rw[b.out.2];exact kqd _⟩,a⟩
theorem Gv{a:Nat}(ha:a<4294967296)(hg:g<2147483648):bits BinOp.or .u64 (a:Int) ((g:Int)*4294967296)=((a+g*4294967296:Nat):Int) /\
 bits BinOp.or .u64 ((a+g*4294967296:Nat):Int) 9223372036854775808=((a+g*4294967296+9223372036854775808:Nat):Int):=by
 refine⟨or32 ha (by omega),?_⟩;have h:=u64_or_nat (a+g*4294967296) 9223372036854775808 (by omega) (by omega);have e:(a+g*4294967296) ||| 9223372036854775808=a+g*4294967296+9223372036854775808:=by rw[show (9223372036854775808:Nat)=1*2 ^ 63 by decide,jZ (i:=63) (by omega)]
 rw[e] at h;exact h
theorem BK{a q:Nat}(hp:a+g*4294967296=p)(hq:p+9223372036854775808=q):nV ⟨(g:Int),true,(a:Int)⟩=q:=by unfold nV;dsimp only;rw[kqj,kqj,if_pos rfl,hp,hq]
theorem vC{a:Nat}(hp:a+g*4294967296=p):nV ⟨(g:Int),false,(a:Int)⟩=p:=by unfold nV;dsimp only;rw[kqj,kqj,if_neg (by simp),hp,kz8]
theorem Dl(g a p:Nat)(w:World)(hg:g<2147483648)(ha:a<4294967296)(o1:bits BinOp.or .u64 (a:Int) ((g:Int)*4294967296)=(p:Int)):
 Calls prog 285 #[.agg #[.int .i64 (g:Int),.bool false,.int .i64 (a:Int)]] w λe w'=>e=.returned (.int .u64 (p:Int))/\Below w.heap.size w w':=by have hw1:IntKind.u64.wrap (a:Int)=(a:Int):=kzt _ (by omega);have hw2:IntKind.u64.wrap (g:Int)=(g:Int):=kzt _ (by omega);have hw3:IntKind.u64.wrap ((g:Int)*4294967296)=(g:Int)*4294967296:=kzt _ (by omega);have b:=hid ((kql w.heap.size w).alloc (kqd _) (.cells #[.int .i64 (g:Int),.bool false,.int .i64 (a:Int)] 52));clear ha hg;go_enter func285,ntmps285;go_wp2;go_ret;exact⟨rfl,b.out⟩
theorem De(g a p q:Nat)(w:World)(hg:g<2147483648)(ha:a<4294967296)(o1:bits BinOp.or .u64 (a:Int) ((g:Int)*4294967296)=(p:Int))(o2:bits BinOp.or .u64 (p:Int) 9223372036854775808=(q:Int)):
 Calls prog 285 #[.agg #[.int .i64 (g:Int),.bool true,.int .i64 (a:Int)]] w λe w'=>e=.returned (.int .u64 (q:Int))/\Below w.heap.size w w':=by have hw1:IntKind.u64.wrap (a:Int)=(a:Int):=kzt _ (by omega);have hw2:IntKind.u64.wrap (g:Int)=(g:Int):=kzt _ (by omega);have hw3:IntKind.u64.wrap ((g:Int)*4294967296)=(g:Int)*4294967296:=kzt _ (by omega);have b:=hid ((kql w.heap.size w).alloc (kqd _) (.cells #[.int .i64 (g:Int),.bool true,.int .i64 (a:Int)] 52));clear ha hg;go_enter func285,ntmps285;go_wp2;go_ret;exact⟨rfl,b.out⟩
theorem Ii(g a:Nat)(u:Bool)(w:World)(hg:g<2147483648)(ha:a<4294967296):
 Calls prog 285 #[.agg #[.int .i64 (g:Int),.bool u,.int .i64 (a:Int)]] w λe w'=>e=.returned (.int .u64 (nV ⟨(g:Int),u,(a:Int)⟩:Nat))/\Below w.heap.size w w':=by
 obtain⟨b,c⟩:=Gv ha hg;obtain⟨p,d⟩:=xq (a+g*4294967296);rw[d] at b c;obtain⟨q,f⟩:=xq (p+9223372036854775808);rw[f] at c;cases u
 .rw[vC d];exact Dl g a p w hg ha b
 rw[BK d f];exact De g a p q w hg ha b c
theorem GR(g a:Nat)(u:Bool)(w:World)(hg:g<2147483648)(ha:a<4294967296)(hok:mA ⟨(g:Int),u,(a:Int)⟩=true):
 Calls prog 257 #[.agg #[.int .i64 (g:Int),.bool u,.int .i64 (a:Int)]] w λe w'=>e=.returned (.tuple #[.int .u64 (nV ⟨(g:Int),u,(a:Int)⟩:Nat),.int .i64 0])/\Below w.heap.size w w':=by have h:=hid (λW=>uQ (g:Int) u (a:Int) W (by omega) (by omega));rw[hok] at h;have c:=hid (λW=>Ii g a u W hg ha);have l:=Bx.new w 52 #[.int .i64 (g:Int),.bool u,.int .i64 (a:Int)];have k:=hid l;have j:=hid ((kql w.heap.size w).alloc (kqd _) (.cells #[.int .i64 (g:Int),.bool u,.int .i64 (a:Int)] 52));obtain⟨V,m⟩:∃V,nV ⟨(g:Int),u,(a:Int)⟩=V:=⟨_,rfl⟩;rw[m] at c |-;clear l m hok hg ha;go_enter func257,ntmps257;go_wp2_with fail;refine (h.out _).mono ?_;rintro e w1 ⟨rfl,b⟩;have f:=k.out.up b k.out.lt;obtain⟨p0,p1,p2,-⟩:=f.c3;have d:=hid (j.out.trans (b.mono j.out.size));clear b f;go_wp2_with fail;refine (c.out _).mono ?_;rintro e w2 ⟨rfl,i⟩;go_wp2;go_ret2;exact⟨rfl,d.out.trans (i.mono d.out.size)⟩
theorem yS(A:Option Addr)(ws:List Nat)(c n:Nat)(a:Int)(w:World)(hn:ws.length=n)(hm:n<=9223372036854775807)(hr:RdW w w.heap.size A ws)(ho:∀x∈ws,x<18446744073709551616):
 Calls prog 258 #[.slice A n c,.int .i64 a] w λe w'=>e=.returned (.tuple #[(vX ws a).val,.int .i64 (dL ws a)])/\Below w.heap.size w w':=by
 have j:=hid (lU A ws c n 128 (w.alloc (.cells #[.int .i64 0,.int .i64 0,.int .i64 0,.int .i64 0,.bool false,.int .u64 0] 55)) hn hm ((hr.alloc (kqd _) _).more (by simp)) ho);unfold pG at j;rw[kqm] at j;have S:=gO ws 128;have HN:Hid (qI (aN ws 128) a (aN ws 128).length->vX ws a=mf/\dL ws a=6):=hid λh=>by simp[vX,dL,AA h]
 have HY:Hid (∀k,k<(aN ws 128).length->qI (aN ws 128) a k->((gk (aN ws 128) k).at_==a&&(gk (aN ws 128) k).kind==1)=true->vX ws a=gk (aN ws 128) k/\dL ws a=0):=hid λk h1 h2 h3=>by simp[vX,dL,H4 h1 h2 h3]
 obtain⟨l,U⟩:=xq (aN ws 128);obtain⟨r,K⟩:=xq (bQ ws 128);rw[U,K] at j;rw[U] at S HN HY;have L:=pO;clear U K hr ho hn hm;go_enter func258,ntmps258;go_wp2_with fail;refine j.out.mono ?_;rintro e w1 ⟨⟨A1,c1,rfl,N,-⟩,u⟩;have t:=av u;have H:=t.size;have Z:=hid (Bx.of_new u);have R:=Z.out.lt;have V:=hid N;have O:=hid t;clear N u t;go_wp2_with fail;go_loopw [17] (λi wr=>∃k:Nat,k<=l.length/\i=.int .i64 k/\Hid (qI l a k)/\Below w1.heap.size w1 wr) (λi _=>l.length-(intOf i).toNat)
 case atStart=>exact⟨0,kqy _,rfl,wG l a,kql _ _⟩
 obtain⟨k,hk,rfl,s,E⟩:=hrel;have W:=E.size;have z:=hid (Z.out.up E R);by_cases q:k<l.length
 .obtain ⟨b,off,rfl,hbw,q0,q1,q2,q3,q4,q5⟩:=RdB.at_ (V.out.below E) q;have g:=hid (λh=>vO s.out h);have f:=hid (λh=>HY.out k q s.out h);rw[bN l k q] at g f;obtain⟨x,hx⟩:=xq (l[k]);rw[hx] at q0 q1 q2 q3 q4 q5 g f;obtain⟨m,xs,p,F,y,B⟩:=x;dsimp only at q0 q1 q2 q3 q4 q5 g;have hlm:(k:Int)<(l.length:Int):=by omega
  clear hx;obtain⟨d1,e1⟩:=xq ((m==a));obtain⟨d2,e2⟩:=xq ((p==1));dsimp only at f;rw[e1,e2] at g f;cases d1
  .have C:=hid (g.out rfl);clear g f e2;go_wp2;go_roundw
   case rel=>exact⟨k+1,by omega,by go_num,C.out,E.alloc W _⟩
   case measure=>simp[intOf];omega
  cases d2
  .have C:=hid (g.out rfl);clear g f;go_wp2;go_roundw
   case rel=>exact⟨k+1,by omega,by go_num,C.out,E.alloc W _⟩
   case measure=>simp[intOf];omega
  have G:=hid (f.out rfl);have o:=hid (Bx.new wr 55 #[.int .i64 m,.int .i64 xs,.int .i64 p,.int .i64 F,.bool y,.int .u64 (B:Int)]);have P:=hid (E.alloc W (.cells #[.int .i64 m,.int .i64 xs,.int .i64 p,.int .i64 F,.bool y,.int .u64 (B:Int)] 55));have Q:=hid (z.out.alloc (.cells #[.int .i64 m,.int .i64 xs,.int .i64 p,.int .i64 F,.bool y,.int .u64 (B:Int)] 55));clear g f;go_upto_region 6 with (fail);obtain⟨wn,I⟩:∃wn,wr.alloc (.cells #[.int .i64 m,.int .i64 xs,.int .i64 p,.int .i64 F,.bool y,.int .u64 (B:Int)] 55)=wn:=⟨_,rfl⟩;rw[I] at o Q P |-;clear I;go_wp2_with (first
   | ((with_reducible refine aM 55 (.tmp 9) ?_);refine kxf rfl _ _ rfl wr.heap.size (by rfl) 55 #[.int .i64 m,.int .i64 xs,.int .i64 p,.int .i64 F,.bool y,.int .u64 (B:Int)] (0,0) _ o.out underlying55 (by rfl) L ?_)
   | ((with_reducible refine aq 55 (.tmp 4) _ ?_);refine ak rfl _ _ _ rfl w.heap.size 55 #[.int .i64 0,.int .i64 0,.int .i64 0,.int .i64 0,.bool false,.int .u64 0] #[.int .i64 m,.int .i64 xs,.int .i64 p,.int .i64 F,.bool y,.int .u64 (B:Int)] (by rfl) (by rfl) Q.out rfl L (pp _ _ _ _ _ _) ?_;intro w3 M J;have Y:=hid M;have X:=hid J;clear M J))
  exact kqr (v:=.tuple #[.agg #[.int .i64 m,.int .i64 xs,.int .i64 p,.int .i64 F,.bool y,.int .u64 (B:Int)],.int .i64 0]) (aR results258 _ Y.out rfl rfl) rfl ⟨by rw[G.out.1,G.out.2];rfl,X.out.below (O.out.trans (P.out.mono H)) (kqd _)⟩
 have G:=hid (HN.out (by have:=s.out;rwa [show k=l.length by omega] at this));have T:=hid (O.out.trans (E.mono H));obtain⟨x0,x1,x2,x3,x4,x5,D,hgl⟩:=z.out.c6;have f0:=D 0;have f1:=D 1;have f2:=D 2;have f3:=D 3;have f4:=D 4;have f5:=D 5;clear D;go_wp2_with fail;exact kqr (v:=.tuple #[.agg #[.int .i64 0,.int .i64 0,.int .i64 0,.int .i64 0,.bool false,.int .u64 0],.int .i64 6]) (aR results258 _ (lT z.out _ _ _ _ _ _) rfl rfl) rfl ⟨by rw[G.out.1,G.out.2];rfl,fo T.out (kqd _) _ _ _ _ _ _⟩
theorem t9(A:Option Addr)(ws:List Nat)(c n t xa:Nat)(xs xk:Int)(xm:Bool)(xn:Nat)(w:World)(hn:ws.length=n)(hm:n<=1000000)(h2:256<=n)(ht:t<8)(hxa:xa<=1000000)(hr:RdW w w.heap.size A ws)(ho:∀x∈ws,x<18446744073709551616):
 Calls prog 259 #[.slice A n c,.agg #[.int .i64 (xa:Int),.int .i64 xs,.int .i64 xk,.int .i64 (t:Int),.bool xm,.int .u64 (xn:Int)]] w λe w'=>(∃A' c',e=.returned (.slice A' (fu ws ⟨(xa:Int),xs,xk,(t:Int),xm,xn⟩).length c')/\RdI w' w'.heap.size A' (fu ws ⟨(xa:Int),xs,xk,(t:Int),xm,xn⟩)/\(fu ws ⟨(xa:Int),xs,xk,(t:Int),xm,xn⟩).length<=c')/\Below w.heap.size w w':=by
 subst hn;have hx:=fF ho (96+2*t);have hy:=fF ho (96+2*t+1);have O:=hid (λW=>pA (wd ws (96+2*t)) (wd ws (96+2*t+1)) W hx hy);unfold C4 at O;have G:=kR (wd ws (96+2*t)) (wd ws (96+2*t+1));have U:fu ws ⟨(xa:Int),xs,xk,(t:Int),xm,xn⟩=ra (a8 (wd ws (96+2*t)) (wd ws (96+2*t+1))) (xa:Int) (a8 (wd ws (96+2*t)) (wd ws (96+2*t+1))).length:=rfl;rw[U];clear U;obtain⟨b,g,rfl,hb,D⟩:=RdW.at_ hr (show 96+2*t<ws.length by omega);obtain⟨b',off',e',-,B⟩:=RdW.at_ hr (show 96+2*t+1<ws.length by omega);cases e';rw[<-cq] at D B;obtain⟨x,Jc⟩:=xq (wd ws (96+2*t));obtain⟨y,J⟩:=xq (wd ws (96+2*t+1));rw[Jc] at D O G |-;rw[J] at B O G |-;obtain⟨F,hF⟩:=xq (a8 x y);obtain⟨r,R⟩:=xq (eJ x y);rw[hF,R] at O;rw[hF] at G |-;have Jp:=hid (λj=>qS F (xa:Int) j);have Jk:=hid (λj=>uG F (xa:Int) j);have t0:(0:Int)<=(t:Int):=by omega
 have t8:(t:Int)<8:=by omega
 have w1:IntKind.i64.wrap (2*(t:Int))=2*(t:Int):=kqs _ (by omega);have w2:IntKind.i64.wrap (96+2*(t:Int))=96+2*(t:Int):=kqs _ (by omega);have w3:IntKind.i64.wrap (96+2*(t:Int)+1)=96+2*(t:Int)+1:=kqs _ (by omega);have wa:IntKind.i64.wrap ((xa:Int)+2)=(xa:Int)+2:=kqs _ (by omega);have i1:(0:Int)<=96+2*(t:Int):=by omega
 have i2:(96:Int)+2*(t:Int)<(ws.length:Int):=by omega
 have i3:(0:Int)<=96+2*(t:Int)+1:=by omega
 have i4:(96:Int)+2*(t:Int)+1<(ws.length:Int):=by omega
 have n1:((96:Int)+2*(t:Int)).toNat=96+2*t:=by omega
 have n2:((96:Int)+2*(t:Int)+1).toNat=96+2*t+1:=by omega
 have bx:=Bx.new w 55 #[.int .i64 (xa:Int),.int .i64 xs,.int .i64 xk,.int .i64 (t:Int),.bool xm,.int .u64 (xn:Int)];have o:=(kql w.heap.size w).alloc (kqd _) (.cells #[.int .i64 (xa:Int),.int .i64 xs,.int .i64 xk,.int .i64 (t:Int),.bool xm,.int .u64 (xn:Int)] 55);replace D:=(o.cell (p:=⟨b,g+(96+2*t),none⟩) hb).trans D;replace B:=(o.cell (p:=⟨b,g+(96+2*t+1),none⟩) hb).trans B;have S:(w.alloc (.cells #[.int .i64 (xa:Int),.int .i64 xs,.int .i64 xk,.int .i64 (t:Int),.bool xm,.int .u64 (xn:Int)] 55)).heap.size=w.heap.size+1:=by simp
 obtain⟨i0,hi,Y,L,Jb⟩:=kzv BH;have HI:=hid hi;have Je:=hid Y;have Jm:=hid L;have Jf:=hid Jb;clear hi Y L Jb;clear hr hx hy Jc J ho ht hF R;go_enter func259,ntmps259;go_wp2_with fail;obtain⟨q,Q⟩:∃q,w.alloc (.cells #[.int .i64 (xa:Int),.int .i64 xs,.int .i64 xk,.int .i64 (t:Int),.bool xm,.int .u64 (xn:Int)] 55)=q:=⟨_,rfl⟩;rw[Q] at D B bx o S |-;clear Q;have b3:q.cell? ⟨w.heap.size,3,none⟩=some (.int .i64 (t:Int)):=bx.cell 3;have P:b<q.heap.size:=by omega
 have Z:w.heap.size<q.heap.size:=by omega
 have BX:=hid bx;have N:=hid o;clear bx o S
 go_region_held3 (λX:World=>X.cell? ⟨b,g+(96+2*t),none⟩=some (.int .u64 (x:Int))/\X.cell? ⟨b,g+(96+2*t+1),none⟩=some (.int .u64 (y:Int))/\X.cell? ⟨w.heap.size,3,none⟩=some (.int .i64 (t:Int))) (go_keep)
  (first | (go_at_call 117;refine (O.out _).mono ?_;rintro e H ⟨⟨A1,c1,rfl,Eq,-⟩,l⟩;have m0:=(l.cell (p:=⟨b,g+(96+2*t),none⟩) P).trans D;have m1:=(l.cell (p:=⟨b,g+(96+2*t+1),none⟩) P).trans B;have m2:=(l.cell (p:=⟨w.heap.size,3,none⟩) Z).trans b3;have Jg:=hid Eq;have C:Below q.heap.size q H:=(kql q.heap.size q).drew.trans l;have BX5:=hid (BX.out.up C Z);have Jd:=hid (N.out.trans (C.mono N.out.size));clear Eq l C))
 have Jh:=Jd.out.size;clear m0 m1 m2 D B b3;go_wp2_with fail;go_loopw [7,31] (λv i wr=>∃k:Nat,k<=F.length/\i=.int .i64 k/\wr.ownsRow H.heap.size 3 1 v (ra F (xa:Int) k).length ((ra F (xa:Int) k).flatMap cQ)/\Below H.heap.size H wr) (λ_ i _=>F.length-(intOf i).toNat)
 case atStart=>exact⟨0,kqy _,rfl,kq8 _ _ _ _,kql _ _⟩
 obtain⟨k,hk,rfl,a,I⟩:=hrel;have hz:=I.size;by_cases K:k<F.length
 .obtain ⟨bF,oF,rfl,hbF,y0⟩:=RdY.at_ (show RdY wr H.heap.size A1 F from Rd.below Jg.out I) K;have u:=BX5.out.up I BX5.out.lt;have p0:=u.cell 0;have hgr:=u.lt;have d:=hid (Jp.out k);have Ji:=Jk.out k;rw[kqk K] at d;obtain⟨E,Ja⟩:=xq (F[k]);obtain⟨m,T⟩:∃m,ra F (xa:Int) k=m:=⟨_,rfl⟩;rw[Ja] at y0 d;rw[T] at a d Ji;have p0':wr.cell? ⟨w.heap.size,0,none⟩=some (.int .i64 (xa:Int)):=p0;have hki:(k:Int)<(F.length:Int):=by omega
  have hwk:IntKind.i64.wrap ((xa:Int)+2+(k:Int))=(xa:Int)+2+(k:Int):=kqs _ (by omega);clear Ja T u p0;by_cases f:E=3
  .have e3:((E:Int)==3)=true:=by rw[kqw];omega
   have e3n:(E==3)=true:=by rw[kqw];exact f
   have HY:=hid (show ra F (xa:Int) (k+1)=m++[(xa:Int)+2+(k:Int)] by rw[d.out,if_pos (by rw[f])]);clear f d;go_wp2_with (at_builtin;refine kzd _ rfl _ _ 42 rfl H.heap.size 3 i0 _ 1 8 underlying42 HI.out Je.out Jm.out Jf.out rfl (by decide) _ _ _ rfl (a.alloc _) ⟨_,0,none⟩ 1 1 [.int .i64 ((xa:Int)+2+(k:Int))] rfl rfl (cC _ _ _) (by simp[Value.oneCell']) (by unfold maxLen;omega) (by omega) (by simp;omega) ?_;intro v1 w6 z Jo _;have Jj:=aC I hz a Jo);go_roundw
   case rel=>exact⟨k+1,by omega,by go_num,by rw[HY.out,kqu,ce];exact z,Jj⟩
   case measure=>simp[intOf];omega
  have e3:((E:Int)==3)=false:=by rw[kqi];omega
  have e3n:(E==3)=false:=by rw[kqi];exact f
  have HY:=hid (show ra F (xa:Int) (k+1)=m by rw[d.out,if_neg (λh=>f (Option.some.inj h)),kzs]);clear f d;go_wp2;go_roundw
  case rel=>exact⟨k+1,by omega,by go_num,by rw[HY.out];exact a,I⟩
  case measure=>simp[intOf];omega
 obtain rfl:k=F.length:=by omega
 obtain⟨A2,c2,rfl,M,s⟩:=kC a;have V:=hid s;have Jl:=hid M;clear s a M;go_wp2;go_ret;exact⟨⟨A2,c2,rfl,V.out,Jl.out⟩,Jd.out.trans (I.mono Jh)⟩
theorem mP(h:ah ws=0)(ho:jQ (aN ws 128) a=some b):∃(m t:Nat) (xs xk:Int) (xm:Bool) (xn:Nat),a=(m:Int)/\b=⟨(m:Int),xs,xk,(t:Int),xm,xn⟩/\t<8/\fQ ws m/\m<ws.length /\
 (fu ws b).length<=8/\∀k (n:k<(fu ws b).length),∃r:Nat,(fu ws b)[k]=(r:Int)/\m<=r/\r<ws.length:=by
 obtain⟨m,s,e,c⟩:=BM h ho;have g:wd ws m/512%128<8:=by have h7:=(bA _).1 (fG c.2.2.2.1);have h5:=c.2.2.2.2.1;have h6:(ar (wd ws m)).typ=((wd ws m/512%128:Nat):Int):=rfl;omega
 have o:vj ws b=flds ws m:=by rw[e];rfl
 refine⟨m,wd ws m/512%128,(bkAt ws m).size,(bkAt ws m).kind,(bkAt ws m).mark,(bkAt ws m).next,s,e,g,c,c.2.2.1,?_,λk n=>?_⟩
 .have q:=uG (vj ws b) b.at_ (vj ws b).length;have h2:=AU ws m;unfold fu;rw[o] at q |-;omega
 have j:=kqp n;unfold fu at j;obtain⟨i,l,i2,p⟩:=k8.1 j;rw[o] at l;have f:=sP c l;have d:b.at_=(m:Int):=by rw[e];rfl
 refine⟨m+2+i,?_,by omega,f⟩;have:(fu ws b)[k]=b.at_+2+(i:Int):=p;rw[this,d];omega
def RsRes (ws:List Nat) (a:Int) (e:Ending) (w':World):Prop:=∃A c,e=.returned (.tuple #[.slice A (bM ws a).length c,.int .i64 (nT ws a)])/\RdI w' w'.heap.size A (bM ws a)/\(bM ws a).length<=c
theorem xK(A:Option Addr)(ws:List Nat)(c n:Nat)(a:Int)(w:World)(hn:ws.length=n)(hm:n<=9223372036854775807)(u:RdW w w.heap.size A ws)(ho:∀x∈ws,x<18446744073709551616):
 Calls prog 208 #[.slice A n c,.int .i64 a] w λe w'=>RsRes ws a e w'/\Below w.heap.size w w':=by
 subst hn;have J:=hid u;have o:=hid (mt A ws c ws.length w rfl hm u ho);have f:=hid (λW (h:RdW W W.heap.size A ws)=>yS A ws c ws.length a W rfl hm h ho);have V:=hid ho;clear u ho;by_cases k:ah ws=0
 .rw[k] at o;cases g:jQ (aN ws 128) a with
  | none =>have i:Hid (nT ws a=6/\bM ws a=[]):=hid (by simp[nT,bM,dL,k,g]);rw[show vX ws a=mf by simp[vX,g],show dL ws a=6 by simp[dL,g]] at f;unfold mf Bk.val at f;simp only[kq7] at f;clear k g;go_enter func208,ntmps208;go_wp2_with fail;refine o.out.mono ?_;rintro e Q ⟨rfl,d⟩;have l:=hid d;have v:=hid (J.out.up d d.size);clear d;go_wp2_with fail;refine (f.out _ v.out).mono ?_;rintro e S ⟨rfl,q⟩;have j:=l.out.trans (q.mono l.out.size);go_wp2;go_ret2;exact⟨⟨none,0,by rw[i.out.1,i.out.2];rfl,by rw[i.out.2];exact Rd.nil_,by rw[i.out.2];exact kqd _⟩,j.alloc j.size _⟩
  | some b =>
   obtain⟨m,t,xs,P,O,N,X,I,D,B,H,-,-⟩:=mP k g;subst X;have E:=gJ ws (ay k).1;have i:Hid (nT ws (m:Int)=0/\bM ws (m:Int)=fu ws b):=hid (by simp[nT,bM,dL,k,g]);rw[show vX ws (m:Int)=b by simp[vX,g],show dL ws (m:Int)=0 by simp[dL,g]] at f;have y:=hid (λW (h:RdW W W.heap.size A ws)=>t9 A ws c ws.length t m xs P O N W rfl (by omega) (by omega) D (by omega) h V.out);rw[<-I] at y;obtain⟨R,M⟩:=xq (fu ws b);rw[M] at y i;rw[I] at f;unfold Bk.val at f;dsimp only at f;clear k g I D B H E M;go_enter func208,ntmps208;go_wp2_with fail;refine o.out.mono ?_;rintro e Q ⟨rfl,d⟩;have l:=hid d;have v:=hid (J.out.up d d.size);clear d;go_wp2_with fail;refine (f.out _ v.out).mono ?_;rintro e S ⟨rfl,q⟩;have j:=l.out.trans (q.mono l.out.size);have p:=hid (j.alloc j.size (.cells #[.int .i64 (m:Int),.int .i64 xs,.int .i64 P,.int .i64 (t:Int),.bool O,.int .u64 (N:Int)] 55));have G:=hid (J.out.up p.out p.out.size);clear q j;go_wp2_with fail;refine (y.out _ G.out).mono ?_;rintro e w3 ⟨⟨T,U,rfl,s,z⟩,C⟩;have L:=hid s;have F:=hid z;have K:=hid (p.out.trans (C.mono p.out.size));clear s z C;go_wp2;go_ret2;exact⟨⟨T,U,by rw[i.out.1,i.out.2];rfl,by rw[i.out.2];exact L.out,by rw[i.out.2];exact F.out⟩,K.out⟩
 obtain⟨r,u⟩:=xq (ah ws);have i:Hid (nT ws a=r/\bM ws a=[]):=hid ⟨by unfold nT;rw[if_neg k,u],by unfold bM;rw[if_neg k]⟩;rw[u] at o k;have hrn:(r != 0)=true:=by rw[kqv];exact k
 clear k u;go_enter func208,ntmps208;go_wp2_with fail;refine o.out.mono ?_;rintro e Q ⟨rfl,d⟩;go_wp2;go_ret2;exact⟨⟨none,0,by rw[i.out.1,i.out.2];rfl,by rw[i.out.2];exact Rd.nil_,by rw[i.out.2];exact kqd _⟩,d⟩
theorem ud(ws:List Nat):(eV ws).length<=2048:=by
 unfold eV;split
 .exact CT ws 128 128
 simp
theorem s7(A:Option Addr)(ws:List Nat)(c n:Nat)(a:Int)(w:World)(hn:ws.length=n)(hm:n<=9223372036854775807)(L:RdW w w.heap.size A ws)(ho:∀x∈ws,x<18446744073709551616):
 Calls prog 209 #[.slice A n c,.int .i64 a] w λe w'=>ii w.heap.size (dt ws a) (cD ws a) e w'/\Below w.heap.size w w':=by
 subst hn;have HR:=hid L;have z:=hid (ug A ws c ws.length w rfl hm L ho);unfold GT at z;have g:=hid (λW (h:RdW W W.heap.size A ws)=>yS A ws c ws.length a W rfl hm h ho);have HO:=hid ho;clear L ho;by_cases I:cm ws=0
 .obtain ⟨Jr,-,-⟩:=dY I;rw[I] at z;have Jk:=ud ws;cases j:jQ (aN ws 128) a with
  | none =>have Q:=hid (tz I j);rw[show vX ws a=mf by simp[vX,j],show dL ws a=6 by simp[dL,j]] at g;unfold mf Bk.val at g;simp only[kq7] at g;obtain⟨q,hq⟩:=xq ((eV ws).length);rw[hq] at z;clear I j hq Jk;go_enter func209,ntmps209;go_wp2_with fail;refine z.out.mono ?_;rintro e w1 ⟨⟨A1,c1,rfl,-,-⟩,d⟩;have F:=hid d;have N:=hid (HR.out.up d d.size);clear d;go_wp2_with fail;refine (g.out _ N.out).mono ?_;rintro e w2 ⟨rfl,G⟩;have D:=F.out.trans (G.mono F.out.size);go_wp2;go_ret2;exact⟨bL Q.out.1 Q.out.2,D.alloc D.size _⟩
  | some b =>
   obtain⟨m,t,xs,xk,xm,xn,ea,eb,Ji,Ja,Jc,Jt,P⟩:=mP Jr j;subst ea;have Jg:=gJ ws (ay Jr).1;rw[show vX ws (m:Int)=b by simp[vX,j],show dL ws (m:Int)=0 by simp[dL,j]] at g;have O:b.mark=xm:=by rw[eb]
   cases Eq:xm with
   | false =>have Q:=hid (tv I j (by rw[O,Eq]));rw[eb,Eq] at g;unfold Bk.val at g;dsimp only at g;obtain⟨q,hq⟩:=xq ((eV ws).length);rw[hq] at z;clear I j eb Ji Ja Jc Jg Jt P hq Jk O Eq;go_enter func209,ntmps209;go_wp2_with fail;refine z.out.mono ?_;rintro e w1 ⟨⟨A1,c1,rfl,-,-⟩,d⟩;have F:=hid d;have N:=hid (HR.out.up d d.size);clear d;go_wp2_with fail;refine (g.out _ N.out).mono ?_;rintro e w2 ⟨rfl,G⟩;have D:=F.out.trans (G.mono F.out.size);go_wp2;go_ret2;exact⟨bL Q.out.1 Q.out.2,D.alloc D.size _⟩
   | true =>
    subst Eq;have Jq:=hid (λW (h:RdW W W.heap.size A ws)=>t9 A ws c ws.length t m xs xk true xn W rfl (by omega) (by omega) Ji (by omega) h HO.out);rw[<-eb] at Jq;have Je:=hid (λh3=>yw I j O h3);have Jl:=hid (λo h3=>Cl I j O (o:=o) h3);have Kc:=hid (λx y h=>EH I (a:=x) (t:=y) h);have Jy:=hid (λA1 c1 (v:Nat) W (hv:v<18446744073709551616) (h:RdM W W.heap.size A1 (eV ws))=>yW A1 (eV ws) c1 (eV ws).length v W rfl (by omega) hv h);have Ka:Hid (∀v t,ge (eV ws) v=some t->gN (eV ws) (v:Int)=some t):=hid λv t h=>by
     unfold ge at h;split at h
     .cases h
     exact h
    have Jb:Hid (∀r,fI ws (eV ws) r=if wd ws r=0 then some [] else match ge (eV ws) (wd ws r) with
     | none=>none
     | some t=>if (wd ws r:Int)=t then some [] else some [⟨(r:Int),t.toNat⟩]):=hid λr=>rfl
    have Jj:=hid (λk (hk:k<(fu ws b).length) o h=>ly (ws:=ws) (m:=eV ws) hk (o:=o) h);have Jh:=hid (λk (hk:k<(fu ws b).length) o h h2=>Cd (ws:=ws) (m:=eV ws) hk (o:=o) h h2);have Jo:=hid (λk o (h:di ws (eV ws) ((fu ws b).take k)=some o)=>rK h);obtain⟨R,hR⟩:=xq (fu ws b);rw[hR] at Jq Je Jl Jj Jh Jo Jt;have Kl:Hid (∀k (hk:k<R.length),∃r:Nat,R[k]=(r:Int)/\m<=r/\r<ws.length):=hid (by subst hR;exact P);obtain⟨M,hM⟩:=xq (eV ws);rw[hM] at z Je Jl Kc Jy Ka Jb Jj Jh Jo Jk;rw[eb] at g;unfold Bk.val at g;dsimp only at g;have hlen:=Jg.2.1;obtain⟨i0,hi,Jw,Js,Jz⟩:=kzv dm;have HI:=hid hi;have Kg:=hid Jw;have Kt:=hid Js;have Kh:=hid Jz;clear hi Jw Js Jz;clear I j eb Ji Ja Jc Jg hR P hM O;go_enter func209,ntmps209;go_wp2_with fail;refine z.out.mono ?_;rintro e w1 ⟨⟨A1,c1,rfl,Kb,-⟩,d⟩;have F:=hid d;have N:=hid (HR.out.up d d.size);have Kr:=hid Kb;clear d Kb;go_wp2_with fail;refine (g.out _ N.out).mono ?_;rintro e w2 ⟨rfl,G⟩;have D:=F.out.trans (G.mono F.out.size);have Y:=hid (D.alloc D.size (.cells #[.int .i64 (m:Int),.int .i64 xs,.int .i64 xk,.int .i64 (t:Int),.bool true,.int .u64 (xn:Int)] 55))
    have Kd:=hid (HR.out.up Y.out Y.out.size);have Kp:=hid (Rd.more (Rd.alloc (Kr.out.up G G.size) (kqd _) (.cells #[.int .i64 (m:Int),.int .i64 xs,.int .i64 xk,.int .i64 (t:Int),.bool true,.int .u64 (xn:Int)] 55)) (show w2.heap.size<=(w2.alloc (.cells #[.int .i64 (m:Int),.int .i64 xs,.int .i64 xk,.int .i64 (t:Int),.bool true,.int .u64 (xn:Int)] 55)).heap.size by simp));clear G D;go_wp2_with fail;refine (Jq.out _ Kd.out).mono ?_;rintro e w3 ⟨⟨A3,c3,rfl,Jd,-⟩,V⟩;have Ko:=hid Jd;have S:=hid (Y.out.trans (V.mono Y.out.size));have Km:=hid (Kp.out.up V V.size);have Kq:=hid (HR.out.up S.out S.out.size);have Jm:=S.out.size;clear Jd V;go_wp2_with fail;go_loopw [10,42] (λv i wr=>∃(k:Nat) (o:List En),k<=R.length/\i=.int .i64 k/\Hid (di ws M (R.take k)=some o)/\wr.ownsRow w3.heap.size 89 2 v o.length (o.flatMap En.cells)/\Below w3.heap.size w3 wr) (λ_ i _=>R.length-(intOf i).toNat)
    case atStart=>exact⟨0,[],kqy _,rfl,rfl,kq8 _ _ _ _,kql _ _⟩
    obtain⟨k,o,hk,rfl,Z,B,hB⟩:=hrel;have hz:=hB.size;have Kn:=Jo.out k o Z.out;rw[kq3] at Kn;by_cases U:k<R.length
    .obtain ⟨bR,oR,rfl,hbR,q0⟩:=RdI.at_ (Rd.below Ko.out hB) U;obtain⟨r,L,hmr,Ks⟩:=Kl.out k U;obtain⟨bW,oW,rfl,hbW,x0⟩:=RdW.at_ (Rd.below Kq.out hB) Ks;rw[<-cq] at x0;have Ki:=hid (Km.out.up hB hz);have hv:=fF HO.out r;have f:=hid (Jj.out k U o Z.out);have s:=hid (Jh.out k U o Z.out);have l:=hid (Jb.out r);rw[L] at q0 f s;rw[kqj] at f s;have Jp:=Ka.out (wd ws r);obtain⟨v,Jv⟩:=xq (wd ws r);rw[Jv] at x0 hv l Jp;have hri:(r:Int)<(ws.length:Int):=by omega
     have hr0:(0:Int)<=(r:Int):=by omega
     have hki:(k:Int)<(R.length:Int):=by omega
     have Kf:=hid hv;have Ke:=hid Jp;clear L Jv hv Jp;by_cases E:v=0
     .have e0:((v:Int)==0)=true:=by rw[kqw];omega
      have e0n:(v==0)=true:=by rw[kqw];exact E
      have HY:=hid (show di ws M (R.take (k+1))=some o by rw[f.out,l.out,if_pos E];simp);clear E f s l;go_wp2;go_roundw
      case rel=>exact⟨k+1,o,by omega,by go_num,HY.out,B,hB⟩
      case measure=>simp[intOf];omega
     have e0:((v:Int)==0)=false:=by rw[kqi];omega
     have e0n:(v==0)=false:=by rw[kqi];exact E
     rw[if_neg E] at l;have H:=hid (Jy.out A1 c1 v _ Kf.out Ki.out);cases J:ge M v with
     | none =>rw[J] at H l;have Q:=hid (Je.out (s.out l.out));simp only[kkk,kjy] at H;clear E f s l J;go_wp2_with fail;refine H.out.mono ?_;rintro e w5 ⟨rfl,u⟩;go_wp2;go_ret2;exact⟨bL Q.out.1 Q.out.2,S.out.trans ((hB.trans (u.mono hz)).mono Jm)⟩
     | some tt =>
      obtain⟨K,rfl,ht1,-,ht2,-⟩:=Kc.out (v:Int) tt (Ke.out tt J);rw[J] at H l;simp only[kq9,kkd] at H;have hwt:IntKind.u64.wrap (K:Int)=(K:Int):=kzt _ (by omega);by_cases T:v=K
      .have en:((v:Int) != (K:Int))=false:=by rw[kqq];omega
       have enn:(v != K)=false:=by rw[kqq];exact T
       have HY:=hid (show di ws M (R.take (k+1))=some o by rw[f.out,l.out];simp[T]);clear E f s l J T;go_wp2_with fail;refine H.out.mono ?_;rintro e w5 ⟨rfl,u⟩;have x5:=(u.cell (p:=⟨bW,oW+r,none⟩) (by show bW<wr.heap.size;omega)).trans x0;have C:=hid (ai B u (kqd _));have X:=hid (hB.trans (u.mono hz));clear u;go_wp2;go_roundw
       case rel=>exact⟨k+1,o,by omega,by go_num,HY.out,C.out,X.out⟩
       case measure=>simp[intOf];omega
      have en:((v:Int) != (K:Int))=true:=by rw[kqv];omega
      have enn:(v != K)=true:=by rw[kqv];exact T
      have HY:=hid (show di ws M (R.take (k+1))=some (o++[⟨(r:Int),K⟩]) by
       rw[f.out,l.out];have:¬ ((v:Int)=(K:Int)):=by omega
       simp[this])
      clear E f s l J T;go_wp2_with fail;refine H.out.mono ?_;rintro e w5 ⟨rfl,u⟩;have x5:=(u.cell (p:=⟨bW,oW+r,none⟩) (by show bW<wr.heap.size;omega)).trans x0;have C:=ai B u (kqd _);have X:=hB.trans (u.mono hz);have Kj:=X.size;clear u;go_wp2_with (at_builtin;refine kzd _ rfl _ _ 26 rfl w3.heap.size 89 i0 _ 2 16 underlying26 HI.out Kg.out Kt.out Kh.out rfl (by decide) _ _ _ rfl (C.alloc _) ⟨_,0,none⟩ 1 1 [.int .i64 (r:Int),.int .u64 (K:Int)] rfl rfl (cC _ _ _) (by simp[Value.oneCell']) (by unfold maxLen;omega) (by omega) (by simp;omega) ?_;intro v1 w6 Jf Ku _;have Kk:=aC X Kj C Ku);go_roundw
      case rel=>exact⟨k+1,o++[(⟨(r:Int),K⟩:En)],by omega,by go_num,HY.out,by rw[kqu,ce];exact Jf,Kk⟩
      case measure=>simp[intOf];omega
    obtain rfl:k=R.length:=by omega
    have HV:=hid (Jl.out o (by have:=Z.out;rwa [kq5 (kqd _)] at this));obtain⟨A2,c2,rfl⟩:=aJ B;have Ju:=hid (ao B Jm);clear B;go_wp2;go_ret2;exact⟨⟨A2,c2,by rw[HV.out.1,HV.out.2];rfl,by rw[HV.out.2];exact Ju.out⟩,S.out.trans (hB.mono Jm)⟩
 obtain⟨r,L⟩:=xq (cm ws);have Q:=hid (yX (a:=a) L (by rw[<-L];exact I));rw[L] at z I;have hrn:(r != 0)=true:=by rw[kqv];exact I
 obtain⟨q,hq⟩:=xq ((eV ws).length);rw[hq] at z;clear I L hq;go_enter func209,ntmps209;go_wp2_with fail;refine z.out.mono ?_;rintro e w1 ⟨⟨A1,c1,rfl,-,-⟩,d⟩;go_wp2;go_ret2;exact⟨bL Q.out.1 Q.out.2,d⟩
theorem pR(h1:ep ws=r)(h0:r≠0):dV ws=[]:=by unfold dV;rw[if_neg (by rw[h1];exact h0)]
theorem fs_err(h:cm ws=r)(h0:r≠0):ep ws=r:=by subst h;simp[ep,h0]
theorem fs_sl(h:cm ws=0)(h1:slsOk ws=false):ep ws=50:=by simp[ep,h,h1]
theorem E5(h:cm ws=0)(h1:slsOk ws=true)(h2:slFix ws (eV ws) 16=none):ep ws=50:=by simp[ep,h,h1,h2]
theorem GL(h:cm ws=0)(h1:slsOk ws=true)(h2:slFix ws (eV ws) 16=some o):ep ws=0/\dV ws=o:=by simp[dV,ep,h,h1,h2]
theorem wu{m:List (Int × Int)}(h:slFix ws m k=some o):slFix ws m (k+1)=(gx ws m k).map (o ++ ·):=by simp only[slFix,h]
theorem au{w:World}{H n:Nat}{e:TypeId}{sz:Nat}{v:Value}{xs:List Value}(h:w.ownsRow H e sz v n xs){p:Addr}(hp:v.ownBlock≠some p.block)(u:Value):(w.setCell p u).ownsRow H e sz v n xs:=by
 refine⟨h.1,?_⟩;rcases h.2 with b|⟨d,c,a,b,g,f,i⟩
 .exact .inl b
 subst b;refine .inr ⟨d,c,a,rfl,g,?_,i⟩;exact (kkq w p u d (λe=>hp (by simp[Value.ownBlock,e]))).trans f
theorem zj{a:Nat}(hg:g<2147483648)(ha:a<4294967296)(u:Bool):nV ⟨(g:Int),u,(a:Int)⟩<18446744073709551616:=by unfold nV;dsimp only;rw[kqj,kqj];split<;>omega
theorem wH(A:Option Addr)(ws:List Nat)(c n:Nat)(w:World)(hn:ws.length=n)(hm:n<=9223372036854775807)(T:RdW w w.heap.size A ws)(ho:∀x∈ws,x<18446744073709551616):
 Calls prog 207 #[.slice A n c] w λe w'=>ii w.heap.size (ep ws) (dV ws) e w'/\Below w.heap.size w w':=by
 subst hn;have HR:=hid T;have m:=hid (ug A ws c ws.length w rfl hm T ho);unfold GT at m;have L:=hid (λW (h:RdW W W.heap.size A ws)=>EU A ws c ws.length W rfl hm h ho);unfold GO at L;have HO:=hid ho;clear T ho;by_cases F:cm ws=0
 .obtain ⟨Eq,-,-⟩:=dY F;have S:=(ay Eq).1;have P:=gJ ws S;rw[F] at m;have Jq:=ud ws;cases B:slsOk ws with
  | false =>
   have he:=lv S B;have hq:eX ws=[]:=by simp[eX,he]
   rw[he,hq] at L;have Y:=hid (fs_sl F B);obtain⟨q,hq⟩:=xq ((eV ws).length);rw[hq] at m;clear F Eq S P B he hq Jq;go_enter func207,ntmps207;go_wp2_with fail;refine m.out.mono ?_;rintro e w1 ⟨⟨A1,c1,rfl,-,-⟩,j⟩;have I:=hid j;have Ja:=hid (HR.out.up j j.size);clear j;go_wp2_with fail;refine (L.out _ Ja.out).mono ?_;rintro e w2 ⟨⟨A2,c2,rfl,-,-⟩,Li⟩;go_wp2;go_ret2;exact⟨bL Y.out (pR Y.out (by omega)),I.out.trans (Li.mono I.out.size)⟩
  | true =>
   obtain⟨g1,g2⟩:=jp S B;rw[g1,g2,eZ] at L;have Kn:=hid ((cN ws).1 B);have Jg:=hid (λh=>E5 F B h);have Jv:=hid (λo h=>GL F B (o:=o) h);have Kg:=hid (λx y h=>EH F (a:=x) (t:=y) h);have Jt:=hid (λA1 c1 (v:Nat) W (hv:v<18446744073709551616) (h:RdM W W.heap.size A1 (eV ws))=>yW A1 (eV ws) c1 (eV ws).length v W rfl (by omega) hv h);have Kb:Hid (∀v t,ge (eV ws) v=some t->gN (eV ws) (v:Int)=some t):=hid λv t h=>by
    unfold ge at h;split at h
    .cases h
    exact h
   have X:Hid (∀i,gx ws (eV ws) i=if (slAt ws i).used=true then (match ge (eV ws) (slAt ws i).at_.toNat with
    | none=>none
    | some t=>if wd ws (112+i)=nV ⟨(slAt ws i).gen,true,t⟩ then some [] else some [⟨((112+i:Nat):Int),nV ⟨(slAt ws i).gen,true,t⟩⟩]) else some []):=hid λi=>rfl
   have Jl:=hid (λk o (h:slFix ws (eV ws) k=some o)=>wu h);have Ka:=hid (λk (h:slFix ws (eV ws) (k+1)=none) (h2:k+1<=16)=>wh h h2);have Jz:=hid (λk o (h:slFix ws (eV ws) k=some o)=>qQ h);obtain⟨M,hM⟩:=xq (eV ws);rw[hM] at m Jg Jv Kg Jt Kb X Jl Ka Jz Jq;have hlen:=P.1;have hlen2:=P.2.1;obtain⟨i0,hi,Jp,Jh,Ju⟩:=kzv dm;have HI:=hid hi;have Ko:=hid Jp;have Lg:=hid Jh;have Kq:=hid Ju;clear hi Jp Jh Ju;clear F Eq S P B g1 g2 hM;go_enter func207,ntmps207;go_wp2_with fail;refine m.out.mono ?_;rintro e w1 ⟨⟨A1,c1,rfl,Kf,-⟩,j⟩;have I:=hid j;have Ja:=hid (HR.out.up j j.size);have Le:=hid Kf;clear j Kf;go_wp2_with fail;refine (L.out _ Ja.out).mono ?_;rintro e w3 ⟨⟨A3,c3,rfl,Js,-⟩,N⟩;have K:=hid (I.out.trans (N.mono I.out.size));have Lb:=hid Js;have Lc:=hid (Le.out.up N N.size);have Ld:=hid (HR.out.up K.out K.out.size);have Je:=K.out.size;clear Js N;go_wp2_with fail;go_loopw [8,36] (λv i wr=>∃(k:Nat) (o:List En),k<=16/\i=.int .i64 k/\Hid (slFix ws M k=some o)/\wr.ownsRow w3.heap.size 89 2 v o.length (o.flatMap En.cells)/\Below w3.heap.size w3 wr) (λ_ i _=>16-(intOf i).toNat)
   case atStart=>exact⟨0,[],kqy _,rfl,rfl,kq8 _ _ _ _,kql _ _⟩
   obtain⟨k,o,hk,rfl,Jc,l,hB⟩:=hrel;have hz:=hB.size;have hol:=Jz.out k o Jc.out;by_cases Jf:k<16
   .obtain ⟨bS,oS,rfl,hbS,q0,q1,q2⟩:=RdS.at_ (Rd.below Lb.out hB) (show k<(slL ws).length by rw[eZ];exact Jf);rw[mR] at q0 q1 q2;obtain⟨bW,oW,rfl,hbW,x0⟩:=RdW.at_ (Rd.below Ld.out hB) (show 112+k<ws.length by omega);rw[<-cq] at x0;have Ky:=hid (Lc.out.up hB hz);have Jd:=Kn.out k Jf;have f:=hid (Jl.out k o Jc.out);have C:=hid (λh=>Ka.out k h (by omega));have d:=hid (X.out k);obtain⟨r1,r2,r3,r4⟩:=gA (wd ws (112+k));have Jo:slAt ws k=dB (wd ws (112+k)):=rfl;rw[<-Jo] at r1 r2 r3 r4;have Kd:=fF HO.out (112+k);obtain⟨x,hx⟩:=xq (wd ws (112+k));rw[hx] at x0 d Kd;obtain⟨s,S⟩:=xq (slAt ws k);rw[S] at q0 q1 q2 d r1 r2 r3 r4 Jd;obtain⟨sg,su,sa⟩:=s;dsimp only at q0 q1 q2 d r1 r2 r3 r4;obtain⟨g,rfl⟩:=kq1 r1;obtain⟨u,rfl⟩:=kq1 r3;rw[kqj] at d;have hki:(k:Int)<16:=by omega
    have hk0:(0:Int)<=(k:Int):=by omega
    have hw1:IntKind.i64.wrap (112+(k:Int))=112+(k:Int):=kqs _ (by omega);have i1:(0:Int)<=112+(k:Int):=by omega
    have i2:(112:Int)+(k:Int)<(ws.length:Int):=by omega
    have n1:((112:Int)+(k:Int)).toNat=112+k:=by omega
    have Z:g<2147483648:=by omega
    have Kk:=hid Jd;clear hx S Jo r1 r2 r3 r4 Jd Kd;cases su
    .have HY:=hid (show slFix ws M (k+1)=some o by rw[f.out,d.out,if_neg (by simp)];simp);clear f C d;go_wp2;go_roundw
     case rel=>exact⟨k+1,o,by omega,by go_num,HY.out,l.alloc _,hB.alloc hz _⟩
     case measure=>simp[intOf];omega
    obtain⟨Lk,Ku,Kz⟩:=Bu Kk.out rfl;dsimp only at Lk Ku Kz;rw[if_pos rfl] at d;have hwu:IntKind.u64.wrap (u:Int)=(u:Int):=kzt _ (by omega);have Jk:=hB.alloc hz (.cells #[.int .i64 (g:Int),.bool true,.int .i64 (u:Int)] 52);have H:=hid Jk;have Ki:=hid (Rd.more (Rd.alloc Ky.out (kqd _) (.cells #[.int .i64 (g:Int),.bool true,.int .i64 (u:Int)] 52)) (show wr.heap.size<=(wr.alloc (.cells #[.int .i64 (g:Int),.bool true,.int .i64 (u:Int)] 52)).heap.size by simp));have BN:=hid (Bx.new wr 52 #[.int .i64 (g:Int),.bool true,.int .i64 (u:Int)]);have U:=hid (l.alloc (.cells #[.int .i64 (g:Int),.bool true,.int .i64 (u:Int)] 52));have Lf:=hid (λb h=>(l.lt b h).2);have x1:=(kzi wr (.cells #[.int .i64 (g:Int),.bool true,.int .i64 (u:Int)] 52) ⟨bW,oW+(112+k),none⟩ (by show bW<wr.heap.size;omega)).trans x0;have Kc:=hid x1;have E:=hid (Jt.out A1 c1 u _ (by omega) Ki.out);have Jj:(wr.alloc (.cells #[.int .i64 (g:Int),.bool true,.int .i64 (u:Int)] 52)).heap.size=wr.heap.size+1:=by simp
    clear Jk x1;go_upto_region 14 with (fail);obtain⟨wn,Ji⟩:∃wn,wr.alloc (.cells #[.int .i64 (g:Int),.bool true,.int .i64 (u:Int)] 52)=wn:=⟨_,rfl⟩;rw[Ji] at H Ki BN U E Kc Jj |-;clear Ji x0 l;obtain⟨p0,p1,p2,f0,f1,f2,Kw⟩:=BN.out.c3;cases J:ge M u with
    | none =>rw[J] at E d;have Y:=hid (Jg.out (C.out (by rw[f.out,d.out];rfl)));simp only[kkk,kjy] at E;clear f C d J;go_wp2_with fail;refine E.out.mono ?_;rintro e w5 ⟨rfl,D⟩;have Ks:=H.out.trans (D.mono H.out.size);go_wp2;go_ret2;exact⟨bL Y.out (pR Y.out (by omega)),K.out.trans (Ks.mono Je)⟩
    | some tt =>
     obtain⟨R,rfl,ht1,-,ht2,-⟩:=Kg.out (u:Int) tt (Kb.out u tt J);rw[J] at E d;simp only[kq9,kkd] at E;have Jw:mA ⟨(g:Int),true,(R:Int)⟩=true:=by unfold mA;rw[if_pos rfl];simp only[kqt,kzc];omega
     have Jr:=hid (λW=>GR g R true W Z (by omega) Jw);have Kp:=zj (g:=g) (a:=R) Z (by omega) true;obtain⟨V,hV⟩:∃V,nV ⟨(g:Int),true,(R:Int)⟩=V:=⟨_,rfl⟩;dsimp only at d;rw[hV] at Jr d;clear Jw hV Kp J;go_wp2_with fail;refine E.out.mono ?_;rintro e w5 ⟨rfl,D⟩;have bn5:=BN.out.up D Kw;have BN5:=hid bn5;have Ke:=hid (H.out.trans (D.mono H.out.size));have La:=hid (ai U.out D (kqd _));have x5:=(D.cell (p:=⟨bW,oW+(112+k),none⟩) (by show bW<wn.heap.size;omega)).trans Kc.out;have Lj:=hid x5;obtain⟨p0,p1,p2,f0,f1,f2,hg5⟩:=bn5.c3;clear D bn5 x5;go_wp2_with fail;have Jy:=hid (Ke.out.setCell (p:=⟨wr.heap.size,2,none⟩) hz (.int .i64 (R:Int)));have Kt:=hid (au La.out (p:=⟨wr.heap.size,2,none⟩) (λh=>by have h9:=Lf.out _ h;exact absurd h9 (Nat.lt_irrefl _)) (.int .i64 (R:Int)));have x6:(w5.setCell ⟨wr.heap.size,2,none⟩ (.int .i64 (R:Int))).cell? ⟨bW,oW+(112+k),none⟩=some (.int .u64 (x:Int)):=(kj1 w5 _ _ _ (λe2=>by injection e2 with e3 _ _;omega)).trans Lj.out;have Kl:=hid x6;have Kh:bW<(w5.setCell ⟨wr.heap.size,2,none⟩ (.int .i64 (R:Int))).heap.size:=by rw[kxb];have:=Ke.out.size;omega
     clear x6;refine (Jr.out _).mono ?_;rintro e w7 ⟨rfl,O⟩;have x7:=(O.cell (p:=⟨bW,oW+(112+k),none⟩) Kh).trans Kl.out;have z:=ai Kt.out O (kqd _);have Q:=Jy.out.trans (O.mono Jy.out.size);have Kr:=Q.size;clear O Kh;by_cases G:x=V
     .have en:((x:Int) != (V:Int))=false:=by rw[kqq];omega
      have enn:(x != V)=false:=by rw[kqq];exact G
      have HY:=hid (show slFix ws M (k+1)=some o by rw[f.out,d.out];simp[G]);have Kj:=hid z;have Km:=hid Q;clear f C d G z Q;go_wp2;go_roundw
      case rel=>exact⟨k+1,o,by omega,by go_num,HY.out,Kj.out,Km.out⟩
      case measure=>simp[intOf];omega
     have en:((x:Int) != (V:Int))=true:=by rw[kqv];omega
     have enn:(x != V)=true:=by rw[kqv];exact G
     have HY:=hid (show slFix ws M (k+1)=some (o++[⟨112+(k:Int),V⟩]) by rw[f.out,d.out];simp[G]);clear f C d G;go_wp2_with (at_builtin;refine kzd _ rfl _ _ 26 rfl w3.heap.size 89 i0 _ 2 16 underlying26 HI.out Ko.out Lg.out Kq.out rfl (by decide) _ _ _ rfl (z.alloc _) ⟨_,0,none⟩ 1 1 [.int .i64 (112+(k:Int)),.int .u64 (V:Int)] rfl rfl (cC _ _ _) (by simp[Value.oneCell']) (by unfold maxLen;omega) (by omega) (by simp;omega) ?_;intro v1 w8 Jb Lh _;have Kx:=aC Q Kr z Lh);go_roundw
     case rel=>exact⟨k+1,o++[(⟨112+(k:Int),V⟩:En)],by omega,by go_num,HY.out,by rw[kqu,ce];exact Jb,Kx⟩
     case measure=>simp[intOf];omega
   obtain rfl:k=16:=by omega
   have HV:=hid (Jv.out o Jc.out);obtain⟨A2,c2,rfl⟩:=aJ l;have Jm:=hid (ao l Je);clear l;go_wp2;go_ret2;exact⟨⟨A2,c2,by rw[HV.out.1,HV.out.2];rfl,by rw[HV.out.2];exact Jm.out⟩,K.out.trans (hB.mono Je)⟩
 obtain⟨r,T⟩:=xq (cm ws);have Y:=hid (fs_err T (by rw[<-T];exact F));rw[T] at m F;have hrn:(r != 0)=true:=by rw[kqv];exact F
 have Kv:=hid F;obtain⟨q,hq⟩:=xq ((eV ws).length);rw[hq] at m;clear F T hq;go_enter func207,ntmps207;go_wp2_with fail;refine m.out.mono ?_;rintro e w1 ⟨⟨A1,c1,rfl,-,-⟩,j⟩;go_wp2;go_ret2;exact⟨bL Y.out (pR Y.out Kv.out),j⟩
theorem EI{a:Nat}(hg:g<2147483648)(ha:a<4294967296):dB (nV ⟨(g:Int),true,(a:Int)⟩)=⟨(g:Int),true,(a:Int)⟩:=by
 unfold nV dB;dsimp only;rw[kqj,kqj,if_pos rfl];have c:(a+g*4294967296+9223372036854775808)/4294967296%2147483648=g:=by omega
 have d:(a+g*4294967296+9223372036854775808)/9223372036854775808=1:=by omega
 have b:(a+g*4294967296+9223372036854775808)%4294967296=a:=by omega
 rw[c,d,b];rfl
def nwS (ws:List Nat) (M:List (Int × Int)) (i:Nat):Sl:=if (slAt ws i).used=true then ⟨(slAt ws i).gen,true,(gN M (slAt ws i).at_).getD 0⟩ else slAt ws i
theorem zi{v:Nat}(h:j<ws.length)(i:Nat):wd (am ws [⟨(j:Int),v⟩]) i=if i=j then v else wd ws i:=by
 simp only[am];rw[if_pos (by omega),kqj];unfold wd;rw[kxe];by_cases e:j=i
 .subst e;simp[h]
 rw[if_neg e,if_neg (λh=>e h.symm)]
theorem yk{M:List (Int × Int)}(hw:256<=ws.length)(hM:∀a t,gN M a=some t->∃n:Nat,t=(n:Int)/\n<2048):∀k,k<=16->∀o,slFix ws M k=some o ->
 (∀e∈o,∃i,i<k/\e.a=((112+i:Nat):Int)/\e.v<18446744073709551616)/\o.Pairwise (λa b=>a.a<b.a)/\(∀i,i<k->slAt (am ws o) i=nwS ws M i)/\(∀i,i<k->(slAt ws i).used=true->(gN M (slAt ws i).at_).isSome=true):=by
 intro k
 induction k with
 | zero =>intro _ o h;simp only[slFix,Option.some.injEq] at h;subst h;exact⟨λe f=>(by cases f),List.Pairwise.nil,λi h=>absurd h (by omega),λi h=>absurd h (by omega)⟩
 | succ k ih =>
  intro hk o h;simp only[slFix] at h;cases C:slFix ws M k with
  | none=>rw[C] at h;cases h
  | some o1 =>
  rw[C] at h;obtain⟨u,G,E,K⟩:=ih (by omega) o1 C;have r:wd (am ws o1) (112+k)=wd ws (112+k):=aP o1 ws _ λe f=>by
   obtain⟨i,h1,Q,-⟩:=u e f;rw[Q];omega
  have j:∀(I:slAt ws k=nwS ws M k) (F:(slAt ws k).used=true->(gN M (slAt ws k).at_).isSome=true),(∀e∈o1,∃i,i<k+1/\e.a=((112+i:Nat):Int)/\e.v<18446744073709551616)/\o1.Pairwise (λa b=>a.a<b.a)/\(∀i,i<k+1->slAt (am ws o1) i=nwS ws M i)/\(∀i,i<k+1->(slAt ws i).used=true->(gN M (slAt ws i).at_).isSome=true):=by
   intro I F;refine⟨λe f=>?_,G,λi A=>?_,λi A=>?_⟩
   .obtain ⟨i,L,q,x⟩:=u e f;exact⟨i,by omega,q,x⟩
   .rcases kq6 i k with d|d
    .exact E i d
    have:i=k:=by omega
    subst this;rw[<-I];unfold slAt;rw[r]
   rcases kq6 i k with d|d
   .exact K i d
   have:i=k:=by omega
   subst this;exact F
  cases c:gx ws M k with
  | none=>rw[c] at h;cases h
  | some y =>
   rw[c] at h;simp only[kzz,Option.some.injEq] at h;subst h;unfold gx at c;split at c
   .rename_i hu;obtain⟨H,P,N,r4⟩:=gA (wd ws (112+k))
    change 0<=(slAt ws k).gen at H
    change (slAt ws k).gen<=_ at P
    change 0<=(slAt ws k).at_ at N
    obtain⟨g,D⟩:=kq1 H;cases l:ge M (slAt ws k).at_.toNat with
    | none=>rw[l] at c;cases c
    | some t =>
     rw[l] at c;have w:gN M (slAt ws k).at_=some t:=by
      unfold ge at l;split at l
      .cases l
      rw[kj7 N] at l;exact l
     obtain⟨n,rfl,hn⟩:=hM _ _ w;have s:nwS ws M k=⟨(g:Int),true,(n:Int)⟩:=by unfold nwS;rw[if_pos hu,w,D];rfl
     have p:=EI (g:=g) (a:=n) (by omega) (by omega);have z:=zj (g:=g) (a:=n) (by omega) (by omega) true;have m:(slAt ws k).used=true->(gN M (slAt ws k).at_).isSome=true:=λ_=>by rw[w];rfl
     dsimp only at c;rw[D] at c;by_cases f:wd ws (112+k)=nV ⟨(g:Int),true,(n:Int)⟩
     .rw[if_pos f] at c;injection c with c;subst c;rw[kzs];exact j (by rw[s,<-p,<-f];rfl) m
     rw[if_neg f] at c;injection c with c;subst c;refine⟨λe f=>?_,?_,λi A=>?_,λi A=>?_⟩
     .rcases kz1.1 f with d|d
      .obtain ⟨i,L,q,x⟩:=u e d;exact⟨i,by omega,q,x⟩
      simp only[kq0] at d;subst d;exact⟨k,by omega,rfl,z⟩
     .rw[kvb];refine⟨G,by simp,λa O b J=>?_⟩;simp only[kq0] at J;subst J;obtain⟨i,L,q,-⟩:=u a O;rw[q];dsimp only;omega
     .have B:112+k<(am ws o1).length:=by rw[ax];omega
      unfold slAt;rw[eI,zi B];split
      .rename_i h6;have:i=k:=by omega
       subst this;rw[p,s]
      exact E i (by omega)
     rcases kq6 i k with d|d
     .exact K i d
     have:i=k:=by omega
     subst this;exact m
   rename_i hu;injection c with c;subst c;rw[kzs];exact j (by unfold nwS;rw[if_neg hu]) (λh=>absurd h hu)
theorem jG(h:ep ws=0):256<=ws.length/\ah ws=0/\aW ws 128 128=0/\dA ws=0/\eX ws=slL ws/\dA (am ws (dV ws))=0/\eX (am ws (dV ws))=slL (am ws (dV ws)) /\
 (∀e∈dV ws,(112<=e.a/\e.a<128)/\e.v<18446744073709551616)/\(dV ws).Pairwise (λa b=>a.a<b.a)/\(dV ws).length<=16 /\
 (∀i,i<16->slAt (am ws (dV ws)) i=nwS ws (ic ws 128 128) i)/\(∀i,i<16->(slAt ws i).used=true->(gN (ic ws 128 128) (slAt ws i).at_).isSome=true):=by
 have g:cm ws=0:=by
  by_cases p:cm ws=0
  .exact p
  unfold ep at h;rw[if_neg p] at h;exact absurd h p
 have k:slsOk ws=true:=by
  cases w:slsOk ws with
  | true=>rfl
  | false=>rw[fs_sl g w] at h;cases h
 obtain⟨o,m⟩:∃o,slFix ws (eV ws) 16=some o:=by
  cases w:slFix ws (eV ws) 16 with
  | some o=>exact⟨o,rfl⟩
  | none=>rw[E5 g k w] at h;cases h
 obtain⟨e1,B⟩:=GL g k m;obtain⟨x,J,y⟩:=dY g;have q:=(ay x).1;have hbd:=gJ ws q;have c:=λa t (d:gN (eV ws) a=some t)=>EH g d;have j:=qQ m;obtain⟨F,C,r,u⟩:=yk (by omega) (λa t d=>by obtain⟨n,q1,-,-,q4,-⟩:=c a t d;exact⟨n,q1,q4⟩) 16 (kqd _) o m;rw[y] at r u c;rw[B];obtain⟨E,D⟩:=jp q k;have l:slsOk (am ws o)=true:=(cN _).2 λi s=>by
  rw[r i s];have f:=(cN ws).1 k i s;unfold nwS;split
  .rename_i hu;obtain⟨t,d⟩:=Option.isSome_iff_exists.1 (u i s hu);obtain⟨n,rfl,n1,-,n2,-⟩:=c _ _ d;obtain⟨u1,-,-⟩:=Bu f hu;rw[d];unfold mA;rw[if_pos rfl];simp only[kqt,kzc,kq9];omega
  exact f
 obtain⟨I,G⟩:=jp (ws:=am ws o) (by rw[ax];exact q) l;refine⟨by omega,x,J,E,D,I,G,λe H=>?_,C,j,r,u⟩;obtain⟨i,i1,A,z⟩:=F e H;exact⟨by rw[A];omega,z⟩
theorem za(F:List Nat)(a:Int)(j:Nat):(ra F a j).Pairwise (· < ·):=by
 induction j with
 | zero=>exact List.Pairwise.nil
 | succ j ih =>
  rw[qS,kvb];refine⟨ih,by split<;>simp,λx c y b=>?_⟩;obtain⟨i,i1,-,i3⟩:=k8.1 c;split at b
  .simp only[kq0] at b;omega
  cases b
def Cu (ws x:List Nat) (M:List (Int × Int)) (r:Nat):Prop:=(wd ws r=0/\wd x r=0)\/(0<wd ws r/\∃t m:Nat,gN M (wd ws r:Int)=some (t:Int)/\wd x r=t/\t<2048/\wd ws r=m/\m<ws.length)
theorem zz{M:List (Int × Int)}{f:Nat->Nat}(hM:∀a t,gN M a=some t->∃n:Nat,t=(n:Int)/\n<2048/\∃m:Nat,a=(m:Int)/\m<ws.length)(hl:∀i (s:i<l.length),l[i]=(f i:Int))(hf:∀i,i<l.length->f i<ws.length)(s:∀i j,i<j->j<l.length->f i<f j):∀k,k<=l.length->∀o,di ws M (l.take k)=some o ->
 (∀e∈o,∃i,i<k/\e.a=(f i:Int)/\wd ws (f i)≠e.v/\e.v<2048)/\o.Pairwise (λa b=>a.a<b.a)/\(∀i,i<k->Cu ws (am ws o) M (f i)):=by
 intro k
 induction k with
 | zero =>intro _ o h;simp only[List.take_zero,di,Option.some.injEq] at h;subst h;exact⟨λe q=>(by cases q),List.Pairwise.nil,λi h=>absurd h (by omega)⟩
 | succ k ih =>
  intro hk o h;have c:k<l.length:=by omega
  cases D:di ws M (l.take k) with
  | none =>rw[kqo c,jc,D] at h;cases h
  | some o1 =>
  rw[ly c D,hl k c,kqj] at h;obtain⟨x,I,H⟩:=ih (by omega) o1 D;have p:wd (am ws o1) (f k)=wd ws (f k):=aP o1 ws _ λe q=>by
   obtain⟨i,K,O,-⟩:=x e q;have:=s i k K c;rw[O];omega
  have g:Cu ws (am ws o1) M (f k)->(∀e∈o1,∃i,i<k+1/\e.a=(f i:Int)/\wd ws (f i)≠e.v/\e.v<2048)/\o1.Pairwise (λa b=>a.a<b.a)/\(∀i,i<k+1->Cu ws (am ws o1) M (f i)):=by
   intro N;refine⟨λe q=>?_,I,λi s=>?_⟩
   .obtain ⟨i,E,u,A,B⟩:=x e q;exact⟨i,by omega,u,A,B⟩
   rcases kq6 i k with d|d
   .exact H i d
   have:i=k:=by omega
   subst this;exact N
  unfold fI at h;by_cases y:wd ws (f k)=0
  .rw[if_pos y] at h;simp only[kzz,Option.some.injEq,kzs] at h;subst h;exact g (.inl ⟨y,by rw[p,y]⟩)
  rw[if_neg y] at h;cases r:ge M (wd ws (f k)) with
  | none=>rw[r] at h;cases h
  | some t =>
   rw[r] at h;have z:gN M (wd ws (f k):Int)=some t:=by
    unfold ge at r;split at r
    .cases r
    exact r
   obtain⟨n,rfl,G,m,em,w⟩:=hM _ _ z;dsimp only at h;by_cases q:(wd ws (f k):Int)=(n:Int)
   .rw[if_pos q] at h;simp only[kzz,Option.some.injEq,kzs] at h;subst h;exact g (.inr ⟨by omega,n,m,z,by rw[p];omega,G,by omega,w⟩)
   rw[if_neg q] at h;simp only[kzz,Option.some.injEq] at h;subst h;rw[kqj];have F:f k<(am ws o1).length:=by rw[ax];exact hf k c
   refine⟨λe C=>?_,?_,λi hi2=>?_⟩
   .rcases kz1.1 C with d|d
    .obtain ⟨i,E,u,A,B⟩:=x e d;exact⟨i,by omega,u,A,B⟩
    simp only[kq0] at d;subst d;exact⟨k,by omega,rfl,by dsimp only;omega,G⟩
   .rw[kvb];refine⟨I,by simp,λa L b J=>?_⟩;simp only[kq0] at J;subst J;obtain⟨i,E,u,-⟩:=x a L;have:=s i k E c;rw[u];dsimp only;omega
   unfold Cu;rw[eI,zi F];rcases kq6 i k with d|d
   .have:=s i k d c;rw[if_neg (by omega)];exact H i d
   have:i=k:=by omega
   subst this;rw[if_pos rfl];exact .inr ⟨by omega,n,m,z,rfl,G,by omega,w⟩
theorem iQ(h:dt ws a=0):∃f:Nat->Nat,(256<=ws.length/\ws.length<=2048)/\aW ws 128 128=0/\nT ws a=0/\(bM ws a).length<=8/\(cD ws a).length<=8 /\
 (∀i (c:i<(bM ws a).length),(bM ws a)[i]=(f i:Int)/\a<=(f i:Int)/\f i<ws.length/\Cu ws (am ws (cD ws a)) (ic ws 128 128) (f i)) /\
 (∀j,(∀i,i<(bM ws a).length->f i≠j)->wd (am ws (cD ws a)) j=wd ws j) /\
 (∀e∈cD ws a,∃r:Nat,e.a=(r:Int)/\r<ws.length/\wd ws r≠e.v/\e.v<2048)/\(cD ws a).Pairwise (λa b=>a.a<b.a):=by
 have q:cm ws=0:=by
  by_cases z:cm ws=0
  .exact z
  rw[(yX rfl z).1] at h;exact absurd h z
 obtain⟨u,Z,M⟩:=dY q;cases l:jQ (aN ws 128) a with
 | none=>rw[(tz q l).1] at h;cases h
 | some b =>
  cases k:b.mark with
  | false=>rw[(tv q l k).1] at h;cases h
  | true =>
   cases w:di ws (eV ws) (fu ws b) with
   | none=>rw[(yw q l k w).1] at h;cases h
   | some o =>
    have eo:=(Cl q l k w).2;have O:bM ws a=fu ws b:=by simp[bM,u,l]
    have R:nT ws a=0:=by simp[nT,u,dL,l]
    obtain⟨m,t,xs,xk,xm,xn,ea,eb,ht8,hobj,hmlt,I,d⟩:=mP u l;have hbd:=gJ ws (ay u).1;have N:(fu ws b).Pairwise (· < ·):=za _ _ _;have D:=kzj.1 N;have g:∀i (c:i<(fu ws b).length),(fu ws b)[i]=((((fu ws b)[i]?.getD 0).toNat:Nat):Int):=λi c=>by
     obtain⟨r,A,-,-⟩:=d i c;rw[kqk c,kq9,A,kqj]
    have hlo:=rK w;have G:=λx y (E:gN (eV ws) x=some y)=>EH q E;have U:∀x y,gN (eV ws) x=some y->∃n:Nat,y=(n:Int)/\n<2048/\∃m:Nat,x=(m:Int)/\m<ws.length:=λx y E=>by
     obtain⟨n,S,-,-,W,m,P,-,L⟩:=G x y E;exact⟨n,S,W,m,P,L⟩
    have p:∀i,i<(fu ws b).length->((fu ws b)[i]?.getD 0).toNat<ws.length:=λi c=>by
     obtain⟨r,A,-,X⟩:=d i c;rw[kqk c,kq9,A,kqj];exact X
    have s:∀i j,i<j->j<(fu ws b).length->((fu ws b)[i]?.getD 0).toNat<((fu ws b)[j]?.getD 0).toNat:=λi j C B=>by
     have z:=D i j (by omega) B C;have h2:=g i (by omega);have h3:=g j B;omega
    obtain⟨K,T,Q⟩:=zz U g p s _ (kqd _) o (by rw[kzn];exact w);rw[eo,O];rw[<-M];refine⟨λi=>((fu ws b)[i]?.getD 0).toNat,by omega,Z,R,I,by omega,λi c=>⟨g i c,?_,p i c,Q i c⟩,λj B=>?_,λe J=>?_,T⟩
    .obtain ⟨r,A,e2,-⟩:=d i c;have:=g i c;rw[ea];show (m:Int)<=((((fu ws b)[i]?.getD 0).toNat:Nat):Int);omega
    .refine aP o ws j λe J=>?_;obtain⟨i,H,F,-⟩:=K e J;have:=B i H;dsimp only at this;rw[F];omega
    obtain⟨i,H,F,Y,V⟩:=K e J;exact⟨_,F,p i H,Y,V⟩
end Go.Proofs.YtpcajamacpbjcaaGreat
