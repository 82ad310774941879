/- Texts laid together: FixP Fix Fix2 Fix3 Fix4 FxSP FxOP. -/
import Derived.Test.YtpcajamacpbjcaaGreatZKRch
import Derived.Test.YtpcajamacpbjcaaGreatZKMove
import Derived.Test.YtpcajamacpbjcaaGreatZKHeap
set_option maxHeartbeats 16000000
set_option maxRecDepth 100000
set_option linter.all false
namespace Go.Proofs.YtpcajamacpbjcaaGreat
open Lib (hid)
variable {b:Bk}{a r:Int}{o:List En}{l:List Int}{ws:List Nat}{g j k p:Nat}
open Go.Proofs.Tryz
def cu (ws:List Nat):Int:=if ag ws=0 then bi ws 128 128 else ag ws
def cX (ws:List Nat):List (Int × Int):=if cu ws=0 then gj ws 128 128 else []
theorem cj(h:cu ws=0):ag ws=0/\bi ws 128 128=0/\cX ws=gj ws 128 128:=by
 have a:ag ws=0/\bi ws 128 128=0:=by
  unfold cu at h;split at h
  .rename_i a;exact⟨a,h⟩
  rename_i a;exact absurd h a
 exact⟨a.1,a.2,by simp[cX,h]⟩
theorem pv:∀ {l:List (Int × Int)} {a t:Int},fO l a=some t->(a,t)∈l:=by
 intro l
 induction l with
 | nil=>intro a t h;cases h
 | cons m l ih =>
  intro a t h;simp only[fO] at h;split at h
  .rename_i e;injection h with h;rw[<-e,<-h];simp
  exact kx3 _ (ih h)
theorem uy(h:cu ws=0){t:Int}(ht:fO (cX ws) a=some t):∃n:Nat,t=(n:Int)/\128<=n/\n<ws.length/\n<2048/\∃m:Nat,a=(m:Int)/\128<=m/\m<ws.length:=by
 obtain⟨h1,k,z⟩:=cj h;rw[z] at ht;obtain⟨p,e⟩:=kjv.1 (pv ht);have c:=(kzc.1 e).1;obtain⟨m,n,i,y,g3,-,-,-⟩:=vF k c;obtain⟨r,i2,l,x,i4,w⟩:=bU k;have hb:=kA r;have g:blocks ws 128=some l:=x;have d:=ox (ws:=ws) (by omega) g (by omega) (by omega) (by omega);have b:(128:Int)<=nz l:=by
  unfold nz;split
  .omega
  rename_i hl;obtain⟨a0,v,-,e1,-⟩:=bC _ _ g (by omega) 0 (by omega);rw[bo l 0 (by omega),v,ab];omega
 obtain⟨u,s,q⟩:=wx d b;rw[e] at i;injection i with i;injection i with g4 g5;rw[w] at c e;have e:=(kzc.1 e).2;have f:=(u p c).1;rw[e] at f;have hge:(128:Int)<=t:=by
  rcases kxy p with j|j
  .subst j;have:=q c;rw[e] at this;dsimp only at this;omega
  have o:=(s 0 p c j).1;have h6:=q (by omega);rw[e] at o;dsimp only at o;omega
 dsimp only at f;exact⟨n,g5,by omega,by omega,by omega,m,g4,y,by omega⟩
def fG (m:List (Int × Int)) (v:Nat):Option Int:=if 2048<v then none else fO m (v:Int)
def jJ (l:List Bk) (a:Int):Option Bk:=l.find? λb=>b.at_==a&&b.kind==1
def kb (l:List Bk) (a:Int) (k:Nat):Prop:=∀j,j<k->((gk l j).at_==a&&(gk l j).kind==1)=false
theorem oC(l:List Bk)(a:Int):kb l a 0:=λj h=>absurd h (by omega)
theorem oy{l:List Bk}(h:kb l a k)(h2:((gk l k).at_==a&&(gk l k).kind==1)=false):kb l a (k+1):=λj hj=>by
 rcases kq6 j k with b|b
 .exact h j b
 .have:j=k:=by omega
  subst this;exact h2
theorem yV:∀ {l:List Bk} {a:Int},kb l a l.length->jJ l a=none:=by
 intro l
 induction l with
 | nil=>intro a _;rfl
 | cons b l ih =>intro a h;have d:(b.at_==a&&b.kind==1)=false:=h 0 (by simp);unfold jJ;rw[List.find?_cons,d];exact ih λj c=>by have:=h (j+1) (by simpa using c);rwa [ii] at this
theorem DH:∀ {l:List Bk} {a:Int} {k:Nat},k<l.length->kb l a k->((gk l k).at_==a&&(gk l k).kind==1)=true->jJ l a=some (gk l k):=by
 intro l
 induction l with
 | nil=>intro a k h;simp at h
 | cons b l ih =>
  intro a k d h c;cases k with
  | zero =>rw[nu] at c |-;unfold jJ;rw[List.find?_cons,c]
  | succ k =>have e:(b.at_==a&&b.kind==1)=false:=h 0 (by omega);unfold jJ;rw[List.find?_cons,e];rw[ii] at c |-;exact ih (by simpa using d) (λj hj=>by have:=h (j+1) (by omega);rwa [ii] at this) c
def v8 (ws:List Nat) (a:Int):Bk:=(jJ (aU ws 128) a).getD lG
def dI (ws:List Nat) (a:Int):Int:=if (jJ (aU ws 128) a).isSome then 0 else 6
theorem ib{l:List Bk}(h:jJ l a=some b):b∈l/\b.at_=a/\b.kind=1:=by unfold jJ at h;have c:=List.find?_some h;simp only[kqw,kqu] at c;exact⟨List.mem_of_find?_eq_some h,c.1,c.2⟩
def lT (F:List Nat) (a:Int) (j:Nat):List Int:=(List.range j).filterMap λ(i:Nat)=>if F[i]? = some 3 then some (a+2+(i:Int)) else none
theorem mB(F:List Nat)(a:Int)(j:Nat):lT F a (j+1)=lT F a j++(if F[j]? = some 3 then [a+2+(j:Int)] else []):=by unfold lT;rw[kj1,kk0];congr 1;simp only[kk9,kvc];split<;>simp_all
theorem kn(F:List Nat)(a:Int)(j:Nat):(lT F a j).length<=j:=by unfold lT;have:=kkp (λ(i:Nat)=>if F[i]? = some 3 then some (a+2+(i:Int)) else none) (List.range j);rwa [kkc] at this
theorem kD{F:List Nat}{x:Int}:x∈lT F a j↔∃i,i<j/\F[i]? = some 3/\x=a+2+(i:Int):=by
 unfold lT;rw[kjj];constructor
 .rintro ⟨i,c,b⟩;split at b
  .rename_i d;injection b with b;exact⟨i,kzh.1 c,d,b.symm⟩
  cases b
 rintro ⟨i,c,b,d⟩;exact⟨i,kzh.2 c,by rw[if_pos b,d]⟩
def rx (ws:List Nat) (b:Bk):List Nat:=bc (wd ws (tyA b)) (wd ws (tyA b+1))
def cU (ws:List Nat) (b:Bk):List Int:=lT (rx ws b) b.at_ (rx ws b).length
theorem xw(h:ag ws=0)(ho:jJ (aU ws 128) a=some b):∃m:Nat,a=(m:Int)/\b=bkAt ws m/\eg ws m:=by obtain⟨d,g,f⟩:=ib ho;rw[(fa h).2.1] at d;obtain⟨k,e,rfl⟩:=kqv d;obtain⟨m,c,i⟩:=lw h e f;exact⟨m,by rw[<-g,c];rfl,c,i⟩
def fu (ws:List Nat) (m:List (Int × Int)) (r:Nat):Option (List En):=if wd ws r=0 then some [] else match fG m (wd ws r) with
 | none=>none
 | some t=>if (wd ws r:Int)=t then some [] else some [⟨(r:Int),t.toNat⟩]
def cD (ws:List Nat) (m:List (Int × Int)):List Int->Option (List En)
 | []=>some []
 | r::l=>match fu ws m r.toNat with
  | none=>none
  | some x=>(cD ws m l).map (x ++ ·)
theorem gD(ws:List Nat)(m:List (Int × Int))(a b:List Int):cD ws m (a++b)=match cD ws m a with
 | none=>none
 | some x=>(cD ws m b).map (x ++ ·):=by
 induction a with
 | nil=>simp[cD]
 | cons r a ih =>
  simp only[kzr,cD];cases fu ws m r.toNat with
  | none=>rfl
  | some x =>
   rw[ih];cases cD ws m a with
   | none=>rfl
   | some y =>
    cases cD ws m b with
    | none=>rfl
    | some z=>simp
theorem jr{m:List (Int × Int)}(hk:k<l.length)(h:cD ws m (l.take k)=some o):cD ws m (l.take (k+1))=(fu ws m l[k].toNat).map (o ++ ·):=by rw[kqq hk,gD,h];simp only[cD];cases fu ws m l[k].toNat<;>simp
theorem yP{m:List (Int × Int)}(hk:k<l.length)(h:cD ws m (l.take k)=some o)(h2:fu ws m l[k].toNat=none):cD ws m l=none:=by
 conv=>lhs;rw[<-kz2 (k+1) l]
 rw[gD,jr hk h,h2];rfl
theorem nt{m:List (Int × Int)}:∀ {l:List Int} {o:List En},cD ws m l=some o->o.length<=l.length:=by
 intro l
 induction l with
 | nil=>intro o h;simp only[cD,Option.some.injEq] at h;subst h;simp
 | cons r l ih =>
  intro o h;simp only[cD] at h;cases a:fu ws m r.toNat with
  | none=>rw[a] at h;cases h
  | some x =>
   rw[a] at h;cases b:cD ws m l with
   | none=>rw[b] at h;cases h
   | some y =>
    rw[b] at h;simp only[kzp,Option.some.injEq] at h;subst h;have h1:=ih b;have h2:x.length<=1:=by
     unfold fu at a;split at a
     .injection a with a;subst a;simp
     split at a
     .cases a
     split at a<;>(injection a with a;subst a;simp)
    rw[kqz,kq3];omega
def cG (ws:List Nat) (a:Int):Int:=if cu ws=0 then (match jJ (aU ws 128) a with
 | none=>6
 | some b=>if b.mark=true then (match cD ws (cX ws) (cU ws b) with | none=>50 | some _=>0) else 6) else cu ws
def cr (ws:List Nat) (a:Int):List En:=if cu ws=0 then (match jJ (aU ws 128) a with
 | none=>[]
 | some b=>if b.mark=true then (cD ws (cX ws) (cU ws b)).getD [] else []) else []
theorem zg(h:cu ws=r)(h0:r≠0):cG ws a=r/\cr ws a=[]:=by subst h;simp[cG,cr,h0]
theorem pg(h:cu ws=0)(h1:jJ (aU ws 128) a=none):cG ws a=6/\cr ws a=[]:=by simp[cG,cr,h,h1]
theorem pu(h:cu ws=0)(h1:jJ (aU ws 128) a=some b)(h2:b.mark=false):cG ws a=6/\cr ws a=[]:=by simp[cG,cr,h,h1,h2]
theorem tK(h:cu ws=0)(h1:jJ (aU ws 128) a=some b)(h2:b.mark=true)(h3:cD ws (cX ws) (cU ws b)=none):cG ws a=50/\cr ws a=[]:=by simp[cG,cr,h,h1,h2,h3]
theorem v7(h:cu ws=0)(h1:jJ (aU ws 128) a=some b)(h2:b.mark=true)(h3:cD ws (cX ws) (cU ws b)=some o):cG ws a=0/\cr ws a=o:=by simp[cG,cr,h,h1,h2,h3]
def nA (ws:List Nat) (a:Int):Int:=if ag ws=0 then dI ws a else ag ws
def bK (ws:List Nat) (a:Int):List Int:=if ag ws=0 then (match jJ (aU ws 128) a with | none=>[] | some b=>cU ws b) else []
def mF (s:Sl):Nat:=s.at_.toNat+s.gen.toNat*4294967296+(if s.used=true then 9223372036854775808 else 0)
def ie (ws:List Nat) (m:List (Int × Int)) (i:Nat):Option (List En):=if (slAt ws i).used=true then (match fG m (slAt ws i).at_.toNat with
 | none=>none
 | some t=>if wd ws (112+i)=mF ⟨(slAt ws i).gen,true,t⟩ then some [] else some [⟨((112+i:Nat):Int),mF ⟨(slAt ws i).gen,true,t⟩⟩]) else some []
def dE (ws:List Nat) (m:List (Int × Int)):Nat->Option (List En)
 | 0=>some []
 | k+1=>match dE ws m k with
  | none=>none
  | some o=>(ie ws m k).map (o ++ ·)
theorem oh{m:List (Int × Int)}(h:dE ws m k=none):∀ {n:Nat},k<=n->dE ws m n=none:=by
 intro n
 induction n with
 | zero =>
  intro b;have:k=0:=by omega
  subst this;exact h
 | succ n ih =>
  intro b;rcases kq6 n k with a|a
  .have:k=n+1:=by omega
   subst this;exact h
  simp only[dE,ih a]
theorem nm{m:List (Int × Int)}:∀ {k:Nat} {o:List En},dE ws m k=some o->o.length<=k:=by
 intro k
 induction k with
 | zero=>intro o h;simp only[dE,Option.some.injEq] at h;subst h;simp
 | succ k ih =>
  intro o h;simp only[dE] at h;cases b:dE ws m k with
  | none=>rw[b] at h;cases h
  | some x =>
   rw[b] at h;cases a:ie ws m k with
   | none=>rw[a] at h;cases h
   | some y =>
    rw[a] at h;simp only[kzp,Option.some.injEq] at h;subst h;have h1:=ih b;have h2:y.length<=1:=by
     unfold ie at a;split at a
     .split at a
      .cases a
      split at a<;>(injection a with a;subst a;simp)
     injection a with a;subst a;simp
    rw[kqz];omega
def dm (ws:List Nat):Int:=if cu ws=0 then (if slsOk ws=true then (match dE ws (cX ws) 16 with | none=>50 | some _=>0) else 50) else cu ws
def dd (ws:List Nat):List En:=if dm ws=0 then (dE ws (cX ws) 16).getD [] else []
open Go.RowKit
theorem yT(A:Option Addr)(m:List (Int × Int))(c n v:Nat)(w:World)(hn:m.length=n)(hm:n<=1000000)(hv:v<18446744073709551616)(hr:RdM w w.heap.size A m):
 Calls prog 256 #[.slice A n c,.int .u64 (v:Int)] w λe w'=>e=.returned (.tuple #[.int .i64 ((fG m v).getD 0),.bool (fG m v).isSome])/\Below w.heap.size w w':=by
 have g:=hid (λa=>fwTo_c A m c n w.heap.size a w hn hm hr (kqb _));by_cases h:2048<v
 .have H:Hid (fG m v=none):=hid (by simp[fG,h]);have j:decide ((2048:Int)<(v:Int))=true:=by rw[kql];omega
  have f:decide (2048<v)=true:=by rw[kql];exact h
  clear hv hr hn hm h;go_enter func256,ntmps256;go_wp2;go_ret2;exact⟨by rw[H.out];rfl,kqk _ _⟩
 have H:Hid (fG m v=fO m (v:Int)):=hid (by simp[fG,h]);have j:decide ((2048:Int)<(v:Int))=false:=by rw[kqc];omega
 have f:decide (2048<v)=false:=by rw[kqc];exact h
 have hw:IntKind.i64.wrap (v:Int)=(v:Int):=kqo _ (by omega);have b:=hid (g.out (v:Int));rw[<-H.out] at b;obtain⟨q,i⟩:=xq (fG m v);rw[i] at b |-;clear hv hr hn hm h i g H;go_enter func256,ntmps256;go_wp2_with fail;refine b.out.mono ?_;rintro e w1 ⟨rfl,d⟩;go_wp2;go_ret2;exact⟨rfl,d⟩
def Dz (ws:List Nat) (e:Ending) (w':World):Prop:=∃A c,e=.returned (.tuple #[.slice A (cX ws).length c,.int .i64 (cu ws)])/\RdM w' w'.heap.size A (cX ws)/\(cX ws).length<=c
theorem tz(A:Option Addr)(ws:List Nat)(c n:Nat)(w:World)(hn:ws.length=n)(hm:n<=9223372036854775807)(f:RdW w w.heap.size A ws)(ho:∀x∈ws,x<18446744073709551616):
 Calls prog 255 #[.slice A n c] w λe w'=>Dz ws e w'/\Below w.heap.size w w':=by
 have v:=hid f;have d:=hid (l9 A ws c n w hn hm f ho);have i:=hid (λW (h:RdW W W.heap.size A ws)=>ph A ws c n 128 128 W hn hm (by omega) (by omega) h ho);unfold vX at i;clear f ho hn hm;by_cases g:ag ws=0
 .have b:Hid (cu ws=bi ws 128 128/\cX ws=gj ws 128 128):=hid (by
   have m:cu ws=bi ws 128 128:=by simp[cu,g]
   refine⟨m,?_⟩;unfold cX;rw[m];split
   .rfl
   rename_i h2;simp[gj,h2])
  rw[g] at d;clear g;go_enter func255,ntmps255;go_wp2_with fail;refine d.out.mono ?_;rintro e y ⟨rfl,a⟩;have o:=hid a;have p:=hid (v.out.up a a.size);clear a;go_wp2_with fail;refine (i.out _ p.out).mono ?_;rintro e w2 ⟨⟨u,z,rfl,k,j⟩,l⟩;have s:=hid (o.out.trans (l.mono o.out.size));have q:=hid k;have t:=hid j;clear l k j;go_wp2;go_ret2;exact⟨⟨u,z,by rw[b.out.1,b.out.2];rfl,by rw[b.out.2];exact q.out,by rw[b.out.2];exact t.out⟩,s.out⟩
 obtain⟨r,f⟩:=xq (ag ws);have b:Hid (cu ws=r/\cX ws=[]):=hid (by
  have m:cu ws=r:=by unfold cu;rw[if_neg g,f]
  exact⟨m,by unfold cX;rw[m,if_neg (by rw[<-f];exact g)]⟩)
 rw[f] at d g;have hrn:(r != 0)=true:=by rw[kqt];exact g
 clear g f;go_enter func255,ntmps255;go_wp2_with fail;refine d.out.mono ?_;rintro e y ⟨rfl,a⟩;go_wp2;go_ret2;exact⟨⟨none,0,by rw[b.out.1,b.out.2];rfl,by rw[b.out.2];exact Rd.nil_,by rw[b.out.2];exact kqb _⟩,a⟩
theorem DV{a:Nat}(ha:a<4294967296)(hg:g<2147483648):bits BinOp.or .u64 (a:Int) ((g:Int)*4294967296)=((a+g*4294967296:Nat):Int) /\
 bits BinOp.or .u64 ((a+g*4294967296:Nat):Int) 9223372036854775808=((a+g*4294967296+9223372036854775808:Nat):Int):=by
 refine⟨or32 ha (by omega),?_⟩;have h:=u64_or_nat (a+g*4294967296) 9223372036854775808 (by omega) (by omega);have e:(a+g*4294967296) ||| 9223372036854775808=a+g*4294967296+9223372036854775808:=by rw[show (9223372036854775808:Nat)=1*2 ^ 63 by decide,jP (i:=63) (by omega)]
 rw[e] at h;exact h
theorem zM{a q:Nat}(hp:a+g*4294967296=p)(hq:p+9223372036854775808=q):mF ⟨(g:Int),true,(a:Int)⟩=q:=by unfold mF;dsimp only;rw[kqj,kqj,if_pos rfl,hp,hq]
theorem uH{a:Nat}(hp:a+g*4294967296=p):mF ⟨(g:Int),false,(a:Int)⟩=p:=by unfold mF;dsimp only;rw[kqj,kqj,if_neg (by simp),hp,kz6]
theorem CE(g a p:Nat)(w:World)(hg:g<2147483648)(ha:a<4294967296)(o1:bits BinOp.or .u64 (a:Int) ((g:Int)*4294967296)=(p:Int)):
 Calls prog 285 #[.agg #[.int .i64 (g:Int),.bool false,.int .i64 (a:Int)]] w λe w'=>e=.returned (.int .u64 (p:Int))/\Below w.heap.size w w':=by have hw1:IntKind.u64.wrap (a:Int)=(a:Int):=kzi _ (by omega);have hw2:IntKind.u64.wrap (g:Int)=(g:Int):=kzi _ (by omega);have hw3:IntKind.u64.wrap ((g:Int)*4294967296)=(g:Int)*4294967296:=kzi _ (by omega);have b:=hid ((kqk w.heap.size w).alloc (kqb _) (.cells #[.int .i64 (g:Int),.bool false,.int .i64 (a:Int)] 52));clear ha hg;go_enter func285,ntmps285;go_wp2;go_ret;exact⟨rfl,b.out⟩
theorem Aq(g a p q:Nat)(w:World)(hg:g<2147483648)(ha:a<4294967296)(o1:bits BinOp.or .u64 (a:Int) ((g:Int)*4294967296)=(p:Int))(o2:bits BinOp.or .u64 (p:Int) 9223372036854775808=(q:Int)):
 Calls prog 285 #[.agg #[.int .i64 (g:Int),.bool true,.int .i64 (a:Int)]] w λe w'=>e=.returned (.int .u64 (q:Int))/\Below w.heap.size w w':=by have hw1:IntKind.u64.wrap (a:Int)=(a:Int):=kzi _ (by omega);have hw2:IntKind.u64.wrap (g:Int)=(g:Int):=kzi _ (by omega);have hw3:IntKind.u64.wrap ((g:Int)*4294967296)=(g:Int)*4294967296:=kzi _ (by omega);have b:=hid ((kqk w.heap.size w).alloc (kqb _) (.cells #[.int .i64 (g:Int),.bool true,.int .i64 (a:Int)] 52));clear ha hg;go_enter func285,ntmps285;go_wp2;go_ret;exact⟨rfl,b.out⟩
theorem Fl(g a:Nat)(u:Bool)(w:World)(hg:g<2147483648)(ha:a<4294967296):
 Calls prog 285 #[.agg #[.int .i64 (g:Int),.bool u,.int .i64 (a:Int)]] w λe w'=>e=.returned (.int .u64 (mF ⟨(g:Int),u,(a:Int)⟩:Nat))/\Below w.heap.size w w':=by
 obtain⟨d,c⟩:=DV ha hg;obtain⟨p,b⟩:=xq (a+g*4294967296);rw[b] at d c;obtain⟨q,f⟩:=xq (p+9223372036854775808);rw[f] at c;cases u
 .rw[uH b];exact CE g a p w hg ha d
 rw[zM b f];exact Aq g a p q w hg ha d c
theorem EM(g a:Nat)(u:Bool)(w:World)(hg:g<2147483648)(ha:a<4294967296)(hok:mP ⟨(g:Int),u,(a:Int)⟩=true):
 Calls prog 257 #[.agg #[.int .i64 (g:Int),.bool u,.int .i64 (a:Int)]] w λe w'=>e=.returned (.tuple #[.int .u64 (mF ⟨(g:Int),u,(a:Int)⟩:Nat),.int .i64 0])/\Below w.heap.size w w':=by have c:=hid (λW=>tG (g:Int) u (a:Int) W (by omega) (by omega));rw[hok] at c;have d:=hid (λW=>Fl g a u W hg ha);have j:=Bx.new w 52 #[.int .i64 (g:Int),.bool u,.int .i64 (a:Int)];have k:=hid j;have l:=hid ((kqk w.heap.size w).alloc (kqb _) (.cells #[.int .i64 (g:Int),.bool u,.int .i64 (a:Int)] 52));obtain⟨V,m⟩:∃V,mF ⟨(g:Int),u,(a:Int)⟩=V:=⟨_,rfl⟩;rw[m] at d |-;clear j m hok hg ha;go_enter func257,ntmps257;go_wp2_with fail;refine (c.out _).mono ?_;rintro e w1 ⟨rfl,b⟩;have f:=k.out.up b k.out.lt;obtain⟨p0,p1,p2,-⟩:=f.c3;have h:=hid (l.out.trans (b.mono l.out.size));clear b f;go_wp2_with fail;refine (d.out _).mono ?_;rintro e w2 ⟨rfl,i⟩;go_wp2;go_ret2;exact⟨rfl,h.out.trans (i.mono h.out.size)⟩
theorem xJ(A:Option Addr)(ws:List Nat)(c n:Nat)(a:Int)(w:World)(hn:ws.length=n)(hm:n<=9223372036854775807)(hr:RdW w w.heap.size A ws)(ho:∀x∈ws,x<18446744073709551616):
 Calls prog 258 #[.slice A n c,.int .i64 a] w λe w'=>e=.returned (.tuple #[(v8 ws a).val,.int .i64 (dI ws a)])/\Below w.heap.size w w':=by
 have j:=hid (lz A ws c n 128 (w.alloc (.cells #[.int .i64 0,.int .i64 0,.int .i64 0,.int .i64 0,.bool false,.int .u64 0] 55)) hn hm ((hr.alloc (kqb _) _).more (by simp)) ho);unfold pm at j;rw[kqn] at j;have L:=gQ ws 128;have HN:Hid (kb (aU ws 128) a (aU ws 128).length->v8 ws a=lG/\dI ws a=6):=hid λh=>by simp[v8,dI,yV h]
 have HY:Hid (∀k,k<(aU ws 128).length->kb (aU ws 128) a k->((gk (aU ws 128) k).at_==a&&(gk (aU ws 128) k).kind==1)=true->v8 ws a=gk (aU ws 128) k/\dI ws a=0):=hid λk h1 h2 h3=>by simp[v8,dI,DH h1 h2 h3]
 obtain⟨l,Y⟩:=xq (aU ws 128);obtain⟨r,H⟩:=xq (co ws 128);rw[Y,H] at j;rw[Y] at L HN HY;have N:=l6;clear Y H hr ho hn hm;go_enter func258,ntmps258;go_wp2_with fail;refine j.out.mono ?_;rintro e w1 ⟨⟨A1,c1,rfl,P,-⟩,z⟩;have E:=ao z;have O:=E.size;have b0:=hid (Bx.of_new z);have G:=b0.out.lt;have W:=hid P;have I:=hid E;clear P z E;go_wp2_with fail;go_loopw [17] (λi wr=>∃k:Nat,k<=l.length/\i=.int .i64 k/\Hid (kb l a k)/\Below w1.heap.size w1 wr) (λi _=>l.length-(intOf i).toNat)
 case atStart=>exact⟨0,kqx _,rfl,oC l a,kqk _ _⟩
 obtain⟨k,hk,rfl,F,D⟩:=hrel;have T:=D.size;have C:=hid (b0.out.up D G);by_cases u:k<l.length
 .obtain ⟨b,off,rfl,hbw,q0,q1,q2,q3,q4,q5⟩:=RdB.at_ (W.out.below D) u;have g:=hid (λh=>oy F.out h);have f:=hid (λh=>HY.out k u F.out h);rw[bo l k u] at g f;obtain⟨x,hx⟩:=xq (l[k]);rw[hx] at q0 q1 q2 q3 q4 q5 g f;obtain⟨p,xs,m,q,t,y⟩:=x;dsimp only at q0 q1 q2 q3 q4 q5 g;have hlm:(k:Int)<(l.length:Int):=by omega
  clear hx;obtain⟨d1,e1⟩:=xq ((p==a));obtain⟨d2,Z⟩:=xq ((m==1));dsimp only at f;rw[e1,Z] at g f;cases d1
  .have s:=hid (g.out rfl);clear g f Z;go_wp2;go_roundw
   case rel=>exact⟨k+1,by omega,by go_num,s.out,D.alloc T _⟩
   case measure=>simp[intOf];omega
  cases d2
  .have s:=hid (g.out rfl);clear g f;go_wp2;go_roundw
   case rel=>exact⟨k+1,by omega,by go_num,s.out,D.alloc T _⟩
   case measure=>simp[intOf];omega
  have R:=hid (f.out rfl);have o:=hid (Bx.new wr 55 #[.int .i64 p,.int .i64 xs,.int .i64 m,.int .i64 q,.bool t,.int .u64 (y:Int)]);have K:=hid (D.alloc T (.cells #[.int .i64 p,.int .i64 xs,.int .i64 m,.int .i64 q,.bool t,.int .u64 (y:Int)] 55));have Q:=hid (C.out.alloc (.cells #[.int .i64 p,.int .i64 xs,.int .i64 m,.int .i64 q,.bool t,.int .u64 (y:Int)] 55));clear g f;go_upto_region 6 with (fail);obtain⟨wn,S⟩:∃wn,wr.alloc (.cells #[.int .i64 p,.int .i64 xs,.int .i64 m,.int .i64 q,.bool t,.int .u64 (y:Int)] 55)=wn:=⟨_,rfl⟩;rw[S] at o Q K |-;clear S;go_wp2_with (first
   | ((with_reducible refine fF 55 (.tmp 9) ?_);refine kxg rfl _ _ rfl wr.heap.size (by rfl) 55 #[.int .i64 p,.int .i64 xs,.int .i64 m,.int .i64 q,.bool t,.int .u64 (y:Int)] (0,0) _ o.out underlying55 (by rfl) N ?_)
   | ((with_reducible refine bq 55 (.tmp 4) _ ?_);refine ai rfl _ _ _ rfl w.heap.size 55 #[.int .i64 0,.int .i64 0,.int .i64 0,.int .i64 0,.bool false,.int .u64 0] #[.int .i64 p,.int .i64 xs,.int .i64 m,.int .i64 q,.bool t,.int .u64 (y:Int)] (by rfl) (by rfl) Q.out rfl N (mW _ _ _ _ _ _) ?_;intro w3 J M;have X:=hid J;have U:=hid M;clear J M))
  exact kqr (v:=.tuple #[.agg #[.int .i64 p,.int .i64 xs,.int .i64 m,.int .i64 q,.bool t,.int .u64 (y:Int)],.int .i64 0]) (aS results258 _ X.out rfl rfl) rfl ⟨by rw[R.out.1,R.out.2];rfl,U.out.below (I.out.trans (K.out.mono O)) (kqb _)⟩
 have R:=hid (HN.out (by have:=F.out;rwa [show k=l.length by omega] at this));have V:=hid (I.out.trans (D.mono O));obtain⟨x0,x1,x2,x3,x4,x5,B,hgl⟩:=C.out.c6;have f0:=B 0;have f1:=B 1;have f2:=B 2;have f3:=B 3;have f4:=B 4;have f5:=B 5;clear B;go_wp2_with fail;exact kqr (v:=.tuple #[.agg #[.int .i64 0,.int .i64 0,.int .i64 0,.int .i64 0,.bool false,.int .u64 0],.int .i64 6]) (aS results258 _ (lC C.out _ _ _ _ _ _) rfl rfl) rfl ⟨by rw[R.out.1,R.out.2];rfl,ft V.out (kqb _) _ _ _ _ _ _⟩
theorem tD(A:Option Addr)(ws:List Nat)(c n t xa:Nat)(xs xk:Int)(xm:Bool)(xn:Nat)(w:World)(hn:ws.length=n)(hm:n<=1000000)(h2:256<=n)(ht:t<8)(hxa:xa<=1000000)(hr:RdW w w.heap.size A ws)(ho:∀x∈ws,x<18446744073709551616):
 Calls prog 259 #[.slice A n c,.agg #[.int .i64 (xa:Int),.int .i64 xs,.int .i64 xk,.int .i64 (t:Int),.bool xm,.int .u64 (xn:Int)]] w λe w'=>(∃A' c',e=.returned (.slice A' (cU ws ⟨(xa:Int),xs,xk,(t:Int),xm,xn⟩).length c')/\RdI w' w'.heap.size A' (cU ws ⟨(xa:Int),xs,xk,(t:Int),xm,xn⟩)/\(cU ws ⟨(xa:Int),xs,xk,(t:Int),xm,xn⟩).length<=c')/\Below w.heap.size w w':=by
 subst hn;have hx:=eX ho (96+2*t);have hy:=eX ho (96+2*t+1);have U:=hid (λW=>py (wd ws (96+2*t)) (wd ws (96+2*t+1)) W hx hy);unfold Cw at U;have D:=jA (wd ws (96+2*t)) (wd ws (96+2*t+1));have Y:cU ws ⟨(xa:Int),xs,xk,(t:Int),xm,xn⟩=lT (bc (wd ws (96+2*t)) (wd ws (96+2*t+1))) (xa:Int) (bc (wd ws (96+2*t)) (wd ws (96+2*t+1))).length:=rfl;rw[Y];clear Y;obtain⟨b,g,rfl,hb,G⟩:=RdW.at_ hr (show 96+2*t<ws.length by omega);obtain⟨b',off',e',-,E⟩:=RdW.at_ hr (show 96+2*t+1<ws.length by omega);cases e';rw[<-bI] at G E;obtain⟨x,Q⟩:=xq (wd ws (96+2*t));obtain⟨y,R⟩:=xq (wd ws (96+2*t+1));rw[Q] at G U D |-;rw[R] at E U D |-;obtain⟨F,hF⟩:=xq (bc x y);obtain⟨r,P⟩:=xq (ei x y);rw[hF,P] at U;rw[hF] at D |-;have Gc:=hid (λj=>mB F (xa:Int) j);have Fu:=hid (λj=>kn F (xa:Int) j);have t0:(0:Int)<=(t:Int):=by omega
 have t8:(t:Int)<8:=by omega
 have w1:IntKind.i64.wrap (2*(t:Int))=2*(t:Int):=kqo _ (by omega);have w2:IntKind.i64.wrap (96+2*(t:Int))=96+2*(t:Int):=kqo _ (by omega);have w3:IntKind.i64.wrap (96+2*(t:Int)+1)=96+2*(t:Int)+1:=kqo _ (by omega);have wa:IntKind.i64.wrap ((xa:Int)+2)=(xa:Int)+2:=kqo _ (by omega);have i1:(0:Int)<=96+2*(t:Int):=by omega
 have i2:(96:Int)+2*(t:Int)<(ws.length:Int):=by omega
 have i3:(0:Int)<=96+2*(t:Int)+1:=by omega
 have i4:(96:Int)+2*(t:Int)+1<(ws.length:Int):=by omega
 have n1:((96:Int)+2*(t:Int)).toNat=96+2*t:=by omega
 have n2:((96:Int)+2*(t:Int)+1).toNat=96+2*t+1:=by omega
 have bx:=Bx.new w 55 #[.int .i64 (xa:Int),.int .i64 xs,.int .i64 xk,.int .i64 (t:Int),.bool xm,.int .u64 (xn:Int)];have o:=(kqk w.heap.size w).alloc (kqb _) (.cells #[.int .i64 (xa:Int),.int .i64 xs,.int .i64 xk,.int .i64 (t:Int),.bool xm,.int .u64 (xn:Int)] 55);replace G:=(o.cell (p:=⟨b,g+(96+2*t),none⟩) hb).trans G;replace E:=(o.cell (p:=⟨b,g+(96+2*t+1),none⟩) hb).trans E;have Fq:(w.alloc (.cells #[.int .i64 (xa:Int),.int .i64 xs,.int .i64 xk,.int .i64 (t:Int),.bool xm,.int .u64 (xn:Int)] 55)).heap.size=w.heap.size+1:=by simp
 obtain⟨i0,hi,N,Fo,L⟩:=kze mO;have HI:=hid hi;have Fx:=hid N;have Fv:=hid Fo;have Ga:=hid L;clear hi N Fo L;clear hr hx hy Q R ho ht hF P;go_enter func259,ntmps259;go_wp2_with fail;obtain⟨q,T⟩:∃q,w.alloc (.cells #[.int .i64 (xa:Int),.int .i64 xs,.int .i64 xk,.int .i64 (t:Int),.bool xm,.int .u64 (xn:Int)] 55)=q:=⟨_,rfl⟩;rw[T] at G E bx o Fq |-;clear T;have b3:q.cell? ⟨w.heap.size,3,none⟩=some (.int .i64 (t:Int)):=bx.cell 3;have Eq:b<q.heap.size:=by omega
 have K:w.heap.size<q.heap.size:=by omega
 have BX:=hid bx;have J:=hid o;clear bx o Fq
 go_region_held3 (λX:World=>X.cell? ⟨b,g+(96+2*t),none⟩=some (.int .u64 (x:Int))/\X.cell? ⟨b,g+(96+2*t+1),none⟩=some (.int .u64 (y:Int))/\X.cell? ⟨w.heap.size,3,none⟩=some (.int .i64 (t:Int))) (go_keep)
  (first | (go_at_call 117;refine (U.out _).mono ?_;rintro e H ⟨⟨A1,c1,rfl,Fr,-⟩,l⟩;have m0:=(l.cell (p:=⟨b,g+(96+2*t),none⟩) Eq).trans G;have m1:=(l.cell (p:=⟨b,g+(96+2*t+1),none⟩) Eq).trans E;have m2:=(l.cell (p:=⟨w.heap.size,3,none⟩) K).trans b3;have Fz:=hid Fr;have C:Below q.heap.size q H:=(kqk q.heap.size q).drew.trans l;have M:=hid (BX.out.up C K);have Z:=hid (J.out.trans (C.mono J.out.size));clear Fr l C))
 have Gb:=Z.out.size;clear m0 m1 m2 G E b3;go_wp2_with fail;go_loopw [7,31] (λv i wr=>∃k:Nat,k<=F.length/\i=.int .i64 k/\wr.ownsRow H.heap.size 3 1 v (lT F (xa:Int) k).length ((lT F (xa:Int) k).flatMap a8)/\Below H.heap.size H wr) (λ_ i _=>F.length-(intOf i).toNat)
 case atStart=>exact⟨0,kqx _,rfl,kq1 _ _ _ _,kqk _ _⟩
 obtain⟨k,hk,rfl,a,I⟩:=hrel;have hz:=I.size;by_cases O:k<F.length
 .obtain ⟨bF,oF,rfl,hbF,y0⟩:=RdY.at_ (show RdY wr H.heap.size A1 F from Rd.below Fz.out I) O;have z:=M.out.up I M.out.lt;have p0:=z.cell 0;have hgr:=z.lt;have d:=hid (Gc.out k);have Fy:=Fu.out k;rw[kqm O] at d;obtain⟨B,S⟩:=xq (F[k]);obtain⟨m,Fp⟩:∃m,lT F (xa:Int) k=m:=⟨_,rfl⟩;rw[S] at y0 d;rw[Fp] at a d Fy;have p0':wr.cell? ⟨w.heap.size,0,none⟩=some (.int .i64 (xa:Int)):=p0;have hki:(k:Int)<(F.length:Int):=by omega
  have hwk:IntKind.i64.wrap ((xa:Int)+2+(k:Int))=(xa:Int)+2+(k:Int):=kqo _ (by omega);clear S Fp z p0;by_cases f:B=3
  .have e3:((B:Int)==3)=true:=by rw[kqu];omega
   have e3n:(B==3)=true:=by rw[kqu];exact f
   have HY:=hid (show lT F (xa:Int) (k+1)=m++[(xa:Int)+2+(k:Int)] by rw[d.out,if_pos (by rw[f])]);clear f d;go_wp2_with (at_builtin;refine kq9 _ rfl _ _ 42 rfl H.heap.size 3 i0 _ 1 8 underlying42 HI.out Fx.out Fv.out Ga.out rfl (by decide) _ _ _ rfl (a.alloc _) ⟨_,0,none⟩ 1 1 [.int .i64 ((xa:Int)+2+(k:Int))] rfl rfl (bn _ _ _) (by simp[Value.oneCell']) (by unfold maxLen;omega) (by omega) (by simp;omega) ?_;intro v1 w6 u Ft _;have Fw:=am I hz a Ft);go_roundw
   case rel=>exact⟨k+1,by omega,by go_num,by rw[HY.out,kqz,b9];exact u,Fw⟩
   case measure=>simp[intOf];omega
  have e3:((B:Int)==3)=false:=by rw[kqi];omega
  have e3n:(B==3)=false:=by rw[kqi];exact f
  have HY:=hid (show lT F (xa:Int) (k+1)=m by rw[d.out,if_neg (λh=>f (Option.some.inj h)),kzm]);clear f d;go_wp2;go_roundw
  case rel=>exact⟨k+1,by omega,by go_num,by rw[HY.out];exact a,I⟩
  case measure=>simp[intOf];omega
 obtain rfl:k=F.length:=by omega
 obtain⟨A2,c2,rfl,Fs,s⟩:=kI a;have V:=hid s;have Gd:=hid Fs;clear s a Fs;go_wp2;go_ret;exact⟨⟨A2,c2,rfl,V.out,Gd.out⟩,Z.out.trans (I.mono Gb)⟩
theorem mE(h:ag ws=0)(ho:jJ (aU ws 128) a=some b):∃(m t:Nat) (xs xk:Int) (xm:Bool) (xn:Nat),a=(m:Int)/\b=⟨(m:Int),xs,xk,(t:Int),xm,xn⟩/\t<8/\eg ws m/\m<ws.length /\
 (cU ws b).length<=8/\∀k (n:k<(cU ws b).length),∃r:Nat,(cU ws b)[k]=(r:Int)/\m<=r/\r<ws.length:=by
 obtain⟨m,p,g,c⟩:=xw h ho;have e:wd ws m/512%128<8:=by have h7:=(bj _).1 (fM c.2.2.2.1);have h5:=c.2.2.2.2.1;have h6:(ah (wd ws m)).typ=((wd ws m/512%128:Nat):Int):=rfl;omega
 have j:rx ws b=flds ws m:=by rw[g];rfl
 refine⟨m,wd ws m/512%128,(bkAt ws m).size,(bkAt ws m).kind,(bkAt ws m).mark,(bkAt ws m).next,p,g,e,c,c.2.2.1,?_,λk n=>?_⟩
 .have s:=kn (rx ws b) b.at_ (rx ws b).length;have h2:=rE ws m;unfold cU;rw[j] at s |-;omega
 have o:=kqs n;unfold cU at o;obtain⟨i,l,i2,q⟩:=kD.1 o;rw[j] at l;have f:=nh c l;have d:b.at_=(m:Int):=by rw[g];rfl
 refine⟨m+2+i,?_,by omega,f⟩;have:(cU ws b)[k]=b.at_+2+(i:Int):=q;rw[this,d];omega
def RsRes (ws:List Nat) (a:Int) (e:Ending) (w':World):Prop:=∃A c,e=.returned (.tuple #[.slice A (bK ws a).length c,.int .i64 (nA ws a)])/\RdI w' w'.heap.size A (bK ws a)/\(bK ws a).length<=c
theorem vL(A:Option Addr)(ws:List Nat)(c n:Nat)(a:Int)(w:World)(hn:ws.length=n)(hm:n<=9223372036854775807)(v:RdW w w.heap.size A ws)(ho:∀x∈ws,x<18446744073709551616):
 Calls prog 208 #[.slice A n c,.int .i64 a] w λe w'=>RsRes ws a e w'/\Below w.heap.size w w':=by
 subst hn;have H:=hid v;have l:=hid (l9 A ws c ws.length w rfl hm v ho);have f:=hid (λW (h:RdW W W.heap.size A ws)=>xJ A ws c ws.length a W rfl hm h ho);have T:=hid ho;clear v ho;by_cases k:ag ws=0
 .rw[k] at l;cases g:jJ (aU ws 128) a with
  | none =>have i:Hid (nA ws a=6/\bK ws a=[]):=hid (by simp[nA,bK,dI,k,g]);rw[show v8 ws a=lG by simp[v8,g],show dI ws a=6 by simp[dI,g]] at f;unfold lG Bk.val at f;simp only[kqy] at f;clear k g;go_enter func208,ntmps208;go_wp2_with fail;refine l.out.mono ?_;rintro e P ⟨rfl,d⟩;have o:=hid d;have u:=hid (H.out.up d d.size);clear d;go_wp2_with fail;refine (f.out _ u.out).mono ?_;rintro e U ⟨rfl,p⟩;have j:=o.out.trans (p.mono o.out.size);go_wp2;go_ret2;exact⟨⟨none,0,by rw[i.out.1,i.out.2];rfl,by rw[i.out.2];exact Rd.nil_,by rw[i.out.2];exact kqb _⟩,j.alloc j.size _⟩
  | some b =>
   obtain⟨m,t,xs,M,N,Q,V,G,z,C,I,-,-⟩:=mE k g;subst V;have E:=de ws (al k).1;have i:Hid (nA ws (m:Int)=0/\bK ws (m:Int)=cU ws b):=hid (by simp[nA,bK,dI,k,g]);rw[show v8 ws (m:Int)=b by simp[v8,g],show dI ws (m:Int)=0 by simp[dI,g]] at f;have y:=hid (λW (h:RdW W W.heap.size A ws)=>tD A ws c ws.length t m xs M N Q W rfl (by omega) (by omega) z (by omega) h T.out);rw[<-G] at y;obtain⟨R,O⟩:=xq (cU ws b);rw[O] at y i;rw[G] at f;unfold Bk.val at f;dsimp only at f;clear k g G z C I E O;go_enter func208,ntmps208;go_wp2_with fail;refine l.out.mono ?_;rintro e P ⟨rfl,d⟩;have o:=hid d;have u:=hid (H.out.up d d.size);clear d;go_wp2_with fail;refine (f.out _ u.out).mono ?_;rintro e U ⟨rfl,p⟩;have j:=o.out.trans (p.mono o.out.size);have q:=hid (j.alloc j.size (.cells #[.int .i64 (m:Int),.int .i64 xs,.int .i64 M,.int .i64 (t:Int),.bool N,.int .u64 (Q:Int)] 55));have L:=hid (H.out.up q.out q.out.size);clear p j;go_wp2_with fail;refine (y.out _ L.out).mono ?_;rintro e w3 ⟨⟨X,S,rfl,s,B⟩,D⟩;have K:=hid s;have J:=hid B;have F:=hid (q.out.trans (D.mono q.out.size));clear s B D;go_wp2;go_ret2;exact⟨⟨X,S,by rw[i.out.1,i.out.2];rfl,by rw[i.out.2];exact K.out,by rw[i.out.2];exact J.out⟩,F.out⟩
 obtain⟨r,v⟩:=xq (ag ws);have i:Hid (nA ws a=r/\bK ws a=[]):=hid ⟨by unfold nA;rw[if_neg k,v],by unfold bK;rw[if_neg k]⟩;rw[v] at l k;have hrn:(r != 0)=true:=by rw[kqt];exact k
 clear k v;go_enter func208,ntmps208;go_wp2_with fail;refine l.out.mono ?_;rintro e P ⟨rfl,d⟩;go_wp2;go_ret2;exact⟨⟨none,0,by rw[i.out.1,i.out.2];rfl,by rw[i.out.2];exact Rd.nil_,by rw[i.out.2];exact kqb _⟩,d⟩
theorem tE(ws:List Nat):(cX ws).length<=2048:=by
 unfold cX;split
 .exact CJ ws 128 128
 simp
theorem ss(A:Option Addr)(ws:List Nat)(c n:Nat)(a:Int)(w:World)(hn:ws.length=n)(hm:n<=9223372036854775807)(N:RdW w w.heap.size A ws)(ho:∀x∈ws,x<18446744073709551616):
 Calls prog 209 #[.slice A n c,.int .i64 a] w λe w'=>dx w.heap.size (cG ws a) (cr ws a) e w'/\Below w.heap.size w w':=by
 subst hn;have HR:=hid N;have z:=hid (tz A ws c ws.length w rfl hm N ho);unfold Dz at z;have g:=hid (λW (h:RdW W W.heap.size A ws)=>xJ A ws c ws.length a W rfl hm h ho);have HO:=hid ho;clear N ho;by_cases I:cu ws=0
 .obtain ⟨Gk,-,-⟩:=cj I;rw[I] at z;have Fy:=tE ws;cases l:jJ (aU ws 128) a with
  | none =>have L:=hid (pg I l);rw[show v8 ws a=lG by simp[v8,l],show dI ws a=6 by simp[dI,l]] at g;unfold lG Bk.val at g;simp only[kqy] at g;obtain⟨q,hq⟩:=xq ((cX ws).length);rw[hq] at z;clear I l hq Fy;go_enter func209,ntmps209;go_wp2_with fail;refine z.out.mono ?_;rintro e w1 ⟨⟨A1,c1,rfl,-,-⟩,d⟩;have E:=hid d;have K:=hid (HR.out.up d d.size);clear d;go_wp2_with fail;refine (g.out _ K.out).mono ?_;rintro e w2 ⟨rfl,G⟩;have C:=E.out.trans (G.mono E.out.size);go_wp2;go_ret2;exact⟨bH L.out.1 L.out.2,C.alloc C.size _⟩
  | some b =>
   obtain⟨m,t,xs,xk,xm,xn,ea,eb,Ft,Fo,Fp,Gj,O⟩:=mE Gk l;subst ea;have Gb:=de ws (al Gk).1;rw[show v8 ws (m:Int)=b by simp[v8,l],show dI ws (m:Int)=0 by simp[dI,l]] at g;have S:b.mark=xm:=by rw[eb]
   cases V:xm with
   | false =>have L:=hid (pu I l (by rw[S,V]));rw[eb,V] at g;unfold Bk.val at g;dsimp only at g;obtain⟨q,hq⟩:=xq ((cX ws).length);rw[hq] at z;clear I l eb Ft Fo Fp Gb Gj O hq Fy S V;go_enter func209,ntmps209;go_wp2_with fail;refine z.out.mono ?_;rintro e w1 ⟨⟨A1,c1,rfl,-,-⟩,d⟩;have E:=hid d;have K:=hid (HR.out.up d d.size);clear d;go_wp2_with fail;refine (g.out _ K.out).mono ?_;rintro e w2 ⟨rfl,G⟩;have C:=E.out.trans (G.mono E.out.size);go_wp2;go_ret2;exact⟨bH L.out.1 L.out.2,C.alloc C.size _⟩
   | true =>
    subst V;have Gd:=hid (λW (h:RdW W W.heap.size A ws)=>tD A ws c ws.length t m xs xk true xn W rfl (by omega) (by omega) Ft (by omega) h HO.out);rw[<-eb] at Gd;have Gc:=hid (λh3=>tK I l S h3);have Fx:=hid (λo h3=>v7 I l S (o:=o) h3);have Gl:=hid (λx y h=>uy I (a:=x) (t:=y) h);have Gp:=hid (λA1 c1 (v:Nat) W (hv:v<18446744073709551616) (h:RdM W W.heap.size A1 (cX ws))=>yT A1 (cX ws) c1 (cX ws).length v W rfl (by omega) hv h);have Gh:Hid (∀v t,fG (cX ws) v=some t->fO (cX ws) (v:Int)=some t):=hid λv t h=>by
     unfold fG at h;split at h
     .cases h
     exact h
    have Fq:Hid (∀r,fu ws (cX ws) r=if wd ws r=0 then some [] else match fG (cX ws) (wd ws r) with
     | none=>none
     | some t=>if (wd ws r:Int)=t then some [] else some [⟨(r:Int),t.toNat⟩]):=hid λr=>rfl
    have Fu:=hid (λk (hk:k<(cU ws b).length) o h=>jr (ws:=ws) (m:=cX ws) hk (o:=o) h);have Fw:=hid (λk (hk:k<(cU ws b).length) o h h2=>yP (ws:=ws) (m:=cX ws) hk (o:=o) h h2);have Ga:=hid (λk o (h:cD ws (cX ws) ((cU ws b).take k)=some o)=>nt h);obtain⟨R,hR⟩:=xq (cU ws b);rw[hR] at Gd Gc Fx Fu Fw Ga Gj;have Gr:Hid (∀k (hk:k<R.length),∃r:Nat,R[k]=(r:Int)/\m<=r/\r<ws.length):=hid (by subst hR;exact O);obtain⟨M,hM⟩:=xq (cX ws);rw[hM] at z Gc Fx Gl Gp Gh Fq Fu Fw Ga Fy;rw[eb] at g;unfold Bk.val at g;dsimp only at g;have hlen:=Gb.2.1;obtain⟨i0,hi,Gi,Gn,Ge⟩:=kze bB;have HI:=hid hi;have Gy:=hid Gi;have Gt:=hid Gn;have Jb:=hid Ge;clear hi Gi Gn Ge;clear I l eb Ft Fo Fp Gb hR O hM S;go_enter func209,ntmps209;go_wp2_with fail;refine z.out.mono ?_;rintro e w1 ⟨⟨A1,c1,rfl,Gg,-⟩,d⟩;have E:=hid d;have K:=hid (HR.out.up d d.size);have Gv:=hid Gg;clear d Gg;go_wp2_with fail;refine (g.out _ K.out).mono ?_;rintro e w2 ⟨rfl,G⟩;have C:=E.out.trans (G.mono E.out.size);have Eq:=hid (C.alloc C.size (.cells #[.int .i64 (m:Int),.int .i64 xs,.int .i64 xk,.int .i64 (t:Int),.bool true,.int .u64 (xn:Int)] 55))
    have Je:=hid (HR.out.up Eq.out Eq.out.size);have Jg:=hid (Rd.more (Rd.alloc (Gv.out.up G G.size) (kqb _) (.cells #[.int .i64 (m:Int),.int .i64 xs,.int .i64 xk,.int .i64 (t:Int),.bool true,.int .u64 (xn:Int)] 55)) (show w2.heap.size<=(w2.alloc (.cells #[.int .i64 (m:Int),.int .i64 xs,.int .i64 xk,.int .i64 (t:Int),.bool true,.int .u64 (xn:Int)] 55)).heap.size by simp));clear G C;go_wp2_with fail;refine (Gd.out _ Je.out).mono ?_;rintro e w3 ⟨⟨A3,c3,rfl,Fr,-⟩,X⟩;have Jd:=hid Fr;have P:=hid (Eq.out.trans (X.mono Eq.out.size));have Gu:=hid (Jg.out.up X X.size);have Gw:=hid (HR.out.up P.out P.out.size);have Fz:=P.out.size;clear Fr X;go_wp2_with fail;go_loopw [10,42] (λv i wr=>∃(k:Nat) (o:List En),k<=R.length/\i=.int .i64 k/\Hid (cD ws M (R.take k)=some o)/\wr.ownsRow w3.heap.size 89 2 v o.length (o.flatMap En.cells)/\Below w3.heap.size w3 wr) (λ_ i _=>R.length-(intOf i).toNat)
    case atStart=>exact⟨0,[],kqx _,rfl,rfl,kq1 _ _ _ _,kqk _ _⟩
    obtain⟨k,o,hk,rfl,U,B,hB⟩:=hrel;have hz:=hB.size;have Ja:=Ga.out k o U.out;rw[kzd] at Ja;by_cases Y:k<R.length
    .obtain ⟨bR,oR,rfl,hbR,q0⟩:=RdI.at_ (Rd.below Jd.out hB) Y;obtain⟨r,N,hmr,Gs⟩:=Gr.out k Y;obtain⟨bW,oW,rfl,hbW,x0⟩:=RdW.at_ (Rd.below Gw.out hB) Gs;rw[<-bI] at x0;have Jf:=hid (Gu.out.up hB hz);have hv:=eX HO.out r;have f:=hid (Fu.out k Y o U.out);have s:=hid (Fw.out k Y o U.out);have j:=hid (Fq.out r);rw[N] at q0 f s;rw[kqj] at f s;have Fv:=Gh.out (wd ws r);obtain⟨v,Gf⟩:=xq (wd ws r);rw[Gf] at x0 hv j Fv;have hri:(r:Int)<(ws.length:Int):=by omega
     have hr0:(0:Int)<=(r:Int):=by omega
     have hki:(k:Int)<(R.length:Int):=by omega
     have Jh:=hid hv;have Gz:=hid Fv;clear N Gf hv Fv;by_cases F:v=0
     .have e0:((v:Int)==0)=true:=by rw[kqu];omega
      have e0n:(v==0)=true:=by rw[kqu];exact F
      have HY:=hid (show cD ws M (R.take (k+1))=some o by rw[f.out,j.out,if_pos F];simp);clear F f s j;go_wp2;go_roundw
      case rel=>exact⟨k+1,o,by omega,by go_num,HY.out,B,hB⟩
      case measure=>simp[intOf];omega
     have e0:((v:Int)==0)=false:=by rw[kqi];omega
     have e0n:(v==0)=false:=by rw[kqi];exact F
     rw[if_neg F] at j;have H:=hid (Gp.out A1 c1 v _ Jh.out Jf.out);cases J:fG M v with
     | none =>rw[J] at H j;have L:=hid (Gc.out (s.out j.out));simp only[kki,kj8] at H;clear F f s j J;go_wp2_with fail;refine H.out.mono ?_;rintro e w5 ⟨rfl,u⟩;go_wp2;go_ret2;exact⟨bH L.out.1 L.out.2,P.out.trans ((hB.trans (u.mono hz)).mono Fz)⟩
     | some tt =>
      obtain⟨Q,rfl,ht1,-,ht2,-⟩:=Gl.out (v:Int) tt (Gz.out tt J);rw[J] at H j;simp only[kq4,kxk] at H;have hwt:IntKind.u64.wrap (Q:Int)=(Q:Int):=kzi _ (by omega);by_cases T:v=Q
      .have en:((v:Int) != (Q:Int))=false:=by rw[kqp];omega
       have enn:(v != Q)=false:=by rw[kqp];exact T
       have HY:=hid (show cD ws M (R.take (k+1))=some o by rw[f.out,j.out];simp[T]);clear F f s j J T;go_wp2_with fail;refine H.out.mono ?_;rintro e w5 ⟨rfl,u⟩;have x5:=(u.cell (p:=⟨bW,oW+r,none⟩) (by show bW<wr.heap.size;omega)).trans x0;have D:=hid (ae B u (kqb _));have Z:=hid (hB.trans (u.mono hz));clear u;go_wp2;go_roundw
       case rel=>exact⟨k+1,o,by omega,by go_num,HY.out,D.out,Z.out⟩
       case measure=>simp[intOf];omega
      have en:((v:Int) != (Q:Int))=true:=by rw[kqt];omega
      have enn:(v != Q)=true:=by rw[kqt];exact T
      have HY:=hid (show cD ws M (R.take (k+1))=some (o++[⟨(r:Int),Q⟩]) by
       rw[f.out,j.out];have:¬ ((v:Int)=(Q:Int)):=by omega
       simp[this])
      clear F f s j J T;go_wp2_with fail;refine H.out.mono ?_;rintro e w5 ⟨rfl,u⟩;have x5:=(u.cell (p:=⟨bW,oW+r,none⟩) (by show bW<wr.heap.size;omega)).trans x0;have D:=ae B u (kqb _);have Z:=hB.trans (u.mono hz);have Jc:=Z.size;clear u;go_wp2_with (at_builtin;refine kq9 _ rfl _ _ 26 rfl w3.heap.size 89 i0 _ 2 16 underlying26 HI.out Gy.out Gt.out Jb.out rfl (by decide) _ _ _ rfl (D.alloc _) ⟨_,0,none⟩ 1 1 [.int .i64 (r:Int),.int .u64 (Q:Int)] rfl rfl (bn _ _ _) (by simp[Value.oneCell']) (by unfold maxLen;omega) (by omega) (by simp;omega) ?_;intro v1 w6 Fs Gq _;have Gx:=am Z Jc D Gq);go_roundw
      case rel=>exact⟨k+1,o++[(⟨(r:Int),Q⟩:En)],by omega,by go_num,HY.out,by rw[kqz,b9];exact Fs,Gx⟩
      case measure=>simp[intOf];omega
    obtain rfl:k=R.length:=by omega
    have HV:=hid (Fx.out o (by have:=U.out;rwa [kzb (kqb _)] at this));obtain⟨A2,c2,rfl⟩:=ap B;have Gm:=hid (ar B Fz);clear B;go_wp2;go_ret2;exact⟨⟨A2,c2,by rw[HV.out.1,HV.out.2];rfl,by rw[HV.out.2];exact Gm.out⟩,P.out.trans (hB.mono Fz)⟩
 obtain⟨r,N⟩:=xq (cu ws);have L:=hid (zg (a:=a) N (by rw[<-N];exact I));rw[N] at z I;have hrn:(r != 0)=true:=by rw[kqt];exact I
 obtain⟨q,hq⟩:=xq ((cX ws).length);rw[hq] at z;clear I N hq;go_enter func209,ntmps209;go_wp2_with fail;refine z.out.mono ?_;rintro e w1 ⟨⟨A1,c1,rfl,-,-⟩,d⟩;go_wp2;go_ret2;exact⟨bH L.out.1 L.out.2,d⟩
theorem oV(h1:dm ws=r)(h0:r≠0):dd ws=[]:=by unfold dd;rw[if_neg (by rw[h1];exact h0)]
theorem fs_err(h:cu ws=r)(h0:r≠0):dm ws=r:=by subst h;simp[dm,h0]
theorem fs_sl(h:cu ws=0)(h1:slsOk ws=false):dm ws=50:=by simp[dm,h,h1]
theorem CT(h:cu ws=0)(h1:slsOk ws=true)(h2:dE ws (cX ws) 16=none):dm ws=50:=by simp[dm,h,h1,h2]
theorem Ea(h:cu ws=0)(h1:slsOk ws=true)(h2:dE ws (cX ws) 16=some o):dm ws=0/\dd ws=o:=by simp[dd,dm,h,h1,h2]
theorem vu{m:List (Int × Int)}(h:dE ws m k=some o):dE ws m (k+1)=(ie ws m k).map (o ++ ·):=by simp only[dE,h]
theorem cy{w:World}{H n:Nat}{e:TypeId}{sz:Nat}{v:Value}{xs:List Value}(h:w.ownsRow H e sz v n xs){p:Addr}(hp:v.ownBlock≠some p.block)(u:Value):(w.setCell p u).ownsRow H e sz v n xs:=by
 refine⟨h.1,?_⟩;rcases h.2 with b|⟨d,a,c,b,i,g,f⟩
 .exact .inl b
 subst b;refine .inr ⟨d,a,c,rfl,i,?_,f⟩;exact (kkq w p u d (λe=>hp (by simp[Value.ownBlock,e]))).trans g
theorem wR{a:Nat}(hg:g<2147483648)(ha:a<4294967296)(u:Bool):mF ⟨(g:Int),u,(a:Int)⟩<18446744073709551616:=by unfold mF;dsimp only;rw[kqj,kqj];split<;>omega
theorem wm(A:Option Addr)(ws:List Nat)(c n:Nat)(w:World)(hn:ws.length=n)(hm:n<=9223372036854775807)(T:RdW w w.heap.size A ws)(ho:∀x∈ws,x<18446744073709551616):
 Calls prog 207 #[.slice A n c] w λe w'=>dx w.heap.size (dm ws) (dd ws) e w'/\Below w.heap.size w w':=by
 subst hn;have HR:=hid T;have z:=hid (tz A ws c ws.length w rfl hm T ho);unfold Dz at z;have L:=hid (λW (h:RdW W W.heap.size A ws)=>CN A ws c ws.length W rfl hm h ho);unfold Dl at L;have HO:=hid ho;clear T ho;by_cases G:cu ws=0
 .obtain ⟨Fr,-,-⟩:=cj G;have R:=(al Fr).1;have Q:=de ws R;rw[G] at z;have Gg:=tE ws;cases B:slsOk ws with
  | false =>
   have he:=lc R B;have hq:eQ ws=[]:=by simp[eQ,he]
   rw[he,hq] at L;have S:=hid (fs_sl G B);obtain⟨q,hq⟩:=xq ((cX ws).length);rw[hq] at z;clear G Fr R Q B he hq Gg;go_enter func207,ntmps207;go_wp2_with fail;refine z.out.mono ?_;rintro e w1 ⟨⟨A1,c1,rfl,-,-⟩,l⟩;have I:=hid l;have Fo:=hid (HR.out.up l l.size);clear l;go_wp2_with fail;refine (L.out _ Fo.out).mono ?_;rintro e w2 ⟨⟨A2,c2,rfl,-,-⟩,Jo⟩;go_wp2;go_ret2;exact⟨bH S.out (oV S.out (by omega)),I.out.trans (Jo.mono I.out.size)⟩
  | true =>
   obtain⟨g1,g2⟩:=iW R B;rw[g1,g2,el] at L;have Jf:=hid ((cw ws).1 B);have Gs:=hid (λh=>CT G B h);have Gf:=hid (λo h=>Ea G B (o:=o) h);have Gp:=hid (λx y h=>uy G (a:=x) (t:=y) h);have Gt:=hid (λA1 c1 (v:Nat) W (hv:v<18446744073709551616) (h:RdM W W.heap.size A1 (cX ws))=>yT A1 (cX ws) c1 (cX ws).length v W rfl (by omega) hv h);have Fy:Hid (∀v t,fG (cX ws) v=some t->fO (cX ws) (v:Int)=some t):=hid λv t h=>by
    unfold fG at h;split at h
    .cases h
    exact h
   have Y:Hid (∀i,ie ws (cX ws) i=if (slAt ws i).used=true then (match fG (cX ws) (slAt ws i).at_.toNat with
    | none=>none
    | some t=>if wd ws (112+i)=mF ⟨(slAt ws i).gen,true,t⟩ then some [] else some [⟨((112+i:Nat):Int),mF ⟨(slAt ws i).gen,true,t⟩⟩]) else some []):=hid λi=>rfl
   have Gd:=hid (λk o (h:dE ws (cX ws) k=some o)=>vu h);have Gu:=hid (λk (h:dE ws (cX ws) (k+1)=none) (h2:k+1<=16)=>oh h h2);have Gl:=hid (λk o (h:dE ws (cX ws) k=some o)=>nm h);obtain⟨M,hM⟩:=xq (cX ws);rw[hM] at z Gs Gf Gp Gt Fy Y Gd Gu Gl Gg;have hlen:=Q.1;have hlen2:=Q.2.1;obtain⟨i0,hi,Gb,Gr,Ft⟩:=kze bB;have HI:=hid hi;have Je:=hid Gb;have Ja:=hid Gr;have Ji:=hid Ft;clear hi Gb Gr Ft;clear G Fr R Q B g1 g2 hM;go_enter func207,ntmps207;go_wp2_with fail;refine z.out.mono ?_;rintro e w1 ⟨⟨A1,c1,rfl,Fx,-⟩,l⟩;have I:=hid l;have Fo:=hid (HR.out.up l l.size);have Jc:=hid Fx;clear l Fx;go_wp2_with fail;refine (L.out _ Fo.out).mono ?_;rintro e w3 ⟨⟨A3,c3,rfl,Fv,-⟩,N⟩;have K:=hid (I.out.trans (N.mono I.out.size));have Jp:=hid Fv;have Jb:=hid (Jc.out.up N N.size);have Jd:=hid (HR.out.up K.out K.out.size);have Fs:=K.out.size;clear Fv N;go_wp2_with fail;go_loopw [8,36] (λv i wr=>∃(k:Nat) (o:List En),k<=16/\i=.int .i64 k/\Hid (dE ws M k=some o)/\wr.ownsRow w3.heap.size 89 2 v o.length (o.flatMap En.cells)/\Below w3.heap.size w3 wr) (λ_ i _=>16-(intOf i).toNat)
   case atStart=>exact⟨0,[],kqx _,rfl,rfl,kq1 _ _ _ _,kqk _ _⟩
   obtain⟨k,o,hk,rfl,Eq,j,hB⟩:=hrel;have hz:=hB.size;have hol:=Gl.out k o Eq.out;by_cases Gc:k<16
   .obtain ⟨bS,oS,rfl,hbS,q0,q1,q2⟩:=RdS.at_ (Rd.below Jp.out hB) (show k<(slL ws).length by rw[el];exact Gc);rw[lk] at q0 q1 q2;obtain⟨bW,oW,rfl,hbW,x0⟩:=RdW.at_ (Rd.below Jd.out hB) (show 112+k<ws.length by omega);rw[<-bI] at x0;have Jt:=hid (Jb.out.up hB hz);have Fq:=Jf.out k Gc;have f:=hid (Gd.out k o Eq.out);have C:=hid (λh=>Gu.out k h (by omega));have d:=hid (Y.out k);obtain⟨r1,r2,r3,r4⟩:=gw (wd ws (112+k));have Fu:slAt ws k=dD (wd ws (112+k)):=rfl;rw[<-Fu] at r1 r2 r3 r4;have Gh:=eX HO.out (112+k);obtain⟨x,hx⟩:=xq (wd ws (112+k));rw[hx] at x0 d Gh;obtain⟨s,R⟩:=xq (slAt ws k);rw[R] at q0 q1 q2 d r1 r2 r3 r4 Fq;obtain⟨sg,su,sa⟩:=s;dsimp only at q0 q1 q2 d r1 r2 r3 r4;obtain⟨g,rfl⟩:=kq2 r1;obtain⟨u,rfl⟩:=kq2 r3;rw[kqj] at d;have hki:(k:Int)<16:=by omega
    have hk0:(0:Int)<=(k:Int):=by omega
    have hw1:IntKind.i64.wrap (112+(k:Int))=112+(k:Int):=kqo _ (by omega);have i1:(0:Int)<=112+(k:Int):=by omega
    have i2:(112:Int)+(k:Int)<(ws.length:Int):=by omega
    have n1:((112:Int)+(k:Int)).toNat=112+k:=by omega
    have U:g<2147483648:=by omega
    have Js:=hid Fq;clear hx R Fu r1 r2 r3 r4 Fq Gh;cases su
    .have HY:=hid (show dE ws M (k+1)=some o by rw[f.out,d.out,if_neg (by simp)];simp);clear f C d;go_wp2;go_roundw
     case rel=>exact⟨k+1,o,by omega,by go_num,HY.out,j.alloc _,hB.alloc hz _⟩
     case measure=>simp[intOf];omega
    obtain⟨Ju,Jh,Jr⟩:=za Js.out rfl;dsimp only at Ju Jh Jr;rw[if_pos rfl] at d;have hwu:IntKind.u64.wrap (u:Int)=(u:Int):=kzi _ (by omega);have Fz:=hB.alloc hz (.cells #[.int .i64 (g:Int),.bool true,.int .i64 (u:Int)] 52);have H:=hid Fz;have Gj:=hid (Rd.more (Rd.alloc Jt.out (kqb _) (.cells #[.int .i64 (g:Int),.bool true,.int .i64 (u:Int)] 52)) (show wr.heap.size<=(wr.alloc (.cells #[.int .i64 (g:Int),.bool true,.int .i64 (u:Int)] 52)).heap.size by simp));have BN:=hid (Bx.new wr 52 #[.int .i64 (g:Int),.bool true,.int .i64 (u:Int)]);have X:=hid (j.alloc (.cells #[.int .i64 (g:Int),.bool true,.int .i64 (u:Int)] 52));have Gy:=hid (λb h=>(j.lt b h).2);have x1:=(kq8 wr (.cells #[.int .i64 (g:Int),.bool true,.int .i64 (u:Int)] 52) ⟨bW,oW+(112+k),none⟩ (by show bW<wr.heap.size;omega)).trans x0;have Ge:=hid x1;have D:=hid (Gt.out A1 c1 u _ (by omega) Gj.out);have Fw:(wr.alloc (.cells #[.int .i64 (g:Int),.bool true,.int .i64 (u:Int)] 52)).heap.size=wr.heap.size+1:=by simp
    clear Fz x1;go_upto_region 14 with (fail);obtain⟨wn,Gv⟩:∃wn,wr.alloc (.cells #[.int .i64 (g:Int),.bool true,.int .i64 (u:Int)] 52)=wn:=⟨_,rfl⟩;rw[Gv] at H Gj BN X D Ge Fw |-;clear Gv x0 j;obtain⟨p0,p1,p2,f0,f1,f2,Jn⟩:=BN.out.c3;cases J:fG M u with
    | none =>rw[J] at D d;have S:=hid (Gs.out (C.out (by rw[f.out,d.out];rfl)));simp only[kki,kj8] at D;clear f C d J;go_wp2_with fail;refine D.out.mono ?_;rintro e w5 ⟨rfl,E⟩;have Jj:=H.out.trans (E.mono H.out.size);go_wp2;go_ret2;exact⟨bH S.out (oV S.out (by omega)),K.out.trans (Jj.mono Fs)⟩
    | some tt =>
     obtain⟨Z,rfl,ht1,-,ht2,-⟩:=Gp.out (u:Int) tt (Fy.out u tt J);rw[J] at D d;simp only[kq4,kxk] at D;have Gn:mP ⟨(g:Int),true,(Z:Int)⟩=true:=by unfold mP;rw[if_pos rfl];simp only[kqw,kzw];omega
     have Ga:=hid (λW=>EM g Z true W U (by omega) Gn);have Jy:=wR (g:=g) (a:=Z) U (by omega) true;obtain⟨V,hV⟩:∃V,mF ⟨(g:Int),true,(Z:Int)⟩=V:=⟨_,rfl⟩;dsimp only at d;rw[hV] at Ga d;clear Gn hV Jy J;go_wp2_with fail;refine D.out.mono ?_;rintro e w5 ⟨rfl,E⟩;have bn5:=BN.out.up E Jn;have BN5:=hid bn5;have Gm:=hid (H.out.trans (E.mono H.out.size));have Jk:=hid (ae X.out E (kqb _));have x5:=(E.cell (p:=⟨bW,oW+(112+k),none⟩) (by show bW<wn.heap.size;omega)).trans Ge.out;have Jl:=hid x5;obtain⟨p0,p1,p2,f0,f1,f2,hg5⟩:=bn5.c3;clear E bn5 x5;go_wp2_with fail;have Gk:=hid (Gm.out.setCell (p:=⟨wr.heap.size,2,none⟩) hz (.int .i64 (Z:Int)));have Jv:=hid (cy Jk.out (p:=⟨wr.heap.size,2,none⟩) (λh=>by have h9:=Gy.out _ h;exact absurd h9 (Nat.lt_irrefl _)) (.int .i64 (Z:Int)));have x6:(w5.setCell ⟨wr.heap.size,2,none⟩ (.int .i64 (Z:Int))).cell? ⟨bW,oW+(112+k),none⟩=some (.int .u64 (x:Int)):=(kkh w5 _ _ _ (λe2=>by injection e2 with e3 _ _;omega)).trans Jl.out;have Gw:=hid x6;have Gi:bW<(w5.setCell ⟨wr.heap.size,2,none⟩ (.int .i64 (Z:Int))).heap.size:=by rw[kxz];have:=Gm.out.size;omega
     clear x6;refine (Ga.out _).mono ?_;rintro e w7 ⟨rfl,P⟩;have x7:=(P.cell (p:=⟨bW,oW+(112+k),none⟩) Gi).trans Gw.out;have m:=ae Jv.out P (kqb _);have O:=Gk.out.trans (P.mono Gk.out.size);have Gz:=O.size;clear P Gi;by_cases F:x=V
     .have en:((x:Int) != (V:Int))=false:=by rw[kqp];omega
      have enn:(x != V)=false:=by rw[kqp];exact F
      have HY:=hid (show dE ws M (k+1)=some o by rw[f.out,d.out];simp[F]);have Jm:=hid m;have Jg:=hid O;clear f C d F m O;go_wp2;go_roundw
      case rel=>exact⟨k+1,o,by omega,by go_num,HY.out,Jm.out,Jg.out⟩
      case measure=>simp[intOf];omega
     have en:((x:Int) != (V:Int))=true:=by rw[kqt];omega
     have enn:(x != V)=true:=by rw[kqt];exact F
     have HY:=hid (show dE ws M (k+1)=some (o++[⟨112+(k:Int),V⟩]) by rw[f.out,d.out];simp[F]);clear f C d F;go_wp2_with (at_builtin;refine kq9 _ rfl _ _ 26 rfl w3.heap.size 89 i0 _ 2 16 underlying26 HI.out Je.out Ja.out Ji.out rfl (by decide) _ _ _ rfl (m.alloc _) ⟨_,0,none⟩ 1 1 [.int .i64 (112+(k:Int)),.int .u64 (V:Int)] rfl rfl (bn _ _ _) (by simp[Value.oneCell']) (by unfold maxLen;omega) (by omega) (by simp;omega) ?_;intro v1 w8 Fp Gx _;have Jq:=am O Gz m Gx);go_roundw
     case rel=>exact⟨k+1,o++[(⟨112+(k:Int),V⟩:En)],by omega,by go_num,HY.out,by rw[kqz,b9];exact Fp,Jq⟩
     case measure=>simp[intOf];omega
   obtain rfl:k=16:=by omega
   have HV:=hid (Gf.out o Eq.out);obtain⟨A2,c2,rfl⟩:=ap j;have Gq:=hid (ar j Fs);clear j;go_wp2;go_ret2;exact⟨⟨A2,c2,by rw[HV.out.1,HV.out.2];rfl,by rw[HV.out.2];exact Gq.out⟩,K.out.trans (hB.mono Fs)⟩
 obtain⟨r,T⟩:=xq (cu ws);have S:=hid (fs_err T (by rw[<-T];exact G));rw[T] at z G;have hrn:(r != 0)=true:=by rw[kqt];exact G
 have Jw:=hid G;obtain⟨q,hq⟩:=xq ((cX ws).length);rw[hq] at z;clear G T hq;go_enter func207,ntmps207;go_wp2_with fail;refine z.out.mono ?_;rintro e w1 ⟨⟨A1,c1,rfl,-,-⟩,l⟩;go_wp2;go_ret2;exact⟨bH S.out (oV S.out Jw.out),l⟩
theorem AI{a:Nat}(hg:g<2147483648)(ha:a<4294967296):dD (mF ⟨(g:Int),true,(a:Int)⟩)=⟨(g:Int),true,(a:Int)⟩:=by
 unfold mF dD;dsimp only;rw[kqj,kqj,if_pos rfl];have c:(a+g*4294967296+9223372036854775808)/4294967296%2147483648=g:=by omega
 have b:(a+g*4294967296+9223372036854775808)/9223372036854775808=1:=by omega
 have d:(a+g*4294967296+9223372036854775808)%4294967296=a:=by omega
 rw[c,b,d];rfl
def nwS (ws:List Nat) (M:List (Int × Int)) (i:Nat):Sl:=if (slAt ws i).used=true then ⟨(slAt ws i).gen,true,(fO M (slAt ws i).at_).getD 0⟩ else slAt ws i
theorem Ab{v:Nat}(h:j<ws.length)(i:Nat):wd (aj ws [⟨(j:Int),v⟩]) i=if i=j then v else wd ws i:=by
 simp only[aj];rw[if_pos (by omega),kqj];unfold wd;rw[kxe];by_cases e:j=i
 .subst e;simp[h]
 rw[if_neg e,if_neg (λh=>e h.symm)]
theorem xr{M:List (Int × Int)}(hw:256<=ws.length)(hM:∀a t,fO M a=some t->∃n:Nat,t=(n:Int)/\n<2048):∀k,k<=16->∀o,dE ws M k=some o ->
 (∀e∈o,∃i,i<k/\e.a=((112+i:Nat):Int)/\e.v<18446744073709551616)/\o.Pairwise (λa b=>a.a<b.a)/\(∀i,i<k->slAt (aj ws o) i=nwS ws M i)/\(∀i,i<k->(slAt ws i).used=true->(fO M (slAt ws i).at_).isSome=true):=by
 intro k
 induction k with
 | zero =>intro _ o h;simp only[dE,Option.some.injEq] at h;subst h;exact⟨λe f=>(by cases f),List.Pairwise.nil,λi h=>absurd h (by omega),λi h=>absurd h (by omega)⟩
 | succ k ih =>
  intro hk o h;simp only[dE] at h;cases w:dE ws M k with
  | none=>rw[w] at h;cases h
  | some o1 =>
  rw[w] at h;obtain⟨u,F,H,I⟩:=ih (by omega) o1 w;have m:wd (aj ws o1) (112+k)=wd ws (112+k):=bg o1 ws _ λe f=>by
   obtain⟨i,h1,P,-⟩:=u e f;rw[P];omega
  have j:∀(N:slAt ws k=nwS ws M k) (E:(slAt ws k).used=true->(fO M (slAt ws k).at_).isSome=true),(∀e∈o1,∃i,i<k+1/\e.a=((112+i:Nat):Int)/\e.v<18446744073709551616)/\o1.Pairwise (λa b=>a.a<b.a)/\(∀i,i<k+1->slAt (aj ws o1) i=nwS ws M i)/\(∀i,i<k+1->(slAt ws i).used=true->(fO M (slAt ws i).at_).isSome=true):=by
   intro N E;refine⟨λe f=>?_,F,λi C=>?_,λi C=>?_⟩
   .obtain ⟨i,D,p,B⟩:=u e f;exact⟨i,by omega,p,B⟩
   .rcases kq6 i k with d|d
    .exact H i d
    have:i=k:=by omega
    subst this;rw[<-N];unfold slAt;rw[m]
   rcases kq6 i k with d|d
   .exact I i d
   have:i=k:=by omega
   subst this;exact E
  cases c:ie ws M k with
  | none=>rw[c] at h;cases h
  | some y =>
   rw[c] at h;simp only[kzp,Option.some.injEq] at h;subst h;unfold ie at c;split at c
   .rename_i hu;obtain⟨J,O,L,r4⟩:=gw (wd ws (112+k))
    change 0<=(slAt ws k).gen at J
    change (slAt ws k).gen<=_ at O
    change 0<=(slAt ws k).at_ at L
    obtain⟨g,K⟩:=kq2 J;cases l:fG M (slAt ws k).at_.toNat with
    | none=>rw[l] at c;cases c
    | some t =>
     rw[l] at c;have A:fO M (slAt ws k).at_=some t:=by
      unfold fG at l;split at l
      .cases l
      rw[kja L] at l;exact l
     obtain⟨n,rfl,hn⟩:=hM _ _ A;have r:nwS ws M k=⟨(g:Int),true,(n:Int)⟩:=by unfold nwS;rw[if_pos hu,A,K];rfl
     have s:=AI (g:=g) (a:=n) (by omega) (by omega);have x:=wR (g:=g) (a:=n) (by omega) (by omega) true;have q:(slAt ws k).used=true->(fO M (slAt ws k).at_).isSome=true:=λ_=>by rw[A];rfl
     dsimp only at c;rw[K] at c;by_cases f:wd ws (112+k)=mF ⟨(g:Int),true,(n:Int)⟩
     .rw[if_pos f] at c;injection c with c;subst c;rw[kzm];exact j (by rw[r,<-s,<-f];rfl) q
     rw[if_neg f] at c;injection c with c;subst c;refine⟨λe f=>?_,?_,λi C=>?_,λi C=>?_⟩
     .rcases kzt.1 f with d|d
      .obtain ⟨i,D,p,B⟩:=u e d;exact⟨i,by omega,p,B⟩
      simp only[kq7] at d;subst d;exact⟨k,by omega,rfl,x⟩
     .rw[kk4];refine⟨F,by simp,λa Q b G=>?_⟩;simp only[kq7] at G;subst G;obtain⟨i,D,p,-⟩:=u a Q;rw[p];dsimp only;omega
     .have z:112+k<(aj ws o1).length:=by rw[aE];omega
      unfold slAt;rw[ey,Ab z];split
      .rename_i h6;have:i=k:=by omega
       subst this;rw[s,r]
      exact H i (by omega)
     rcases kq6 i k with d|d
     .exact I i d
     have:i=k:=by omega
     subst this;exact q
   rename_i hu;injection c with c;subst c;rw[kzm];exact j (by unfold nwS;rw[if_neg hu]) (λh=>absurd h hu)
theorem jE(h:dm ws=0):256<=ws.length/\ag ws=0/\bi ws 128 128=0/\dC ws=0/\eQ ws=slL ws/\dC (aj ws (dd ws))=0/\eQ (aj ws (dd ws))=slL (aj ws (dd ws)) /\
 (∀e∈dd ws,(112<=e.a/\e.a<128)/\e.v<18446744073709551616)/\(dd ws).Pairwise (λa b=>a.a<b.a)/\(dd ws).length<=16 /\
 (∀i,i<16->slAt (aj ws (dd ws)) i=nwS ws (gj ws 128 128) i)/\(∀i,i<16->(slAt ws i).used=true->(fO (gj ws 128 128) (slAt ws i).at_).isSome=true):=by
 have j:cu ws=0:=by
  by_cases r:cu ws=0
  .exact r
  unfold dm at h;rw[if_neg r] at h;exact absurd h r
 have k:slsOk ws=true:=by
  cases w:slsOk ws with
  | true=>rfl
  | false=>rw[fs_sl j w] at h;cases h
 obtain⟨o,q⟩:∃o,dE ws (cX ws) 16=some o:=by
  cases w:dE ws (cX ws) 16 with
  | some o=>exact⟨o,rfl⟩
  | none=>rw[CT j k w] at h;cases h
 obtain⟨e1,D⟩:=Ea j k q;obtain⟨x,H,B⟩:=cj j;have p:=(al x).1;have hbd:=de ws p;have c:=λa t (d:fO (cX ws) a=some t)=>uy j d;have f:=nm q;obtain⟨y,F,s,m⟩:=xr (by omega) (λa t d=>by obtain⟨n,q1,-,-,q4,-⟩:=c a t d;exact⟨n,q1,q4⟩) 16 (kqb _) o q;rw[B] at s m c;rw[D];obtain⟨A,z⟩:=iW p k;have l:slsOk (aj ws o)=true:=(cw _).2 λi u=>by
  rw[s i u];have g:=(cw ws).1 k i u;unfold nwS;split
  .rename_i hu;obtain⟨t,d⟩:=Option.isSome_iff_exists.1 (m i u hu);obtain⟨n,rfl,n1,-,n2,-⟩:=c _ _ d;obtain⟨u1,-,-⟩:=za g hu;rw[d];unfold mP;rw[if_pos rfl];simp only[kqw,kzw,kq4];omega
  exact g
 obtain⟨I,G⟩:=iW (ws:=aj ws o) (by rw[aE];exact p) l;refine⟨by omega,x,H,A,z,I,G,λe J=>?_,F,f,s,m⟩;obtain⟨i,i1,C,E⟩:=y e J;exact⟨by rw[C];omega,E⟩
theorem xz(F:List Nat)(a:Int)(j:Nat):(lT F a j).Pairwise (· < ·):=by
 induction j with
 | zero=>exact List.Pairwise.nil
 | succ j ih =>
  rw[mB,kk4];refine⟨ih,by split<;>simp,λx c y b=>?_⟩;obtain⟨i,i1,-,i3⟩:=kD.1 c;split at b
  .simp only[kq7] at b;omega
  cases b
def Ah (ws x:List Nat) (M:List (Int × Int)) (r:Nat):Prop:=(wd ws r=0/\wd x r=0)\/(0<wd ws r/\∃t m:Nat,fO M (wd ws r:Int)=some (t:Int)/\wd x r=t/\t<2048/\wd ws r=m/\m<ws.length)
theorem zG{M:List (Int × Int)}{f:Nat->Nat}(hM:∀a t,fO M a=some t->∃n:Nat,t=(n:Int)/\n<2048/\∃m:Nat,a=(m:Int)/\m<ws.length)(hl:∀i (w:i<l.length),l[i]=(f i:Int))(hf:∀i,i<l.length->f i<ws.length)(w:∀i j,i<j->j<l.length->f i<f j):∀k,k<=l.length->∀o,cD ws M (l.take k)=some o ->
 (∀e∈o,∃i,i<k/\e.a=(f i:Int)/\wd ws (f i)≠e.v/\e.v<2048)/\o.Pairwise (λa b=>a.a<b.a)/\(∀i,i<k->Ah ws (aj ws o) M (f i)):=by
 intro k
 induction k with
 | zero =>intro _ o h;simp only[List.take_zero,cD,Option.some.injEq] at h;subst h;exact⟨λe q=>(by cases q),List.Pairwise.nil,λi h=>absurd h (by omega)⟩
 | succ k ih =>
  intro hk o h;have c:k<l.length:=by omega
  cases A:cD ws M (l.take k) with
  | none =>rw[kqq c,gD,A] at h;cases h
  | some o1 =>
  rw[jr c A,hl k c,kqj] at h;obtain⟨x,H,J⟩:=ih (by omega) o1 A;have p:wd (aj ws o1) (f k)=wd ws (f k):=bg o1 ws _ λe q=>by
   obtain⟨i,N,K,-⟩:=x e q;have:=w i k N c;rw[K];omega
  have g:Ah ws (aj ws o1) M (f k)->(∀e∈o1,∃i,i<k+1/\e.a=(f i:Int)/\wd ws (f i)≠e.v/\e.v<2048)/\o1.Pairwise (λa b=>a.a<b.a)/\(∀i,i<k+1->Ah ws (aj ws o1) M (f i)):=by
   intro O;refine⟨λe q=>?_,H,λi w=>?_⟩
   .obtain ⟨i,z,u,F,B⟩:=x e q;exact⟨i,by omega,u,F,B⟩
   rcases kq6 i k with d|d
   .exact J i d
   have:i=k:=by omega
   subst this;exact O
  unfold fu at h;by_cases y:wd ws (f k)=0
  .rw[if_pos y] at h;simp only[kzp,Option.some.injEq,kzm] at h;subst h;exact g (.inl ⟨y,by rw[p,y]⟩)
  rw[if_neg y] at h;cases r:fG M (wd ws (f k)) with
  | none=>rw[r] at h;cases h
  | some t =>
   rw[r] at h;have E:fO M (wd ws (f k):Int)=some t:=by
    unfold fG at r;split at r
    .cases r
    exact r
   obtain⟨n,rfl,G,m,em,s⟩:=hM _ _ E;dsimp only at h;by_cases q:(wd ws (f k):Int)=(n:Int)
   .rw[if_pos q] at h;simp only[kzp,Option.some.injEq,kzm] at h;subst h;exact g (.inr ⟨by omega,n,m,E,by rw[p];omega,G,by omega,s⟩)
   rw[if_neg q] at h;simp only[kzp,Option.some.injEq] at h;subst h;rw[kqj];have D:f k<(aj ws o1).length:=by rw[aE];exact hf k c
   refine⟨λe C=>?_,?_,λi hi2=>?_⟩
   .rcases kzt.1 C with d|d
    .obtain ⟨i,z,u,F,B⟩:=x e d;exact⟨i,by omega,u,F,B⟩
    simp only[kq7] at d;subst d;exact⟨k,by omega,rfl,by dsimp only;omega,G⟩
   .rw[kk4];refine⟨H,by simp,λa L b I=>?_⟩;simp only[kq7] at I;subst I;obtain⟨i,z,u,-⟩:=x a L;have:=w i k z c;rw[u];dsimp only;omega
   unfold Ah;rw[ey,Ab D];rcases kq6 i k with d|d
   .have:=w i k d c;rw[if_neg (by omega)];exact J i d
   have:i=k:=by omega
   subst this;rw[if_pos rfl];exact .inr ⟨by omega,n,m,E,rfl,G,by omega,s⟩
theorem gy(h:cG ws a=0):∃f:Nat->Nat,(256<=ws.length/\ws.length<=2048)/\bi ws 128 128=0/\nA ws a=0/\(bK ws a).length<=8/\(cr ws a).length<=8 /\
 (∀i (c:i<(bK ws a).length),(bK ws a)[i]=(f i:Int)/\a<=(f i:Int)/\f i<ws.length/\Ah ws (aj ws (cr ws a)) (gj ws 128 128) (f i)) /\
 (∀j,(∀i,i<(bK ws a).length->f i≠j)->wd (aj ws (cr ws a)) j=wd ws j) /\
 (∀e∈cr ws a,∃r:Nat,e.a=(r:Int)/\r<ws.length/\wd ws r≠e.v/\e.v<2048)/\(cr ws a).Pairwise (λa b=>a.a<b.a):=by
 have q:cu ws=0:=by
  by_cases A:cu ws=0
  .exact A
  rw[(zg rfl A).1] at h;exact absurd h A
 obtain⟨B,W,N⟩:=cj q;cases k:jJ (aU ws 128) a with
 | none=>rw[(pg q k).1] at h;cases h
 | some b =>
  cases l:b.mark with
  | false=>rw[(pu q k l).1] at h;cases h
  | true =>
   cases z:cD ws (cX ws) (cU ws b) with
   | none=>rw[(tK q k l z).1] at h;cases h
   | some o =>
    have Y:=(v7 q k l z).2;have Q:bK ws a=cU ws b:=by simp[bK,B,k]
    have O:nA ws a=0:=by simp[nA,B,dI,k]
    obtain⟨m,t,xs,xk,xm,xn,ea,eb,ht8,hobj,hmlt,G,g⟩:=mE B k;have hbd:=de ws (al B).1;have L:(cU ws b).Pairwise (· < ·):=xz _ _ _;have H:=kzf.1 L;have d:∀i (c:i<(cU ws b).length),(cU ws b)[i]=((((cU ws b)[i]?.getD 0).toNat:Nat):Int):=λi c=>by
     obtain⟨r,u,-,-⟩:=g i c;rw[kqm c,kq4,u,kqj]
    have hlo:=nt z;have C:=λx y (F:fO (cX ws) x=some y)=>uy q F;have R:∀x y,fO (cX ws) x=some y->∃n:Nat,y=(n:Int)/\n<2048/\∃m:Nat,x=(m:Int)/\m<ws.length:=λx y F=>by
     obtain⟨n,Z,-,-,S,m,T,-,P⟩:=C x y F;exact⟨n,Z,S,m,T,P⟩
    have p:∀i,i<(cU ws b).length->((cU ws b)[i]?.getD 0).toNat<ws.length:=λi c=>by
     obtain⟨r,u,-,M⟩:=g i c;rw[kqm c,kq4,u,kqj];exact M
    have s:∀i j,i<j->j<(cU ws b).length->((cU ws b)[i]?.getD 0).toNat<((cU ws b)[j]?.getD 0).toNat:=λi j I w=>by
     have A:=H i j (by omega) w I;have h2:=d i (by omega);have h3:=d j w;omega
    obtain⟨K,U,X⟩:=zG R d p s _ (kqb _) o (by rw[kzj];exact z);rw[Y,Q];rw[<-N];refine⟨λi=>((cU ws b)[i]?.getD 0).toNat,by omega,W,O,G,by omega,λi c=>⟨d i c,?_,p i c,X i c⟩,λj w=>?_,λe J=>?_,U⟩
    .obtain ⟨r,u,e2,-⟩:=g i c;have:=d i c;rw[ea];show (m:Int)<=((((cU ws b)[i]?.getD 0).toNat:Nat):Int);omega
    .refine bg o ws j λe J=>?_;obtain⟨i,E,D,-⟩:=K e J;have:=w i E;dsimp only at this;rw[D];omega
    obtain⟨i,E,D,k3,V⟩:=K e J;exact⟨_,D,p i E,k3,V⟩
end Go.Proofs.YtpcajamacpbjcaaGreat
