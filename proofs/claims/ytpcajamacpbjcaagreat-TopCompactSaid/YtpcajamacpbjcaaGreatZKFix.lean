/- Texts laid together: FixP Fix Fix2 Fix3 Fix4 FxSP FxOP. -/
import Derived.Test.YtpcajamacpbjcaaGreatZKRch
import Derived.Test.YtpcajamacpbjcaaGreatZKMove
import Derived.Test.YtpcajamacpbjcaaGreatZKHeap
set_option maxHeartbeats 16000000
set_option maxRecDepth 100000
set_option linter.all false
namespace Go.Proofs.YtpcajamacpbjcaaGreat
open Lib (hid)
variable {b:Bk}{a r:Int}{o:List En}{l:List Int}{ws:List Nat}{g j k p:Nat}
open Go.Proofs.Tryz
def cH (ws:List Nat):Int:=if aj ws=0 then bj ws 128 128 else aj ws
def fh (ws:List Nat):List (Int × Int):=if cH ws=0 then iH ws 128 128 else []
theorem eH(h:cH ws=0):aj ws=0/\bj ws 128 128=0/\fh ws=iH ws 128 128:=by
 have a:aj ws=0/\bj ws 128 128=0:=by
  unfold cH at h;split at h
  .rename_i a;exact⟨a,h⟩
  rename_i a;exact absurd h a
 exact⟨a.1,a.2,by simp[fh,h]⟩
theorem rE:∀ {l:List (Int × Int)} {a t:Int},fY l a=some t->(a,t)∈l:=by
 intro l
 induction l with
 | nil=>intro a t h;cases h
 | cons m l ih =>
  intro a t h;simp only[fY] at h;split at h
  .rename_i e;injection h with h;rw[<-e,<-h];simp
  exact kz1 _ (ih h)
theorem Fy(h:cH ws=0){t:Int}(ht:fY (fh ws) a=some t):∃n:Nat,t=(n:Int)/\128<=n/\n<ws.length/\n<2048/\∃m:Nat,a=(m:Int)/\128<=m/\m<ws.length:=by
 obtain⟨h1,q,r⟩:=eH h;rw[r] at ht;obtain⟨p,e⟩:=kj6.1 (rE ht);have d:=(kza.1 e).1;obtain⟨m,n,i,w,g3,-,-,-⟩:=yB q d;obtain⟨z,i2,l,u,i4,y⟩:=co q;have hb:=nu z;have g:blocks ws 128=some l:=u;have c:=pB (ws:=ws) (by omega) g (by omega) (by omega) (by omega);have b:(128:Int)<=ny l:=by
  unfold ny;split
  .omega
  rename_i hl;obtain⟨a0,x,-,e1,-⟩:=cC _ _ g (by omega) 0 (by omega);rw[bU l 0 (by omega),x,af];omega
 obtain⟨s,v,k⟩:=yQ c b;rw[e] at i;injection i with i;injection i with g4 g5;rw[y] at d e;have e:=(kza.1 e).2;have f:=(s p d).1;rw[e] at f;have hge:(128:Int)<=t:=by
  rcases kjb p with j|j
  .subst j;have:=k d;rw[e] at this;dsimp only at this;omega
  have o:=(v 0 p d j).1;have h6:=k (by omega);rw[e] at o;dsimp only at o;omega
 dsimp only at f;exact⟨n,g5,by omega,by omega,by omega,m,g4,w,by omega⟩
def gH (m:List (Int × Int)) (v:Nat):Option Int:=if 2048<v then none else fY m (v:Int)
def kz (l:List Bk) (a:Int):Option Bk:=l.find? λb=>b.at_==a&&b.kind==1
def sQ (l:List Bk) (a:Int) (k:Nat):Prop:=∀j,j<k->((gk l j).at_==a&&(gk l j).kind==1)=false
theorem y9(l:List Bk)(a:Int):sQ l a 0:=λj h=>absurd h (by omega)
theorem yn{l:List Bk}(h:sQ l a k)(h2:((gk l k).at_==a&&(gk l k).kind==1)=false):sQ l a (k+1):=λj hj=>by
 rcases kq7 j k with b|b
 .exact h j b
 .have:j=k:=by omega
  subst this;exact h2
theorem CV:∀ {l:List Bk} {a:Int},sQ l a l.length->kz l a=none:=by
 intro l
 induction l with
 | nil=>intro a _;rfl
 | cons b l ih =>intro a h;have d:(b.at_==a&&b.kind==1)=false:=h 0 (by simp);unfold kz;rw[List.find?_cons,d];exact ih λj c=>by have:=h (j+1) (by simpa using c);rwa [jm] at this
theorem Iy:∀ {l:List Bk} {a:Int} {k:Nat},k<l.length->sQ l a k->((gk l k).at_==a&&(gk l k).kind==1)=true->kz l a=some (gk l k):=by
 intro l
 induction l with
 | nil=>intro a k h;simp at h
 | cons b l ih =>
  intro a k d h c;cases k with
  | zero =>rw[oo] at c |-;unfold kz;rw[List.find?_cons,c]
  | succ k =>have e:(b.at_==a&&b.kind==1)=false:=h 0 (by omega);unfold kz;rw[List.find?_cons,e];rw[jm] at c |-;exact ih (by simpa using d) (λj hj=>by have:=h (j+1) (by omega);rwa [jm] at this) c
def xp (ws:List Nat) (a:Int):Bk:=(kz (aT ws 128) a).getD mW
def el (ws:List Nat) (a:Int):Int:=if (kz (aT ws 128) a).isSome then 0 else 6
theorem jN{l:List Bk}(h:kz l a=some b):b∈l/\b.at_=a/\b.kind=1:=by unfold kz at h;have c:=List.find?_some h;simp only[kqu,kqx] at c;exact⟨List.mem_of_find?_eq_some h,c.1,c.2⟩
def rV (F:List Nat) (a:Int) (j:Nat):List Int:=(List.range j).filterMap λ(i:Nat)=>if F[i]? = some 3 then some (a+2+(i:Int)) else none
theorem tg(F:List Nat)(a:Int)(j:Nat):rV F a (j+1)=rV F a j++(if F[j]? = some 3 then [a+2+(j:Int)] else []):=by unfold rV;rw[kk4,kvd];congr 1;simp only[kvm,kvt];split<;>simp_all
theorem wu(F:List Nat)(a:Int)(j:Nat):(rV F a j).length<=j:=by unfold rV;have:=kky (λ(i:Nat)=>if F[i]? = some 3 then some (a+2+(i:Int)) else none) (List.range j);rwa [kkn] at this
theorem kX{F:List Nat}{x:Int}:x∈rV F a j↔∃i,i<j/\F[i]? = some 3/\x=a+2+(i:Int):=by
 unfold rV;rw[kj5];constructor
 .rintro ⟨i,c,b⟩;split at b
  .rename_i d;injection b with b;exact⟨i,kzi.1 c,d,b.symm⟩
  cases b
 rintro ⟨i,c,b,d⟩;exact⟨i,kzi.2 c,by rw[if_pos b,d]⟩
def wL (ws:List Nat) (b:Bk):List Nat:=bq (wd ws (tyA b)) (wd ws (tyA b+1))
def fU (ws:List Nat) (b:Bk):List Int:=rV (wL ws b) b.at_ (wL ws b).length
theorem Dc(h:aj ws=0)(ho:kz (aT ws 128) a=some b):∃m:Nat,a=(m:Int)/\b=bkAt ws m/\fi ws m:=by obtain⟨c,f,e⟩:=jN ho;rw[(ga h).2.1] at c;obtain⟨k,g,rfl⟩:=kq0 c;obtain⟨m,d,i⟩:=mL h g e;exact⟨m,by rw[<-f,d];rfl,d,i⟩
def gb (ws:List Nat) (m:List (Int × Int)) (r:Nat):Option (List En):=if wd ws r=0 then some [] else match gH m (wd ws r) with
 | none=>none
 | some t=>if (wd ws r:Int)=t then some [] else some [⟨(r:Int),t.toNat⟩]
def dH (ws:List Nat) (m:List (Int × Int)):List Int->Option (List En)
 | []=>some []
 | r::l=>match gb ws m r.toNat with
  | none=>none
  | some x=>(dH ws m l).map (x ++ ·)
theorem jG(ws:List Nat)(m:List (Int × Int))(a b:List Int):dH ws m (a++b)=match dH ws m a with
 | none=>none
 | some x=>(dH ws m b).map (x ++ ·):=by
 induction a with
 | nil=>simp[dH]
 | cons r a ih =>
  simp only[kzn,dH];cases gb ws m r.toNat with
  | none=>rfl
  | some x =>
   rw[ih];cases dH ws m a with
   | none=>rfl
   | some y =>
    cases dH ws m b with
    | none=>rfl
    | some z=>simp
theorem mp{m:List (Int × Int)}(hk:k<l.length)(h:dH ws m (l.take k)=some o):dH ws m (l.take (k+1))=(gb ws m l[k].toNat).map (o ++ ·):=by rw[kqp hk,jG,h];simp only[dH];cases gb ws m l[k].toNat<;>simp
theorem AM{m:List (Int × Int)}(hk:k<l.length)(h:dH ws m (l.take k)=some o)(h2:gb ws m l[k].toNat=none):dH ws m l=none:=by
 conv=>lhs;rw[<-kxb (k+1) l]
 rw[jG,mp hk h,h2];rfl
theorem tE{m:List (Int × Int)}:∀ {l:List Int} {o:List En},dH ws m l=some o->o.length<=l.length:=by
 intro l
 induction l with
 | nil=>intro o h;simp only[dH,Option.some.injEq] at h;subst h;simp
 | cons r l ih =>
  intro o h;simp only[dH] at h;cases a:gb ws m r.toNat with
  | none=>rw[a] at h;cases h
  | some x =>
   rw[a] at h;cases b:dH ws m l with
   | none=>rw[b] at h;cases h
   | some y =>
    rw[b] at h;simp only[kzz,Option.some.injEq] at h;subst h;have h1:=ih b;have h2:x.length<=1:=by
     unfold gb at a;split at a
     .injection a with a;subst a;simp
     split at a
     .cases a
     split at a<;>(injection a with a;subst a;simp)
    rw[kqs,kq2];omega
def dR (ws:List Nat) (a:Int):Int:=if cH ws=0 then (match kz (aT ws 128) a with
 | none=>6
 | some b=>if b.mark=true then (match dH ws (fh ws) (fU ws b) with | none=>50 | some _=>0) else 6) else cH ws
def cR (ws:List Nat) (a:Int):List En:=if cH ws=0 then (match kz (aT ws 128) a with
 | none=>[]
 | some b=>if b.mark=true then (dH ws (fh ws) (fU ws b)).getD [] else []) else []
theorem zN(h:cH ws=r)(h0:r≠0):dR ws a=r/\cR ws a=[]:=by subst h;simp[dR,cR,h0]
theorem uM(h:cH ws=0)(h1:kz (aT ws 128) a=none):dR ws a=6/\cR ws a=[]:=by simp[dR,cR,h,h1]
theorem uA(h:cH ws=0)(h1:kz (aT ws 128) a=some b)(h2:b.mark=false):dR ws a=6/\cR ws a=[]:=by simp[dR,cR,h,h1,h2]
theorem C8(h:cH ws=0)(h1:kz (aT ws 128) a=some b)(h2:b.mark=true)(h3:dH ws (fh ws) (fU ws b)=none):dR ws a=50/\cR ws a=[]:=by simp[dR,cR,h,h1,h2,h3]
theorem Bp(h:cH ws=0)(h1:kz (aT ws 128) a=some b)(h2:b.mark=true)(h3:dH ws (fh ws) (fU ws b)=some o):dR ws a=0/\cR ws a=o:=by simp[dR,cR,h,h1,h2,h3]
def pb (ws:List Nat) (a:Int):Int:=if aj ws=0 then el ws a else aj ws
def b8 (ws:List Nat) (a:Int):List Int:=if aj ws=0 then (match kz (aT ws 128) a with | none=>[] | some b=>fU ws b) else []
def pg (s:Sl):Nat:=s.at_.toNat+s.gen.toNat*4294967296+(if s.used=true then 9223372036854775808 else 0)
def il (ws:List Nat) (m:List (Int × Int)) (i:Nat):Option (List En):=if (slAt ws i).used=true then (match gH m (slAt ws i).at_.toNat with
 | none=>none
 | some t=>if wd ws (112+i)=pg ⟨(slAt ws i).gen,true,t⟩ then some [] else some [⟨((112+i:Nat):Int),pg ⟨(slAt ws i).gen,true,t⟩⟩]) else some []
def slFix (ws:List Nat) (m:List (Int × Int)):Nat->Option (List En)
 | 0=>some []
 | k+1=>match slFix ws m k with
  | none=>none
  | some o=>(il ws m k).map (o ++ ·)
theorem zv{m:List (Int × Int)}(h:slFix ws m k=none):∀ {n:Nat},k<=n->slFix ws m n=none:=by
 intro n
 induction n with
 | zero =>
  intro b;have:k=0:=by omega
  subst this;exact h
 | succ n ih =>
  intro b;rcases kq7 n k with a|a
  .have:k=n+1:=by omega
   subst this;exact h
  simp only[slFix,ih a]
theorem sO{m:List (Int × Int)}:∀ {k:Nat} {o:List En},slFix ws m k=some o->o.length<=k:=by
 intro k
 induction k with
 | zero=>intro o h;simp only[slFix,Option.some.injEq] at h;subst h;simp
 | succ k ih =>
  intro o h;simp only[slFix] at h;cases b:slFix ws m k with
  | none=>rw[b] at h;cases h
  | some x =>
   rw[b] at h;cases a:il ws m k with
   | none=>rw[a] at h;cases h
   | some y =>
    rw[a] at h;simp only[kzz,Option.some.injEq] at h;subst h;have h1:=ih b;have h2:y.length<=1:=by
     unfold il at a;split at a
     .split at a
      .cases a
      split at a<;>(injection a with a;subst a;simp)
     injection a with a;subst a;simp
    rw[kqs];omega
def eI (ws:List Nat):Int:=if cH ws=0 then (if slsOk ws=true then (match slFix ws (fh ws) 16 with | none=>50 | some _=>0) else 50) else cH ws
def eC (ws:List Nat):List En:=if eI ws=0 then (slFix ws (fh ws) 16).getD [] else []
open Go.RowKit
theorem AB(A:Option Addr)(m:List (Int × Int))(c n v:Nat)(w:World)(hn:m.length=n)(hm:n<=1000000)(hv:v<18446744073709551616)(hr:RdM w w.heap.size A m):
 Calls prog 256 #[.slice A n c,.int .u64 (v:Int)] w λe w'=>e=.returned (.tuple #[.int .i64 ((gH m v).getD 0),.bool (gH m v).isSome])/\Below w.heap.size w w':=by
 have g:=hid (λa=>fwTo_c A m c n w.heap.size a w hn hm hr (kqa _));by_cases h:2048<v
 .have H:Hid (gH m v=none):=hid (by simp[gH,h]);have j:decide ((2048:Int)<(v:Int))=true:=by rw[kqo];omega
  have f:decide (2048<v)=true:=by rw[kqo];exact h
  clear hv hr hn hm h;go_enter func256,ntmps256;go_wp2;go_ret2;exact⟨by rw[H.out];rfl,kqk _ _⟩
 have H:Hid (gH m v=fY m (v:Int)):=hid (by simp[gH,h]);have j:decide ((2048:Int)<(v:Int))=false:=by rw[kqh];omega
 have f:decide (2048<v)=false:=by rw[kqh];exact h
 have hw:IntKind.i64.wrap (v:Int)=(v:Int):=kqt _ (by omega);have b:=hid (g.out (v:Int));rw[<-H.out] at b;obtain⟨q,i⟩:=xq (gH m v);rw[i] at b |-;clear hv hr hn hm h i g H;go_enter func256,ntmps256;go_wp2_with fail;refine b.out.mono ?_;rintro e w1 ⟨rfl,d⟩;go_wp2;go_ret2;exact⟨rfl,d⟩
def JJ (ws:List Nat) (e:Ending) (w':World):Prop:=∃A c,e=.returned (.tuple #[.slice A (fh ws).length c,.int .i64 (cH ws)])/\RdM w' w'.heap.size A (fh ws)/\(fh ws).length<=c
theorem wV(A:Option Addr)(ws:List Nat)(c n:Nat)(w:World)(hn:ws.length=n)(hm:n<=9223372036854775807)(f:RdW w w.heap.size A ws)(ho:∀x∈ws,x<18446744073709551616):
 Calls prog 255 #[.slice A n c] w λe w'=>JJ ws e w'/\Below w.heap.size w w':=by
 have y:=hid f;have d:=hid (nv A ws c n w hn hm f ho);have m:=hid (λW (h:RdW W W.heap.size A ws)=>rg A ws c n 128 128 W hn hm (by omega) (by omega) h ho);unfold xx at m;clear f ho hn hm;by_cases g:aj ws=0
 .have b:Hid (cH ws=bj ws 128 128/\fh ws=iH ws 128 128):=hid (by
   have l:cH ws=bj ws 128 128:=by simp[cH,g]
   refine⟨l,?_⟩;unfold fh;rw[l];split
   .rfl
   rename_i h2;simp[iH,h2])
  rw[g] at d;clear g;go_enter func255,ntmps255;go_wp2_with fail;refine d.out.mono ?_;rintro e u ⟨rfl,a⟩;have k:=hid a;have p:=hid (y.out.up a a.size);clear a;go_wp2_with fail;refine (m.out _ p.out).mono ?_;rintro e w2 ⟨⟨v,z,rfl,o,j⟩,i⟩;have s:=hid (k.out.trans (i.mono k.out.size));have q:=hid o;have t:=hid j;clear i o j;go_wp2;go_ret2;exact⟨⟨v,z,by rw[b.out.1,b.out.2];rfl,by rw[b.out.2];exact q.out,by rw[b.out.2];exact t.out⟩,s.out⟩
 obtain⟨r,f⟩:=xq (aj ws);have b:Hid (cH ws=r/\fh ws=[]):=hid (by
  have l:cH ws=r:=by unfold cH;rw[if_neg g,f]
  exact⟨l,by unfold fh;rw[l,if_neg (by rw[<-f];exact g)]⟩)
 rw[f] at d g;have hrn:(r != 0)=true:=by rw[kqv];exact g
 clear g f;go_enter func255,ntmps255;go_wp2_with fail;refine d.out.mono ?_;rintro e u ⟨rfl,a⟩;go_wp2;go_ret2;exact⟨⟨none,0,by rw[b.out.1,b.out.2];rfl,by rw[b.out.2];exact Rd.nil_,by rw[b.out.2];exact kqa _⟩,a⟩
theorem JX{a:Nat}(ha:a<4294967296)(hg:g<2147483648):bits BinOp.or .u64 (a:Int) ((g:Int)*4294967296)=((a+g*4294967296:Nat):Int) /\
 bits BinOp.or .u64 ((a+g*4294967296:Nat):Int) 9223372036854775808=((a+g*4294967296+9223372036854775808:Nat):Int):=by
 refine⟨or32 ha (by omega),?_⟩;have h:=u64_or_nat (a+g*4294967296) 9223372036854775808 (by omega) (by omega);have e:(a+g*4294967296) ||| 9223372036854775808=a+g*4294967296+9223372036854775808:=by rw[show (9223372036854775808:Nat)=1*2 ^ 63 by decide,kJ (i:=63) (by omega)]
 rw[e] at h;exact h
theorem DK{a q:Nat}(hp:a+g*4294967296=p)(hq:p+9223372036854775808=q):pg ⟨(g:Int),true,(a:Int)⟩=q:=by unfold pg;dsimp only;rw[kqj,kqj,if_pos rfl,hp,hq]
theorem yI{a:Nat}(hp:a+g*4294967296=p):pg ⟨(g:Int),false,(a:Int)⟩=p:=by unfold pg;dsimp only;rw[kqj,kqj,if_neg (by simp),hp,kxa]
theorem Ez(g a p:Nat)(w:World)(hg:g<2147483648)(ha:a<4294967296)(o1:bits BinOp.or .u64 (a:Int) ((g:Int)*4294967296)=(p:Int)):
 Calls prog 285 #[.agg #[.int .i64 (g:Int),.bool false,.int .i64 (a:Int)]] w λe w'=>e=.returned (.int .u64 (p:Int))/\Below w.heap.size w w':=by have hw1:IntKind.u64.wrap (a:Int)=(a:Int):=kzw _ (by omega);have hw2:IntKind.u64.wrap (g:Int)=(g:Int):=kzw _ (by omega);have hw3:IntKind.u64.wrap ((g:Int)*4294967296)=(g:Int)*4294967296:=kzw _ (by omega);have b:=hid ((kqk w.heap.size w).alloc (kqa _) (.cells #[.int .i64 (g:Int),.bool false,.int .i64 (a:Int)] 52));clear ha hg;go_enter func285,ntmps285;go_wp2;go_ret;exact⟨rfl,b.out⟩
theorem Fe(g a p q:Nat)(w:World)(hg:g<2147483648)(ha:a<4294967296)(o1:bits BinOp.or .u64 (a:Int) ((g:Int)*4294967296)=(p:Int))(o2:bits BinOp.or .u64 (p:Int) 9223372036854775808=(q:Int)):
 Calls prog 285 #[.agg #[.int .i64 (g:Int),.bool true,.int .i64 (a:Int)]] w λe w'=>e=.returned (.int .u64 (q:Int))/\Below w.heap.size w w':=by have hw1:IntKind.u64.wrap (a:Int)=(a:Int):=kzw _ (by omega);have hw2:IntKind.u64.wrap (g:Int)=(g:Int):=kzw _ (by omega);have hw3:IntKind.u64.wrap ((g:Int)*4294967296)=(g:Int)*4294967296:=kzw _ (by omega);have b:=hid ((kqk w.heap.size w).alloc (kqa _) (.cells #[.int .i64 (g:Int),.bool true,.int .i64 (a:Int)] 52));clear ha hg;go_enter func285,ntmps285;go_wp2;go_ret;exact⟨rfl,b.out⟩
theorem Jq(g a:Nat)(u:Bool)(w:World)(hg:g<2147483648)(ha:a<4294967296):
 Calls prog 285 #[.agg #[.int .i64 (g:Int),.bool u,.int .i64 (a:Int)]] w λe w'=>e=.returned (.int .u64 (pg ⟨(g:Int),u,(a:Int)⟩:Nat))/\Below w.heap.size w w':=by
 obtain⟨b,d⟩:=JX ha hg;obtain⟨p,c⟩:=xq (a+g*4294967296);rw[c] at b d;obtain⟨q,f⟩:=xq (p+9223372036854775808);rw[f] at d;cases u
 .rw[yI c];exact Ez g a p w hg ha b
 rw[DK c f];exact Fe g a p q w hg ha b d
theorem Hx(g a:Nat)(u:Bool)(w:World)(hg:g<2147483648)(ha:a<4294967296)(hok:mX ⟨(g:Int),u,(a:Int)⟩=true):
 Calls prog 257 #[.agg #[.int .i64 (g:Int),.bool u,.int .i64 (a:Int)]] w λe w'=>e=.returned (.tuple #[.int .u64 (pg ⟨(g:Int),u,(a:Int)⟩:Nat),.int .i64 0])/\Below w.heap.size w w':=by have h:=hid (λW=>vn (g:Int) u (a:Int) W (by omega) (by omega));rw[hok] at h;have f:=hid (λW=>Jq g a u W hg ha);have j:=Bx.new w 52 #[.int .i64 (g:Int),.bool u,.int .i64 (a:Int)];have l:=hid j;have k:=hid ((kqk w.heap.size w).alloc (kqa _) (.cells #[.int .i64 (g:Int),.bool u,.int .i64 (a:Int)] 52));obtain⟨V,m⟩:∃V,pg ⟨(g:Int),u,(a:Int)⟩=V:=⟨_,rfl⟩;rw[m] at f |-;clear j m hok hg ha;go_enter func257,ntmps257;go_wp2_with fail;refine (h.out _).mono ?_;rintro e w1 ⟨rfl,b⟩;have d:=l.out.up b l.out.lt;obtain⟨p0,p1,p2,-⟩:=d.c3;have c:=hid (k.out.trans (b.mono k.out.size));clear b d;go_wp2_with fail;refine (f.out _).mono ?_;rintro e w2 ⟨rfl,i⟩;go_wp2;go_ret2;exact⟨rfl,c.out.trans (i.mono c.out.size)⟩
theorem Ac(A:Option Addr)(ws:List Nat)(c n:Nat)(a:Int)(w:World)(hn:ws.length=n)(hm:n<=9223372036854775807)(hr:RdW w w.heap.size A ws)(ho:∀x∈ws,x<18446744073709551616):
 Calls prog 258 #[.slice A n c,.int .i64 a] w λe w'=>e=.returned (.tuple #[(xp ws a).val,.int .i64 (el ws a)])/\Below w.heap.size w w':=by
 have g:=hid (mV A ws c n 128 (w.alloc (.cells #[.int .i64 0,.int .i64 0,.int .i64 0,.int .i64 0,.bool false,.int .u64 0] 55)) hn hm ((hr.alloc (kqa _) _).more (by simp)) ho);unfold rx at g;rw[kqm] at g;have P:=iR ws 128;have HN:Hid (sQ (aT ws 128) a (aT ws 128).length->xp ws a=mW/\el ws a=6):=hid λh=>by simp[xp,el,CV h]
 have HY:Hid (∀k,k<(aT ws 128).length->sQ (aT ws 128) a k->((gk (aT ws 128) k).at_==a&&(gk (aT ws 128) k).kind==1)=true->xp ws a=gk (aT ws 128) k/\el ws a=0):=hid λk h1 h2 h3=>by simp[xp,el,Iy h1 h2 h3]
 obtain⟨l,W⟩:=xq (aT ws 128);obtain⟨r,O⟩:=xq (cj ws 128);rw[W,O] at g;rw[W] at P HN HY;have K:=qL;clear W O hr ho hn hm;go_enter func258,ntmps258;go_wp2_with fail;refine g.out.mono ?_;rintro e w1 ⟨⟨A1,c1,rfl,L,-⟩,B⟩;have F:=ay B;have Q:=F.size;have b0:=hid (Bx.of_new B);have G:=b0.out.lt;have T:=hid L;have M:=hid F;clear L B F;go_wp2_with fail;go_loopw [17] (λi wr=>∃k:Nat,k<=l.length/\i=.int .i64 k/\Hid (sQ l a k)/\Below w1.heap.size w1 wr) (λi _=>l.length-(intOf i).toNat)
 case atStart=>exact⟨0,kqz _,rfl,y9 l a,kqk _ _⟩
 obtain⟨k,hk,rfl,z,q⟩:=hrel;have X:=q.size;have y:=hid (b0.out.up q G);by_cases u:k<l.length
 .obtain ⟨b,off,rfl,hbw,Z,q1,q2,q3,q4,q5⟩:=RdB.at_ (T.out.below q) u;have j:=hid (λh=>yn z.out h);have f:=hid (λh=>HY.out k u z.out h);rw[bU l k u] at j f;obtain⟨x,hx⟩:=xq (l[k]);rw[hx] at Z q1 q2 q3 q4 q5 j f;obtain⟨m,xs,p,C,E,s⟩:=x;dsimp only at Z q1 q2 q3 q4 q5 j;have hlm:(k:Int)<(l.length:Int):=by omega
  clear hx;obtain⟨d1,e1⟩:=xq ((m==a));obtain⟨d2,e2⟩:=xq ((p==1));dsimp only at f;rw[e1,e2] at j f;cases d1
  .have t:=hid (j.out rfl);clear j f e2;go_wp2;go_roundw
   case rel=>exact⟨k+1,by omega,by go_num,t.out,q.alloc X _⟩
   case measure=>simp[intOf];omega
  cases d2
  .have t:=hid (j.out rfl);clear j f;go_wp2;go_roundw
   case rel=>exact⟨k+1,by omega,by go_num,t.out,q.alloc X _⟩
   case measure=>simp[intOf];omega
  have N:=hid (f.out rfl);have o:=hid (Bx.new wr 55 #[.int .i64 m,.int .i64 xs,.int .i64 p,.int .i64 C,.bool E,.int .u64 (s:Int)]);have I:=hid (q.alloc X (.cells #[.int .i64 m,.int .i64 xs,.int .i64 p,.int .i64 C,.bool E,.int .u64 (s:Int)] 55));have H:=hid (y.out.alloc (.cells #[.int .i64 m,.int .i64 xs,.int .i64 p,.int .i64 C,.bool E,.int .u64 (s:Int)] 55));clear j f;go_upto_region 6 with (fail);obtain⟨wn,J⟩:∃wn,wr.alloc (.cells #[.int .i64 m,.int .i64 xs,.int .i64 p,.int .i64 C,.bool E,.int .u64 (s:Int)] 55)=wn:=⟨_,rfl⟩;rw[J] at o H I |-;clear J;go_wp2_with (first
   | ((with_reducible refine aQ 55 (.tmp 9) ?_);refine kxj rfl _ _ rfl wr.heap.size (by rfl) 55 #[.int .i64 m,.int .i64 xs,.int .i64 p,.int .i64 C,.bool E,.int .u64 (s:Int)] (0,0) _ o.out underlying55 (by rfl) K ?_)
   | ((with_reducible refine ar 55 (.tmp 4) _ ?_);refine ao rfl _ _ _ rfl w.heap.size 55 #[.int .i64 0,.int .i64 0,.int .i64 0,.int .i64 0,.bool false,.int .u64 0] #[.int .i64 m,.int .i64 xs,.int .i64 p,.int .i64 C,.bool E,.int .u64 (s:Int)] (by rfl) (by rfl) H.out rfl K (qO _ _ _ _ _ _) ?_;intro w3 R S;have Y:=hid R;have U:=hid S;clear R S))
  exact kqq (v:=.tuple #[.agg #[.int .i64 m,.int .i64 xs,.int .i64 p,.int .i64 C,.bool E,.int .u64 (s:Int)],.int .i64 0]) (aZ results258 _ Y.out rfl rfl) rfl ⟨by rw[N.out.1,N.out.2];rfl,U.out.below (M.out.trans (I.out.mono Q)) (kqa _)⟩
 have N:=hid (HN.out (by have:=z.out;rwa [show k=l.length by omega] at this));have V:=hid (M.out.trans (q.mono Q));obtain⟨x0,x1,x2,x3,x4,x5,D,hgl⟩:=y.out.c6;have f0:=D 0;have f1:=D 1;have f2:=D 2;have f3:=D 3;have f4:=D 4;have f5:=D 5;clear D;go_wp2_with fail;exact kqq (v:=.tuple #[.agg #[.int .i64 0,.int .i64 0,.int .i64 0,.int .i64 0,.bool false,.int .u64 0],.int .i64 6]) (aZ results258 _ (mT y.out _ _ _ _ _ _) rfl rfl) rfl ⟨by rw[N.out.1,N.out.2];rfl,fQ V.out (kqa _) _ _ _ _ _ _⟩
theorem vM(A:Option Addr)(ws:List Nat)(c n t xa:Nat)(xs xk:Int)(xm:Bool)(xn:Nat)(w:World)(hn:ws.length=n)(hm:n<=1000000)(h2:256<=n)(ht:t<8)(hxa:xa<=1000000)(hr:RdW w w.heap.size A ws)(ho:∀x∈ws,x<18446744073709551616):
 Calls prog 259 #[.slice A n c,.agg #[.int .i64 (xa:Int),.int .i64 xs,.int .i64 xk,.int .i64 (t:Int),.bool xm,.int .u64 (xn:Int)]] w λe w'=>(∃A' c',e=.returned (.slice A' (fU ws ⟨(xa:Int),xs,xk,(t:Int),xm,xn⟩).length c')/\RdI w' w'.heap.size A' (fU ws ⟨(xa:Int),xs,xk,(t:Int),xm,xn⟩)/\(fU ws ⟨(xa:Int),xs,xk,(t:Int),xm,xn⟩).length<=c')/\Below w.heap.size w w':=by
 subst hn;have hx:=fT ho (96+2*t);have hy:=fT ho (96+2*t+1);have V:=hid (λW=>qy (wd ws (96+2*t)) (wd ws (96+2*t+1)) W hx hy);unfold Fp at V;have D:=lE (wd ws (96+2*t)) (wd ws (96+2*t+1));have Ky:fU ws ⟨(xa:Int),xs,xk,(t:Int),xm,xn⟩=rV (bq (wd ws (96+2*t)) (wd ws (96+2*t+1))) (xa:Int) (bq (wd ws (96+2*t)) (wd ws (96+2*t+1))).length:=rfl;rw[Ky];clear Ky;obtain⟨b,f,rfl,hb,z⟩:=RdW.at_ hr (show 96+2*t<ws.length by omega);obtain⟨b',off',e',-,G⟩:=RdW.at_ hr (show 96+2*t+1<ws.length by omega);cases e';rw[<-cF] at z G;obtain⟨x,Eq⟩:=xq (wd ws (96+2*t));obtain⟨y,Q⟩:=xq (wd ws (96+2*t+1));rw[Eq] at z V D |-;rw[Q] at G V D |-;obtain⟨F,hF⟩:=xq (bq x y);obtain⟨r,Z⟩:=xq (eX x y);rw[hF,Z] at V;rw[hF] at D |-;have Lk:=hid (λj=>tg F (xa:Int) j);have Lc:=hid (λj=>wu F (xa:Int) j);have t0:(0:Int)<=(t:Int):=by omega
 have t8:(t:Int)<8:=by omega
 have w1:IntKind.i64.wrap (2*(t:Int))=2*(t:Int):=kqt _ (by omega);have w2:IntKind.i64.wrap (96+2*(t:Int))=96+2*(t:Int):=kqt _ (by omega);have w3:IntKind.i64.wrap (96+2*(t:Int)+1)=96+2*(t:Int)+1:=kqt _ (by omega);have wa:IntKind.i64.wrap ((xa:Int)+2)=(xa:Int)+2:=kqt _ (by omega);have i1:(0:Int)<=96+2*(t:Int):=by omega
 have i2:(96:Int)+2*(t:Int)<(ws.length:Int):=by omega
 have i3:(0:Int)<=96+2*(t:Int)+1:=by omega
 have i4:(96:Int)+2*(t:Int)+1<(ws.length:Int):=by omega
 have n1:((96:Int)+2*(t:Int)).toNat=96+2*t:=by omega
 have n2:((96:Int)+2*(t:Int)+1).toNat=96+2*t+1:=by omega
 have bx:=Bx.new w 55 #[.int .i64 (xa:Int),.int .i64 xs,.int .i64 xk,.int .i64 (t:Int),.bool xm,.int .u64 (xn:Int)];have o:=(kqk w.heap.size w).alloc (kqa _) (.cells #[.int .i64 (xa:Int),.int .i64 xs,.int .i64 xk,.int .i64 (t:Int),.bool xm,.int .u64 (xn:Int)] 55);replace z:=(o.cell (p:=⟨b,f+(96+2*t),none⟩) hb).trans z;replace G:=(o.cell (p:=⟨b,f+(96+2*t+1),none⟩) hb).trans G;have N:(w.alloc (.cells #[.int .i64 (xa:Int),.int .i64 xs,.int .i64 xk,.int .i64 (t:Int),.bool xm,.int .u64 (xn:Int)] 55)).heap.size=w.heap.size+1:=by simp
 obtain⟨i0,hi,J,Kw,R⟩:=kzr zO;have HI:=hid hi;have Lj:=hid J;have Li:=hid Kw;have Lb:=hid R;clear hi J Kw R;clear hr hx hy Eq Q ho ht hF Z;go_enter func259,ntmps259;go_wp2_with fail;obtain⟨q,Kz⟩:∃q,w.alloc (.cells #[.int .i64 (xa:Int),.int .i64 xs,.int .i64 xk,.int .i64 (t:Int),.bool xm,.int .u64 (xn:Int)] 55)=q:=⟨_,rfl⟩;rw[Kz] at z G bx o N |-;clear Kz;have b3:q.cell? ⟨w.heap.size,3,none⟩=some (.int .i64 (t:Int)):=bx.cell 3;have L:b<q.heap.size:=by omega
 have Y:w.heap.size<q.heap.size:=by omega
 have BX:=hid bx;have U:=hid o;clear bx o N
 go_region_held3 (λX:World=>X.cell? ⟨b,f+(96+2*t),none⟩=some (.int .u64 (x:Int))/\X.cell? ⟨b,f+(96+2*t+1),none⟩=some (.int .u64 (y:Int))/\X.cell? ⟨w.heap.size,3,none⟩=some (.int .i64 (t:Int))) (go_keep)
  (first | (go_at_call 117;refine (V.out _).mono ?_;rintro e I ⟨⟨A1,c1,rfl,T,-⟩,l⟩;have m0:=(l.cell (p:=⟨b,f+(96+2*t),none⟩) L).trans z;have m1:=(l.cell (p:=⟨b,f+(96+2*t+1),none⟩) L).trans G;have m2:=(l.cell (p:=⟨w.heap.size,3,none⟩) Y).trans b3;have Le:=hid T;have u:Below q.heap.size q I:=(kqk q.heap.size q).drew.trans l;have BX5:=hid (BX.out.up u Y);have M:=hid (U.out.trans (u.mono U.out.size));clear T l u))
 have Ld:=M.out.size;clear m0 m1 m2 z G b3;go_wp2_with fail;go_loopw [7,31] (λv i wr=>∃k:Nat,k<=F.length/\i=.int .i64 k/\wr.ownsRow I.heap.size 3 1 v (rV F (xa:Int) k).length ((rV F (xa:Int) k).flatMap da)/\Below I.heap.size I wr) (λ_ i _=>F.length-(intOf i).toNat)
 case atStart=>exact⟨0,kqz _,rfl,kq6 _ _ _ _,kqk _ _⟩
 obtain⟨k,hk,rfl,a,H⟩:=hrel;have hz:=H.size;by_cases O:k<F.length
 .obtain ⟨bF,oF,rfl,hbF,y0⟩:=RdY.at_ (show RdY wr I.heap.size A1 F from Rd.below Le.out H) O;have E:=BX5.out.up H BX5.out.lt;have p0:=E.cell 0;have hgr:=E.lt;have d:=hid (Lk.out k);have La:=Lc.out k;rw[kql O] at d;obtain⟨B,K⟩:=xq (F[k]);obtain⟨m,P⟩:∃m,rV F (xa:Int) k=m:=⟨_,rfl⟩;rw[K] at y0 d;rw[P] at a d La;have p0':wr.cell? ⟨w.heap.size,0,none⟩=some (.int .i64 (xa:Int)):=p0;have hki:(k:Int)<(F.length:Int):=by omega
  have hwk:IntKind.i64.wrap ((xa:Int)+2+(k:Int))=(xa:Int)+2+(k:Int):=kqt _ (by omega);clear K P E p0;by_cases g:B=3
  .have e3:((B:Int)==3)=true:=by rw[kqx];omega
   have e3n:(B==3)=true:=by rw[kqx];exact g
   have HY:=hid (show rV F (xa:Int) (k+1)=m++[(xa:Int)+2+(k:Int)] by rw[d.out,if_pos (by rw[g])]);clear g d;go_wp2_with (at_builtin;refine kzh _ rfl _ _ 42 rfl I.heap.size 3 i0 _ 1 8 underlying42 HI.out Lj.out Li.out Lb.out rfl (by decide) _ _ _ rfl (a.alloc _) ⟨_,0,none⟩ 1 1 [.int .i64 ((xa:Int)+2+(k:Int))] rfl rfl (cI _ _ _) (by simp[Value.oneCell']) (by unfold maxLen;omega) (by omega) (by simp;omega) ?_;intro v1 w6 C Lh _;have Lg:=aF H hz a Lh);go_roundw
   case rel=>exact⟨k+1,by omega,by go_num,by rw[HY.out,kqs,cB];exact C,Lg⟩
   case measure=>simp[intOf];omega
  have e3:((B:Int)==3)=false:=by rw[kqi];omega
  have e3n:(B==3)=false:=by rw[kqi];exact g
  have HY:=hid (show rV F (xa:Int) (k+1)=m by rw[d.out,if_neg (λh=>g (Option.some.inj h)),kzt]);clear g d;go_wp2;go_roundw
  case rel=>exact⟨k+1,by omega,by go_num,by rw[HY.out];exact a,H⟩
  case measure=>simp[intOf];omega
 obtain rfl:k=F.length:=by omega
 obtain⟨A2,c2,rfl,S,s⟩:=kr a;have Kx:=hid s;have Lf:=hid S;clear s a S;go_wp2;go_ret;exact⟨⟨A2,c2,rfl,Kx.out,Lf.out⟩,M.out.trans (H.mono Ld)⟩
theorem nP(h:aj ws=0)(ho:kz (aT ws 128) a=some b):∃(m t:Nat) (xs xk:Int) (xm:Bool) (xn:Nat),a=(m:Int)/\b=⟨(m:Int),xs,xk,(t:Int),xm,xn⟩/\t<8/\fi ws m/\m<ws.length /\
 (fU ws b).length<=8/\∀k (j:k<(fU ws b).length),∃r:Nat,(fU ws b)[k]=(r:Int)/\m<=r/\r<ws.length:=by
 obtain⟨m,s,e,c⟩:=Dc h ho;have d:wd ws m/512%128<8:=by have h7:=(bH _).1 (fG c.2.2.2.1);have h5:=c.2.2.2.2.1;have h6:(ap (wd ws m)).typ=((wd ws m/512%128:Nat):Int):=rfl;omega
 have l:wL ws b=flds ws m:=by rw[e];rfl
 refine⟨m,wd ws m/512%128,(bkAt ws m).size,(bkAt ws m).kind,(bkAt ws m).mark,(bkAt ws m).next,s,e,d,c,c.2.2.1,?_,λk j=>?_⟩
 .have q:=wu (wL ws b) b.at_ (wL ws b).length;have h2:=DP ws m;unfold fU;rw[l] at q |-;omega
 have n:=kqn j;unfold fU at n;obtain⟨i,o,i2,p⟩:=kX.1 n;rw[l] at o;have g:=um c o;have f:b.at_=(m:Int):=by rw[e];rfl
 refine⟨m+2+i,?_,by omega,g⟩;have:(fU ws b)[k]=b.at_+2+(i:Int):=p;rw[this,f];omega
def RsRes (ws:List Nat) (a:Int) (e:Ending) (w':World):Prop:=∃A c,e=.returned (.tuple #[.slice A (b8 ws a).length c,.int .i64 (pb ws a)])/\RdI w' w'.heap.size A (b8 ws a)/\(b8 ws a).length<=c
theorem x8(A:Option Addr)(ws:List Nat)(c n:Nat)(a:Int)(w:World)(hn:ws.length=n)(hm:n<=9223372036854775807)(v:RdW w w.heap.size A ws)(ho:∀x∈ws,x<18446744073709551616):
 Calls prog 208 #[.slice A n c,.int .i64 a] w λe w'=>RsRes ws a e w'/\Below w.heap.size w w':=by
 subst hn;have G:=hid v;have o:=hid (nv A ws c ws.length w rfl hm v ho);have g:=hid (λW (h:RdW W W.heap.size A ws)=>Ac A ws c ws.length a W rfl hm h ho);have V:=hid ho;clear v ho;by_cases k:aj ws=0
 .rw[k] at o;cases f:kz (aT ws 128) a with
  | none =>have i:Hid (pb ws a=6/\b8 ws a=[]):=hid (by simp[pb,b8,el,k,f]);rw[show xp ws a=mW by simp[xp,f],show el ws a=6 by simp[el,f]] at g;unfold mW Bk.val at g;simp only[kzb] at g;clear k f;go_enter func208,ntmps208;go_wp2_with fail;refine o.out.mono ?_;rintro e M ⟨rfl,d⟩;have l:=hid d;have u:=hid (G.out.up d d.size);clear d;go_wp2_with fail;refine (g.out _ u.out).mono ?_;rintro e X ⟨rfl,p⟩;have j:=l.out.trans (p.mono l.out.size);go_wp2;go_ret2;exact⟨⟨none,0,by rw[i.out.1,i.out.2];rfl,by rw[i.out.2];exact Rd.nil_,by rw[i.out.2];exact kqa _⟩,j.alloc j.size _⟩
  | some b =>
   obtain⟨m,t,xs,O,P,N,U,J,z,C,F,-,-⟩:=nP k f;subst U;have H:=ir ws (aA k).1;have i:Hid (pb ws (m:Int)=0/\b8 ws (m:Int)=fU ws b):=hid (by simp[pb,b8,el,k,f]);rw[show xp ws (m:Int)=b by simp[xp,f],show el ws (m:Int)=0 by simp[el,f]] at g;have y:=hid (λW (h:RdW W W.heap.size A ws)=>vM A ws c ws.length t m xs O P N W rfl (by omega) (by omega) z (by omega) h V.out);rw[<-J] at y;obtain⟨R,Q⟩:=xq (fU ws b);rw[Q] at y i;rw[J] at g;unfold Bk.val at g;dsimp only at g;clear k f J z C F H Q;go_enter func208,ntmps208;go_wp2_with fail;refine o.out.mono ?_;rintro e M ⟨rfl,d⟩;have l:=hid d;have u:=hid (G.out.up d d.size);clear d;go_wp2_with fail;refine (g.out _ u.out).mono ?_;rintro e X ⟨rfl,p⟩;have j:=l.out.trans (p.mono l.out.size);have q:=hid (j.alloc j.size (.cells #[.int .i64 (m:Int),.int .i64 xs,.int .i64 O,.int .i64 (t:Int),.bool P,.int .u64 (N:Int)] 55));have I:=hid (G.out.up q.out q.out.size);clear p j;go_wp2_with fail;refine (y.out _ I.out).mono ?_;rintro e w3 ⟨⟨S,T,rfl,s,B⟩,D⟩;have E:=hid s;have L:=hid B;have K:=hid (q.out.trans (D.mono q.out.size));clear s B D;go_wp2;go_ret2;exact⟨⟨S,T,by rw[i.out.1,i.out.2];rfl,by rw[i.out.2];exact E.out,by rw[i.out.2];exact L.out⟩,K.out⟩
 obtain⟨r,v⟩:=xq (aj ws);have i:Hid (pb ws a=r/\b8 ws a=[]):=hid ⟨by unfold pb;rw[if_neg k,v],by unfold b8;rw[if_neg k]⟩;rw[v] at o k;have hrn:(r != 0)=true:=by rw[kqv];exact k
 clear k v;go_enter func208,ntmps208;go_wp2_with fail;refine o.out.mono ?_;rintro e M ⟨rfl,d⟩;go_wp2;go_ret2;exact⟨⟨none,0,by rw[i.out.1,i.out.2];rfl,by rw[i.out.2];exact Rd.nil_,by rw[i.out.2];exact kqa _⟩,d⟩
theorem vr(ws:List Nat):(fh ws).length<=2048:=by
 unfold fh;split
 .exact Fz ws 128 128
 simp
theorem uh(A:Option Addr)(ws:List Nat)(c n:Nat)(a:Int)(w:World)(hn:ws.length=n)(hm:n<=9223372036854775807)(K:RdW w w.heap.size A ws)(ho:∀x∈ws,x<18446744073709551616):
 Calls prog 209 #[.slice A n c,.int .i64 a] w λe w'=>fL w.heap.size (dR ws a) (cR ws a) e w'/\Below w.heap.size w w':=by
 subst hn;have HR:=hid K;have s:=hid (wV A ws c ws.length w rfl hm K ho);unfold JJ at s;have g:=hid (λW (h:RdW W W.heap.size A ws)=>Ac A ws c ws.length a W rfl hm h ho);have HO:=hid ho;clear K ho;by_cases I:cH ws=0
 .obtain ⟨Lt,-,-⟩:=eH I;rw[I] at s;have Lb:=vr ws;cases l:kz (aT ws 128) a with
  | none =>have N:=hid (uM I l);rw[show xp ws a=mW by simp[xp,l],show el ws a=6 by simp[el,l]] at g;unfold mW Bk.val at g;simp only[kzb] at g;obtain⟨q,hq⟩:=xq ((fh ws).length);rw[hq] at s;clear I l hq Lb;go_enter func209,ntmps209;go_wp2_with fail;refine s.out.mono ?_;rintro e w1 ⟨⟨A1,c1,rfl,-,-⟩,d⟩;have G:=hid d;have Q:=hid (HR.out.up d d.size);clear d;go_wp2_with fail;refine (g.out _ Q.out).mono ?_;rintro e w2 ⟨rfl,E⟩;have D:=G.out.trans (E.mono G.out.size);go_wp2;go_ret2;exact⟨bN N.out.1 N.out.2,D.alloc D.size _⟩
  | some b =>
   obtain⟨m,t,xs,xk,xm,xn,ea,eb,Lj,Kx,Ky,Lq,S⟩:=nP Lt l;subst ea;have Lc:=ir ws (aA Lt).1;rw[show xp ws (m:Int)=b by simp[xp,l],show el ws (m:Int)=0 by simp[el,l]] at g;have L:b.mark=xm:=by rw[eb]
   cases Kw:xm with
   | false =>have N:=hid (uA I l (by rw[L,Kw]));rw[eb,Kw] at g;unfold Bk.val at g;dsimp only at g;obtain⟨q,hq⟩:=xq ((fh ws).length);rw[hq] at s;clear I l eb Lj Kx Ky Lc Lq S hq Lb L Kw;go_enter func209,ntmps209;go_wp2_with fail;refine s.out.mono ?_;rintro e w1 ⟨⟨A1,c1,rfl,-,-⟩,d⟩;have G:=hid d;have Q:=hid (HR.out.up d d.size);clear d;go_wp2_with fail;refine (g.out _ Q.out).mono ?_;rintro e w2 ⟨rfl,E⟩;have D:=G.out.trans (E.mono G.out.size);go_wp2;go_ret2;exact⟨bN N.out.1 N.out.2,D.alloc D.size _⟩
   | true =>
    subst Kw;have Lk:=hid (λW (h:RdW W W.heap.size A ws)=>vM A ws c ws.length t m xs xk true xn W rfl (by omega) (by omega) Lj (by omega) h HO.out);rw[<-eb] at Lk;have Lm:=hid (λh3=>C8 I l L h3);have Lh:=hid (λo h3=>Bp I l L (o:=o) h3);have Ln:=hid (λx y h=>Fy I (a:=x) (t:=y) h);have Lp:=hid (λA1 c1 (v:Nat) W (hv:v<18446744073709551616) (h:RdM W W.heap.size A1 (fh ws))=>AB A1 (fh ws) c1 (fh ws).length v W rfl (by omega) hv h);have Ls:Hid (∀v t,gH (fh ws) v=some t->fY (fh ws) (v:Int)=some t):=hid λv t h=>by
     unfold gH at h;split at h
     .cases h
     exact h
    have La:Hid (∀r,gb ws (fh ws) r=if wd ws r=0 then some [] else match gH (fh ws) (wd ws r) with
     | none=>none
     | some t=>if (wd ws r:Int)=t then some [] else some [⟨(r:Int),t.toNat⟩]):=hid λr=>rfl
    have Ll:=hid (λk (hk:k<(fU ws b).length) o h=>mp (ws:=ws) (m:=fh ws) hk (o:=o) h);have Lf:=hid (λk (hk:k<(fU ws b).length) o h h2=>AM (ws:=ws) (m:=fh ws) hk (o:=o) h h2);have Li:=hid (λk o (h:dH ws (fh ws) ((fU ws b).take k)=some o)=>tE h);obtain⟨R,hR⟩:=xq (fU ws b);rw[hR] at Lk Lm Lh Ll Lf Li Lq;have Mp:Hid (∀k (hk:k<R.length),∃r:Nat,R[k]=(r:Int)/\m<=r/\r<ws.length):=hid (by subst hR;exact S);obtain⟨M,hM⟩:=xq (fh ws);rw[hM] at s Lm Lh Ln Lp Ls La Ll Lf Li Lb;rw[eb] at g;unfold Bk.val at g;dsimp only at g;have hlen:=Lc.2.1;obtain⟨i0,hi,Lo,Lw,Lr⟩:=kzr dD;have HI:=hid hi;have Mn:=hid Lo;have Mm:=hid Lw;have Md:=hid Lr;clear hi Lo Lw Lr;clear I l eb Lj Kx Ky Lc hR S hM L;go_enter func209,ntmps209;go_wp2_with fail;refine s.out.mono ?_;rintro e w1 ⟨⟨A1,c1,rfl,Lv,-⟩,d⟩;have G:=hid d;have Q:=hid (HR.out.up d d.size);have Lz:=hid Lv;clear d Lv;go_wp2_with fail;refine (g.out _ Q.out).mono ?_;rintro e w2 ⟨rfl,E⟩;have D:=G.out.trans (E.mono G.out.size);have Eq:=hid (D.alloc D.size (.cells #[.int .i64 (m:Int),.int .i64 xs,.int .i64 xk,.int .i64 (t:Int),.bool true,.int .u64 (xn:Int)] 55))
    have Mc:=hid (HR.out.up Eq.out Eq.out.size);have Mf:=hid (Rd.more (Rd.alloc (Lz.out.up E E.size) (kqa _) (.cells #[.int .i64 (m:Int),.int .i64 xs,.int .i64 xk,.int .i64 (t:Int),.bool true,.int .u64 (xn:Int)] 55)) (show w2.heap.size<=(w2.alloc (.cells #[.int .i64 (m:Int),.int .i64 xs,.int .i64 xk,.int .i64 (t:Int),.bool true,.int .u64 (xn:Int)] 55)).heap.size by simp));clear E D;go_wp2_with fail;refine (Lk.out _ Mc.out).mono ?_;rintro e w3 ⟨⟨A3,c3,rfl,Kz,-⟩,Y⟩;have Me:=hid Kz;have T:=hid (Eq.out.trans (Y.mono Eq.out.size));have Mh:=hid (Mf.out.up Y Y.size);have Ma:=hid (HR.out.up T.out T.out.size);have Le:=T.out.size;clear Kz Y;go_wp2_with fail;go_loopw [10,42] (λv i wr=>∃(k:Nat) (o:List En),k<=R.length/\i=.int .i64 k/\Hid (dH ws M (R.take k)=some o)/\wr.ownsRow w3.heap.size 89 2 v o.length (o.flatMap En.cells)/\Below w3.heap.size w3 wr) (λ_ i _=>R.length-(intOf i).toNat)
    case atStart=>exact⟨0,[],kqz _,rfl,rfl,kq6 _ _ _ _,kqk _ _⟩
    obtain⟨k,o,hk,rfl,Z,B,V⟩:=hrel;have hz:=V.size;have Mi:=Li.out k o Z.out;rw[kq4] at Mi;by_cases X:k<R.length
    .obtain ⟨bR,oR,rfl,hbR,q0⟩:=RdI.at_ (Rd.below Me.out V) X;obtain⟨r,K,hmr,Mb⟩:=Mp.out k X;obtain⟨bW,oW,rfl,hbW,x0⟩:=RdW.at_ (Rd.below Ma.out V) Mb;rw[<-cF] at x0;have Mo:=hid (Mh.out.up V hz);have hv:=fT HO.out r;have f:=hid (Ll.out k X o Z.out);have z:=hid (Lf.out k X o Z.out);have j:=hid (La.out r);rw[K] at q0 f z;rw[kqj] at f z;have Ld:=Ls.out (wd ws r);obtain⟨v,Lx⟩:=xq (wd ws r);rw[Lx] at x0 hv j Ld;have hri:(r:Int)<(ws.length:Int):=by omega
     have hr0:(0:Int)<=(r:Int):=by omega
     have hki:(k:Int)<(R.length:Int):=by omega
     have Ly:=hid hv;have Mq:=hid Ld;clear K Lx hv Ld;by_cases F:v=0
     .have e0:((v:Int)==0)=true:=by rw[kqx];omega
      have e0n:(v==0)=true:=by rw[kqx];exact F
      have HY:=hid (show dH ws M (R.take (k+1))=some o by rw[f.out,j.out,if_pos F];simp);clear F f z j;go_wp2;go_roundw
      case rel=>exact⟨k+1,o,by omega,by go_num,HY.out,B,V⟩
      case measure=>simp[intOf];omega
     have e0:((v:Int)==0)=false:=by rw[kqi];omega
     have e0n:(v==0)=false:=by rw[kqi];exact F
     rw[if_neg F] at j;have H:=hid (Lp.out A1 c1 v _ Ly.out Mo.out);cases J:gH M v with
     | none =>rw[J] at H j;have N:=hid (Lm.out (z.out j.out));simp only[kkr,kj4] at H;clear F f z j J;go_wp2_with fail;refine H.out.mono ?_;rintro e w5 ⟨rfl,u⟩;go_wp2;go_ret2;exact⟨bN N.out.1 N.out.2,T.out.trans ((V.trans (u.mono hz)).mono Le)⟩
     | some tt =>
      obtain⟨O,rfl,ht1,-,ht2,-⟩:=Ln.out (v:Int) tt (Mq.out tt J);rw[J] at H j;simp only[kq5,kkj] at H;have hwt:IntKind.u64.wrap (O:Int)=(O:Int):=kzw _ (by omega);by_cases P:v=O
      .have en:((v:Int) != (O:Int))=false:=by rw[kqr];omega
       have enn:(v != O)=false:=by rw[kqr];exact P
       have HY:=hid (show dH ws M (R.take (k+1))=some o by rw[f.out,j.out];simp[P]);clear F f z j J P;go_wp2_with fail;refine H.out.mono ?_;rintro e w5 ⟨rfl,u⟩;have x5:=(u.cell (p:=⟨bW,oW+r,none⟩) (by show bW<wr.heap.size;omega)).trans x0;have C:=hid (aa B u (kqa _));have U:=hid (V.trans (u.mono hz));clear u;go_wp2;go_roundw
       case rel=>exact⟨k+1,o,by omega,by go_num,HY.out,C.out,U.out⟩
       case measure=>simp[intOf];omega
      have en:((v:Int) != (O:Int))=true:=by rw[kqv];omega
      have enn:(v != O)=true:=by rw[kqv];exact P
      have HY:=hid (show dH ws M (R.take (k+1))=some (o++[⟨(r:Int),O⟩]) by
       rw[f.out,j.out];have:¬ ((v:Int)=(O:Int)):=by omega
       simp[this])
      clear F f z j J P;go_wp2_with fail;refine H.out.mono ?_;rintro e w5 ⟨rfl,u⟩;have x5:=(u.cell (p:=⟨bW,oW+r,none⟩) (by show bW<wr.heap.size;omega)).trans x0;have C:=aa B u (kqa _);have U:=V.trans (u.mono hz);have Mg:=U.size;clear u;go_wp2_with (at_builtin;refine kzh _ rfl _ _ 26 rfl w3.heap.size 89 i0 _ 2 16 underlying26 HI.out Mn.out Mm.out Md.out rfl (by decide) _ _ _ rfl (C.alloc _) ⟨_,0,none⟩ 1 1 [.int .i64 (r:Int),.int .u64 (O:Int)] rfl rfl (cI _ _ _) (by simp[Value.oneCell']) (by unfold maxLen;omega) (by omega) (by simp;omega) ?_;intro v1 w6 Lg Ml _;have Mj:=aF U Mg C Ml);go_roundw
      case rel=>exact⟨k+1,o++[(⟨(r:Int),O⟩:En)],by omega,by go_num,HY.out,by rw[kqs,cB];exact Lg,Mj⟩
      case measure=>simp[intOf];omega
    obtain rfl:k=R.length:=by omega
    have HV:=hid (Lh.out o (by have:=Z.out;rwa [kq8 (kqa _)] at this));obtain⟨A2,c2,rfl⟩:=aE B;have Lu:=hid (am B Le);clear B;go_wp2;go_ret2;exact⟨⟨A2,c2,by rw[HV.out.1,HV.out.2];rfl,by rw[HV.out.2];exact Lu.out⟩,T.out.trans (V.mono Le)⟩
 obtain⟨r,K⟩:=xq (cH ws);have N:=hid (zN (a:=a) K (by rw[<-K];exact I));rw[K] at s I;have hrn:(r != 0)=true:=by rw[kqv];exact I
 obtain⟨q,hq⟩:=xq ((fh ws).length);rw[hq] at s;clear I K hq;go_enter func209,ntmps209;go_wp2_with fail;refine s.out.mono ?_;rintro e w1 ⟨⟨A1,c1,rfl,-,-⟩,d⟩;go_wp2;go_ret2;exact⟨bN N.out.1 N.out.2,d⟩
theorem qY(h1:eI ws=r)(h0:r≠0):eC ws=[]:=by unfold eC;rw[if_neg (by rw[h1];exact h0)]
theorem fs_err(h:cH ws=r)(h0:r≠0):eI ws=r:=by subst h;simp[eI,h0]
theorem fs_sl(h:cH ws=0)(h1:slsOk ws=false):eI ws=50:=by simp[eI,h,h1]
theorem Hi(h:cH ws=0)(h1:slsOk ws=true)(h2:slFix ws (fh ws) 16=none):eI ws=50:=by simp[eI,h,h1,h2]
theorem J5(h:cH ws=0)(h1:slsOk ws=true)(h2:slFix ws (fh ws) 16=some o):eI ws=0/\eC ws=o:=by simp[eC,eI,h,h1,h2]
theorem yC{m:List (Int × Int)}(h:slFix ws m k=some o):slFix ws m (k+1)=(il ws m k).map (o ++ ·):=by simp only[slFix,h]
theorem aw{w:World}{H n:Nat}{e:TypeId}{sz:Nat}{v:Value}{xs:List Value}(h:w.ownsRow H e sz v n xs){p:Addr}(hp:v.ownBlock≠some p.block)(u:Value):(w.setCell p u).ownsRow H e sz v n xs:=by
 refine⟨h.1,?_⟩;rcases h.2 with c|⟨d,b,a,c,g,f,i⟩
 .exact .inl c
 subst c;refine .inr ⟨d,b,a,rfl,g,?_,i⟩;exact (kkz w p u d (λe=>hp (by simp[Value.ownBlock,e]))).trans f
theorem C5{a:Nat}(hg:g<2147483648)(ha:a<4294967296)(u:Bool):pg ⟨(g:Int),u,(a:Int)⟩<18446744073709551616:=by unfold pg;dsimp only;rw[kqj,kqj];split<;>omega
theorem zo(A:Option Addr)(ws:List Nat)(c n:Nat)(w:World)(hn:ws.length=n)(hm:n<=9223372036854775807)(R:RdW w w.heap.size A ws)(ho:∀x∈ws,x<18446744073709551616):
 Calls prog 207 #[.slice A n c] w λe w'=>fL w.heap.size (eI ws) (eC ws) e w'/\Below w.heap.size w w':=by
 subst hn;have HR:=hid R;have z:=hid (wV A ws c ws.length w rfl hm R ho);unfold JJ at z;have H:=hid (λW (h:RdW W W.heap.size A ws)=>Ha A ws c ws.length W rfl hm h ho);unfold Hz at H;have HO:=hid ho;clear R ho;by_cases G:cH ws=0
 .obtain ⟨Kx,-,-⟩:=eH G;have X:=(aA Kx).1;have N:=ir ws X;rw[G] at z;have Le:=vr ws;cases B:slsOk ws with
  | false =>
   have he:=lY X B;have hq:fu ws=[]:=by simp[fu,he]
   rw[he,hq] at H;have S:=hid (fs_sl G B);obtain⟨q,hq⟩:=xq ((fh ws).length);rw[hq] at z;clear G Kx X N B he hq Le;go_enter func207,ntmps207;go_wp2_with fail;refine z.out.mono ?_;rintro e w1 ⟨⟨A1,c1,rfl,-,-⟩,l⟩;have I:=hid l;have Ky:=hid (HR.out.up l l.size);clear l;go_wp2_with fail;refine (H.out _ Ky.out).mono ?_;rintro e w2 ⟨⟨A2,c2,rfl,-,-⟩,Mg⟩;go_wp2;go_ret2;exact⟨bN S.out (qY S.out (by omega)),I.out.trans (Mg.mono I.out.size)⟩
  | true =>
   obtain⟨g1,g2⟩:=jL X B;rw[g1,g2,fA] at H;have Mm:=hid ((cG ws).1 B);have Lx:=hid (λh=>Hi G B h);have Lm:=hid (λo h=>J5 G B (o:=o) h);have Lb:=hid (λx y h=>Fy G (a:=x) (t:=y) h);have Lj:=hid (λA1 c1 (v:Nat) W (hv:v<18446744073709551616) (h:RdM W W.heap.size A1 (fh ws))=>AB A1 (fh ws) c1 (fh ws).length v W rfl (by omega) hv h);have Ln:Hid (∀v t,gH (fh ws) v=some t->fY (fh ws) (v:Int)=some t):=hid λv t h=>by
    unfold gH at h;split at h
    .cases h
    exact h
   have Z:Hid (∀i,il ws (fh ws) i=if (slAt ws i).used=true then (match gH (fh ws) (slAt ws i).at_.toNat with
    | none=>none
    | some t=>if wd ws (112+i)=pg ⟨(slAt ws i).gen,true,t⟩ then some [] else some [⟨((112+i:Nat):Int),pg ⟨(slAt ws i).gen,true,t⟩⟩]) else some []):=hid λi=>rfl
   have Lt:=hid (λk o (h:slFix ws (fh ws) k=some o)=>yC h);have Lv:=hid (λk (h:slFix ws (fh ws) (k+1)=none) (h2:k+1<=16)=>zv h h2);have Lo:=hid (λk o (h:slFix ws (fh ws) k=some o)=>sO h);obtain⟨M,hM⟩:=xq (fh ws);rw[hM] at z Lx Lm Lb Lj Ln Z Lt Lv Lo Le;have hlen:=N.1;have hlen2:=N.2.1;obtain⟨i0,hi,Lc,Ma,Ll⟩:=kzr dD;have HI:=hid hi;have Nc:=hid Lc;have Nb:=hid Ma;have Ms:=hid Ll;clear hi Lc Ma Ll;clear G Kx X N B g1 g2 hM;go_enter func207,ntmps207;go_wp2_with fail;refine z.out.mono ?_;rintro e w1 ⟨⟨A1,c1,rfl,Lz,-⟩,l⟩;have I:=hid l;have Ky:=hid (HR.out.up l l.size);have Md:=hid Lz;clear l Lz;go_wp2_with fail;refine (H.out _ Ky.out).mono ?_;rintro e w3 ⟨⟨A3,c3,rfl,Ls,-⟩,O⟩;have L:=hid (I.out.trans (O.mono I.out.size));have Mw:=hid Ls;have Mx:=hid (Md.out.up O O.size);have Ml:=hid (HR.out.up L.out L.out.size);have Eq:=L.out.size;clear Ls O;go_wp2_with fail;go_loopw [8,36] (λv i wr=>∃(k:Nat) (o:List En),k<=16/\i=.int .i64 k/\Hid (slFix ws M k=some o)/\wr.ownsRow w3.heap.size 89 2 v o.length (o.flatMap En.cells)/\Below w3.heap.size w3 wr) (λ_ i _=>16-(intOf i).toNat)
   case atStart=>exact⟨0,[],kqz _,rfl,rfl,kq6 _ _ _ _,kqk _ _⟩
   obtain⟨k,o,hk,rfl,Kz,j,hB⟩:=hrel;have hz:=hB.size;have hol:=Lo.out k o Kz.out;by_cases Lf:k<16
   .obtain ⟨bS,oS,rfl,hbS,q0,q1,q2⟩:=RdS.at_ (Rd.below Mw.out hB) (show k<(slL ws).length by rw[fA];exact Lf);rw[nY] at q0 q1 q2;obtain⟨bW,oW,rfl,hbW,x0⟩:=RdW.at_ (Rd.below Ml.out hB) (show 112+k<ws.length by omega);rw[<-cF] at x0;have Nd:=hid (Mx.out.up hB hz);have La:=Mm.out k Lf;have f:=hid (Lt.out k o Kz.out);have C:=hid (λh=>Lv.out k h (by omega));have d:=hid (Z.out k);obtain⟨r1,r2,r3,r4⟩:=gj (wd ws (112+k));have Lw:slAt ws k=dX (wd ws (112+k)):=rfl;rw[<-Lw] at r1 r2 r3 r4;have Lu:=fT HO.out (112+k);obtain⟨x,hx⟩:=xq (wd ws (112+k));rw[hx] at x0 d Lu;obtain⟨s,X⟩:=xq (slAt ws k);rw[X] at q0 q1 q2 d r1 r2 r3 r4 La;obtain⟨sg,su,sa⟩:=s;dsimp only at q0 q1 q2 d r1 r2 r3 r4;obtain⟨g,rfl⟩:=kq1 r1;obtain⟨u,rfl⟩:=kq1 r3;rw[kqj] at d;have hki:(k:Int)<16:=by omega
    have hk0:(0:Int)<=(k:Int):=by omega
    have hw1:IntKind.i64.wrap (112+(k:Int))=112+(k:Int):=kqt _ (by omega);have i1:(0:Int)<=112+(k:Int):=by omega
    have i2:(112:Int)+(k:Int)<(ws.length:Int):=by omega
    have n1:((112:Int)+(k:Int)).toNat=112+k:=by omega
    have U:g<2147483648:=by omega
    have Mz:=hid La;clear hx X Lw r1 r2 r3 r4 La Lu;cases su
    .have HY:=hid (show slFix ws M (k+1)=some o by rw[f.out,d.out,if_neg (by simp)];simp);clear f C d;go_wp2;go_roundw
     case rel=>exact⟨k+1,o,by omega,by go_num,HY.out,j.alloc _,hB.alloc hz _⟩
     case measure=>simp[intOf];omega
    obtain⟨Mj,My,Mr⟩:=uY Mz.out rfl;dsimp only at Mj My Mr;rw[if_pos rfl] at d;have hwu:IntKind.u64.wrap (u:Int)=(u:Int):=kzw _ (by omega);have Lg:=hB.alloc hz (.cells #[.int .i64 (g:Int),.bool true,.int .i64 (u:Int)] 52);have K:=hid Lg;have Li:=hid (Rd.more (Rd.alloc Nd.out (kqa _) (.cells #[.int .i64 (g:Int),.bool true,.int .i64 (u:Int)] 52)) (show wr.heap.size<=(wr.alloc (.cells #[.int .i64 (g:Int),.bool true,.int .i64 (u:Int)] 52)).heap.size by simp));have BN:=hid (Bx.new wr 52 #[.int .i64 (g:Int),.bool true,.int .i64 (u:Int)]);have Y:=hid (j.alloc (.cells #[.int .i64 (g:Int),.bool true,.int .i64 (u:Int)] 52));have Mn:=hid (λb h=>(j.lt b h).2);have x1:=(kze wr (.cells #[.int .i64 (g:Int),.bool true,.int .i64 (u:Int)] 52) ⟨bW,oW+(112+k),none⟩ (by show bW<wr.heap.size;omega)).trans x0;have Lk:=hid x1;have D:=hid (Lj.out A1 c1 u _ (by omega) Li.out);have Lr:(wr.alloc (.cells #[.int .i64 (g:Int),.bool true,.int .i64 (u:Int)] 52)).heap.size=wr.heap.size+1:=by simp
    clear Lg x1;go_upto_region 14 with (fail);obtain⟨wn,Lh⟩:∃wn,wr.alloc (.cells #[.int .i64 (g:Int),.bool true,.int .i64 (u:Int)] 52)=wn:=⟨_,rfl⟩;rw[Lh] at K Li BN Y D Lk Lr |-;clear Lh x0 j;obtain⟨p0,p1,p2,f0,f1,f2,Mv⟩:=BN.out.c3;cases J:gH M u with
    | none =>rw[J] at D d;have S:=hid (Lx.out (C.out (by rw[f.out,d.out];rfl)));simp only[kkr,kj4] at D;clear f C d J;go_wp2_with fail;refine D.out.mono ?_;rintro e w5 ⟨rfl,E⟩;have Mh:=K.out.trans (E.mono K.out.size);go_wp2;go_ret2;exact⟨bN S.out (qY S.out (by omega)),L.out.trans (Mh.mono Eq)⟩
    | some tt =>
     obtain⟨T,rfl,ht1,-,ht2,-⟩:=Lb.out (u:Int) tt (Ln.out u tt J);rw[J] at D d;simp only[kq5,kkj] at D;have Mb:mX ⟨(g:Int),true,(T:Int)⟩=true:=by unfold mX;rw[if_pos rfl];simp only[kqu,kzd];omega
     have Lp:=hid (λW=>Hx g T true W U (by omega) Mb);have Mq:=C5 (g:=g) (a:=T) U (by omega) true;obtain⟨V,hV⟩:∃V,pg ⟨(g:Int),true,(T:Int)⟩=V:=⟨_,rfl⟩;dsimp only at d;rw[hV] at Lp d;clear Mb hV Mq J;go_wp2_with fail;refine D.out.mono ?_;rintro e w5 ⟨rfl,E⟩;have bn5:=BN.out.up E Mv;have BN5:=hid bn5;have Ld:=hid (K.out.trans (E.mono K.out.size));have Mf:=hid (aa Y.out E (kqa _));have x5:=(E.cell (p:=⟨bW,oW+(112+k),none⟩) (by show bW<wn.heap.size;omega)).trans Lk.out;have Me:=hid x5;obtain⟨p0,p1,p2,f0,f1,f2,hg5⟩:=bn5.c3;clear E bn5 x5;go_wp2_with fail;have Ly:=hid (Ld.out.setCell (p:=⟨wr.heap.size,2,none⟩) hz (.int .i64 (T:Int)));have Mo:=hid (aw Mf.out (p:=⟨wr.heap.size,2,none⟩) (λh=>by have h9:=Mn.out _ h;exact absurd h9 (Nat.lt_irrefl _)) (.int .i64 (T:Int)));have x6:(w5.setCell ⟨wr.heap.size,2,none⟩ (.int .i64 (T:Int))).cell? ⟨bW,oW+(112+k),none⟩=some (.int .u64 (x:Int)):=(kj7 w5 _ _ _ (λe2=>by injection e2 with e3 _ _;omega)).trans Me.out;have Nf:=hid x6;have Mc:bW<(w5.setCell ⟨wr.heap.size,2,none⟩ (.int .i64 (T:Int))).heap.size:=by rw[kz6];have:=Ld.out.size;omega
     clear x6;refine (Lp.out _).mono ?_;rintro e w7 ⟨rfl,Q⟩;have x7:=(Q.cell (p:=⟨bW,oW+(112+k),none⟩) Mc).trans Nf.out;have m:=aa Mo.out Q (kqa _);have P:=Ly.out.trans (Q.mono Ly.out.size);have Mu:=P.size;clear Q Mc;by_cases F:x=V
     .have en:((x:Int) != (V:Int))=false:=by rw[kqr];omega
      have enn:(x != V)=false:=by rw[kqr];exact F
      have HY:=hid (show slFix ws M (k+1)=some o by rw[f.out,d.out];simp[F]);have Mp:=hid m;have Ng:=hid P;clear f C d F m P;go_wp2;go_roundw
      case rel=>exact⟨k+1,o,by omega,by go_num,HY.out,Mp.out,Ng.out⟩
      case measure=>simp[intOf];omega
     have en:((x:Int) != (V:Int))=true:=by rw[kqv];omega
     have enn:(x != V)=true:=by rw[kqv];exact F
     have HY:=hid (show slFix ws M (k+1)=some (o++[⟨112+(k:Int),V⟩]) by rw[f.out,d.out];simp[F]);clear f C d F;go_wp2_with (at_builtin;refine kzh _ rfl _ _ 26 rfl w3.heap.size 89 i0 _ 2 16 underlying26 HI.out Nc.out Nb.out Ms.out rfl (by decide) _ _ _ rfl (m.alloc _) ⟨_,0,none⟩ 1 1 [.int .i64 (112+(k:Int)),.int .u64 (V:Int)] rfl rfl (cI _ _ _) (by simp[Value.oneCell']) (by unfold maxLen;omega) (by omega) (by simp;omega) ?_;intro v1 w8 Kw Na _;have Mi:=aF P Mu m Na);go_roundw
     case rel=>exact⟨k+1,o++[(⟨112+(k:Int),V⟩:En)],by omega,by go_num,HY.out,by rw[kqs,cB];exact Kw,Mi⟩
     case measure=>simp[intOf];omega
   obtain rfl:k=16:=by omega
   have HV:=hid (Lm.out o Kz.out);obtain⟨A2,c2,rfl⟩:=aE j;have Lq:=hid (am j Eq);clear j;go_wp2;go_ret2;exact⟨⟨A2,c2,by rw[HV.out.1,HV.out.2];rfl,by rw[HV.out.2];exact Lq.out⟩,L.out.trans (hB.mono Eq)⟩
 obtain⟨r,R⟩:=xq (cH ws);have S:=hid (fs_err R (by rw[<-R];exact G));rw[R] at z G;have hrn:(r != 0)=true:=by rw[kqv];exact G
 have Mt:=hid G;obtain⟨q,hq⟩:=xq ((fh ws).length);rw[hq] at z;clear G R hq;go_enter func207,ntmps207;go_wp2_with fail;refine z.out.mono ?_;rintro e w1 ⟨⟨A1,c1,rfl,-,-⟩,l⟩;go_wp2;go_ret2;exact⟨bN S.out (qY S.out Mt.out),l⟩
theorem E5{a:Nat}(hg:g<2147483648)(ha:a<4294967296):dX (pg ⟨(g:Int),true,(a:Int)⟩)=⟨(g:Int),true,(a:Int)⟩:=by
 unfold pg dX;dsimp only;rw[kqj,kqj,if_pos rfl];have b:(a+g*4294967296+9223372036854775808)/4294967296%2147483648=g:=by omega
 have d:(a+g*4294967296+9223372036854775808)/9223372036854775808=1:=by omega
 have c:(a+g*4294967296+9223372036854775808)%4294967296=a:=by omega
 rw[b,d,c];rfl
def nwS (ws:List Nat) (M:List (Int × Int)) (i:Nat):Sl:=if (slAt ws i).used=true then ⟨(slAt ws i).gen,true,(fY M (slAt ws i).at_).getD 0⟩ else slAt ws i
theorem Dy{v:Nat}(h:j<ws.length)(i:Nat):wd (ai ws [⟨(j:Int),v⟩]) i=if i=j then v else wd ws i:=by
 simp only[ai];rw[if_pos (by omega),kqj];unfold wd;rw[kxi];by_cases e:j=i
 .subst e;simp[h]
 rw[if_neg e,if_neg (λh=>e h.symm)]
theorem Cw{M:List (Int × Int)}(hw:256<=ws.length)(hM:∀a t,fY M a=some t->∃n:Nat,t=(n:Int)/\n<2048):∀k,k<=16->∀o,slFix ws M k=some o ->
 (∀e∈o,∃i,i<k/\e.a=((112+i:Nat):Int)/\e.v<18446744073709551616)/\o.Pairwise (λa b=>a.a<b.a)/\(∀i,i<k->slAt (ai ws o) i=nwS ws M i)/\(∀i,i<k->(slAt ws i).used=true->(fY M (slAt ws i).at_).isSome=true):=by
 intro k
 induction k with
 | zero =>intro _ o h;simp only[slFix,Option.some.injEq] at h;subst h;exact⟨λe f=>(by cases f),List.Pairwise.nil,λi h=>absurd h (by omega),λi h=>absurd h (by omega)⟩
 | succ k ih =>
  intro hk o h;simp only[slFix] at h;cases B:slFix ws M k with
  | none=>rw[B] at h;cases h
  | some o1 =>
  rw[B] at h;obtain⟨u,F,H,N⟩:=ih (by omega) o1 B;have s:wd (ai ws o1) (112+k)=wd ws (112+k):=aP o1 ws _ λe f=>by
   obtain⟨i,h1,P,-⟩:=u e f;rw[P];omega
  have j:∀(D:slAt ws k=nwS ws M k) (K:(slAt ws k).used=true->(fY M (slAt ws k).at_).isSome=true),(∀e∈o1,∃i,i<k+1/\e.a=((112+i:Nat):Int)/\e.v<18446744073709551616)/\o1.Pairwise (λa b=>a.a<b.a)/\(∀i,i<k+1->slAt (ai ws o1) i=nwS ws M i)/\(∀i,i<k+1->(slAt ws i).used=true->(fY M (slAt ws i).at_).isSome=true):=by
   intro D K;refine⟨λe f=>?_,F,λi x=>?_,λi x=>?_⟩
   .obtain ⟨i,J,q,w⟩:=u e f;exact⟨i,by omega,q,w⟩
   .rcases kq7 i k with d|d
    .exact H i d
    have:i=k:=by omega
    subst this;rw[<-D];unfold slAt;rw[s]
   rcases kq7 i k with d|d
   .exact N i d
   have:i=k:=by omega
   subst this;exact K
  cases c:il ws M k with
  | none=>rw[c] at h;cases h
  | some y =>
   rw[c] at h;simp only[kzz,Option.some.injEq] at h;subst h;unfold il at c;split at c
   .rename_i hu;obtain⟨L,O,I,r4⟩:=gj (wd ws (112+k))
    change 0<=(slAt ws k).gen at L
    change (slAt ws k).gen<=_ at O
    change 0<=(slAt ws k).at_ at I
    obtain⟨g,E⟩:=kq1 L;cases l:gH M (slAt ws k).at_.toNat with
    | none=>rw[l] at c;cases c
    | some t =>
     rw[l] at c;have C:fY M (slAt ws k).at_=some t:=by
      unfold gH at l;split at l
      .cases l
      rw[kj0 I] at l;exact l
     obtain⟨n,rfl,hn⟩:=hM _ _ C;have m:nwS ws M k=⟨(g:Int),true,(n:Int)⟩:=by unfold nwS;rw[if_pos hu,C,E];rfl
     have r:=E5 (g:=g) (a:=n) (by omega) (by omega);have A:=C5 (g:=g) (a:=n) (by omega) (by omega) true;have p:(slAt ws k).used=true->(fY M (slAt ws k).at_).isSome=true:=λ_=>by rw[C];rfl
     dsimp only at c;rw[E] at c;by_cases f:wd ws (112+k)=pg ⟨(g:Int),true,(n:Int)⟩
     .rw[if_pos f] at c;injection c with c;subst c;rw[kzt];exact j (by rw[m,<-r,<-f];rfl) p
     rw[if_neg f] at c;injection c with c;subst c;refine⟨λe f=>?_,?_,λi x=>?_,λi x=>?_⟩
     .rcases kzo.1 f with d|d
      .obtain ⟨i,J,q,w⟩:=u e d;exact⟨i,by omega,q,w⟩
      simp only[kqy] at d;subst d;exact⟨k,by omega,rfl,A⟩
     .rw[kvh];refine⟨F,by simp,λa Q b G=>?_⟩;simp only[kqy] at G;subst G;obtain⟨i,J,q,-⟩:=u a Q;rw[q];dsimp only;omega
     .have z:112+k<(ai ws o1).length:=by rw[au];omega
      unfold slAt;rw[eT,Dy z];split
      .rename_i h6;have:i=k:=by omega
       subst this;rw[r,m]
      exact H i (by omega)
     rcases kq7 i k with d|d
     .exact N i d
     have:i=k:=by omega
     subst this;exact p
   rename_i hu;injection c with c;subst c;rw[kzt];exact j (by unfold nwS;rw[if_neg hu]) (λh=>absurd h hu)
theorem kk(h:eI ws=0):256<=ws.length/\aj ws=0/\bj ws 128 128=0/\dV ws=0/\fu ws=slL ws/\dV (ai ws (eC ws))=0/\fu (ai ws (eC ws))=slL (ai ws (eC ws)) /\
 (∀e∈eC ws,(112<=e.a/\e.a<128)/\e.v<18446744073709551616)/\(eC ws).Pairwise (λa b=>a.a<b.a)/\(eC ws).length<=16 /\
 (∀i,i<16->slAt (ai ws (eC ws)) i=nwS ws (iH ws 128 128) i)/\(∀i,i<16->(slAt ws i).used=true->(fY (iH ws 128 128) (slAt ws i).at_).isSome=true):=by
 have j:cH ws=0:=by
  by_cases q:cH ws=0
  .exact q
  unfold eI at h;rw[if_neg q] at h;exact absurd h q
 have k:slsOk ws=true:=by
  cases w:slsOk ws with
  | true=>rfl
  | false=>rw[fs_sl j w] at h;cases h
 obtain⟨o,l⟩:∃o,slFix ws (fh ws) 16=some o:=by
  cases w:slFix ws (fh ws) 16 with
  | some o=>exact⟨o,rfl⟩
  | none=>rw[Hi j k w] at h;cases h
 obtain⟨e1,I⟩:=J5 j k l;obtain⟨x,F,C⟩:=eH j;have u:=(aA x).1;have hbd:=ir ws u;have c:=λa t (d:fY (fh ws) a=some t)=>Fy j d;have g:=sO l;obtain⟨H,G,m,r⟩:=Cw (by omega) (λa t d=>by obtain⟨n,q1,-,-,q4,-⟩:=c a t d;exact⟨n,q1,q4⟩) 16 (kqa _) o l;rw[C] at m r c;rw[I];obtain⟨B,D⟩:=jL u k;have s:slsOk (ai ws o)=true:=(cG _).2 λi p=>by
  rw[m i p];have f:=(cG ws).1 k i p;unfold nwS;split
  .rename_i hu;obtain⟨t,d⟩:=Option.isSome_iff_exists.1 (r i p hu);obtain⟨n,rfl,n1,-,n2,-⟩:=c _ _ d;obtain⟨u1,-,-⟩:=uY f hu;rw[d];unfold mX;rw[if_pos rfl];simp only[kqu,kzd,kq5];omega
  exact f
 obtain⟨y,J⟩:=jL (ws:=ai ws o) (by rw[au];exact u) s;refine⟨by omega,x,F,B,D,y,J,λe z=>?_,G,g,m,r⟩;obtain⟨i,i1,A,E⟩:=H e z;exact⟨by rw[A];omega,E⟩
theorem zT(F:List Nat)(a:Int)(j:Nat):(rV F a j).Pairwise (· < ·):=by
 induction j with
 | zero=>exact List.Pairwise.nil
 | succ j ih =>
  rw[tg,kvh];refine⟨ih,by split<;>simp,λx c y b=>?_⟩;obtain⟨i,i1,-,i3⟩:=kX.1 c;split at b
  .simp only[kqy] at b;omega
  cases b
def Eh (ws x:List Nat) (M:List (Int × Int)) (r:Nat):Prop:=(wd ws r=0/\wd x r=0)\/(0<wd ws r/\∃t m:Nat,fY M (wd ws r:Int)=some (t:Int)/\wd x r=t/\t<2048/\wd ws r=m/\m<ws.length)
theorem Bq{M:List (Int × Int)}{f:Nat->Nat}(hM:∀a t,fY M a=some t->∃n:Nat,t=(n:Int)/\n<2048/\∃m:Nat,a=(m:Int)/\m<ws.length)(hl:∀i (s:i<l.length),l[i]=(f i:Int))(hf:∀i,i<l.length->f i<ws.length)(s:∀i j,i<j->j<l.length->f i<f j):∀k,k<=l.length->∀o,dH ws M (l.take k)=some o ->
 (∀e∈o,∃i,i<k/\e.a=(f i:Int)/\wd ws (f i)≠e.v/\e.v<2048)/\o.Pairwise (λa b=>a.a<b.a)/\(∀i,i<k->Eh ws (ai ws o) M (f i)):=by
 intro k
 induction k with
 | zero =>intro _ o h;simp only[List.take_zero,dH,Option.some.injEq] at h;subst h;exact⟨λe g=>(by cases g),List.Pairwise.nil,λi h=>absurd h (by omega)⟩
 | succ k ih =>
  intro hk o h;have c:k<l.length:=by omega
  cases z:dH ws M (l.take k) with
  | none =>rw[kqp c,jG,z] at h;cases h
  | some o1 =>
  rw[mp c z,hl k c,kqj] at h;obtain⟨y,H,J⟩:=ih (by omega) o1 z;have q:wd (ai ws o1) (f k)=wd ws (f k):=aP o1 ws _ λe g=>by
   obtain⟨i,L,N,-⟩:=y e g;have:=s i k L c;rw[N];omega
  have p:Eh ws (ai ws o1) M (f k)->(∀e∈o1,∃i,i<k+1/\e.a=(f i:Int)/\wd ws (f i)≠e.v/\e.v<2048)/\o1.Pairwise (λa b=>a.a<b.a)/\(∀i,i<k+1->Eh ws (ai ws o1) M (f i)):=by
   intro K;refine⟨λe g=>?_,H,λi s=>?_⟩
   .obtain ⟨i,E,u,B,D⟩:=y e g;exact⟨i,by omega,u,B,D⟩
   rcases kq7 i k with d|d
   .exact J i d
   have:i=k:=by omega
   subst this;exact K
  unfold gb at h;by_cases x:wd ws (f k)=0
  .rw[if_pos x] at h;simp only[kzz,Option.some.injEq,kzt] at h;subst h;exact p (.inl ⟨x,by rw[q,x]⟩)
  rw[if_neg x] at h;cases r:gH M (wd ws (f k)) with
  | none=>rw[r] at h;cases h
  | some t =>
   rw[r] at h;have G:fY M (wd ws (f k):Int)=some t:=by
    unfold gH at r;split at r
    .cases r
    exact r
   obtain⟨n,rfl,C,m,em,w⟩:=hM _ _ G;dsimp only at h;by_cases g:(wd ws (f k):Int)=(n:Int)
   .rw[if_pos g] at h;simp only[kzz,Option.some.injEq,kzt] at h;subst h;exact p (.inr ⟨by omega,n,m,G,by rw[q];omega,C,by omega,w⟩)
   rw[if_neg g] at h;simp only[kzz,Option.some.injEq] at h;subst h;rw[kqj];have F:f k<(ai ws o1).length:=by rw[au];exact hf k c
   refine⟨λe A=>?_,?_,λi hi2=>?_⟩
   .rcases kzo.1 A with d|d
    .obtain ⟨i,E,u,B,D⟩:=y e d;exact⟨i,by omega,u,B,D⟩
    simp only[kqy] at d;subst d;exact⟨k,by omega,rfl,by dsimp only;omega,C⟩
   .rw[kvh];refine⟨H,by simp,λa O b I=>?_⟩;simp only[kqy] at I;subst I;obtain⟨i,E,u,-⟩:=y a O;have:=s i k E c;rw[u];dsimp only;omega
   unfold Eh;rw[eT,Dy F];rcases kq7 i k with d|d
   .have:=s i k d c;rw[if_neg (by omega)];exact J i d
   have:i=k:=by omega
   subst this;rw[if_pos rfl];exact .inr ⟨by omega,n,m,G,rfl,C,by omega,w⟩
theorem jh(h:dR ws a=0):∃f:Nat->Nat,(256<=ws.length/\ws.length<=2048)/\bj ws 128 128=0/\pb ws a=0/\(b8 ws a).length<=8/\(cR ws a).length<=8 /\
 (∀i (c:i<(b8 ws a).length),(b8 ws a)[i]=(f i:Int)/\a<=(f i:Int)/\f i<ws.length/\Eh ws (ai ws (cR ws a)) (iH ws 128 128) (f i)) /\
 (∀j,(∀i,i<(b8 ws a).length->f i≠j)->wd (ai ws (cR ws a)) j=wd ws j) /\
 (∀e∈cR ws a,∃r:Nat,e.a=(r:Int)/\r<ws.length/\wd ws r≠e.v/\e.v<2048)/\(cR ws a).Pairwise (λa b=>a.a<b.a):=by
 have q:cH ws=0:=by
  by_cases z:cH ws=0
  .exact z
  rw[(zN rfl z).1] at h;exact absurd h z
 obtain⟨w,X,R⟩:=eH q;cases k:kz (aT ws 128) a with
 | none=>rw[(uM q k).1] at h;cases h
 | some b =>
  cases p:b.mark with
  | false=>rw[(uA q k p).1] at h;cases h
  | true =>
   cases u:dH ws (fh ws) (fU ws b) with
   | none=>rw[(C8 q k p u).1] at h;cases h
   | some o =>
    have M:=(Bp q k p u).2;have T:b8 ws a=fU ws b:=by simp[b8,w,k]
    have Z:pb ws a=0:=by simp[pb,w,el,k]
    obtain⟨m,t,xs,xk,xm,xn,U,eb,ht8,hobj,hmlt,I,d⟩:=nP w k;have hbd:=ir ws (aA w).1;have S:(fU ws b).Pairwise (· < ·):=zT _ _ _;have G:=kzj.1 S;have g:∀i (c:i<(fU ws b).length),(fU ws b)[i]=((((fU ws b)[i]?.getD 0).toNat:Nat):Int):=λi c=>by
     obtain⟨r,B,-,-⟩:=d i c;rw[kql c,kq5,B,kqj]
    have hlo:=tE u;have C:=λx y (J:fY (fh ws) x=some y)=>Fy q J;have hM:∀x y,fY (fh ws) x=some y->∃n:Nat,y=(n:Int)/\n<2048/\∃m:Nat,x=(m:Int)/\m<ws.length:=λx y J=>by
     obtain⟨n,P,-,-,Q,m,N,-,V⟩:=C x y J;exact⟨n,P,Q,m,N,V⟩
    have l:∀i,i<(fU ws b).length->((fU ws b)[i]?.getD 0).toNat<ws.length:=λi c=>by
     obtain⟨r,B,-,W⟩:=d i c;rw[kql c,kq5,B,kqj];exact W
    have s:∀i j,i<j->j<(fU ws b).length->((fU ws b)[i]?.getD 0).toNat<((fU ws b)[j]?.getD 0).toNat:=λi j H A=>by
     have z:=G i j (by omega) A H;have h2:=g i (by omega);have h3:=g j A;omega
    obtain⟨K,Y,O⟩:=Bq hM g l s _ (kqa _) o (by rw[kzf];exact u);rw[M,T];rw[<-R];refine⟨λi=>((fU ws b)[i]?.getD 0).toNat,by omega,X,Z,I,by omega,λi c=>⟨g i c,?_,l i c,O i c⟩,λj A=>?_,λe D=>?_,Y⟩
    .obtain ⟨r,B,e2,-⟩:=d i c;have:=g i c;rw[U];show (m:Int)<=((((fU ws b)[i]?.getD 0).toNat:Nat):Int);omega
    .refine aP o ws j λe D=>?_;obtain⟨i,E,F,-⟩:=K e D;have:=A i E;dsimp only at this;rw[F];omega
    obtain⟨i,E,F,L,k4⟩:=K e D;exact⟨_,F,l i E,L,k4⟩
end Go.Proofs.YtpcajamacpbjcaaGreat
