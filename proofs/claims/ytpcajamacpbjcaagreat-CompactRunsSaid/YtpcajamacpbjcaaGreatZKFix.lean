import Derived.Test.YtpcajamacpbjcaaGreatZKRch
import Derived.Test.YtpcajamacpbjcaaGreatZKMove
set_option maxHeartbeats 16000000
set_option maxRecDepth 100000
set_option linter.all false
namespace Go.Proofs.YtpcajamacpbjcaaGreat
variable {b:Bk}{a r:Int}{o:List En}{l:List Int}{G:List Nat}{g j k p:Nat}
open Go.Proofs.Tryz
def cn (G:List Nat):Int:=if ao G=0 then bh G 128 128 else ao G
def di (G:List Nat):List (Int × Int):=if cn G=0 then gQ G 128 128 else []
theorem cE(h:cn G=0):ao G=0/\bh G 128 128=0/\di G=gQ G 128 128:=by
 have a:ao G=0/\bh G 128 128=0:=by
  unfold cn at h;split at h
  .rename_i a;exact⟨a,h⟩
  rename_i a;exact absurd h a
 exact⟨a.1,a.2,by simp[di,h]⟩
theorem qQ:∀ {l:List (Int × Int)} {a t:Int},gq l a=some t->(a,t)∈l:=by
 intro l
 induction l with
 | nil=>intro a t h;cases h
 | cons m l b =>
  intro a t h;simp only[gq] at h;split at h
  .rename_i e;injection h with h;rw[<-e,<-h];simp
  exact kji _ (b h)
theorem yr(h:cn G=0){t:Int}(q:gq (di G) a=some t):∃n:Nat,t=(n:Int)/\128<=n/\n<G.length/\n<2048/\∃m:Nat,a=(m:Int)/\128<=m/\m<G.length:=by
 obtain⟨h1,k,u⟩:=cE h;rw[u] at q;obtain⟨p,e⟩:=kj8.1 (qQ q);have d:=(kzd.1 e).1;obtain⟨m,n,i,s,g3,-,-,-⟩:=xP k d;obtain⟨v,i2,l,w,i4,x⟩:=cu k;have hb:=lA v;have g:blocks G 128=some l:=w;have f:=pw (G:=G) (by omega) g (by omega) (by omega) (by omega);have b:(128:Int)<=oG l:=by
  unfold oG;split
  .omega
  rename_i hl;obtain⟨a0,c,-,e1,-⟩:=bN _ _ g (by omega) 0 (by omega);rw[bG l 0 (by omega),c,af];omega
 obtain⟨y,z,r⟩:=yh f b;rw[e] at i;injection i with i;injection i with g4 g5;rw[x] at d e;have e:=(kzd.1 e).2;have c:=(y p d).1;rw[e] at c;have hge:(128:Int)<=t:=by
  rcases kjc p with j|j
  .subst j;have:=r d;rw[e] at this;dsimp only at this;omega
  have o:=(z 0 p d j).1;have h6:=r (by omega);rw[e] at o;dsimp only at o;omega
 dsimp only at c;exact⟨n,g5,by omega,by omega,by omega,m,g4,s,by omega⟩
def ge (m:List (Int × Int)) (v:Nat):Option Int:=if 2048<v then none else gq m (v:Int)
def js (l:List Bk) (a:Int):Option Bk:=l.find? λb=>b.at_==a&&b.kind==1
def ky (l:List Bk) (a:Int) (k:Nat):Prop:=∀j,j<k->((gk l j).at_==a&&(gk l j).kind==1)=false
theorem pC(l:List Bk)(a:Int):ky l a 0:=λj h=>absurd h (by omega)
theorem pT{l:List Bk}(h:ky l a k)(c:((gk l k).at_==a&&(gk l k).kind==1)=false):ky l a (k+1):=λj hj=>by
 rcases kq8 j k with b|b
 .exact h j b
 .have:j=k:=(by omega);subst this;exact c
theorem Co:∀ {l:List Bk} {a:Int},ky l a l.length->js l a=none:=by
 intro l
 induction l with
 | nil=>intro a _;rfl
 | cons b l e =>intro a h;have c:(b.at_==a&&b.kind==1)=false:=h 0 (by simp);unfold js;rw[List.find?_cons,c];exact e λj d=>by have:=h (j+1) (by simpa using d);rwa [ji] at this
theorem IT:∀ {l:List Bk} {a:Int} {k:Nat},k<l.length->ky l a k->((gk l k).at_==a&&(gk l k).kind==1)=true->js l a=some (gk l k):=by
 intro l
 induction l with
 | nil=>intro a k h;simp at h
 | cons b l f =>
  intro a k e h c;cases k with
  | zero =>rw[ot] at c |-;unfold js;rw[List.find?_cons,c]
  | succ k =>have d:(b.at_==a&&b.kind==1)=false:=h 0 (by omega);unfold js;rw[List.find?_cons,d];rw[ji] at c |-;exact f (by simpa using e) (λj hj=>by have:=h (j+1) (by omega);rwa [ji] at this) c
def yk (G:List Nat) (a:Int):Bk:=(js (aS G 128) a).getD mt
def eH (G:List Nat) (a:Int):Int:=if (js (aS G 128) a).isSome then 0 else 6
theorem jY{l:List Bk}(h:js l a=some b):b∈l/\b.at_=a/\b.kind=1:=by unfold js at h;have c:=List.find?_some h;simp only[kqs,kqw] at c;exact⟨List.mem_of_find?_eq_some h,c.1,c.2⟩
def mi (F:List Nat) (a:Int) (j:Nat):List Int:=(List.range j).filterMap λ(i:Nat)=>if F[i]? = some 3 then some (a+2+(i:Int)) else none
theorem nt(F:List Nat)(a:Int)(j:Nat):mi F a (j+1)=mi F a j++(if F[j]? = some 3 then [a+2+(j:Int)] else []):=by unfold mi;rw[kkg,kvg];congr 1;simp only[kvp,kvw];split<;>simp_all
theorem lv(F:List Nat)(a:Int)(j:Nat):(mi F a j).length<=j:=by unfold mi;have:=kk0 (λ(i:Nat)=>if F[i]? = some 3 then some (a+2+(i:Int)) else none) (List.range j);rwa [kko] at this
theorem mT{F:List Nat}{x:Int}:x∈mi F a j↔∃i,i<j/\F[i]? = some 3/\x=a+2+(i:Int):=by
 unfold mi;rw[kjg];constructor
 .rintro ⟨i,c,b⟩;split at b
  .rename_i d;injection b with b;exact⟨i,kzn.1 c,d,b.symm⟩
  cases b
 rintro ⟨i,c,b,d⟩;exact⟨i,kzn.2 c,by rw[if_pos b,d]⟩
def s9 (G:List Nat) (b:Bk):List Nat:=bB (wd G (tyA b)) (wd G (tyA b+1))
def da (G:List Nat) (b:Bk):List Int:=mi (s9 G b) b.at_ (s9 G b).length
theorem vv(h:ao G=0)(j:js (aS G 128) a=some b):∃m:Nat,a=(m:Int)/\b=bkAt G m/\fG G m:=by obtain⟨d,f,g⟩:=jY j;rw[(gw h).2.1] at d;obtain⟨k,i,rfl⟩:=kqy d;obtain⟨m,c,e⟩:=ma h i g;exact⟨m,by rw[<-f,c];rfl,c,e⟩
def fV (G:List Nat) (m:List (Int × Int)) (r:Nat):Option (List En):=if wd G r=0 then some [] else match ge m (wd G r) with
 | none=>none
 | some t=>if (wd G r:Int)=t then some [] else some [⟨(r:Int),t.toNat⟩]
def cI (G:List Nat) (m:List (Int × Int)):List Int->Option (List En)
 | []=>some []
 | r::l=>match fV G m r.toNat with
  | none=>none
  | some x=>(cI G m l).map (x ++ ·)
theorem ip(G:List Nat)(m:List (Int × Int))(a b:List Int):cI G m (a++b)=match cI G m a with
 | none=>none
 | some x=>(cI G m b).map (x ++ ·):=by
 induction a with
 | nil=>simp[cI]
 | cons r a c =>
  simp only[kzq,cI];cases fV G m r.toNat with
  | none=>rfl
  | some x =>
   rw[c];cases cI G m a with
   | none=>rfl
   | some y =>
    cases cI G m b with
    | none=>rfl
    | some z=>simp
theorem kg{m:List (Int × Int)}(a:k<l.length)(h:cI G m (l.take k)=some o):cI G m (l.take (k+1))=(fV G m l[k].toNat).map (o ++ ·):=by rw[kqi a,ip,h];simp only[cI];cases fV G m l[k].toNat<;>simp
theorem zI{m:List (Int × Int)}(b:k<l.length)(h:cI G m (l.take k)=some o)(a:fV G m l[k].toNat=none):cI G m l=none:=by
 conv=>lhs;rw[<-kz6 (k+1) l]
 rw[ip,kg b h,a];rfl
theorem nw{m:List (Int × Int)}:∀ {l:List Int} {o:List En},cI G m l=some o->o.length<=l.length:=by
 intro l
 induction l with
 | nil=>intro o h;simp only[cI,Option.some.injEq] at h;subst h;simp
 | cons r l c =>
  intro o h;simp only[cI] at h;cases a:fV G m r.toNat with
  | none=>rw[a] at h;cases h
  | some x =>
   rw[a] at h;cases b:cI G m l with
   | none=>rw[b] at h;cases h
   | some y =>
    rw[b] at h;simp only[kzs,Option.some.injEq] at h;subst h;have h1:=c b;have h2:x.length<=1:=by
     unfold fV at a;split at a
     .injection a with a;subst a;simp
     split at a
     .cases a
     split at a<;>(injection a with a;subst a;simp)
    rw[kqu,kq4];omega
def cM (G:List Nat) (a:Int):Int:=if cn G=0 then (match js (aS G 128) a with
 | none=>6
 | some b=>if b.mark=true then (match cI G (di G) (da G b) with | none=>50 | some _=>0) else 6) else cn G
def cB (G:List Nat) (a:Int):List En:=if cn G=0 then (match js (aS G 128) a with
 | none=>[]
 | some b=>if b.mark=true then (cI G (di G) (da G b)).getD [] else []) else []
theorem AH(h:cn G=r)(b:r≠0):cM G a=r/\cB G a=[]:=by subst h;simp[cM,cB,b]
theorem qa(h:cn G=0)(b:js (aS G 128) a=none):cM G a=6/\cB G a=[]:=by simp[cM,cB,h,b]
theorem qw(h:cn G=0)(c:js (aS G 128) a=some b)(d:b.mark=false):cM G a=6/\cB G a=[]:=by simp[cM,cB,h,c,d]
theorem uz(h:cn G=0)(c:js (aS G 128) a=some b)(d:b.mark=true)(e:cI G (di G) (da G b)=none):cM G a=50/\cB G a=[]:=by simp[cM,cB,h,c,d,e]
theorem ym(h:cn G=0)(c:js (aS G 128) a=some b)(d:b.mark=true)(e:cI G (di G) (da G b)=some o):cM G a=0/\cB G a=o:=by simp[cM,cB,h,c,d,e]
def oT (G:List Nat) (a:Int):Int:=if ao G=0 then eH G a else ao G
def cm (G:List Nat) (a:Int):List Int:=if ao G=0 then (match js (aS G 128) a with | none=>[] | some b=>da G b) else []
def nP (s:Sl):Nat:=s.at_.toNat+s.gen.toNat*4294967296+(if s.used=true then 9223372036854775808 else 0)
def gp (G:List Nat) (m:List (Int × Int)) (i:Nat):Option (List En):=if (slAt G i).used=true then (match ge m (slAt G i).at_.toNat with
 | none=>none
 | some t=>if wd G (112+i)=nP ⟨(slAt G i).gen,true,t⟩ then some [] else some [⟨((112+i:Nat):Int),nP ⟨(slAt G i).gen,true,t⟩⟩]) else some []
def slFix (G:List Nat) (m:List (Int × Int)):Nat->Option (List En)
 | 0=>some []
 | k+1=>match slFix G m k with
  | none=>none
  | some o=>(gp G m k).map (o ++ ·)
theorem pp{m:List (Int × Int)}(h:slFix G m k=none):∀ {n:Nat},k<=n->slFix G m n=none:=by
 intro n
 induction n with
 | zero =>
  intro b;have:k=0:=(by omega);subst this;exact h
 | succ n c =>
  intro b;rcases kq8 n k with a|a
  .have:k=n+1:=(by omega);subst this;exact h
  simp only[slFix,c a]
theorem ox{m:List (Int × Int)}:∀ {k:Nat} {o:List En},slFix G m k=some o->o.length<=k:=by
 intro k
 induction k with
 | zero=>intro o h;simp only[slFix,Option.some.injEq] at h;subst h;simp
 | succ k c =>
  intro o h;simp only[slFix] at h;cases b:slFix G m k with
  | none=>rw[b] at h;cases h
  | some x =>
   rw[b] at h;cases a:gp G m k with
   | none=>rw[a] at h;cases h
   | some y =>
    rw[a] at h;simp only[kzs,Option.some.injEq] at h;subst h;have h1:=c b;have h2:y.length<=1:=by
     unfold gp at a;split at a
     .split at a
      .cases a
      split at a<;>(injection a with a;subst a;simp)
     injection a with a;subst a;simp
    rw[kqu];omega
def dh (G:List Nat):Int:=if cn G=0 then (if slsOk G=true then (match slFix G (di G) 16 with | none=>50 | some _=>0) else 50) else cn G
def dg (G:List Nat):List En:=if dh G=0 then (slFix G (di G) 16).getD [] else []
open Go.RowKit
theorem Cp(A:Option Addr)(m:List (Int × Int))(c n v:Nat)(w:World)(d:m.length=n)(b:n<=1000000)(j:v<18446744073709551616)(f:RdM w w.heap.size A m):
 Calls prog 256 #[.slice A n c,.int .u64 (v:Int)] w λe a=>e=.returned (.tuple #[.int .i64 ((ge m v).getD 0),.bool (ge m v).isSome])/\Below w.heap.size w a:=by
 have g:=y5 (λa=>fwTo_c A m c n w.heap.size a w d b f (kqa _));by_cases h:2048<v
 .have H:Hid (ge m v=none):=y5 (by simp[ge,h]);have i:decide ((2048:Int)<(v:Int))=true:=(by rw[kqh];omega);have a:decide (2048<v)=true:=by rw[kqh];exact h
  clear j f d b h;go_enter func256,ntmps256;go_wp2;go_ret2;exact⟨by rw[H.out];rfl,kqe _ _⟩
 have H:Hid (ge m v=gq m (v:Int)):=y5 (by simp[ge,h]);have i:decide ((2048:Int)<(v:Int))=false:=(by rw[kqb];omega);have a:decide (2048<v)=false:=by rw[kqb];exact h
 have hw:IntKind.i64.wrap (v:Int)=(v:Int):=kqo _ (by omega);have a:=y5 (g.out (v:Int));rw[<-H.out] at a;obtain⟨q,i⟩:=xq (ge m v);rw[i] at a |-;clear j f d b h i g H;go_enter func256,ntmps256;go_wp2_with fail;refine a.out.mono ?_;rintro e w1 ⟨rfl,b⟩;go_wp2;go_ret2;exact⟨rfl,b⟩
def IE (G:List Nat) (e:Ending) (w':World):Prop:=∃A c,e=.returned (.tuple #[.slice A (di G).length c,.int .i64 (cn G)])/\RdM w' w'.heap.size A (di G)/\(di G).length<=c
theorem uH(A:Option Addr)(G:List Nat)(c n:Nat)(w:World)(d:G.length=n)(a:n<=9223372036854775807)(g:RdW w w.heap.size A G)(f:∀x∈G,x<2^64):
 Calls prog 255 #[.slice A n c] w λe b=>IE G e b/\Below w.heap.size w b:=by
 obtain⟨t,b,i⟩:=yq1 g (mN A G c n w d a g f) (λW (h:RdW W W.heap.size A G)=>ql A G c n 128 128 W d a (by omega) (by omega) h f);unfold xh at i;clear g f d a;by_cases f:ao G=0
 .have d:Hid (cn G=bh G 128 128/\di G=gQ G 128 128):=y5 (by
   have j:cn G=bh G 128 128:=by simp[cn,f]
   refine⟨j,?_⟩;unfold di;rw[j];split
   .rfl
   rename_i h2;simp[gQ,h2])
  rw[f] at b;clear f;go_enter func255,ntmps255;go_wp2_with fail;refine b.out.mono ?_;rintro e v ⟨rfl,a⟩;have h:=y5 a;have r:=yq9 t a;clear a;go_wp2_with fail;refine (i.out _ r.out).mono ?_;rintro e w2 ⟨⟨s,u,rfl,m,l⟩,k⟩;have o:=yq7 h k;obtain⟨q,p⟩:=yq0 m l;clear k m l;go_wp2;go_ret2;exact⟨⟨s,u,by rw[d.out.1,d.out.2];rfl,by rw[d.out.2];exact q.out,by rw[d.out.2];exact p.out⟩,o.out⟩
 obtain⟨r,g⟩:=xq (ao G);have d:Hid (cn G=r/\di G=[]):=y5 (by
  have j:cn G=r:=by unfold cn;rw[if_neg f,g]
  exact⟨j,by unfold di;rw[j,if_neg (by rw[<-g];exact f)]⟩)
 rw[g] at b f;have hrn:(r != 0)=true:=by rw[kqx];exact f
 clear f g;go_enter func255,ntmps255;go_wp2_with fail;refine b.out.mono ?_;rintro e v ⟨rfl,a⟩;go_wp2;go_ret2;exact⟨⟨none,0,by rw[d.out.1,d.out.2];rfl,by rw[d.out.2];exact Rd.nil_,by rw[d.out.2];exact kqa _⟩,a⟩
theorem JI{a:Nat}(b:a<4294967296)(hg:g<2147483648):bits BinOp.or .u64 (a:Int) ((g:Int)*4294967296)=((a+g*4294967296:Nat):Int) /\
 bits BinOp.or .u64 ((a+g*4294967296:Nat):Int) 9223372036854775808=((a+g*4294967296+9223372036854775808:Nat):Int):=by
 refine⟨or32 b (by omega),?_⟩;have h:=u64_or_nat (a+g*4294967296) 9223372036854775808 (by omega) (by omega);have e:(a+g*4294967296) ||| 9223372036854775808=a+g*4294967296+9223372036854775808:=by rw[show (9223372036854775808:Nat)=1*2 ^ 63 by decide,kw (i:=63) (by omega)]
 rw[e] at h;exact h
theorem CI{a q:Nat}(b:a+g*4294967296=p)(c:p+9223372036854775808=q):nP ⟨(g:Int),true,(a:Int)⟩=q:=by unfold nP;dsimp only;rw[kqf,kqf,if_pos rfl,b,c]
theorem yT{a:Nat}(b:a+g*4294967296=p):nP ⟨(g:Int),false,(a:Int)⟩=p:=by unfold nP;dsimp only;rw[kqf,kqf,if_neg (by simp),b,kxb]
theorem Eu(g a p:Nat)(w:World)(d:g<2147483648)(c:a<4294967296)(o1:bits BinOp.or .u64 (a:Int) ((g:Int)*4294967296)=(p:Int)):
 Calls prog 285 #[.agg #[.int .i64 (g:Int),.bool false,.int .i64 (a:Int)]] w λe b=>e=.returned (.int .u64 (p:Int))/\Below w.heap.size w b:=by have hw1:IntKind.u64.wrap (a:Int)=(a:Int):=kzi _ (by omega);have hw2:IntKind.u64.wrap (g:Int)=(g:Int):=kzi _ (by omega);have hw3:IntKind.u64.wrap ((g:Int)*4294967296)=(g:Int)*4294967296:=kzi _ (by omega);have b:=y5 ((kqe w.heap.size w).alloc (kqa _) (.cells #[.int .i64 (g:Int),.bool false,.int .i64 (a:Int)] 52));clear c d;go_enter func285,ntmps285;go_wp2;go_ret;exact⟨rfl,b.out⟩
theorem FH(g a p q:Nat)(w:World)(d:g<2147483648)(c:a<4294967296)(o1:bits BinOp.or .u64 (a:Int) ((g:Int)*4294967296)=(p:Int))(o2:bits BinOp.or .u64 (p:Int) 9223372036854775808=(q:Int)):
 Calls prog 285 #[.agg #[.int .i64 (g:Int),.bool true,.int .i64 (a:Int)]] w λe b=>e=.returned (.int .u64 (q:Int))/\Below w.heap.size w b:=by have hw1:IntKind.u64.wrap (a:Int)=(a:Int):=kzi _ (by omega);have hw2:IntKind.u64.wrap (g:Int)=(g:Int):=kzi _ (by omega);have hw3:IntKind.u64.wrap ((g:Int)*4294967296)=(g:Int)*4294967296:=kzi _ (by omega);have b:=y5 ((kqe w.heap.size w).alloc (kqa _) (.cells #[.int .i64 (g:Int),.bool true,.int .i64 (a:Int)] 52));clear c d;go_enter func285,ntmps285;go_wp2;go_ret;exact⟨rfl,b.out⟩
theorem Hf(g a:Nat)(u:Bool)(w:World)(c:g<2147483648)(b:a<4294967296):
 Calls prog 285 #[.agg #[.int .i64 (g:Int),.bool u,.int .i64 (a:Int)]] w λe d=>e=.returned (.int .u64 (nP ⟨(g:Int),u,(a:Int)⟩:Nat))/\Below w.heap.size w d:=by
 obtain⟨e,f⟩:=JI b c;obtain⟨p,d⟩:=xq (a+g*4294967296);rw[d] at e f;obtain⟨q,h⟩:=xq (p+9223372036854775808);rw[h] at f;cases u
 .rw[yT d];exact Eu g a p w c b e
 rw[CI d h];exact FH g a p q w c b e f
theorem IL(g a:Nat)(u:Bool)(w:World)(l:g<2147483648)(k:a<4294967296)(b:my ⟨(g:Int),u,(a:Int)⟩=true):
 Calls prog 257 #[.agg #[.int .i64 (g:Int),.bool u,.int .i64 (a:Int)]] w λe c=>e=.returned (.tuple #[.int .u64 (nP ⟨(g:Int),u,(a:Int)⟩:Nat),.int .i64 0])/\Below w.heap.size w c:=by have f:=y5 (λW=>vO (g:Int) u (a:Int) W (by omega) (by omega));rw[b] at f;have d:=y5 (λW=>Hf g a u W l k);have c:=Bx.new w 52 #[.int .i64 (g:Int),.bool u,.int .i64 (a:Int)];obtain⟨i,j⟩:=yq0 c ((kqe w.heap.size w).alloc (kqa _) (.cells #[.int .i64 (g:Int),.bool u,.int .i64 (a:Int)] 52));obtain⟨V,h⟩:∃V,nP ⟨(g:Int),u,(a:Int)⟩=V:=⟨_,rfl⟩;rw[h] at d |-;clear c h b l k;go_enter func257,ntmps257;go_wp2_with fail;refine (f.out _).mono ?_;rintro e w1 ⟨rfl,b⟩;have h:=i.out.up b i.out.lt;obtain⟨p0,p1,p2,-⟩:=h.c3;have c:=yq7 j b;clear b h;go_wp2_with fail;refine (d.out _).mono ?_;rintro e w2 ⟨rfl,b⟩;go_wp2;go_ret2;exact⟨rfl,c.out.trans (b.mono c.out.size)⟩
theorem zx(A:Option Addr)(G:List Nat)(c n:Nat)(a:Int)(w:World)(j:G.length=n)(i:n<=9223372036854775807)(o:RdW w w.heap.size A G)(m:∀x∈G,x<2^64):
 Calls prog 258 #[.slice A n c,.int .i64 a] w λe b=>e=.returned (.tuple #[(yk G a).val,.int .i64 (eH G a)])/\Below w.heap.size w b:=by
 have f:=y5 (ml A G c n 128 (w.alloc (.cells #[.int .i64 0,.int .i64 0,.int .i64 0,.int .i64 0,.bool false,.int .u64 0] 55)) j i ((o.alloc (kqa _) _).more (by simp)) m);unfold qV at f;rw[kqm] at f;have F:=iP G 128;have N:Hid (ky (aS G 128) a (aS G 128).length->yk G a=mt/\eH G a=6):=y5 λh=>by simp[yk,eH,Co h]
 have O:Hid (∀k,k<(aS G 128).length->ky (aS G 128) a k->((gk (aS G 128) k).at_==a&&(gk (aS G 128) k).kind==1)=true->yk G a=gk (aS G 128) k/\eH G a=0):=y5 λk b g l=>by simp[yk,eH,IT b g l]
 obtain⟨l,g⟩:=xq (aS G 128);obtain⟨r,b⟩:=xq (cp G 128);rw[g,b] at f;rw[g] at F N O;have E:=mM;clear g b o m j i;go_enter func258,ntmps258;go_wp2_with fail;refine f.out.mono ?_;rintro e X ⟨⟨A1,c1,rfl,i,-⟩,b⟩;have g:=az b;have H:=g.size;have P:=y5 (Bx.of_new b);have I:=P.out.lt;obtain⟨L,B⟩:=yq0 i g;clear i b g;go_wp2_with fail;go_loopw [17] (λi wr=>∃k:Nat,k<=l.length/\i=.int .i64 k/\Hid (ky l a k)/\Below X.heap.size X wr) (λi _=>l.length-(intOf i).toNat)
 case atStart=>exact⟨0,kqv _,rfl,pC l a,kqe _ _⟩
 obtain⟨k,hk,rfl,o,p⟩:=hrel;have M:=p.size;have m:=y5 (P.out.up p I);by_cases q:k<l.length
 .obtain ⟨b,off,rfl,hbw,R,S,T,U,V,W⟩:=RdB.at_ (L.out.below p) q;obtain⟨g,e⟩:=yq0 (λh=>pT o.out h) (λh=>O.out k q o.out h);rw[bG l k q] at g e;obtain⟨x,h⟩:=xq (l[k]);rw[h] at R S T U V W g e;obtain⟨i,u,j,y,s,t⟩:=x;dsimp only at R S T U V W g;have hlm:(k:Int)<(l.length:Int):=(by omega);clear h;obtain⟨Z,e1⟩:=xq ((i==a));obtain⟨d2,Q⟩:=xq ((j==1));dsimp only at e;rw[e1,Q] at g e;cases Z
  .have h:=y5 (g.out rfl);clear g e Q;go_wp2;go_roundw;exact⟨k+1,by omega,by go_num,h.out,p.alloc M _⟩;simp[intOf];omega
  cases d2
  .have h:=y5 (g.out rfl);clear g e;go_wp2;go_roundw;exact⟨k+1,by omega,by go_num,h.out,p.alloc M _⟩;simp[intOf];omega
  obtain⟨D,h,C,z⟩:=yq2 (e.out rfl) (Bx.new wr 55 #[.int .i64 i,.int .i64 u,.int .i64 j,.int .i64 y,.bool s,.int .u64 (t:Int)]) (p.alloc M (.cells #[.int .i64 i,.int .i64 u,.int .i64 j,.int .i64 y,.bool s,.int .u64 (t:Int)] 55)) (m.out.alloc (.cells #[.int .i64 i,.int .i64 u,.int .i64 j,.int .i64 y,.bool s,.int .u64 (t:Int)] 55));clear g e;go_upto_region 6 with (fail);obtain⟨Y,e⟩:∃Y,wr.alloc (.cells #[.int .i64 i,.int .i64 u,.int .i64 j,.int .i64 y,.bool s,.int .u64 (t:Int)] 55)=Y:=⟨_,rfl⟩;rw[e] at h z C |-;clear e;go_wp2_with (first
   | ((with_reducible refine av 55 (.tmp 9) ?_);refine kz7 rfl _ _ rfl wr.heap.size (by rfl) 55 #[.int .i64 i,.int .i64 u,.int .i64 j,.int .i64 y,.bool s,.int .u64 (t:Int)] (0,0) _ h.out underlying55 (by rfl) E ?_)
   | ((with_reducible refine aj 55 (.tmp 4) _ ?_);refine ai rfl _ _ _ rfl w.heap.size 55 #[.int .i64 0,.int .i64 0,.int .i64 0,.int .i64 0,.bool false,.int .u64 0] #[.int .i64 i,.int .i64 u,.int .i64 j,.int .i64 y,.bool s,.int .u64 (t:Int)] (by rfl) (by rfl) z.out rfl E (nO _ _ _ _ _ _) ?_;intro w3 g e;have K:=y5 g;have J:=y5 e;clear g e))
  exact kqq (v:=.tuple #[.agg #[.int .i64 i,.int .i64 u,.int .i64 j,.int .i64 y,.bool s,.int .u64 (t:Int)],.int .i64 0]) (aX results258 _ K.out rfl rfl) rfl ⟨by rw[D.out.1,D.out.2];rfl,J.out.below (B.out.trans (C.out.mono H)) (kqa _)⟩
 obtain⟨D,e⟩:=yq0 (N.out (by have:=o.out;rwa [show k=l.length by omega] at this)) (B.out.trans (p.mono H));obtain⟨x0,x1,x2,x3,x4,x5,b,hgl⟩:=m.out.c6;have f0:=b 0;have f1:=b 1;have f2:=b 2;have f3:=b 3;have f4:=b 4;have f5:=b 5;clear b;go_wp2_with fail;exact kqq (v:=.tuple #[.agg #[.int .i64 0,.int .i64 0,.int .i64 0,.int .i64 0,.bool false,.int .u64 0],.int .i64 6]) (aX results258 _ (l8 m.out _ _ _ _ _ _) rfl rfl) rfl ⟨by rw[D.out.1,D.out.2];rfl,fS e.out (kqa _) _ _ _ _ _ _⟩
theorem vg(A:Option Addr)(G:List Nat)(c n t a:Nat)(xs l:Int)(o:Bool)(q:Nat)(w:World)(d:G.length=n)(hm:n<=1000000)(h2:256<=n)(Q:t<8)(hxa:a<=1000000)(H:RdW w w.heap.size A G)(D:∀x∈G,x<2^64):
 Calls prog 259 #[.slice A n c,.agg #[.int .i64 (a:Int),.int .i64 xs,.int .i64 l,.int .i64 (t:Int),.bool o,.int .u64 (q:Int)]] w λe b=>(∃A' c',e=.returned (.slice A' (da G ⟨(a:Int),xs,l,(t:Int),o,q⟩).length c')/\RdI b b.heap.size A' (da G ⟨(a:Int),xs,l,(t:Int),o,q⟩)/\(da G ⟨(a:Int),xs,l,(t:Int),o,q⟩).length<=c')/\Below w.heap.size w b:=by
 subst d;have J:=fH D (96+2*t);have K:=fH D (96+2*t+1);have E:=y5 (λW=>qs (wd G (96+2*t)) (wd G (96+2*t+1)) W J K);unfold Ff at E;have s:=ke (wd G (96+2*t)) (wd G (96+2*t+1));have b:da G ⟨(a:Int),xs,l,(t:Int),o,q⟩=mi (bB (wd G (96+2*t)) (wd G (96+2*t+1))) (a:Int) (bB (wd G (96+2*t)) (wd G (96+2*t+1))).length:=rfl;rw[b];clear b;obtain⟨b,g,rfl,V,f⟩:=RdW.at_ H (show 96+2*t<G.length by omega);obtain⟨b',off',e',-,h⟩:=RdW.at_ H (show 96+2*t+1<G.length by omega);cases e';rw[<-bY] at f h;obtain⟨x,m⟩:=xq (wd G (96+2*t));obtain⟨y,u⟩:=xq (wd G (96+2*t+1));rw[m] at f E s |-;rw[u] at h E s |-;obtain⟨F,C⟩:=xq (bB x y);obtain⟨r,i⟩:=xq (ff x y);rw[C,i] at E;rw[C] at s |-;obtain⟨M,L⟩:=yq0 (λj=>nt F (a:Int) j) (λj=>lv F (a:Int) j);have t0:(0:Int)<=(t:Int):=(by omega);have t8:(t:Int)<8:=(by omega);have w1:IntKind.i64.wrap (2*(t:Int))=2*(t:Int):=kqo _ (by omega);have w2:IntKind.i64.wrap (96+2*(t:Int))=96+2*(t:Int):=kqo _ (by omega);have w3:IntKind.i64.wrap (96+2*(t:Int)+1)=96+2*(t:Int)+1:=kqo _ (by omega);have wa:IntKind.i64.wrap ((a:Int)+2)=(a:Int)+2:=kqo _ (by omega);have i1:(0:Int)<=96+2*(t:Int):=(by omega);have i2:(96:Int)+2*(t:Int)<(G.length:Int):=(by omega);have i3:(0:Int)<=96+2*(t:Int)+1:=(by omega);have i4:(96:Int)+2*(t:Int)+1<(G.length:Int):=(by omega);have n1:((96:Int)+2*(t:Int)).toNat=96+2*t:=(by omega);have n2:((96:Int)+2*(t:Int)+1).toNat=96+2*t+1:=(by omega);have B:=Bx.new w 55 #[.int .i64 (a:Int),.int .i64 xs,.int .i64 l,.int .i64 (t:Int),.bool o,.int .u64 (q:Int)];have d:=(kqe w.heap.size w).alloc (kqa _) (.cells #[.int .i64 (a:Int),.int .i64 xs,.int .i64 l,.int .i64 (t:Int),.bool o,.int .u64 (q:Int)] 55);replace f:=(d.cell (p:=⟨b,g+(96+2*t),none⟩) V).trans f;replace h:=(d.cell (p:=⟨b,g+(96+2*t+1),none⟩) V).trans h;have k:(w.alloc (.cells #[.int .i64 (a:Int),.int .i64 xs,.int .i64 l,.int .i64 (t:Int),.bool o,.int .u64 (q:Int)] 55)).heap.size=w.heap.size+1:=(by simp);obtain⟨i0,I,j,v,z⟩:=kzh nH;obtain⟨Z,N,O,P⟩:=yq2 I j v z;clear I j v z;clear H J K m u D Q C i;go_enter func259,ntmps259;go_wp2_with fail;obtain⟨j,i⟩:∃j,w.alloc (.cells #[.int .i64 (a:Int),.int .i64 xs,.int .i64 l,.int .i64 (t:Int),.bool o,.int .u64 (q:Int)] 55)=j:=⟨_,rfl⟩;rw[i] at f h B d k |-;clear i;have m:j.cell? ⟨w.heap.size,3,none⟩=some (.int .i64 (t:Int)):=B.cell 3;have H:b<j.heap.size:=(by omega);have I:w.heap.size<j.heap.size:=(by omega);obtain⟨Y,D⟩:=yq0 B d;clear B d k
 go_region_held3 (λX:World=>X.cell? ⟨b,g+(96+2*t),none⟩=some (.int .u64 (x:Int))/\X.cell? ⟨b,g+(96+2*t+1),none⟩=some (.int .u64 (y:Int))/\X.cell? ⟨w.heap.size,3,none⟩=some (.int .i64 (t:Int))) (go_keep)
  (first | (go_at_call 117;refine (E.out _).mono ?_;rintro e z ⟨⟨W,c1,rfl,k,-⟩,d⟩;have u:=(d.cell (p:=⟨b,g+(96+2*t),none⟩) H).trans f;have J:=(d.cell (p:=⟨b,g+(96+2*t+1),none⟩) H).trans h;have Q:=(d.cell (p:=⟨w.heap.size,3,none⟩) I).trans m;have K:=y5 k;have i:Below j.heap.size j z:=(kqe j.heap.size j).drew.trans d;have B:=y5 (Y.out.up i I);have C:=yq7 D i;clear k d i))
 have U:=C.out.size;clear u J Q f h m;go_wp2_with fail;go_loopw [7,31] (λv i wr=>∃k:Nat,k<=F.length/\i=.int .i64 k/\wr.ownsRow z.heap.size 3 1 v (mi F (a:Int) k).length ((mi F (a:Int) k).flatMap aV)/\Below z.heap.size z wr) (λ_ i _=>F.length-(intOf i).toNat)
 case atStart=>exact⟨0,kqv _,rfl,kq3 _ _ _ _,kqe _ _⟩
 obtain⟨k,hk,rfl,d,u⟩:=hrel;have hz:=u.size;by_cases v:k<F.length
 .obtain ⟨bF,oF,rfl,hbF,y0⟩:=RdY.at_ (show RdY wr z.heap.size W F from Rd.below K.out u) v;have f:=B.out.up u B.out.lt;have Q:=f.cell 0;have hgr:=f.lt;have e:=y5 (M.out k);have T:=L.out k;rw[kqg v] at e;obtain⟨i,h⟩:=xq (F[k]);obtain⟨m,J⟩:∃m,mi F (a:Int) k=m:=⟨_,rfl⟩;rw[h] at y0 e;rw[J] at d e T;have p0':wr.cell? ⟨w.heap.size,0,none⟩=some (.int .i64 (a:Int)):=Q;have hki:(k:Int)<(F.length:Int):=(by omega);have hwk:IntKind.i64.wrap ((a:Int)+2+(k:Int))=(a:Int)+2+(k:Int):=kqo _ (by omega);clear h J f Q;by_cases f:i=3
  .have X:((i:Int)==3)=true:=(by rw[kqw];omega);have Q:(i==3)=true:=by rw[kqw];exact f
   have J:=y5 (show mi F (a:Int) (k+1)=m++[(a:Int)+2+(k:Int)] by rw[e.out,if_pos (by rw[f])]);clear f e;go_wp2_with (at_builtin;refine kq7 _ rfl _ _ 42 rfl z.heap.size 3 i0 _ 1 8 underlying42 Z.out N.out O.out P.out rfl (by decide) _ _ _ rfl (d.alloc _) ⟨_,0,none⟩ 1 1 [.int .i64 ((a:Int)+2+(k:Int))] rfl rfl (bc _ _ _) (by simp[Value.oneCell']) (by unfold maxLen;omega) (by omega) (by simp;omega) ?_;intro v1 w6 h S _;have R:=ay u hz d S);go_roundw;exact⟨k+1,by omega,by go_num,by rw[J.out,kqu,ce];exact h,R⟩;simp[intOf];omega
  have X:((i:Int)==3)=false:=(by rw[kqc];omega);have Q:(i==3)=false:=by rw[kqc];exact f
  have J:=y5 (show mi F (a:Int) (k+1)=m by rw[e.out,if_neg (λh=>f (Option.some.inj h)),kzf]);clear f e;go_wp2;go_roundw;exact⟨k+1,by omega,by go_num,by rw[J.out];exact d,u⟩;simp[intOf];omega
 obtain rfl:k=F.length:=(by omega);obtain⟨m,z,rfl,h,e⟩:=kI d;obtain⟨f,i⟩:=yq0 e h;clear e d h;go_wp2;go_ret;exact⟨⟨m,z,rfl,f.out,i.out⟩,C.out.trans (u.mono U)⟩
theorem oa(h:ao G=0)(p:js (aS G 128) a=some b):∃(m t:Nat) (xs xk:Int) (xm:Bool) (xn:Nat),a=(m:Int)/\b=⟨(m:Int),xs,xk,(t:Int),xm,xn⟩/\t<8/\fG G m/\m<G.length /\
 (da G b).length<=8/\∀k (e:k<(da G b).length),∃r:Nat,(da G b)[k]=(r:Int)/\m<=r/\r<G.length:=by
 obtain⟨m,o,d,c⟩:=vv h p;have g:wd G m/512%128<8:=by have h7:=(bC _).1 (gl c.2.2.2.1);have h5:=c.2.2.2.2.1;have h6:(aq (wd G m)).typ=((wd G m/512%128:Nat):Int):=rfl;omega
 have j:s9 G b=flds G m:=by rw[d];rfl
 refine⟨m,wd G m/512%128,(bkAt G m).size,(bkAt G m).kind,(bkAt G m).mark,(bkAt G m).next,o,d,g,c,c.2.2.1,?_,λk e=>?_⟩
 .have f:=lv (s9 G b) b.at_ (s9 G b).length;have h2:=ud G m;unfold da;rw[j] at f |-;omega
 have l:=kqp e;unfold da at l;obtain⟨i,n,i2,q⟩:=mT.1 l;rw[j] at n;have f:=nk c n;have e:b.at_=(m:Int):=by rw[d];rfl
 refine⟨m+2+i,?_,by omega,f⟩;have:(da G b)[k]=b.at_+2+(i:Int):=q;rw[this,e];omega
def RsRes (G:List Nat) (a:Int) (e:Ending) (w':World):Prop:=∃A c,e=.returned (.tuple #[.slice A (cm G a).length c,.int .i64 (oT G a)])/\RdI w' w'.heap.size A (cm G a)/\(cm G a).length<=c
theorem xy(A:Option Addr)(G:List Nat)(c n:Nat)(a:Int)(w:World)(f:G.length=n)(D:n<=9223372036854775807)(s:RdW w w.heap.size A G)(b:∀x∈G,x<2^64):
 Calls prog 208 #[.slice A n c,.int .i64 a] w λe d=>RsRes G a e d/\Below w.heap.size w d:=by
 subst f;obtain⟨z,o,f,L⟩:=yq2 s (mN A G c G.length w rfl D s b) (λW (h:RdW W W.heap.size A G)=>zx A G c G.length a W rfl D h b) b;clear s b;by_cases k:ao G=0
 .rw[k] at o;cases g:js (aS G 128) a with
  | none =>have i:Hid (oT G a=6/\cm G a=[]):=y5 (by simp[oT,cm,eH,k,g]);rw[show yk G a=mt by simp[yk,g],show eH G a=6 by simp[eH,g]] at f;unfold mt Bk.val at f;simp only[kq1] at f;clear k g;go_enter func208,ntmps208;go_wp2_with fail;refine o.out.mono ?_;rintro e E ⟨rfl,d⟩;have l:=y5 d;have q:=yq9 z d;clear d;go_wp2_with fail;refine (f.out _ q.out).mono ?_;rintro e N ⟨rfl,p⟩;have j:=l.out.trans (p.mono l.out.size);go_wp2;go_ret2;exact⟨⟨none,0,by rw[i.out.1,i.out.2];rfl,by rw[i.out.2];exact Rd.nil_,by rw[i.out.2];exact kqa _⟩,j.alloc j.size _⟩
  | some b =>
   obtain⟨m,t,J,F,H,I,r,y,v,u,C,-,-⟩:=oa k g;subst r;have B:=dA G (ax k).1;have i:Hid (oT G (m:Int)=0/\cm G (m:Int)=da G b):=y5 (by simp[oT,cm,eH,k,g]);rw[show yk G (m:Int)=b by simp[yk,g],show eH G (m:Int)=0 by simp[eH,g]] at f;have r:=y5 (λW (h:RdW W W.heap.size A G)=>vg A G c G.length t m J F H I W rfl (by omega) (by omega) v (by omega) h L.out);rw[<-y] at r;obtain⟨R,h⟩:=xq (da G b);rw[h] at r i;rw[y] at f;unfold Bk.val at f;dsimp only at f;clear k g y v u C B h;go_enter func208,ntmps208;go_wp2_with fail;refine o.out.mono ?_;rintro e E ⟨rfl,d⟩;have l:=y5 d;have q:=yq9 z d;clear d;go_wp2_with fail;refine (f.out _ q.out).mono ?_;rintro e N ⟨rfl,p⟩;have j:=l.out.trans (p.mono l.out.size);have h:=y5 (j.alloc j.size (.cells #[.int .i64 (m:Int),.int .i64 J,.int .i64 F,.int .i64 (t:Int),.bool H,.int .u64 (I:Int)] 55));have B:=y5 (yq8 z h);clear p j;go_wp2_with fail;refine (r.out _ B.out).mono ?_;rintro e w3 ⟨⟨K,M,rfl,j,u⟩,p⟩;obtain⟨C,y⟩:=yq0 j u;have v:=yq7 h p;clear j u p;go_wp2;go_ret2;exact⟨⟨K,M,by rw[i.out.1,i.out.2];rfl,by rw[i.out.2];exact C.out,by rw[i.out.2];exact y.out⟩,v.out⟩
 obtain⟨r,s⟩:=xq (ao G);have i:Hid (oT G a=r/\cm G a=[]):=y5 ⟨by unfold oT;rw[if_neg k,s],by unfold cm;rw[if_neg k]⟩;rw[s] at o k;have hrn:(r != 0)=true:=by rw[kqx];exact k
 clear k s;go_enter func208,ntmps208;go_wp2_with fail;refine o.out.mono ?_;rintro e E ⟨rfl,d⟩;go_wp2;go_ret2;exact⟨⟨none,0,by rw[i.out.1,i.out.2];rfl,by rw[i.out.2];exact Rd.nil_,by rw[i.out.2];exact kqa _⟩,d⟩
theorem uC(G:List Nat):(di G).length<=2048:=by
 unfold di;split
 .exact FB G 128 128
 simp
theorem tB(A:Option Addr)(G:List Nat)(c n:Nat)(a:Int)(w:World)(f:G.length=n)(hm:n<=9223372036854775807)(N:RdW w w.heap.size A G)(b:∀x∈G,x<2^64):
 Calls prog 209 #[.slice A n c,.int .i64 a] w λe d=>ey w.heap.size (cM G a) (cB G a) e d/\Below w.heap.size w d:=by
 subst f;obtain⟨HR,l⟩:=yq0 N (uH A G c G.length w rfl hm N b);unfold IE at l;obtain⟨g,HO⟩:=yq0 (λW (h:RdW W W.heap.size A G)=>zx A G c G.length a W rfl hm h b) b;clear N b;by_cases E:cn G=0
 .obtain ⟨Kn,-,-⟩:=cE E;rw[E] at l;have Kg:=uC G;cases j:js (aS G 128) a with
  | none =>have I:=y5 (qa E j);rw[show yk G a=mt by simp[yk,j],show eH G a=6 by simp[eH,j]] at g;unfold mt Bk.val at g;simp only[kq1] at g;obtain⟨q,hq⟩:=xq ((di G).length);rw[hq] at l;clear E j hq Kg;go_enter func209,ntmps209;go_wp2_with fail;refine l.out.mono ?_;rintro e w1 ⟨⟨A1,c1,rfl,-,-⟩,d⟩;have B:=y5 d;have J:=yq9 HR d;clear d;go_wp2_with fail;refine (g.out _ J.out).mono ?_;rintro e w2 ⟨rfl,C⟩;have z:=B.out.trans (C.mono B.out.size);go_wp2;go_ret2;exact⟨bZ I.out.1 I.out.2,z.alloc z.size _⟩
  | some b =>
   obtain⟨m,t,xs,xk,xm,xn,f,eb,Kh,Z,Y,Km,K⟩:=oa Kn j;subst f;have Kf:=dA G (ax Kn).1;rw[show yk G (m:Int)=b by simp[yk,j],show eH G (m:Int)=0 by simp[eH,j]] at g;have L:b.mark=xm:=by rw[eb]
   cases X:xm with
   | false =>have I:=y5 (qw E j (by rw[L,X]));rw[eb,X] at g;unfold Bk.val at g;dsimp only at g;obtain⟨q,hq⟩:=xq ((di G).length);rw[hq] at l;clear E j eb Kh Z Y Kf Km K hq Kg L X;go_enter func209,ntmps209;go_wp2_with fail;refine l.out.mono ?_;rintro e w1 ⟨⟨A1,c1,rfl,-,-⟩,d⟩;have B:=y5 d;have J:=yq9 HR d;clear d;go_wp2_with fail;refine (g.out _ J.out).mono ?_;rintro e w2 ⟨rfl,C⟩;have z:=B.out.trans (C.mono B.out.size);go_wp2;go_ret2;exact⟨bZ I.out.1 I.out.2,z.alloc z.size _⟩
   | true =>
    subst X;have Kc:=y5 (λW (h:RdW W W.heap.size A G)=>vg A G c G.length t m xs xk true xn W rfl (by omega) (by omega) Kh (by omega) h HO.out);rw[<-eb] at Kc;obtain⟨Eq,Kb,Kl,Kj⟩:=yq2 (λf=>uz E j L f) (λo f=>ym E j L (o:=o) f) (λx y h=>yr E (a:=x) (t:=y) h) (λA1 c1 (v:Nat) W (hv:v<18446744073709551616) (h:RdM W W.heap.size A1 (di G))=>Cp A1 (di G) c1 (di G).length v W rfl (by omega) hv h);have Kk:Hid (∀v t,ge (di G) v=some t->gq (di G) (v:Int)=some t):=y5 λv t h=>by
     unfold ge at h;split at h
     .cases h
     exact h
    have W:Hid (∀r,fV G (di G) r=if wd G r=0 then some [] else match ge (di G) (wd G r) with
     | none=>none
     | some t=>if (wd G r:Int)=t then some [] else some [⟨(r:Int),t.toNat⟩]):=y5 λr=>rfl
    obtain⟨Ke,Kd,Ka⟩:=yq1 (λk (hk:k<(da G b).length) o h=>kg (G:=G) (m:=di G) hk (o:=o) h) (λk (hk:k<(da G b).length) o h f=>zI (G:=G) (m:=di G) hk (o:=o) h f) (λk o (h:cI G (di G) ((da G b).take k)=some o)=>nw h);obtain⟨R,s⟩:=xq (da G b);rw[s] at Kc Eq Kb Ke Kd Ka Km;have Kv:Hid (∀k (hk:k<R.length),∃r:Nat,R[k]=(r:Int)/\m<=r/\r<G.length):=y5 (by subst s;exact K);obtain⟨M,u⟩:=xq (di G);rw[u] at l Eq Kb Kl Kj Kk W Ke Kd Ka Kg;rw[eb] at g;unfold Bk.val at g;dsimp only at g;have hlen:=Kf.2.1;obtain⟨i0,x,f,h,i⟩:=kzh bE;obtain⟨HI,Ky,Kz,La⟩:=yq2 x f h i;clear x f h i;clear E j eb Kh Z Y Kf s K u L;go_enter func209,ntmps209;go_wp2_with fail;refine l.out.mono ?_;rintro e w1 ⟨⟨A1,c1,rfl,f,-⟩,d⟩;have B:=y5 d;have J:=yq9 HR d;have Kp:=y5 f;clear d f;go_wp2_with fail;refine (g.out _ J.out).mono ?_;rintro e w2 ⟨rfl,C⟩;have z:=B.out.trans (C.mono B.out.size);have Q:=y5 (z.alloc z.size (.cells #[.int .i64 (m:Int),.int .i64 xs,.int .i64 xk,.int .i64 (t:Int),.bool true,.int .u64 (xn:Int)] 55))
    obtain⟨Kt,Kq⟩:=yq0 (yq8 HR Q) (Rd.more (Rd.alloc (Kp.out.up C C.size) (kqa _) (.cells #[.int .i64 (m:Int),.int .i64 xs,.int .i64 xk,.int .i64 (t:Int),.bool true,.int .u64 (xn:Int)] 55)) (show w2.heap.size<=(w2.alloc (.cells #[.int .i64 (m:Int),.int .i64 xs,.int .i64 xk,.int .i64 (t:Int),.bool true,.int .u64 (xn:Int)] 55)).heap.size by simp));clear C z;go_wp2_with fail;refine (Kc.out _ Kt.out).mono ?_;rintro e w3 ⟨⟨A3,c3,rfl,h,-⟩,f⟩;have Ku:=y5 h;have H:=yq7 Q f;have Kr:=yq9 Kq f;have Kx:=y5 (yq8 HR H);have Ki:=H.out.size;clear h f;go_wp2_with fail;go_loopw [10,42] (λv i wr=>∃(k:Nat) (o:List En),k<=R.length/\i=.int .i64 k/\Hid (cI G M (R.take k)=some o)/\wr.ownsRow w3.heap.size 89 2 v o.length (o.flatMap En.cells)/\Below w3.heap.size w3 wr) (λ_ i _=>R.length-(intOf i).toNat)
    case atStart=>exact⟨0,[],kqv _,rfl,rfl,kq3 _ _ _ _,kqe _ _⟩
    obtain⟨k,o,hk,rfl,S,u,T⟩:=hrel;have hz:=T.size;have Lc:=Ka.out k o S.out;rw[kq6] at Lc;by_cases V:k<R.length
    .obtain ⟨bR,oR,rfl,hbR,q0⟩:=RdI.at_ (Rd.below Ku.out T) V;obtain⟨r,N,hmr,Ld⟩:=Kv.out k V;obtain⟨bW,oW,rfl,hbW,x0⟩:=RdW.at_ (Rd.below Kx.out T) Ld;rw[<-bY] at x0;have Ks:=y5 (Kr.out.up T hz);have hv:=fH HO.out r;obtain⟨f,i,h⟩:=yq1 (Ke.out k V o S.out) (Kd.out k V o S.out) (W.out r);rw[N] at q0 f i;rw[kqf] at f i;have s:=Kk.out (wd G r);obtain⟨v,x⟩:=xq (wd G r);rw[x] at x0 hv h s;have hri:(r:Int)<(G.length:Int):=(by omega);have hr0:(0:Int)<=(r:Int):=(by omega);have hki:(k:Int)<(R.length:Int):=(by omega);obtain⟨Kw,Ko⟩:=yq0 hv s;clear N x hv s;by_cases y:v=0
     .have x:((v:Int)==0)=true:=(by rw[kqw];omega);have s:(v==0)=true:=by rw[kqw];exact y
      have HY:=y5 (show cI G M (R.take (k+1))=some o by rw[f.out,h.out,if_pos y];simp);clear y f i h;go_wp2;go_roundw;exact⟨k+1,o,by omega,by go_num,HY.out,u,T⟩;simp[intOf];omega
     have x:((v:Int)==0)=false:=(by rw[kqc];omega);have s:(v==0)=false:=by rw[kqc];exact y
     rw[if_neg y] at h;have D:=y5 (Kj.out A1 c1 v _ Kw.out Ks.out);cases F:ge M v with
     | none =>rw[F] at D h;have I:=y5 (Eq.out (i.out h.out));simp only[kkt,kj5] at D;clear y f i h F;go_wp2_with fail;refine D.out.mono ?_;rintro e w5 ⟨rfl,s⟩;go_wp2;go_ret2;exact⟨bZ I.out.1 I.out.2,H.out.trans ((T.trans (s.mono hz)).mono Ki)⟩
     | some tt =>
      obtain⟨P,rfl,ht1,-,ht2,-⟩:=Kl.out (v:Int) tt (Ko.out tt F);rw[F] at D h;simp only[kq9,kxv] at D;have hwt:IntKind.u64.wrap (P:Int)=(P:Int):=kzi _ (by omega);by_cases O:v=P
      .have en:((v:Int) != (P:Int))=false:=(by rw[kqt];omega);have enn:(v != P)=false:=by rw[kqt];exact O
       have HY:=y5 (show cI G M (R.take (k+1))=some o by rw[f.out,h.out];simp[O]);clear y f i h F O;go_wp2_with fail;refine D.out.mono ?_;rintro e w5 ⟨rfl,s⟩;have x5:=(s.cell (p:=⟨bW,oW+r,none⟩) (by show bW<wr.heap.size;omega)).trans x0;obtain⟨x,U⟩:=yq0 (ag u s (kqa _)) (T.trans (s.mono hz));clear s;go_wp2;go_roundw;exact⟨k+1,o,by omega,by go_num,HY.out,x.out,U.out⟩;simp[intOf];omega
      have en:((v:Int) != (P:Int))=true:=(by rw[kqx];omega);have enn:(v != P)=true:=by rw[kqx];exact O
      have HY:=y5 (show cI G M (R.take (k+1))=some (o++[⟨(r:Int),P⟩]) by
       rw[f.out,h.out];have:¬ ((v:Int)=(P:Int)):=(by omega);simp[this])
      clear y f i h F O;go_wp2_with fail;refine D.out.mono ?_;rintro e w5 ⟨rfl,s⟩;have x5:=(s.cell (p:=⟨bW,oW+r,none⟩) (by show bW<wr.heap.size;omega)).trans x0;have x:=ag u s (kqa _);have U:=T.trans (s.mono hz);have Le:=U.size;clear s;go_wp2_with (at_builtin;refine kq7 _ rfl _ _ 26 rfl w3.heap.size 89 i0 _ 2 16 underlying26 HI.out Ky.out Kz.out La.out rfl (by decide) _ _ _ rfl (x.alloc _) ⟨_,0,none⟩ 1 1 [.int .i64 (r:Int),.int .u64 (P:Int)] rfl rfl (bc _ _ _) (by simp[Value.oneCell']) (by unfold maxLen;omega) (by omega) (by simp;omega) ?_;intro v1 w6 s Lb _;have O:=ay U Le x Lb);go_roundw;exact⟨k+1,o++[(⟨(r:Int),P⟩:En)],by omega,by go_num,HY.out,by rw[kqu,ce];exact s,O⟩;simp[intOf];omega
    obtain rfl:k=R.length:=(by omega);have h:=y5 (Kb.out o (by have:=S.out;rwa [kza (kqa _)] at this));obtain⟨i,s,rfl⟩:=aw u;have f:=y5 (ab u Ki);clear u;go_wp2;go_ret2;exact⟨⟨i,s,by rw[h.out.1,h.out.2];rfl,by rw[h.out.2];exact f.out⟩,H.out.trans (T.mono Ki)⟩
 obtain⟨r,N⟩:=xq (cn G);have I:=y5 (AH (a:=a) N (by rw[<-N];exact E));rw[N] at l E;have hrn:(r != 0)=true:=by rw[kqx];exact E
 obtain⟨q,hq⟩:=xq ((di G).length);rw[hq] at l;clear E N hq;go_enter func209,ntmps209;go_wp2_with fail;refine l.out.mono ?_;rintro e w1 ⟨⟨A1,c1,rfl,-,-⟩,d⟩;go_wp2;go_ret2;exact⟨bZ I.out.1 I.out.2,d⟩
theorem qI(b:dh G=r)(a:r≠0):dg G=[]:=by unfold dg;rw[if_neg (by rw[b];exact a)]
theorem fs_err(h:cn G=r)(a:r≠0):dh G=r:=by subst h;simp[dh,a]
theorem fs_sl(h:cn G=0)(a:slsOk G=false):dh G=50:=by simp[dh,h,a]
theorem F3(h:cn G=0)(a:slsOk G=true)(b:slFix G (di G) 16=none):dh G=50:=by simp[dh,h,a,b]
theorem Ie(h:cn G=0)(a:slsOk G=true)(b:slFix G (di G) 16=some o):dh G=0/\dg G=o:=by simp[dg,dh,h,a,b]
theorem yC{m:List (Int × Int)}(h:slFix G m k=some o):slFix G m (k+1)=(gp G m k).map (o ++ ·):=by simp only[slFix,h]
theorem ar{w:World}{H n:Nat}{e:TypeId}{sz:Nat}{v:Value}{xs:List Value}(h:w.ownsRow H e sz v n xs){p:Addr}(j:v.ownBlock≠some p.block)(u:Value):(w.setCell p u).ownsRow H e sz v n xs:=by
 refine⟨h.1,?_⟩;rcases h.2 with c|⟨d,a,b,c,f,g,i⟩
 .exact .inl c
 subst c;refine .inr ⟨d,a,b,rfl,f,?_,i⟩;exact (kk1 w p u d (λe=>j (by simp[Value.ownBlock,e]))).trans g
theorem BJ{a:Nat}(hg:g<2147483648)(ha:a<4294967296)(u:Bool):nP ⟨(g:Int),u,(a:Int)⟩<18446744073709551616:=by unfold nP;dsimp only;rw[kqf,kqf];split<;>omega
theorem yN(A:Option Addr)(G:List Nat)(c n:Nat)(w:World)(f:G.length=n)(hm:n<=9223372036854775807)(N:RdW w w.heap.size A G)(b:∀x∈G,x<2^64):
 Calls prog 207 #[.slice A n c] w λe d=>ey w.heap.size (dh G) (dg G) e d/\Below w.heap.size w d:=by
 subst f;obtain⟨HR,l⟩:=yq0 N (uH A G c G.length w rfl hm N b);unfold IE at l;have D:=y5 (λW (h:RdW W W.heap.size A G)=>Gr A G c G.length W rfl hm h b);unfold Is at D;have HO:=y5 b;clear N b;by_cases z:cn G=0
 .obtain ⟨U,-,-⟩:=cE z;have O:=(ax U).1;have H:=dA G O;rw[z] at l;have Kn:=uC G;cases r:slsOk G with
  | false =>
   have b:=lP O r;have X:fE G=[]:=by simp[fE,b]
   rw[b,X] at D;have I:=y5 (fs_sl z r);obtain⟨q,X⟩:=xq ((di G).length);rw[X] at l;clear z U O H r b X Kn;go_enter func207,ntmps207;go_wp2_with fail;refine l.out.mono ?_;rintro e w1 ⟨⟨Z,c1,rfl,-,-⟩,j⟩;have B:=y5 j;have R:=yq9 HR j;clear j;go_wp2_with fail;refine (D.out _ R.out).mono ?_;rintro e w2 ⟨⟨A2,c2,rfl,-,-⟩,b⟩;go_wp2;go_ret2;exact⟨bZ I.out (qI I.out (by omega)),B.out.trans (b.mono B.out.size)⟩
  | true =>
   obtain⟨g,m⟩:=jX O r;rw[g,m,fi] at D;obtain⟨Ky,Ka,Kf,Ki,Kb⟩:=yq3 ((cO G).1 r) (λh=>F3 z r h) (λo h=>Ie z r (o:=o) h) (λx y h=>yr z (a:=x) (t:=y) h) (λZ c1 (v:Nat) W (b:v<18446744073709551616) (h:RdM W W.heap.size Z (di G))=>Cp Z (di G) c1 (di G).length v W rfl (by omega) b h);have Kc:Hid (∀v t,ge (di G) v=some t->gq (di G) (v:Int)=some t):=y5 λv t h=>by
    unfold ge at h;split at h
    .cases h
    exact h
   have K:Hid (∀i,gp G (di G) i=if (slAt G i).used=true then (match ge (di G) (slAt G i).at_.toNat with
    | none=>none
    | some t=>if wd G (112+i)=nP ⟨(slAt G i).gen,true,t⟩ then some [] else some [⟨((112+i:Nat):Int),nP ⟨(slAt G i).gen,true,t⟩⟩]) else some []):=y5 λi=>rfl
   obtain⟨Kg,Kh,Kd⟩:=yq1 (λk o (h:slFix G (di G) k=some o)=>yC h) (λk (h:slFix G (di G) (k+1)=none) (h2:k+1<=16)=>pp h h2) (λk o (h:slFix G (di G) k=some o)=>ox h);obtain⟨M,s⟩:=xq (di G);rw[s] at l Ka Kf Ki Kb Kc K Kg Kh Kd Kn;have hlen:=H.1;have hlen2:=H.2.1;obtain⟨i0,u,b,d,f⟩:=kzh bE;obtain⟨HI,Lc,Ld,Le⟩:=yq2 u b d f;clear u b d f;clear z U O H r g m s;go_enter func207,ntmps207;go_wp2_with fail;refine l.out.mono ?_;rintro e w1 ⟨⟨Z,c1,rfl,b,-⟩,j⟩;have B:=y5 j;have R:=yq9 HR j;have Kp:=y5 b;clear j b;go_wp2_with fail;refine (D.out _ R.out).mono ?_;rintro e w3 ⟨⟨A3,c3,rfl,d,-⟩,b⟩;have y:=yq7 B b;have Kw:=y5 d;have Kq:=yq9 Kp b;have Kz:=y5 (yq8 HR y);have Y:=y.out.size;clear d b;go_wp2_with fail;go_loopw [8,36] (λv i wr=>∃(k:Nat) (o:List En),k<=16/\i=.int .i64 k/\Hid (slFix G M k=some o)/\wr.ownsRow w3.heap.size 89 2 v o.length (o.flatMap En.cells)/\Below w3.heap.size w3 wr) (λ_ i _=>16-(intOf i).toNat)
   case atStart=>exact⟨0,[],kqv _,rfl,rfl,kq3 _ _ _ _,kqe _ _⟩
   obtain⟨k,o,hk,rfl,Q,i,T⟩:=hrel;have hz:=T.size;have hol:=Kd.out k o Q.out;by_cases Km:k<16
   .obtain ⟨bS,oS,rfl,hbS,q0,q1,q2⟩:=RdS.at_ (Rd.below Kw.out T) (show k<(slL G).length by rw[fi];exact Km);rw[lH] at q0 q1 q2;obtain⟨S,oW,rfl,hbW,V⟩:=RdW.at_ (Rd.below Kz.out T) (show 112+k<G.length by omega);rw[<-bY] at V;have Kr:=y5 (Kq.out.up T hz);have b:=Ky.out k Km;obtain⟨f,m,d⟩:=yq1 (Kg.out k o Q.out) (λh=>Kh.out k h (by omega)) (K.out k);obtain⟨E,J,F,P⟩:=io (wd G (112+k));have v:slAt G k=eh (wd G (112+k)):=rfl;rw[<-v] at E J F P;have C:=fH HO.out (112+k);obtain⟨x,hx⟩:=xq (wd G (112+k));rw[hx] at V d C;obtain⟨s,O⟩:=xq (slAt G k);rw[O] at q0 q1 q2 d E J F P b;obtain⟨sg,su,sa⟩:=s;dsimp only at q0 q1 q2 d E J F P;obtain⟨g,rfl⟩:=kqz E;obtain⟨u,rfl⟩:=kqz F;rw[kqf] at d;have hki:(k:Int)<16:=(by omega);have hk0:(0:Int)<=(k:Int):=(by omega);have hw1:IntKind.i64.wrap (112+(k:Int))=112+(k:Int):=kqo _ (by omega);have i1:(0:Int)<=112+(k:Int):=(by omega);have i2:(112:Int)+(k:Int)<(G.length:Int):=(by omega);have n1:((112:Int)+(k:Int)).toNat=112+k:=(by omega);have L:g<2147483648:=(by omega);have Kx:=y5 b;clear hx O v E J F P b C;cases su
    .have HY:=y5 (show slFix G M (k+1)=some o by rw[f.out,d.out,if_neg (by simp)];simp);clear f m d;go_wp2;go_roundw;exact⟨k+1,o,by omega,by go_num,HY.out,i.alloc _,T.alloc hz _⟩;simp[intOf];omega
    obtain⟨Lf,Lh,Li⟩:=Cr Kx.out rfl;dsimp only at Lf Lh Li;rw[if_pos rfl] at d;have hwu:IntKind.u64.wrap (u:Int)=(u:Int):=kzi _ (by omega);have E:=T.alloc hz (.cells #[.int .i64 (g:Int),.bool true,.int .i64 (u:Int)] 52);obtain⟨C,Ke,BN,J,Kv⟩:=yq3 E (Rd.more (Rd.alloc Kr.out (kqa _) (.cells #[.int .i64 (g:Int),.bool true,.int .i64 (u:Int)] 52)) (show wr.heap.size<=(wr.alloc (.cells #[.int .i64 (g:Int),.bool true,.int .i64 (u:Int)] 52)).heap.size by simp)) (Bx.new wr 52 #[.int .i64 (g:Int),.bool true,.int .i64 (u:Int)]) (i.alloc (.cells #[.int .i64 (g:Int),.bool true,.int .i64 (u:Int)] 52)) (λb h=>(i.lt b h).2);have b:=(kzc wr (.cells #[.int .i64 (g:Int),.bool true,.int .i64 (u:Int)] 52) ⟨S,oW+(112+k),none⟩ (by show S<wr.heap.size;omega)).trans V;obtain⟨Kk,v⟩:=yq0 b (Kb.out Z c1 u _ (by omega) Ke.out);have Ko:(wr.alloc (.cells #[.int .i64 (g:Int),.bool true,.int .i64 (u:Int)] 52)).heap.size=wr.heap.size+1:=(by simp);clear E b;go_upto_region 14 with (fail);obtain⟨wn,b⟩:∃wn,wr.alloc (.cells #[.int .i64 (g:Int),.bool true,.int .i64 (u:Int)] 52)=wn:=⟨_,rfl⟩;rw[b] at C Ke BN J v Kk Ko |-;clear b V i;obtain⟨p0,p1,p2,f0,f1,f2,Lg⟩:=BN.out.c3;cases E:ge M u with
    | none =>rw[E] at v d;have I:=y5 (Ka.out (m.out (by rw[f.out,d.out];rfl)));simp only[kkt,kj5] at v;clear f m d E;go_wp2_with fail;refine v.out.mono ?_;rintro e w5 ⟨rfl,b⟩;have F:=C.out.trans (b.mono C.out.size);go_wp2;go_ret2;exact⟨bZ I.out (qI I.out (by omega)),y.out.trans (F.mono Y)⟩
    | some tt =>
     obtain⟨P,rfl,ht1,-,ht2,-⟩:=Ki.out (u:Int) tt (Kc.out u tt E);rw[E] at v d;simp only[kq9,kxv] at v;have F:my ⟨(g:Int),true,(P:Int)⟩=true:=by unfold my;rw[if_pos rfl];simp only[kqs,kze];omega
     have Kj:=y5 (λW=>IL g P true W L (by omega) F);have W:=BJ (g:=g) (a:=P) L (by omega) true;obtain⟨V,hV⟩:∃V,nP ⟨(g:Int),true,(P:Int)⟩=V:=⟨_,rfl⟩;dsimp only at d;rw[hV] at Kj d;clear F hV W E;go_wp2_with fail;refine v.out.mono ?_;rintro e w5 ⟨rfl,b⟩;have F:=BN.out.up b Lg;have BN5:=y5 F;have W:=yq7 C b;have Ks:=y5 (ag J.out b (kqa _));have x5:=(b.cell (p:=⟨S,oW+(112+k),none⟩) (by show S<wn.heap.size;omega)).trans Kk.out;have La:=y5 x5;obtain⟨p0,p1,p2,f0,f1,f2,hg5⟩:=F.c3;clear b F x5;go_wp2_with fail;obtain⟨Eq,Kt⟩:=yq0 (W.out.setCell (p:=⟨wr.heap.size,2,none⟩) hz (.int .i64 (P:Int))) (ar Ks.out (p:=⟨wr.heap.size,2,none⟩) (λh=>by have h9:=Kv.out _ h;exact absurd h9 (Nat.lt_irrefl _)) (.int .i64 (P:Int)));have b:(w5.setCell ⟨wr.heap.size,2,none⟩ (.int .i64 (P:Int))).cell? ⟨S,oW+(112+k),none⟩=some (.int .u64 (x:Int)):=(kka w5 _ _ _ (λh=>by injection h with e3 _ _;omega)).trans La.out;have Lb:=y5 b;have Kl:S<(w5.setCell ⟨wr.heap.size,2,none⟩ (.int .i64 (P:Int))).heap.size:=by rw[kxc];have:=W.out.size;omega
     clear b;refine (Kj.out _).mono ?_;rintro e w7 ⟨rfl,h⟩;have x7:=(h.cell (p:=⟨S,oW+(112+k),none⟩) Kl).trans Lb.out;have b:=ag Kt.out h (kqa _);have F:=Eq.out.trans (h.mono Eq.out.size);have Lj:=F.size;clear h Kl;by_cases h:x=V
     .have en:((x:Int) != (V:Int))=false:=(by rw[kqt];omega);have enn:(x != V)=false:=by rw[kqt];exact h
      obtain⟨HY,Ku,Kl⟩:=yq1 (show slFix G M (k+1)=some o by rw[f.out,d.out];simp[h]) b F;clear f m d h b F;go_wp2;go_roundw;exact⟨k+1,o,by omega,by go_num,HY.out,Ku.out,Kl.out⟩;simp[intOf];omega
     have en:((x:Int) != (V:Int))=true:=(by rw[kqx];omega);have enn:(x != V)=true:=by rw[kqx];exact h
     have HY:=y5 (show slFix G M (k+1)=some (o++[⟨112+(k:Int),V⟩]) by rw[f.out,d.out];simp[h]);clear f m d h;go_wp2_with (at_builtin;refine kq7 _ rfl _ _ 26 rfl w3.heap.size 89 i0 _ 2 16 underlying26 HI.out Lc.out Ld.out Le.out rfl (by decide) _ _ _ rfl (b.alloc _) ⟨_,0,none⟩ 1 1 [.int .i64 (112+(k:Int)),.int .u64 (V:Int)] rfl rfl (bc _ _ _) (by simp[Value.oneCell']) (by unfold maxLen;omega) (by omega) (by simp;omega) ?_;intro v1 w8 h Ku _;have Kl:=ay F Lj b Ku);go_roundw;exact⟨k+1,o++[(⟨112+(k:Int),V⟩:En)],by omega,by go_num,HY.out,by rw[kqu,ce];exact h,Kl⟩;simp[intOf];omega
   obtain rfl:k=16:=(by omega);have d:=y5 (Kf.out o Q.out);obtain⟨A2,c2,rfl⟩:=aw i;have b:=y5 (ab i Y);clear i;go_wp2;go_ret2;exact⟨⟨A2,c2,by rw[d.out.1,d.out.2];rfl,by rw[d.out.2];exact b.out⟩,y.out.trans (T.mono Y)⟩
 obtain⟨r,N⟩:=xq (cn G);have I:=y5 (fs_err N (by rw[<-N];exact z));rw[N] at l z;have hrn:(r != 0)=true:=by rw[kqx];exact z
 have b:=y5 z;obtain⟨q,X⟩:=xq ((di G).length);rw[X] at l;clear z N X;go_enter func207,ntmps207;go_wp2_with fail;refine l.out.mono ?_;rintro e w1 ⟨⟨Z,c1,rfl,-,-⟩,j⟩;go_wp2;go_ret2;exact⟨bZ I.out (qI I.out b.out),j⟩
theorem Fb{a:Nat}(hg:g<2147483648)(ha:a<4294967296):eh (nP ⟨(g:Int),true,(a:Int)⟩)=⟨(g:Int),true,(a:Int)⟩:=by
 unfold nP eh;dsimp only;rw[kqf,kqf,if_pos rfl];have b:(a+g*4294967296+9223372036854775808)/4294967296%2147483648=g:=(by omega);have c:(a+g*4294967296+9223372036854775808)/9223372036854775808=1:=(by omega);have d:(a+g*4294967296+9223372036854775808)%4294967296=a:=(by omega);rw[b,c,d];rfl
def nwS (G:List Nat) (M:List (Int × Int)) (i:Nat):Sl:=if (slAt G i).used=true then ⟨(slAt G i).gen,true,(gq M (slAt G i).at_).getD 0⟩ else slAt G i
theorem Br{v:Nat}(h:j<G.length)(i:Nat):wd (au G [⟨(j:Int),v⟩]) i=if i=j then v else wd G i:=by
 simp only[au];rw[if_pos (by omega),kqf];unfold wd;rw[kxl];by_cases e:j=i
 .subst e;simp[h]
 rw[if_neg e,if_neg (λh=>e h.symm)]
theorem Aq{M:List (Int × Int)}(hw:256<=G.length)(N:∀a t,gq M a=some t->∃n:Nat,t=(n:Int)/\n<2048):∀k,k<=16->∀o,slFix G M k=some o ->
 (∀e∈o,∃i,i<k/\e.a=((112+i:Nat):Int)/\e.v<18446744073709551616)/\o.Pairwise (λa b=>a.a<b.a)/\(∀i,i<k->slAt (au G o) i=nwS G M i)/\(∀i,i<k->(slAt G i).used=true->(gq M (slAt G i).at_).isSome=true):=by
 intro k
 induction k with
 | zero =>intro _ o h;simp only[slFix,Option.some.injEq] at h;subst h;exact⟨λe f=>(by cases f),List.Pairwise.nil,λi h=>absurd h (by omega),λi h=>absurd h (by omega)⟩
 | succ k d =>
  intro hk o h;simp only[slFix] at h;cases x:slFix G M k with
  | none=>rw[x] at h;cases h
  | some m =>
  rw[x] at h;obtain⟨w,F,H,I⟩:=d (by omega) m x;have q:wd (au G m) (112+k)=wd G (112+k):=bj m G _ λe f=>by
   obtain⟨i,h1,c,-⟩:=w e f;rw[c];omega
  have j:∀(C:slAt G k=nwS G M k) (D:(slAt G k).used=true->(gq M (slAt G k).at_).isSome=true),(∀e∈m,∃i,i<k+1/\e.a=((112+i:Nat):Int)/\e.v<18446744073709551616)/\m.Pairwise (λa b=>a.a<b.a)/\(∀i,i<k+1->slAt (au G m) i=nwS G M i)/\(∀i,i<k+1->(slAt G i).used=true->(gq M (slAt G i).at_).isSome=true):=by
   intro C D;refine⟨λe f=>?_,F,λi z=>?_,λi z=>?_⟩
   .obtain ⟨i,J,u,B⟩:=w e f;exact⟨i,by omega,u,B⟩
   .rcases kq8 i k with d|d
    .exact H i d
    have:i=k:=(by omega);subst this;rw[<-C];unfold slAt;rw[q]
   rcases kq8 i k with d|d
   .exact I i d
   have:i=k:=(by omega);subst this;exact D
  cases c:gp G M k with
  | none=>rw[c] at h;cases h
  | some y =>
   rw[c] at h;simp only[kzs,Option.some.injEq] at h;subst h;unfold gp at c;split at c
   .rename_i hu;obtain⟨K,O,L,r4⟩:=io (wd G (112+k))
    change 0<=(slAt G k).gen at K
    change (slAt G k).gen<=_ at O
    change 0<=(slAt G k).at_ at L
    obtain⟨g,E⟩:=kqz K;cases l:ge M (slAt G k).at_.toNat with
    | none=>rw[l] at c;cases c
    | some t =>
     rw[l] at c;have A:gq M (slAt G k).at_=some t:=by
      unfold ge at l;split at l
      .cases l
      rw[kx8 L] at l;exact l
     obtain⟨n,rfl,hn⟩:=N _ _ A;have p:nwS G M k=⟨(g:Int),true,(n:Int)⟩:=by unfold nwS;rw[if_pos hu,A,E];rfl
     have r:=Fb (g:=g) (a:=n) (by omega) (by omega);have y:=BJ (g:=g) (a:=n) (by omega) (by omega) true;have s:(slAt G k).used=true->(gq M (slAt G k).at_).isSome=true:=λ_=>by rw[A];rfl
     dsimp only at c;rw[E] at c;by_cases f:wd G (112+k)=nP ⟨(g:Int),true,(n:Int)⟩
     .rw[if_pos f] at c;injection c with c;subst c;rw[kzf];exact j (by rw[p,<-r,<-f];rfl) s
     rw[if_neg f] at c;injection c with c;subst c;refine⟨λe f=>?_,?_,λi z=>?_,λi z=>?_⟩
     .rcases kz1.1 f with d|d
      .obtain ⟨i,J,u,B⟩:=w e d;exact⟨i,by omega,u,B⟩
      simp only[kq2] at d;subst d;exact⟨k,by omega,rfl,y⟩
     .rw[kvk];refine⟨F,by simp,λa e b b=>?_⟩;simp only[kq2] at b;subst b;obtain⟨i,J,u,-⟩:=w a e;rw[u];dsimp only;omega
     .have a:112+k<(au G m).length:=(by rw[aG];omega);unfold slAt;rw[fh,Br a];split
      .rename_i h6;have:i=k:=(by omega);subst this;rw[r,p]
      exact H i (by omega)
     rcases kq8 i k with d|d
     .exact I i d
     have:i=k:=(by omega);subst this;exact s
   rename_i hu;injection c with c;subst c;rw[kzf];exact j (by unfold nwS;rw[if_neg hu]) (λh=>absurd h hu)
theorem kj(h:dh G=0):256<=G.length/\ao G=0/\bh G 128 128=0/\eg G=0/\fE G=slL G/\eg (au G (dg G))=0/\fE (au G (dg G))=slL (au G (dg G)) /\
 (∀e∈dg G,(112<=e.a/\e.a<128)/\e.v<18446744073709551616)/\(dg G).Pairwise (λa b=>a.a<b.a)/\(dg G).length<=16 /\
 (∀i,i<16->slAt (au G (dg G)) i=nwS G (gQ G 128 128) i)/\(∀i,i<16->(slAt G i).used=true->(gq (gQ G 128 128) (slAt G i).at_).isSome=true):=by
 have d:cn G=0:=by
  by_cases b:cn G=0
  .exact b
  unfold dh at h;rw[if_neg b] at h;exact absurd h b
 have g:slsOk G=true:=by
  cases b:slsOk G with
  | true=>rfl
  | false=>rw[fs_sl d b] at h;cases h
 obtain⟨o,k⟩:∃o,slFix G (di G) 16=some o:=by
  cases b:slFix G (di G) 16 with
  | some o=>exact⟨o,rfl⟩
  | none=>rw[F3 d g b] at h;cases h
 obtain⟨e1,s⟩:=Ie d g k;obtain⟨r,u,w⟩:=cE d;have m:=(ax r).1;have hbd:=dA G m;have b:=λa t (c:gq (di G) a=some t)=>yr d c;have f:=ox k;obtain⟨y,z,p,q⟩:=Aq (by omega) (λa t c=>by obtain⟨n,q1,-,-,q4,-⟩:=b a t c;exact⟨n,q1,q4⟩) 16 (kqa _) o k;rw[w] at p q b;rw[s];obtain⟨A,B⟩:=jX m g;have l:slsOk (au G o)=true:=(cO _).2 λi j=>by
  rw[p i j];have a:=(cO G).1 g i j;unfold nwS;split
  .rename_i hu;obtain⟨t,c⟩:=Option.isSome_iff_exists.1 (q i j hu);obtain⟨n,rfl,n1,-,n2,-⟩:=b _ _ c;obtain⟨u1,-,-⟩:=Cr a hu;rw[c];unfold my;rw[if_pos rfl];simp only[kqs,kze,kq9];omega
  exact a
 obtain⟨C,D⟩:=jX (G:=au G o) (by rw[aG];exact m) l;refine⟨by omega,r,u,A,B,C,D,λe a=>?_,z,f,p,q⟩;obtain⟨i,i1,j,x⟩:=y e a;exact⟨by rw[j];omega,x⟩
theorem Dj(F:List Nat)(a:Int)(j:Nat):(mi F a j).Pairwise (· < ·):=by
 induction j with
 | zero=>exact List.Pairwise.nil
 | succ j d =>
  rw[nt,kvk];refine⟨d,by split<;>simp,λx c y b=>?_⟩;obtain⟨i,i1,-,i3⟩:=mT.1 c;split at b
  .simp only[kq2] at b;omega
  cases b
def EL (G x:List Nat) (M:List (Int × Int)) (r:Nat):Prop:=(wd G r=0/\wd x r=0)\/(0<wd G r/\∃t m:Nat,gq M (wd G r:Int)=some (t:Int)/\wd x r=t/\t<2048/\wd G r=m/\m<G.length)
theorem zP{M:List (Int × Int)}{f:Nat->Nat}(L:∀a t,gq M a=some t->∃n:Nat,t=(n:Int)/\n<2048/\∃m:Nat,a=(m:Int)/\m<G.length)(O:∀i (u:i<l.length),l[i]=(f i:Int))(N:∀i,i<l.length->f i<G.length)(u:∀i j,i<j->j<l.length->f i<f j):∀k,k<=l.length->∀o,cI G M (l.take k)=some o ->
 (∀e∈o,∃i,i<k/\e.a=(f i:Int)/\wd G (f i)≠e.v/\e.v<2048)/\o.Pairwise (λa b=>a.a<b.a)/\(∀i,i<k->EL G (au G o) M (f i)):=by
 intro k
 induction k with
 | zero =>intro _ o h;simp only[List.take_zero,cI,Option.some.injEq] at h;subst h;exact⟨λe g=>(by cases g),List.Pairwise.nil,λi h=>absurd h (by omega)⟩
 | succ k s =>
  intro hk o h;have c:k<l.length:=by omega
  cases E:cI G M (l.take k) with
  | none =>rw[kqi c,ip,E] at h;cases h
  | some r =>
  rw[kg c E,O k c,kqf] at h;obtain⟨z,J,K⟩:=s (by omega) r E;have q:wd (au G r) (f k)=wd G (f k):=bj r G _ λe g=>by
   obtain⟨i,d,p,-⟩:=z e g;have:=u i k d c;rw[p];omega
  have p:EL G (au G r) M (f k)->(∀e∈r,∃i,i<k+1/\e.a=(f i:Int)/\wd G (f i)≠e.v/\e.v<2048)/\r.Pairwise (λa b=>a.a<b.a)/\(∀i,i<k+1->EL G (au G r) M (f i)):=by
   intro s;refine⟨λe g=>?_,J,λi u=>?_⟩
   .obtain ⟨i,F,x,H,I⟩:=z e g;exact⟨i,by omega,x,H,I⟩
   rcases kq8 i k with d|d
   .exact K i d
   have:i=k:=(by omega);subst this;exact s
  unfold fV at h;by_cases y:wd G (f k)=0
  .rw[if_pos y] at h;simp only[kzs,Option.some.injEq,kzf] at h;subst h;exact p (.inl ⟨y,by rw[q,y]⟩)
  rw[if_neg y] at h;cases s:ge M (wd G (f k)) with
  | none=>rw[s] at h;cases h
  | some t =>
   rw[s] at h;have C:gq M (wd G (f k):Int)=some t:=by
    unfold ge at s;split at s
    .cases s
    exact s
   obtain⟨n,rfl,D,m,em,w⟩:=L _ _ C;dsimp only at h;by_cases g:(wd G (f k):Int)=(n:Int)
   .rw[if_pos g] at h;simp only[kzs,Option.some.injEq,kzf] at h;subst h;exact p (.inr ⟨by omega,n,m,C,by rw[q];omega,D,by omega,w⟩)
   rw[if_neg g] at h;simp only[kzs,Option.some.injEq] at h;subst h;rw[kqf];have B:f k<(au G r).length:=by rw[aG];exact N k c
   refine⟨λe A=>?_,?_,λi hi2=>?_⟩
   .rcases kz1.1 A with d|d
    .obtain ⟨i,F,x,H,I⟩:=z e d;exact⟨i,by omega,x,H,I⟩
    simp only[kq2] at d;subst d;exact⟨k,by omega,rfl,by dsimp only;omega,D⟩
   .rw[kvk];refine⟨J,by simp,λa e b b=>?_⟩;simp only[kq2] at b;subst b;obtain⟨i,F,x,-⟩:=z a e;have:=u i k F c;rw[x];dsimp only;omega
   unfold EL;rw[fh,Br B];rcases kq8 i k with d|d
   .have:=u i k d c;rw[if_neg (by omega)];exact K i d
   have:i=k:=(by omega);subst this;rw[if_pos rfl];exact .inr ⟨by omega,n,m,C,rfl,D,by omega,w⟩
theorem ij(h:cM G a=0):∃f:Nat->Nat,(256<=G.length/\G.length<=2048)/\bh G 128 128=0/\oT G a=0/\(cm G a).length<=8/\(cB G a).length<=8 /\
 (∀i (c:i<(cm G a).length),(cm G a)[i]=(f i:Int)/\a<=(f i:Int)/\f i<G.length/\EL G (au G (cB G a)) (gQ G 128 128) (f i)) /\
 (∀j,(∀i,i<(cm G a).length->f i≠j)->wd (au G (cB G a)) j=wd G j) /\
 (∀e∈cB G a,∃r:Nat,e.a=(r:Int)/\r<G.length/\wd G r≠e.v/\e.v<2048)/\(cB G a).Pairwise (λa b=>a.a<b.a):=by
 have p:cn G=0:=by
  by_cases w:cn G=0
  .exact w
  rw[(AH rfl w).1] at h;exact absurd h w
 obtain⟨u,J,K⟩:=cE p;cases g:js (aS G 128) a with
 | none=>rw[(qa p g).1] at h;cases h
 | some b =>
  cases l:b.mark with
  | false=>rw[(qw p g l).1] at h;cases h
  | true =>
   cases z:cI G (di G) (da G b) with
   | none=>rw[(uz p g l z).1] at h;cases h
   | some o =>
    have H:=(ym p g l z).2;have I:cm G a=da G b:=by simp[cm,u,g]
    have F:oT G a=0:=by simp[oT,u,eH,g]
    obtain⟨m,t,xs,xk,xm,xn,E,eb,ht8,hobj,hmlt,A,a⟩:=oa u g;have hbd:=dA G (ax u).1;have M:(da G b).Pairwise (· < ·):=Dj _ _ _;have B:=kzg.1 M;have d:∀i (c:i<(da G b).length),(da G b)[i]=((((da G b)[i]?.getD 0).toNat:Nat):Int):=λi c=>by
     obtain⟨r,s,-,-⟩:=a i c;rw[kqg c,kq9,s,kqf]
    have hlo:=nw z;have C:=λx y (k:gq (di G) x=some y)=>yr p k;have L:∀x y,gq (di G) x=some y->∃n:Nat,y=(n:Int)/\n<2048/\∃m:Nat,x=(m:Int)/\m<G.length:=λx y k=>by
     obtain⟨n,q,-,-,D,m,N,-,O⟩:=C x y k;exact⟨n,q,D,m,N,O⟩
    have k:∀i,i<(da G b).length->((da G b)[i]?.getD 0).toNat<G.length:=λi c=>by
     obtain⟨r,s,-,q⟩:=a i c;rw[kqg c,kq9,s,kqf];exact q
    have q:∀i j,i<j->j<(da G b).length->((da G b)[i]?.getD 0).toNat<((da G b)[j]?.getD 0).toNat:=λi j y x=>by
     have w:=B i j (by omega) x y;have h2:=d i (by omega);have h3:=d j x;omega
    obtain⟨D,N,O⟩:=zP L d k q _ (kqa _) o (by rw[kzb];exact z);rw[H,I];rw[<-K];refine⟨λi=>((da G b)[i]?.getD 0).toNat,by omega,J,F,A,by omega,λi c=>⟨d i c,?_,k i c,O i c⟩,λj x=>?_,λe y=>?_,N⟩
    .obtain ⟨r,s,e2,-⟩:=a i c;have:=d i c;rw[E];show (m:Int)<=((((da G b)[i]?.getD 0).toNat:Nat):Int);omega
    .refine bj o G j λe y=>?_;obtain⟨i,c,j,-⟩:=D e y;have:=x i c;dsimp only at this;rw[j];omega
    obtain⟨i,c,j,o,s⟩:=D e y;exact⟨_,j,k i c,o,s⟩
end Go.Proofs.YtpcajamacpbjcaaGreat
